/- What frees nothing leaves no page free, plain. tree: lay. Rows of nodes in memory. A region that draws its order, by an invariant: each operation is looked at once. append, with the old slice readable still. A region that draws its order, by an invariant: its last operation, the store of a row; its ways told by values. cahierref16.Seen: Add. -/
import Derived.Test.YtknioodagnjchaaGreatDoorBGq
import Derived.Test.YtknioodagnjchaaGreatDoorBGh
import Derived.Test.YtknioodagnjchaaGreatDoorBGi
import Derived.Test.YtknioodagnjchaaGreatDoorBGa
import Derived.Test.YtknioodagnjchaaGreatDoorBGg
import Derived.Test.YtknioodagnjchaaGreatDoorBGp
import Derived.Deep.RegionHeld3
set_option maxRecDepth 100000
set_option maxHeartbeats 4000000
namespace Go.Proofs.YtknioodagnjchaaGreatDoor
def Pro.NF {α:Type}:Pro α->Prop
 | .pure _=>True
 | .fail _=>True
 | .get _ k=>∀ l,(k l).NF
 | .put _ _ k=>(k ()).NF
 | .new k=>∀ n,(k n).NF
 | .free _ _=>False
theorem gI {α β:Type}:∀ (p:Pro α) (f:α->Pro β),p.NF->(∀ a,(f a).NF)->(p.bind f).NF
 | .pure a,_,_,h=>h a
 | .fail _,_,_,_=>trivial
 | .get _ k,f,h,hf=>fun l=>gI (k l) f (h l) hf
 | .put _ _ k,f,h,hf=>gI (k ()) f h hf
 | .new k,f,h,hf=>fun n=>gI (k n) f (h n) hf
 | .free _ _,_,h,_=>h.elim
theorem pJ {α:Type}:∀ (p:Pro α) (s:Sf),p.NF->s.h.spare=0->(p.run s).1.h.spare=0
 | .pure _,_,_,h=>h
 | .fail _,_,_,h=>h
 | .get n k,s,hp,h=>by
   simp only [Pro.run]
   split
   ·exact pJ _ _ (hp _) (by rw [nF];exact h)
   ·simp only;rw [nF];exact h
 | .put n d k,s,hp,h=>by
   have h2:(kU s n d).h.spare=0:=by
    unfold kU
    split
    ·show (bF s).h.spare=0;rw [nF];exact h
    ·rw [nF];exact h
   simp only [Pro.run]
   split
   ·exact pJ _ _ hp h2
   ·exact h2
 | .new k,s,hp,h=>by
   have h2:(aJ s).h.spare=0:=by
    unfold aJ
    split
    ·simp only;unfold bH;rw [if_pos h]
     split
     ·rfl
     ·exact h
    ·rw [nF];exact h
   simp only [Pro.run]
   split
   ·exact pJ _ _ (hp _) h2
   ·exact h2
 | .free _ _,_,hp,_=>hp.elim
theorem tV (a:Int) (n:Nd):(aE a n).NF:=by
 unfold aE
 split
 ·trivial
 ·trivial
theorem tC (v:By):∀ (j:Nat) (next:Int),(jD v j next).NF
 | 0,_=>trivial
 | j+1,_=>fun n=>tC v j n
theorem xa (v:By):(cy v).NF:=by
 unfold cy
 split
 ·trivial
 ·split
  ·trivial
  ·exact gI _ _ (tC v _ _) fun _=>trivial
theorem mS:∀ (ps:List Pr) (done:List (List (By × Ce))) (cur:List (By × Ce)),(ey ps done cur).NF
 | [],_,_=>trivial
 | x :: r,done,cur=>gI _ _ (xa _) fun c=>by
   split
   ·exact mS r _ _
   ·exact mS r _ _
theorem qU:∀ (ns:List Nd) (acc:List Int),(fQ ns acc).NF
 | [],_=>trivial
 | n :: r,_=>fun q=>gI _ _ (tV q n) fun _=>qU r _
theorem nC:∀ (f:Nat) (ns:List Nd) (hs:List By),(ew f ns hs).NF
 | 0,_,_=>trivial
 | f+1,ns,_=>gI _ _ (qU ns []) fun _=>by
   split
   ·trivial
   ·exact nC f _ _
theorem uZ (ps:List Pr):(eV ps).NF:=gI _ _ (mS ps [] []) fun _=>nC 20 _ _
theorem ry {ps:List Pr} {s s':Sf} {q:Int} (h:(eV ps).run s=(s',.ok q)) (h0:s.h.spare=0):s'.h.spare=0:=by have:=pJ (eV ps) s (uZ ps) h0;rw [h] at this;exact this
end Go.Proofs.YtknioodagnjchaaGreatDoor
namespace Go.Proofs.YtknioodagnjchaaGreatDoor
open Go.Lib renaming hid->Z
open Go.RowKit
structure Nr where
 n:Nd
 a1:Option Addr
 c1:Nat
 a2:Option Addr
 c2:Nat
 a3:Option Addr
 c3:Nat
def Nr.vk (r:Nr):Value:=.slice r.a1 r.n.keys.length r.c1
def Nr.vc (r:Nr):Value:=.slice r.a2 r.n.cells.length r.c2
def Nr.vd (r:Nr):Value:=.slice r.a3 r.n.kids.length r.c3
def kY (r:Nr):List Value:=[.bool r.n.leaf,r.vk,r.vc,r.vd]
theorem zk:ElemT Tryz.prog 152 110 kY 4 80:=
 ElemT.mk' (z:=.agg #[.bool false,.slice none 0 0,.slice none 0 0,.slice none 0 0]) Tryz.underlying152 (by kernel_rfl) rfl (by decide) (fun _=>rfl) (fun x u hu=>by
  simp only [kY,Nr.vk,Nr.vc,Nr.vd,List.mem_cons,List.not_mem_nil,or_false] at hu;rcases hu with rfl | rfl | rfl | rfl <;> rfl)
theorem cf (r:Nr):(kY r).length=4:=rfl
def Fr (b:Nat) (v:Value):Prop:=∀ k,v.ownBlock=some k->b<=k
structure NrI (b:Nat) (w:World) (r:Nr):Prop where
 s:NdS w r.n r.vk r.vc r.vd
 k:Fr b r.vk
 c:Fr b r.vc
 d:Fr b r.vd
def yY (b:Nat) (w:World) (rs:List Nr):Prop:=∀ r ∈ rs,NrI b w r
theorem NrI.ch {b:Nat} {S:Nat->Prop} {w w':World} {r:Nr} (h:NrI b w r) (hc:Ch S w w') (hs:∀ k,S k->k<b):NrI b w' r:=
 ⟨⟨de h.s.k hc (fun k hk e=>by have:=hs k e;have:=h.k k hk;omega),de h.s.c hc (fun k hk e=>by have:=hs k e;have:=h.c k hk;omega),de h.s.d hc (fun k hk e=>by have:=hs k e;have:=h.d k hk;omega)⟩,h.k,h.c,h.d⟩
theorem Sl.Ac {w:World} {rs:List Nr} {A:Option Addr} {n c:Nat} (h:Sl kY 4 w (.slice A n c) rs) {k:Nat} (hk:k<rs.length):∃ b off,A=some ⟨b,off,none⟩/\b<w.heap.size/\w.cell? ⟨b,off+k * 4,none⟩=some (.bool rs[k].n.leaf)/\w.cell? ⟨b,off+k * 4+1,none⟩=some rs[k].vk/\w.cell? ⟨b,off+k * 4+2,none⟩=some rs[k].vc/\w.cell? ⟨b,off+k * 4+3,none⟩=some rs[k].vd:=by
 obtain ⟨A',c',he,h⟩:=h;injection he with e1 e2 e3
 subst e1 e2;obtain ⟨b,off,rfl,hlt,hc⟩:=h (by rintro rfl;simp at hk);have:=hc k rs[k] (List.getElem?_eq_getElem hk);exact ⟨b,off,rfl,hlt,this 0 _ rfl,this 1 _ rfl,this 2 _ rfl,this 3 _ rfl⟩
theorem oH {s s':Sf} {n:Nd} {r:List Nd} {acc qs:List Int} (h:(fQ (n :: r) acc).run s=(s',.ok qs)):br s=0/\((aE (bR s) n).run (aJ s)).2=.ok ()/\(fQ r (acc ++ [bR s])).run ((aE (bR s) n).run (aJ s)).1=(s',.ok qs):=by
 unfold fQ at h;simp only [Pro.run] at h
 split at h
 ·rename_i h0
  rw [run_bind] at h;generalize (aE (bR s) n).run (aJ s)=x at *;obtain ⟨s1,a⟩:=x;cases a with
  | ok u=>exact ⟨h0,rfl,h⟩
  | err e=>cases h
 ·cases h
theorem wj (rs:List Nr) (nv:Value) (qs:List Int) (b gs gm:Nat) (s s':Sf) (w:World) (hS:ShIs w gs gm s) (hn:Sl kY 4 w nv rs) (hf:Fr b nv) (hr:yY b w rs) (hb:∀ r ∈ rs,r.n.Bd) (hlen:rs.length<=10000)
  (hrun:(fQ (rs.map (·.n)) []).run s=(s',.ok qs)) (hgs:gs<b) (hgm:gm<b):
  Calls Tryz.prog 97 #[co gs,nv] w fun e w'=>(∃ pv,e=.returned (.tuple #[pv,.int .i64 0])/\Own iC 1 3 w.heap.size w' pv qs)/\ShIs w' gs gm s'/\Ch (fun k=>k=gs\/k=gm) w w':=by
 obtain ⟨A,c,rfl⟩:=Sl.zM hn;have HN:=Z hn;have HR:=Z hr;have HBD:=Z hb;have HS:=Z hS;have HRUN:=Z hrun;have HLO:=Z (show ∀ k,(k=gs\/k=gm)->k<b from fun _ hk=>hk.elim (fun e=>e ▸ hgs) (fun e=>e ▸ hgm));have HNC:=Z (fun (w':World) (hc:Ch (fun k=>k=gs\/k=gm) w w')=>de hn hc (fun k hk e=>by have:=hf k hk;rcases e with e | e <;> omega));have HLT:=Z (show gs<w.heap.size/\gm<w.heap.size from ⟨aj hS.blk,hS.book.lt⟩);clear hn hr hb hS hrun hgs hgm hf;unfold co;go_enter Tryz.func97,Tryz.ntmps97;go_wp2_with fail;go_loopw [6,13] (fun lv iv wr=>∃ (i:Nat) (acc:List Int) (s1:Sf),iv=.int .i64 i/\i<=rs.length/\acc.length=i/\(fQ ((rs.drop i).map (·.n)) acc).run s1=(s',.ok qs)/\Own iC 1 3 w.heap.size wr lv acc/\ShIs wr gs gm s1/\Ch (fun k=>k=gs\/k=gm) w wr) (fun _ iv _=>rs.length - (intOf iv).toNat)
 case atStart=>exact ⟨0,[],s,rfl,Nat.zero_le _,rfl,by rw [List.drop_zero];exact HRUN.out,Own.nil,HS.out,Ch.refl _ _⟩
 case round=>
  obtain ⟨i,acc,s1,rfl,hi,hal,hrun,ho,hs,hc⟩:=hrel;have HRI:=Z hrun;have HO:=Z ho;have HSI:=Z hs;have HC:=Z hc;have hws:=hc.size;obtain ⟨A6,c6,rfl⟩:=Sl.zM (ho.sl ax);have HAL:=Z hal;clear hrun ho hs hc hal;by_cases hlt:i<rs.length
  ·obtain ⟨b',off,rfl,hbl,e0,e1,e2,e3⟩:=(HNC.out wr HC.out).Ac hlt;have hi1:(i:Int)<(rs.length:Int):=by omega
   have hal:acc.length<=10000:=by have:=HAL.out;omega
   obtain ⟨l0,l1,l2⟩:=oH (n:=rs[i].n) (r:=(rs.drop (i+1)).map (·.n)) (by have:=HRI.out;rw [List.drop_eq_getElem_cons hlt] at this;exact this);have HL1:=Z l1;have HL2:=Z l2;have HNR:=Z (HR.out rs[i] (List.getElem_mem hlt));have HBR:=Z (HBD.out rs[i] (List.getElem_mem hlt));clear l1 l2;generalize rs[i]=r at *;obtain ⟨n,A1,c1,A2,c2,A3,c3⟩:=r;simp only [Nr.vk,Nr.vc,Nr.vd] at e0 e1 e2 e3 HL1 HL2 HNR HBR;have HX3:=Z (ag (w0:=wr) (g:=wr.heap.size) (o:=ar n (.slice A1 n.keys.length c1) (.slice A2 n.cells.length c2) (.slice A3 n.kids.length c3)) rfl);have HS3:=Z (HSI.out.ch (S:=fun _=>False) (Ch.alloc (Ch.refl _ wr) (ar n (.slice A1 n.keys.length c1) (.slice A2 n.cells.length c2) (.slice A3 n.kids.length c3))) id id);have HC3:=Z (HC.out.alloc (ar n (.slice A1 n.keys.length c1) (.slice A2 n.cells.length c2) (.slice A3 n.kids.length c3)));have HO3:=Z (HO.out.alloc (ar n (.slice A1 n.keys.length c1) (.slice A2 n.cells.length c2) (.slice A3 n.kids.length c3)));go_upto_region 5 with fail
   generalize hw1:wr.alloc (.cells #[.bool n.leaf,.slice A1 n.keys.length c1,.slice A2 n.cells.length c2,.slice A3 n.kids.length c3] 110)=w3 at *;have hw2:wr.alloc (ar n (.slice A1 n.keys.length c1) (.slice A2 n.cells.length c2) (.slice A3 n.kids.length c3))=w3:=hw1;rw [hw2] at HX3 HS3 HC3 HO3;clear hw1 hw2 e0 e1 e2 e3 hbl;have hgn:w.heap.size<=wr.heap.size:=hws;generalize wr.heap.size=gn at *;go_wp2_with fail;refine (eO gs gm s1 w3 HS3.out).mono ?_;rw [l0];rintro e w4 ⟨rfl,hs,hc⟩;have HS4:=Z hs;have HC4:=Z (HC3.out.trans hc);have HX4:=Z (hc.keep HX3.out (fun e=>by have:=HLT.out;rcases e with e | e <;> omega));have HO4:=Z (HO3.out.ch hc (fun k hk e=>by have:=(HO3.out.lt k hk).1;have:=HLT.out;rcases e with e | e <;> omega));clear hs hc;obtain ⟨a0,a1,a2,a3,a4⟩:=aa HX4.out;go_wp2_with fail;refine (bE (bR s1) n _ gs gm (aJ s1) w4 HS4.out ⟨_,_,_,rfl,(HNR.out.ch HC4.out HLO.out).s⟩ HBR.out).mono ?_;rw [HL1.out];rintro e w5 ⟨rfl,hs,hc⟩;have HS5:=Z hs;have HC5:=Z (HC4.out.trans hc);have HO5:=Z (HO4.out.ch hc (fun k hk e=>by have:=(HO4.out.lt k hk).1;have:=HLT.out;rcases e with e | e <;> omega));clear hs hc a0 a1 a2 a3 a4;simp only [dW];generalize bR s1=q at *;go_wp2_with (at_builtin;refine Hid.out ?_);refine Z ?_;refine al (xs:=acc) (ys:=[q]) rfl rfl bI rfl rfl (HO5.out.alloc _) (Sl.one (q:Int) (by simp) ax rfl) (by simp [maxLen];omega) (by simp;omega) (by have:=HC5.out.size;simp;omega) ?_;intro v' w6 ho hg hat;have HO6:=Z ho;have hca:=(Ch.refl (fun k=>(Value.slice A6 acc.length c6).ownBlock=some k) w5).alloc (.cells #[.int .i64 q] 3) |>.trans (Ch.zL hg (fun k hk=>hk));have hfar:∀ k,(Value.slice A6 acc.length c6).ownBlock=some k->w.heap.size<=k:=fun k hk=>(HO5.out.lt k hk).1
   have HS6:=Z (HS5.out.ch hca (fun e=>by have:=hfar _ e;have:=HLT.out;omega) (fun e=>by have:=hfar _ e;have:=HLT.out;omega));have HC6:=Z (HC5.out.then hca (fun k e=>.inr (hfar _ e)));clear ho hg hat hca hfar;go_wp2_with fail;go_roundw
   case rel=>exact ⟨i+1,acc ++ [q],_,by go_num,hlt,by rw [List.length_append,HAL.out];rfl,HL2.out,HO6.out,HS6.out,HC6.out⟩
   case measure=>simp [intOf];omega
  ·obtain rfl:i=rs.length:=by omega
   have HV:=Z (show s1=s'/\acc=qs by
    have:=HRI.out;rw [List.drop_length] at this;simp only [List.map_nil,fQ,Pro.run,Prod.mk.injEq,Ans.ok.injEq] at this;exact this)
   obtain ⟨rfl,rfl⟩:=HV.out;clear hlt hi;go_wp2_with fail;go_ret2;exact ⟨⟨_,rfl,HO.out⟩,HSI.out,HC.out⟩
end Go.Proofs.YtknioodagnjchaaGreatDoor
namespace Go.Proofs.YtknioodagnjchaaGreatDoor
open Go renaming World->Bt,Value->BA,wpAnyH->BC
open Go.Region renaming ready->Bv,wanted->Bx,binds->Bz,Mode->BB
open Bool renaming and_eq_true->Bw
theorem nm {p q:Nat->Bool} (hpq:∀ j,q j=true->p j=true):∀ {F:List Nat} {i:Nat},i ∈ F->p i=true->q i=false->F.countP q<F.countP p
 | [],_,h,_,_=>by cases h
 | x :: F,i,h,hp,hq=>by
   have hle:F.countP q<=F.countP p:=List.countP_mono_left fun j _=>hpq j
   rw [List.countP_cons,List.countP_cons];rcases List.mem_cons.1 h with rfl | h
   ·rw [if_pos hp,if_neg (by rw [hq];decide)];omega
   ·have:=nm hpq h hp hq;by_cases hx:q x=true
    ·rw [if_pos hx,if_pos (hpq x hx)];omega
    ·rw [if_neg hx];omega
section
variable {P:Program} {ops:Array Oper} {Q:Exit->Act->Bt->Prop} {md:BB} {S:Bt->Prop}
def InvSteps (P:Program) (md:BB) (ops:Array Oper) (Q:Exit->Act->Bt->Prop) (J:(Nat->Bool)->Act->Bt->Prop) (F rs:List Nat):Prop:=
 ∀ i ∈ rs,∀ (d:Nat->Bool) (a:Act) (w:Bt),J d a w->d i=false->(∀ o,ops[i]?=some o->∀ e ∈ o.after,Bz md e=true->F.contains e.on=true->d e.on=true)->wpOp P ops Q i (fun a' w'=>J (fun j=>j == i || d j) a' w') a w
theorem InvSteps.nil {J:(Nat->Bool)->Act->Bt->Prop} {F:List Nat}:InvSteps P md ops Q J F []:=fun _ h=>by cases h
theorem InvSteps.cons {J:(Nat->Bool)->Act->Bt->Prop} {F:List Nat} {i:Nat} {o:Oper} {rs:List Nat} (ho:ops[i]?=some o) (pre:List Nat)
  (hp:(pre.all fun j=>F.contains j && o.after.any fun e=>Bz md e && e.on == j)=true)
  (h:∀ (d:Nat->Bool) (a:Act) (w:Bt),J d a w->d i=false->(∀ j ∈ pre,d j=true)->∀ K':Act->Bt->Prop,Shut (∀ a' w',J (fun j=>j == i || d j) a' w'->K' a' w')->if Bx o (yielded ops a.tmps)=true then Oper.wp P o a w K' Q else K' (a.put o.dst undef) w)
  (hs:InvSteps P md ops Q J F rs):InvSteps P md ops Q J F (i :: rs):=fun j hj=>by
 rcases List.mem_cons.1 hj with rfl | hj
 ·intro d a w hJ hd hb;refine wpOp_step ho fun K' hK=>h d a w hJ hd (fun x hx=>?_) K' hK
  have h1:=List.all_eq_true.1 hp x hx;rw [Bw] at h1;obtain ⟨n,hn,h2⟩:=Array.any_eq_true.1 h1.2;have he:=Array.getElem_mem hn;generalize o.after[n]=e at h2 he;rw [Bw] at h2;have h3:e.on=x:=by simpa using h2.2
  have:=hb o ho e he h2.1 (by rw [h3];exact h1.1)
  rwa [h3] at this
 ·exact hs j hj
theorem tM {l:Array Bool} {j:Nat} (h:j<l.size) (d d':Bool):l.getD j d=l.getD j d':=by simp [Array.getD,h]
theorem rK {F:List Nat} (J:(Nat->Bool)->Act->Bt->Prop) (hS:∀ d a w,J d a w->S w)
  (hac:(List.range ops.size).all (fun i=>((ops[i]?).map (·.after.all fun e=>decide (e.on<i))).getD true)=true)
  (hFb:F.all (fun i=>decide (i<ops.size))=true)
  (hst:InvSteps P md ops Q J F F) (hdn:∀ d a w,J d a w->(∀ i ∈ F,d i=true)->Q .normal a w):
  ∀ (fuel:Nat) (l:Array Bool) (d:Nat->Bool) (a:Act) (w:Bt),l.size=ops.size->(∀ j,j<ops.size->l.getD j true=(!F.contains j || d j))->(F.countP fun j=>!d j)<=fuel->J d a w->BC P md ops Q S fuel l a w:=by
 have hF:∀ i ∈ F,i<ops.size:=fun i hi=>by simpa using List.all_eq_true.1 hFb i hi
 have hall:∀ (l:Array Bool),l.size=ops.size->Bv md ops l=[]->∀ n,∀ j,j<n->j<ops.size->l.getD j true=true:=fun l hsz hr n=>by
  induction n with
  | zero=>intro j h _;omega
  | succ n ih=>
    intro j hj hjs;by_cases hjn:j<n
    ·exact ih j hjn hjs
    ·cases hb:l.getD j true with
     | true=>rfl
     | false=>
       exfalso;have ho:ops[j]?=some ops[j]:=Array.getElem?_eq_getElem hjs
       have hm:j ∈ Bv md ops l:=mem_ready.2 ⟨hb,ops[j],ho,fun e he _=>by
        have h1:=List.all_eq_true.1 hac j (List.mem_range.2 hjs);rw [ho,Option.map_some,Option.getD_some] at h1;have h2:e.on<j:=by simpa using Array.all_eq_true_iff_forall_mem.1 h1 e he
        rw [tM (by omega) false true];exact ih e.on (by omega) (by omega)⟩
       rw [hr] at hm;cases hm
 have fin:∀ (l:Array Bool) (d:Nat->Bool),l.size=ops.size->(∀ j,j<ops.size->l.getD j true=(!F.contains j || d j))->Bv md ops l=[]->∀ i ∈ F,d i=true:=fun l d hsz hl hr i hi=>by
  have h1:=hall l hsz hr ops.size i (hF i hi) (hF i hi);rw [hl i (hF i hi)] at h1;simpa [hi] using h1
 intro fuel
 induction fuel with
 | zero=>
   intro l d a w hsz hl hc hJ
   have hd:∀ i ∈ F,d i=true:=fun i hi=>by
    have h0:(F.countP fun j=>!d j)=0:=by omega
    have:=List.countP_eq_zero.1 h0 i hi;simpa using this
   refine ⟨?_,hdn d a w hJ hd⟩;rcases hr:Bv md ops l with _ | ⟨x,r⟩
   ·rfl
   ·exfalso;have hm:x ∈ Bv md ops l:=by rw [hr];exact List.mem_cons_self
    obtain ⟨h0,o,ho,-⟩:=mem_ready.1 hm;have hx:=(Array.getElem?_eq_some_iff.1 ho).1;rw [hl x hx] at h0;by_cases hxF:x ∈ F
    ·rw [hd x hxF] at h0;simp at h0
    ·simp [hxF] at h0
 | succ n ih=>
   intro l d a w hsz hl hc hJ;refine ⟨fun hr=>hdn d a w hJ (fin l d hsz hl hr),fun i hi=>?_⟩;obtain ⟨h0,o,ho,hb⟩:=mem_ready.1 hi;have hx:=(Array.getElem?_eq_some_iff.1 ho).1;rw [hl i hx] at h0;have hiF:i ∈ F:=by
    by_cases hiF:i ∈ F
    ·exact hiF
    ·simp [hiF] at h0
   have hdi:d i=false:=by simpa [hiF] using h0
   refine wpOp_mono (fun a' w' h'=>⟨hS _ _ _ h',ih _ (fun j=>j == i || d j) a' w' (by simpa using hsz) (fun j hj=>?_) ?_ h'⟩) (hst i hiF d a w hJ hdi fun o' ho' e he hbe hc=>?_)
   ·by_cases hji:j=i
    ·subst hji;simp [hsz,hj]
    ·rw [getD_set_ne true (Ne.symm hji),hl j hj];have:(j == i)=false:=by simpa using hji
     rw [this,Bool.false_or]
   ·have:=nm (p:=fun j=>!d j) (q:=fun j=>!(j == i || d j)) (F:=F) (i:=i) (fun j h=>by
     simp only [Bool.not_eq_true',Bool.or_eq_false_iff] at h ⊢;exact h.2) hiF (by simp [hdi]) (by simp)
    omega
   ·rw [ho] at ho';cases ho';have h1:=hb e he hbe;have hes:e.on<l.size:=by
     rcases Nat.lt_or_ge e.on l.size with h' | h'
     ·exact h'
     ·simp [Array.getElem?_eq_none h'] at h1
    rw [tM hes false true,hl e.on (by omega)] at h1;simpa [show e.on ∈ F by simpa using hc] using h1
def Takes (_:List Nat) (P:Program) (md:BB) (ops:Array Oper) (Q:Exit->Act->Bt->Prop) (S:Bt->Prop) (fuel:Nat) (l:Array Bool) (a:Act) (w:Bt):Prop:=BC P md ops Q S fuel l a w
theorem Takes.start (T:List Nat) {fuel:Nat} {l:Array Bool} {a:Act} {w:Bt} (h:Takes T P md ops Q S fuel l a w):BC P md ops Q S fuel l a w:=h
theorem Takes.nil {fuel:Nat} {l:Array Bool} {a:Act} {w:Bt} (h:BC P md ops Q S fuel l a w):Takes [] P md ops Q S fuel l a w:=h
theorem Takes.cons {T:List Nat} {i:Nat} {oi:Oper} {v:BA} {fuel:Nat} {l:Array Bool} {a:Act} {w:Bt} (hi:ops[i]?=some oi)
  (hs:Region.noSelect ops=true) (hf:Region.free md ops l i=true) (hr:(Bv md ops l).contains i=true)
  (hQ:∀ c a w,Q (.panic c) (a.put oi.dst v) w->Q (.panic c) a w) (hS:S w) (hw:Bx oi (yielded ops a.tmps)=true) (hy:∀ w,S w->(execOp a.eval oi).run P w=.ok (.value v) w)
  (h:Takes T P md ops Q S fuel (l.setIfInBounds i true) (a.put oi.dst v) w):Takes (i :: T) P md ops Q S (fuel+1) l a w:=
 wpAnyH_take hi hs hf hr hQ (.inl ⟨hw,hy⟩) hS h
def bu (a0:Act) (ks:List Nat) (v:Nat->BA):Act:=ks.foldl (fun a k=>a.put (some k) (v k)) a0
def eE (v:Nat->BA) (k:Nat) (x:BA):Nat->BA:=fun j=>if j=k then x else v j
def mz (a0:Act) (k:Nat):BA:=a0.tmps[k]?.getD undef
theorem vP (a:Act) (k:Nat):a.put (some k) (mz a k)=a:=by
 unfold Act.put mz;cases a with
 | mk tmps df=>
   simp only;congr 1;refine Array.ext_getElem? fun j=>?_
   rw [Array.getElem?_setIfInBounds]
   split
   ·rename_i h
    subst h
    split
    ·rename_i h;simp [h]
    ·rename_i h;simp [Array.getElem?_eq_none (Nat.le_of_not_lt h)]
   ·rfl
theorem ow (a:Act):∀ ks:List Nat,bu a ks (mz a)=a
 | []=>rfl
 | k :: ks=>by
   unfold bu;rw [List.foldl_cons,vP];exact ow a ks
def ValSteps (P:Program) (md:BB) (ops:Array Oper) (Q:Exit->Act->Bt->Prop) (a0:Act) (ks:List Nat) (J:(Nat->Bool)->(Nat->BA)->Bt->Prop) (F rs:List Nat):Prop:=
 InvSteps P md ops Q (fun d a w=>∃ v,a=bu a0 ks v/\J d v w) F rs
theorem ValSteps.nil {a0:Act} {ks:List Nat} {J:(Nat->Bool)->(Nat->BA)->Bt->Prop} {F:List Nat}:ValSteps P md ops Q a0 ks J F []:=InvSteps.nil
theorem ValSteps.cons {a0:Act} {ks:List Nat} {J:(Nat->Bool)->(Nat->BA)->Bt->Prop} {F:List Nat} {i:Nat} {o:Oper} {rs:List Nat} (ho:ops[i]?=some o) (pre:List Nat)
  (hp:(pre.all fun j=>F.contains j && o.after.any fun e=>Bz md e && e.on == j)=true)
  (h:∀ (d:Nat->Bool) (v:Nat->BA) (w:Bt),J d v w->d i=false->(∀ j ∈ pre,d j=true)->∀ K':Act->Bt->Prop,Shut (∀ a' v' w',a'=bu a0 ks v'->J (fun j=>j == i || d j) v' w'->K' a' w')->if Bx o (yielded ops (bu a0 ks v).tmps)=true then Oper.wp P o (bu a0 ks v) w K' Q else K' ((bu a0 ks v).put o.dst undef) w)
  (hs:ValSteps P md ops Q a0 ks J F rs):ValSteps P md ops Q a0 ks J F (i :: rs):=
 InvSteps.cons ho pre hp (fun d a w hJ hd hpre K' hK=>by
  obtain ⟨v,rfl,hJ⟩:=hJ;exact h d v w hJ hd hpre K' (show Shut _ from fun a' v' w' e hJ'=>hK.out a' w' ⟨v',e,hJ'⟩)) hs
theorem ValSteps.AP {a0:Act} {ks:List Nat} {J:(Nat->Bool)->(Nat->BA)->Bt->Prop} {F:List Nat} {i:Nat} {o:Oper} {rs:List Nat} (ho:ops[i]?=some o) (pre:List Nat)
  (hp:(pre.all fun j=>F.contains j && (o.after.toList.take 4).any fun e=>Bz md e && e.on == j)=true)
  (h:∀ (d:Nat->Bool) (v:Nat->BA) (w:Bt),J d v w->d i=false->(∀ j ∈ pre,d j=true)->∀ K':Act->Bt->Prop,Shut (∀ a' v' w',a'=bu a0 ks v'->J (fun j=>j == i || d j) v' w'->K' a' w')->if Bx o (yielded ops (bu a0 ks v).tmps)=true then Oper.wp P o (bu a0 ks v) w K' Q else K' ((bu a0 ks v).put o.dst undef) w)
  (hs:ValSteps P md ops Q a0 ks J F rs):ValSteps P md ops Q a0 ks J F (i :: rs):=
 ValSteps.cons ho pre (by
  refine List.all_eq_true.2 fun j hj=>?_
  have h1:=List.all_eq_true.1 hp j hj;rw [Bw] at h1 ⊢;refine ⟨h1.1,?_⟩;obtain ⟨e,he,h2⟩:=List.any_eq_true.1 h1.2;rw [<- Array.any_toList];exact List.any_eq_true.2 ⟨e,List.mem_of_mem_take he,h2⟩) h hs
theorem gF {F:List Nat} {a0:Act} {fuel:Nat} {l:Array Bool} {w:Bt} (ks:List Nat) (J:(Nat->Bool)->(Nat->BA)->Bt->Prop) (hS:∀ d v w,J d v w->S w)
  (hac:(List.range ops.size).all (fun i=>((ops[i]?).map (·.after.all fun e=>decide (e.on<i))).getD true)=true)
  (hFb:F.all (fun i=>decide (i<ops.size))=true) (hl:(l.size == ops.size && (List.range ops.size).all fun j=>l.getD j true == !F.contains j)=true) (hc:decide (F.length<=fuel)=true)
  (hJ:J (fun _=>false) (mz a0) w) (hst:ValSteps P md ops Q a0 ks J F F) (hdn:∀ d v w,J d v w->(∀ i ∈ F,d i=true)->Q .normal (bu a0 ks v) w):BC P md ops Q S fuel l a0 w:=by
 rw [Bw] at hl;refine rK (fun d a w=>∃ v,a=bu a0 ks v/\J d v w) (fun d a w ⟨v,_,h⟩=>hS d v w h) hac hFb hst (fun d a w ⟨v,e,h⟩ hd=>by rw [e];exact hdn d v w h hd) fuel l (fun _=>false) a0 w (by simpa using hl.1) (fun j hj=>?_) ?_ ⟨mz a0,(ow a0 ks).symm,hJ⟩
 ·have:=List.all_eq_true.1 hl.2 j (List.mem_range.2 hj);rw [Bool.or_false];simpa using this
 ·exact Nat.le_trans List.countP_le_length (of_decide_eq_true hc)
end
end Go.Proofs.YtknioodagnjchaaGreatDoor
namespace Go.Proofs.YtknioodagnjchaaGreatDoor
open List renaming getElem?_eq_getElem->Bt
open Go.Region renaming wanted->Bv
open Go.RowKit
section
variable {α:Type} {f:α->List Value} {size:Nat} {e:TypeId} {base:Nat} {w w':World} {v:Value} {xs ys:List α}
theorem Sl.Ay {b off c:Nat} (hy:Sl f size w (.slice (some ⟨b,off,none⟩) ys.length c) ys) (hys:ys≠[]) (hl:∀ x,(f x).length=size) (hp:0<size):∀ j u,(ys.flatMap f)[j]?=some u->w.cell? ((⟨b,off,none⟩:Addr).add j)=some u:=by
 obtain ⟨A,c2,he,hx⟩:=hy;injection he with e1 e2 e3
 subst e1;obtain ⟨b2,off2,h6,h7,h8⟩:=hx hys;cases h6;intro j u hu;have hj:j<ys.length * size:=by
  rcases Nat.lt_or_ge j (ys.flatMap f).length with h | h
  ·rwa [aC f size hl] at h
  ·rw [List.getElem?_eq_none h] at hu;cases hu
 have hq:j / size<ys.length:=by rw [Nat.div_lt_iff_lt_mul hp];exact hj
 have hm:=Nat.div_add_mod j size;have hr:=Nat.mod_lt j hp;have hx:=mf f size hl ys (j / size) ys[j / size] (Bt hq) (j % size) ((f ys[j / size])[j % size]'(by rw [hl];exact hr)) (Bt _);rw [show j / size * size+j % size=j from by rw [Nat.mul_comm];exact hm] at hx;have hu':=hx.symm.trans hu;injection hu' with hu'
 have:=h8 (j / size) _ (Bt hq) (j % size) _ (Bt (by rw [hl];exact hr));rw [hu',show off+j / size * size+j % size=off+j from by rw [Nat.add_assoc,Nat.mul_comm (j / size),hm]] at this;unfold Addr.add
 split
 ·rename_i h0;subst h0;exact this
 ·exact this
theorem iT {P:Program} {t:TypeId} {bytes:Nat} (T:ElemT P t e f size bytes) (ty:TypeId) (hown:Own f size e base w v xs) {b off c:Nat} (hy:Sl f size w (.slice (some ⟨b,off,none⟩) ys.length c) ys) (hys:ys≠[])
  (h63:xs.length+ys.length<=maxLen) (hbytes:(xs.length+ys.length) * bytes<=140737488355328) (hbase:base<=w.heap.size):
  ∃ v' w',(Builtin.append_ #[t,t] ty #[v,.slice (some ⟨b,off,none⟩) ys.length c]).run P w=.ok v' w'/\Own f size e base w' v' (xs ++ ys)/\w.grownBy w' v.ownBlock/\(v'.ownBlock=v.ownBlock\/v'.ownBlock=some w.heap.size)/\Own f size e base w' v xs:=by
 obtain ⟨v',w',hr,h2,h3,h5⟩:=gM (P:=P) T ty hown hy h63 hbytes hbase;refine ⟨v',w',hr,h2,h3,h5,?_⟩;obtain ⟨ht,⟨i,z,hi,hz,hs,hb,hzs⟩,hp,hl,h1⟩:=T;have hcells:=hy.Ay hys hl hp;have hfl:=aC f size hl;rcases hown.2 with ⟨hv,h0⟩ | ⟨g,cap,cur,hv,hbg,hg,hnc,hcm,hcs,htake⟩
 ·have e0:xs=[]:=List.eq_nil_of_length_eq_zero h0;rw [hv,e0];exact Own.nil
 ·subst hv;have hlt:g<w.heap.size:=by
   rcases Nat.lt_or_ge g w.heap.size with h | h
   ·exact h
   ·rw [Array.getElem?_eq_none h] at hg;cases hg
  by_cases hroom:xs.length+ys.length<=cap
  ·have hfit:xs.length * i.size+(ys.flatMap f).length<=cur.size:=by rw [hfl,hs,hcs,<- Nat.add_mul];exact Nat.mul_le_mul_right _ hroom
   have hr2:=run_append_room (P:=P) w t ty e i ht hi g xs.length cap cur hg ⟨b,off,none⟩ ys.length c (ys.flatMap f) (by rw [hfl,hs]) hcells (fun u hu=>by obtain ⟨x,_,hx⟩:=List.mem_flatMap.1 hu;exact h1 x u hx) hroom hfit;have hr3:=hr.symm.trans hr2;injection hr3 with e1 e2
   rw [e1] at h2;rcases h2.2 with ⟨hv',_⟩ | ⟨g',cap',cur',hv',a1,a2,a3,a4,a5,a6⟩
   ·cases hv'
   ·injection hv' with e3 e4 e5
    injection e3 with e3
    injection e3 with e3
    subst e3 e5;refine ⟨by rw [hfl],.inr ⟨g,cap,cur',rfl,hbg,a2,hnc,hcm,a5,?_⟩⟩;have:=congrArg (List.take (xs.length * size)) a6;rw [List.take_take,List.length_append,Nat.min_eq_left (by rw [Nat.add_mul];omega),List.flatMap_append,List.take_left' (hfl xs)] at this;exact this
  ·have holds:∀ j u,(xs.flatMap f)[j]?=some u->w.cell? ((⟨g,0,none⟩:Addr).add j)=some u:=World.ownsRow.cells hown (g:=g) rfl;have hr2:=run_append_grow (P:=P) w t ty e i z ht hi hz ⟨g,0,none⟩ xs.length cap (xs.flatMap f) (by rw [hfl,hs]) holds ⟨b,off,none⟩ ys.length c (ys.flatMap f) (by rw [hfl,hs]) hcells (by omega) (by simp only [maxLen] at h63;omega) (growslice_fits (by omega) (by rw [hb];exact hbytes));have hr3:=hr.symm.trans hr2;injection hr3 with e1 e2
   rw [e2];exact hown.below ((Below.refl _ _).drew.alloc (Nat.le_refl _) _)
theorem iF {P:Program} {ops:Array Oper} {o:Oper} {a:Act} {K:Act->World->Prop} {Q:Exit->Act->World->Prop} {E:Prop} (hgd:o.guard=none) {s x:Operand} {t:TypeId}
  (ho:o.op=.call { callee:=.builtin .append,args:=#[s,x],argTypes:=#[t,t] }) {bytes:Nat} (T:ElemT P t e f size bytes) {b off c:Nat} (hs:a.eval s=v) (hx:a.eval x=.slice (some ⟨b,off,none⟩) ys.length c)
  (hown:Own f size e base w v xs) (hy:Sl f size w (.slice (some ⟨b,off,none⟩) ys.length c) ys) (hys:ys≠[])
  (h63:xs.length+ys.length<=maxLen) (hbytes:(xs.length+ys.length) * bytes<=140737488355328) (hbase:base<=w.heap.size)
  (h:∀ v' w',Own f size e base w' v' (xs ++ ys)->w.grownBy w' v.ownBlock->(v'.ownBlock=v.ownBlock\/v'.ownBlock=some w.heap.size)->Own f size e base w' v xs->K (a.put o.dst v') w'):
  if Bv o (yielded ops a.tmps)=true then Oper.wp P o a w K Q else E:=by
 have hw:Bv o (yielded ops a.tmps)=true:=by simp [Bv,hgd]
 rw [if_pos hw];obtain ⟨v',w',hr,h2,h3,h5,h6⟩:=iT (P:=P) T o.type hown hy hys h63 hbytes hbase;unfold Oper.wp execOp;simp only [ho,resolve,invoke,builtin,Sem.run_bind,Sem.run_pure,Result.andThen_ok,List.map_toArray,List.map_cons,List.map_nil,hs,hx,hr];exact h v' w' h2 h3 h5 h6
end
theorem ub (w:World) (g:Nat) (cells:Array Value):Ch (fun k=>k=g) w (w.setRow g cells):=
 ⟨rfl,rfl,rfl,by simp [World.setRow],fun k _ hn=>setRow_other w g k cells hn⟩
theorem mu {P:Program} {ops:Array Oper} {o:Oper} {a:Act} {w:World} {K:Act->World->Prop} {Q:Exit->Act->World->Prop} {E:Prop} (hgd:o.guard=none) {ty:TypeId} {x y:Operand} (ho:o.op=.store ty x y)
  {g:Nat} {cells old:Array Value} {t:TypeId} (hx:a.eval x=.pointer (some ⟨g,0,none⟩)) (hy:a.eval y=.agg cells) (hg:w.heap[g]?=some (.cells old t (0,0))) (hi:(P.info? ty).map (·.size)=some cells.size)
  (hold:old.size=cells.size) (h1:cells.all (·.oneCell')=true) (h:(w.setRow g cells).heap[g]?=some (.cells cells t (0,0))->Ch (fun k=>k=g) w (w.setRow g cells)->K (a.put o.dst undef) (w.setRow g cells)):
  if Bv o (yielded ops a.tmps)=true then Oper.wp P o a w K Q else E:=by
 have hw:Bv o (yielded ops a.tmps)=true:=by simp [Bv,hgd]
 rw [if_pos hw];exact wp_store_row ty x y ho g cells hx hy t old hg hi hold h1 (h (setRow_heap w g old cells t (0,0) hg) (ub w g cells))
end Go.Proofs.YtknioodagnjchaaGreatDoor
namespace Go.Proofs.YtknioodagnjchaaGreatDoor
open _root_.Array renaming getElem?_eq_none->Bt
theorem gX (v:Nat->Value):∀ (ks:List Nat) (a:Act),(bu a ks v).tmps.size=a.tmps.size
 | [],_=>rfl
 | k :: ks,a=>by
   show (bu (a.put (some k) (v k)) ks v).tmps.size=_;rw [gX v ks];simp [Act.put]
theorem ip (v:Nat->Value) {k:Nat}:∀ (ks:List Nat) (a:Act),k ∉ ks->(bu a ks v).tmps[k]?=a.tmps[k]?
 | [],_,_=>rfl
 | j :: ks,a,h=>by
   show (bu (a.put (some j) (v j)) ks v).tmps[k]?=_;rw [ip v ks _ fun h'=>h (List.mem_cons_of_mem _ h')];simp only [Act.put];exact Array.getElem?_setIfInBounds_ne (fun e=>h (by rw [e];exact List.mem_cons_self))
theorem kj (v:Nat->Value) {k:Nat}:∀ (ks:List Nat) (a:Act),k ∈ ks->k<a.tmps.size->(bu a ks v).tmps[k]?=some (v k)
 | [],_,h,_=>by cases h
 | j :: ks,a,h,hs=>by
   show (bu (a.put (some j) (v j)) ks v).tmps[k]?=_;by_cases hk:k ∈ ks
   ·exact kj v ks _ hk (by simpa [Act.put] using hs)
   ·rcases List.mem_cons.1 h with rfl | h
    ·rw [ip v ks _ hk];simp only [Act.put];rw [Array.getElem?_setIfInBounds_self_of_lt hs]
    ·exact absurd h hk
theorem ly {a0:Act} {ks:List Nat} {v:Nat->Value} {k:Nat} (hk:ks.contains k=true) (hs:decide (k<a0.tmps.size)=true):(bu a0 ks v).eval (.tmp k)=v k:=by show (bu a0 ks v).tmps.getD k undef=v k;rw [Array.getD_eq_getD_getElem?,kj v ks a0 (by simpa using hk) (of_decide_eq_true hs)];rfl
theorem iW (v:Nat->Value):∀ (ks:List Nat) (a:Act),(bu a ks v).defers=a.defers
 | [],_=>rfl
 | k :: ks,a=>by
   show (bu (a.put (some k) (v k)) ks v).defers=_;rw [iW v ks];rfl
theorem vO {a0:Act} {ks:List Nat} {v:Nat->Value} {k:Nat} (hk:ks.contains k=true) (x:Value):(bu a0 ks v).put (some k) x=bu a0 ks (eE v k x):=by
 have hk:k ∈ ks:=by simpa using hk
 have e1:((bu a0 ks v).put (some k) x).tmps=(bu a0 ks (eE v k x)).tmps:=by
  refine Array.ext_getElem? fun j=>?_
  simp only [Act.put];rw [Array.getElem?_setIfInBounds,gX];by_cases hj:k=j
  ·subst hj;rw [if_pos rfl]
   split
   ·rename_i h
    rw [kj _ ks a0 hk h];simp [eE]
   ·rename_i h
    rw [Bt (by rw [gX];omega)]
  ·rw [if_neg hj];by_cases hm:j ∈ ks
   ·rcases Nat.lt_or_ge j a0.tmps.size with h | h
    ·rw [kj _ ks a0 hm h,kj _ ks a0 hm h];unfold eE;rw [if_neg (fun e=>hj e.symm)]
    ·rw [Bt (by rw [gX];omega),Bt (by rw [gX];omega)]
   ·rw [ip _ ks a0 hm,ip _ ks a0 hm]
 have e2:((bu a0 ks v).put (some k) x).defers=(bu a0 ks (eE v k x)).defers:=by rw [iW];exact iW v ks a0
 generalize (bu a0 ks v).put (some k) x=A at *;generalize bu a0 ks (eE v k x)=B at *;cases A;cases B;simp only at e1 e2;rw [e1,e2]
section
variable {P:Program} {ops:Array Oper} {Q:Exit->Act->World->Prop} {md:Region.Mode} {S:World->Prop}
theorem ValSteps.store {a0:Act} {ks:List Nat} {J:(Nat->Bool)->(Nat->Value)->World->Prop} {F:List Nat} {i:Nat} {o:Oper} {rs:List Nat} (ho:ops[i]?=some o) (pre:List Nat)
  (hp:(pre.all fun j=>F.contains j && (o.after.toList.take 4).any fun e=>Region.binds md e && e.on == j)=true) {ty:TypeId} {x y:Nat} (hgd:o.guard=none) (hop:o.op=.store ty (.tmp x) (.tmp y)) (hdst:o.dst=none)
  (hx:ks.contains x=true) (hxs:decide (x<a0.tmps.size)=true) (hy:ks.contains y=true) (hys:decide (y<a0.tmps.size)=true) {n:Nat} (hi:(P.info? ty).map (·.size)=some n)
  (h:∀ (d:Nat->Bool) (v:Nat->Value) (w:World),J d v w->d i=false->(∀ j ∈ pre,d j=true)->∃ (g:Nat) (cells old:Array Value) (t:TypeId),v x=.pointer (some ⟨g,0,none⟩)/\v y=.agg cells/\w.heap[g]?=some (.cells old t (0,0))/\cells.size=n/\old.size=n/\cells.all (·.oneCell')=true/\
    ((w.setRow g cells).heap[g]?=some (.cells cells t (0,0))->Ch (fun k=>k=g) w (w.setRow g cells)->J (fun j=>j == i || d j) v (w.setRow g cells)))
  (hs:ValSteps P md ops Q a0 ks J F rs):ValSteps P md ops Q a0 ks J F (i :: rs):=
 ValSteps.AP ho pre hp (fun d v w hJ hd hpre K hK=>by
  obtain ⟨g,cells,old,t,h1,h2,h3,h4,h5,h6,h7⟩:=h d v w hJ hd hpre;refine mu (g:=g) (cells:=cells) hgd hop ((ly hx hxs).trans h1) ((ly hy hys).trans h2) h3 (hi.trans (by rw [h4])) (h5.trans h4.symm) h6 fun k1 k2=>?_
  rw [hdst];exact hK.out _ v _ rfl (h7 k1 k2)) hs
theorem ValSteps.Be {a0:Act} {ks:List Nat} {J:(Nat->Bool)->(Nat->Value)->World->Prop} {F:List Nat} {i:Nat} {o:Oper} {rs:List Nat} (ho:ops[i]?=some o) (pre:List Nat)
  (hp:(pre.all fun j=>F.contains j && (o.after.toList.take 4).any fun e=>Region.binds md e && e.on == j)=true) {x y:Nat} (hgd:o.guard=none) (hop:o.op=.assign (.tmp y)) (hdst:o.dst=some x)
  (hx:ks.contains x=true) (hy:ks.contains y=true) (hys:decide (y<a0.tmps.size)=true)
  (h:∀ (d:Nat->Bool) (v:Nat->Value) (w:World),J d v w->d i=false->(∀ j ∈ pre,d j=true)->J (fun j=>j == i || d j) (eE v x (v y)) w)
  (hs:ValSteps P md ops Q a0 ks J F rs):ValSteps P md ops Q a0 ks J F (i :: rs):=
 ValSteps.AP ho pre hp (fun d v w hJ hd hpre K hK=>by
  have hw:Region.wanted o (yielded ops (bu a0 ks v).tmps)=true:=by simp [Region.wanted,hgd]
  rw [if_pos hw];unfold Oper.wp execOp;simp only [hop,Sem.run_pure,ly hy hys];show K ((bu a0 ks v).put o.dst (v y)) w;rw [hdst];exact hK.out _ (eE v x (v y)) _ (vO hx (v y)) (h d v w hJ hd hpre)) hs
end
end Go.Proofs.YtknioodagnjchaaGreatDoor
namespace Go.Proofs.YtknioodagnjchaaGreatDoor
open Go.Lib renaming hid->Z
open Go.RowKit
structure SnIs (base:Nat) (w:World) (g:Nat) (lv:Value) (L:List Int):Prop where
 blk:w.heap[g]?=some (.cells #[lv] 161 (0,0))
 o:Own iC 1 3 base w lv L
 lt:g<base
theorem SnIs.ch {base:Nat} {S:Nat->Prop} {w w':World} {g:Nat} {lv:Value} {L:List Int} (h:SnIs base w g lv L) (hc:Ch S w w') (h1:¬ S g) (h2:∀ k,lv.ownBlock=some k->¬ S k):SnIs base w' g lv L:=⟨hc.keep h.blk h1,h.o.ch hc h2,h.lt⟩
theorem SnIs.below {base:Nat} {w w':World} {g:Nat} {lv:Value} {L:List Int} (h:SnIs base w g lv L) (hb:Below w.heap.size w w'):SnIs base w' g lv L:=h.ch (S:=fun _=>False) (Ch.zK hb) id fun _ _=>id
theorem iS (n:Int) (base g:Nat) (lv:Value) (L:List Int) (w:World) (h:SnIs base w g lv L) (hl:L.length<=100000) (hb:base<=w.heap.size):
  Calls Tryz.prog 101 #[.pointer (some ⟨g,0,none⟩),.int .i64 n] w fun e w'=>(n ∈ L->e=.returned (.bool false)/\w=w')/\(n ∉ L->e=.returned (.bool true)/\(∃ lv',SnIs base w' g lv' (L ++ [n])/\(lv'.ownBlock=lv.ownBlock\/∀ k,lv'.ownBlock=some k->w.heap.size<=k))/\Ch (fun k=>k=g\/lv.ownBlock=some k) w w'):=by
 obtain ⟨A,c,rfl⟩:=Sl.zM (h.o.sl ax);have H:=Z h;have m0:w.cell? ⟨g,0,none⟩=some (.slice A L.length c):=ae h.blk 0;have m1:=aj h.blk;have m2:=ab h.blk 0;clear h;go_enter Tryz.func101,Tryz.ntmps101;go_wp2_with fail;go_loopw [5] (fun s5 wr=>∃ i:Nat,s5=.int .i64 i/\i<=L.length/\(∀ j,(h:j<L.length)->j<i->L[j]≠n)/\wr=w) (fun s5 _=>L.length - (intOf s5).toNat)
 case atStart=>exact ⟨0,rfl,Nat.zero_le _,fun j _ h=>absurd h (Nat.not_lt_zero _),rfl⟩
 case round=>
  obtain ⟨i,rfl,hi,he,rfl⟩:=hrel;have HE:=Z he;clear he;by_cases hlt:i<L.length
  ·obtain ⟨b,off,c',he,hbl,hsl⟩:=(H.out.o.sl ax).zQ hlt;injection he with e1 e2 e3
   subst e1 e3;have c0:wr.cell? ⟨b,off+i,none⟩=some (.int .i64 L[i]):=by simpa [iC] using hsl 0 _ rfl
   have hi1:(i:Int)<(L.length:Int):=by omega
   clear hsl e2;by_cases hq:L[i]=n
   ·have HM:=Z (show n ∈ L from hq ▸ List.getElem_mem hlt);have hq2:(L[i] == n)=true:=by simpa using hq
    clear hq;generalize L[i]=x at *;go_wp2_with fail;go_ret;exact ⟨fun _=>⟨rfl,rfl⟩,fun h=>absurd HM.out h⟩
   ·have HE2:=Z (show ∀ j,(h:j<L.length)->j<i+1->L[j]≠n from fun j h h2=>by
     rcases Nat.lt_succ_iff_lt_or_eq.1 h2 with h2 | rfl
     ·exact HE.out j h h2
     ·exact hq)
    have hq2:(L[i] == n)=false:=by simpa using hq
    clear hq;obtain ⟨x,hx⟩:∃ x,x=L[i]:=⟨_,rfl⟩;rw [<- hx] at c0 hq2;clear hx;go_wp2_with fail;go_roundw
    case rel=>exact ⟨i+1,by go_num,hlt,HE2.out,by trivial⟩
    case measure=>simp [intOf];omega
  ·obtain rfl:i=L.length:=by omega
   have HM:=Z (show n ∉ L from fun h=>by
    obtain ⟨j,hj,e⟩:=List.getElem_of_mem h;exact HE.out j hj hj e)
   clear hlt hi HE;go_wp2_with (at_builtin;refine Hid.out ?_);refine Z ?_;refine al (xs:=L) (ys:=[n]) rfl rfl bI rfl rfl (H.out.o.alloc _) (Sl.one (n:Int) (by simp) ax rfl) (by simp [maxLen];omega) (by simp;omega) (by simp;omega) ?_;intro v4 w4 ho hg hat;have HO4:=Z ho;have HG4:=Z (bb (am H.out.blk _) hg (fun k hk=>(H.out.o.lt k hk).1) H.out.lt);have HC4:=Z (((Ch.refl (fun k=>k=g\/(Value.slice A L.length c).ownBlock=some k) wr).alloc _).then (Ch.zL (S:=fun k=>k=g\/(Value.slice A L.length c).ownBlock=some k) hg (fun k hk=>.inr hk)) (fun i e=>.inl e))
   have HAT:=Z (show v4.ownBlock=(Value.slice A L.length c).ownBlock\/∀ k,v4.ownBlock=some k->wr.heap.size<=k from hat.imp id fun e k hk=>by
    rw [e] at hk;injection hk with hk
    simp at hk;omega)
   clear ho hg hat m0 m1 m2;have m0:w4.cell? ⟨g,0,none⟩=some (.slice A L.length c):=ae HG4.out 0;have m1:=aj HG4.out;have m2:=ab HG4.out 0;obtain ⟨A4,c4,e4⟩:=Sl.zM (HO4.out.sl ax);rw [List.length_append,List.length_singleton] at e4;subst e4;have HQ5:=Z ((Ch.refl (fun k=>k=g) w4).setCell (p:=⟨g,0,none⟩) rfl (.slice A4 (L.length+1) c4));go_wp2_with fail;go_ret;exact ⟨fun h=>absurd h HM.out,fun _=>⟨rfl,⟨_,⟨ai HG4.out 0 _,HO4.out.ch HQ5.out (fun k hk e=>by have:=(HO4.out.lt k hk).1;have:=H.out.lt;omega),H.out.lt⟩,HAT.out⟩,HC4.out.setCell (p:=⟨g,0,none⟩) (.inl rfl) _⟩⟩
end Go.Proofs.YtknioodagnjchaaGreatDoor
