/- disk: found, Size, Down, Life, Read. Things in memory that lie apart from one another. -/
import Derived.Test.YtdmhbgpejppbkaaGreatZGaj
import Derived.Test.YtdmhbgpejppbkaaGreatZGad
set_option maxRecDepth 100000
set_option maxHeartbeats 2000000
namespace Go.Proofs.YtdmhbgpejppbkaaGreat
open Go.Lib (hid)
open Go.RowKit Go.Maps
theorem bV {d:Dk} (h:d.Ok) {n:By} {f:Fi} (hf:d.file n=some f):f.Ok:=h.fok _ (cG hf)
def uY (g:Option Nat):Value:=mV au (.pointer none) g
def FndP (d:Dk) (n:By) (r:Bool) (L:DkM) (v:Value):Prop:=if eW d n r≠0 then v=.pointer none else v=uY (aQ L.K n)
theorem de (n:By) (hn:n.length≤1000) (r:Bool) (w:World) {L:DkM} {d:Dk} (h:DkIs w L d):
  Calls Tryz.prog 163 #[.pointer (some ⟨L.gd,0,none⟩),dQ n,.bool r] w fun e w'=>∃ v,e=.returned (.tuple #[v,.int .i64 (dq d n r)])∧FndP d n r L v∧DkIs w' L (dn d n r)∧Ch (fun k=>k=L.gd) w w':=by
 have HH:=hid h;clear h;go_enter Tryz.func163,Tryz.ntmps163;unfold dQ;go_wp2_with fail;refine (oR n r w HH.out).mono ?_;rintro e w1 ⟨rfl,hd,hc⟩;by_cases he:eW d n r=0
 ·have hl:=hd.map.look fmT (a:=n) hn;obtain ⟨ops,hb⟩:=hd.blk;obtain ⟨c0,c1,c2,c3,c4,c5,c6,c7,hlt,-⟩:=bo hb;have HD:=hid hd;have HC:=hid hc;clear hd hc hb;rw [he];unfold dQ at hl;cases hg:aQ L.K n with
  | none=>
    have hf:d.file n=none:=by
     cases hf:d.file n with
     | none=>rfl
     | some f=> obtain ⟨g,h1,-⟩:=HH.out.fso hf;rw [hg] at h1;cases h1
    have HE:=hid (show dq d n r=14 by unfold dq;rw [he,if_neg (by simp),hf];rfl);rw [hg] at hl;unfold mV at hl;simp only at hl;go_wp2_with fail;go_ret2;exact ⟨_,by rw [HE.out];rfl,by unfold FndP;rw [if_neg (by rw [he];simp),hg];rfl,HD.out,HC.out⟩
  | some g=> obtain ⟨f,hf,-⟩:=HH.out.fil _ (cG hg);have hf:d.file n=some f:=hf;have HE:=hid (show dq d n r=0 by unfold dq;rw [he,if_neg (by simp),hf];rfl);rw [hg] at hl;unfold mV au at hl;simp only at hl;go_wp2_with fail;go_ret2;exact ⟨_,by rw [HE.out];rfl,by unfold FndP;rw [if_neg (by rw [he];simp),hg];rfl,HD.out,HC.out⟩
 ·have HE:=hid (show dq d n r=eW d n r by unfold dq;rw [if_pos he]);have HV:=hid (show FndP d n r L (.pointer none) by unfold FndP;rw [if_pos he]);have HD:=hid hd;have HC:=hid hc;clear hd hc;generalize eW d n r=x at *;have hx:(x == 0)=false:=by simpa using he
  go_wp2_with fail;go_ret2;exact ⟨_,by rw [HE.out];rfl,HV.out,HD.out,HC.out⟩
theorem aO {w:World} {g:Nat} {m:FilM} {s:Bool} (h:w.heap[g]?=some (rW m s)):
  w.cell? ⟨g,0,none⟩=some m.vn∧w.cell? ⟨g,1,none⟩=some m.vs∧w.cell? ⟨g,2,none⟩=some m.vw∧w.cell? ⟨g,3,none⟩=some (.bool s)∧g<w.heap.size∧∀ i,w.frozen? ⟨g,i,none⟩=false:=
 ⟨aa h 0,aa h 1,aa h 2,aa h 3,af h,ab h⟩
theorem FilIs.lenV {w:World} {C:Nat→Prop} {E:Nat→By} {g:Nat} {m:FilM} {f:Fi} (h:FilIs w C E g m f):∃ A c,m.vn=.slice A f.now.length c:=by obtain ⟨A,c,e⟩:=Sl.len' (h.on.sl cp);rw [h.now];exact ⟨A,c,by rw [e];simp⟩
theorem cn (n:By) (hn:n.length≤1000) (w:World) {L:DkM} {d:Dk} (h:DkIs w L d):
  Calls Tryz.prog 101 #[.pointer (some ⟨L.gd,0,none⟩),dQ n] w fun e w'=>e=.returned (.int .i64 (d.size n))∧w=w':=by
 have hl:=h.map.look fmT (a:=n) hn;obtain ⟨ops,hb⟩:=h.blk;obtain ⟨c0,c1,c2,c3,c4,c5,c6,c7,hlt,-⟩:=bo hb;have HH:=hid h;clear h hb;unfold dQ at hl ⊢;go_enter Tryz.func101,Tryz.ntmps101;cases hf:d.file n with
 | none=> have HE:=hid (show d.size n=-1 by unfold Dk.size;rw [hf]);rw [HH.out.fno hf] at hl;unfold mV at hl;simp only at hl;go_wp2_with fail;go_ret;exact ⟨by rw [HE.out];rfl,rfl⟩
 | some f=> have HE:=hid (show d.size n=f.now.length by unfold Dk.size;rw [hf]);obtain ⟨g,h1,-,h2⟩:=HH.out.fso hf;rw [h1] at hl;unfold mV au at hl;simp only at hl;obtain ⟨A,c,hv⟩:=h2.lenV;obtain ⟨b0,-,-,-,hgl,-⟩:=aO h2.blk;rw [hv] at b0;have hle:f.now.length≤100000:=(bV HH.out.ok hf).n;clear h2;go_wp2_with fail;go_ret;exact ⟨by rw [HE.out];rfl,rfl⟩
theorem bL (w:World) {L:DkM} {d:Dk} (h:DkIs w L d):
  Calls Tryz.prog 63 #[.pointer (some ⟨L.gd,0,none⟩)] w fun e w'=>e=.returned (.bool d.down)∧w=w':=by
 obtain ⟨ops,hb⟩:=h.blk;obtain ⟨c0,c1,c2,c3,c4,c5,c6,c7,hlt,-⟩:=bo hb;clear h hb;go_enter Tryz.func63,Tryz.ntmps63;go_wp2_with fail;go_ret;exact ⟨rfl,rfl⟩
theorem cr (w:World) {L:DkM} {d:Dk} (h:DkIs w L d):
  Calls Tryz.prog 44 #[.pointer (some ⟨L.gd,0,none⟩)] w fun e w'=>e=.returned (.int .i64 d.life)∧w=w':=by
 obtain ⟨ops,hb⟩:=h.blk;obtain ⟨c0,c1,c2,c3,c4,c5,c6,c7,hlt,-⟩:=bo hb;clear h hb;go_enter Tryz.func44,Tryz.ntmps44;go_wp2_with fail;go_ret;exact ⟨rfl,rfl⟩
theorem pF (n:By) (hn:n.length≤1000) (i:Int) (w:World) {L:DkM} {d:Dk} (h:DkIs w L d):
  Calls Tryz.prog 153 #[.pointer (some ⟨L.gd,0,none⟩),dQ n,.int .i64 i] w fun e w'=>e=.returned (.tuple #[.string (ak (rt d n i)),.int .i64 (mR d n i)])∧DkIs w' L (dn d n true)∧Ch (fun k=>k=L.gd) w w':=by
 have HH:=hid h;clear h;go_enter Tryz.func153,Tryz.ntmps153;unfold dQ;go_wp2_with fail;refine (de n hn true w HH.out).mono ?_;rintro e w1 ⟨v,rfl,hv,hd,hc⟩;have HD:=hid hd;have HC:=hid hc;clear hc hd;by_cases he:dq d n true=0
 ·obtain ⟨f,hf⟩:∃ f,d.file n=some f:=by
   cases hf:d.file n with
   | some f=>exact ⟨f,rfl⟩
   | none=>
     unfold dq at he;rw [hf] at he
     split at he
     ·contradiction
     ·cases he
  obtain ⟨g,h1,h1m,h2⟩:=HD.out.fso (d:=dn d n true) (n:=n) (f:=f) (by rw [bM];exact hf);have hve:v=au g:=by
   unfold FndP at hv;have h0:eW d n true=0:=by unfold dq at he;split at he;contradiction;rename_i h;simpa using h
   rw [if_neg (by simpa using h0),h1] at hv;exact hv
  subst hve;clear hv;rw [he];unfold au;have hfo:=bV HH.out.ok hf;have hle:=hfo.n;obtain ⟨A,c,hv⟩:=h2.lenV;obtain ⟨b0,-,-,-,hgl,-⟩:=aO h2.blk;have H2:=hid h2;clear h2;by_cases hi:0≤i∧i<f.now.length
  ·obtain ⟨k,rfl⟩:∃ k:Nat,i=k:=⟨i.toNat,by omega⟩;have hk:k<f.now.length:=by omega
   have HE:=hid (show mR d n k=0∧rt d n k=f.now[k] by
    have:mR d n k=0:=by unfold mR Dk.size;rw [he,hf,if_neg (by simp),if_pos hi]
    refine ⟨this,?_⟩;unfold rt Dk.sec;rw [if_pos this,hf];simp [List.getD_eq_getElem?_getD,List.getElem?_eq_getElem hk])
   have hlp:(H2.out.now ▸ hk:k<((L.M g).ps.map L.E).length)=_:=rfl;have hkp:k<(L.M g).ps.length:=by have:=hk;rw [H2.out.now,List.length_map] at this;exact this
   obtain ⟨b,off,cc,hsv,-,hbl,hsl⟩:=((H2.out.on.sl cp).cases).resolve_left (fun ⟨_,_,_,h⟩=>by have:=congrArg List.length h;simp at this;rw [this] at hkp;simp at hkp);have hcl:=(hsl.cells (k:=k) (by simpa using hkp)).2 0 _ rfl;simp only [List.getElem_map,Nat.mul_one,Nat.add_zero,iS,Option.map_some] at hcl;rw [hsv] at b0;have hlen:((L.M g).ps.map some).length=f.now.length:=by rw [H2.out.now];simp
   rw [hlen] at b0 hsv;have hcb:=HD.out.cel _ (H2.out.pc _ (List.getElem_mem hkp));have q0:=aa hcb 0;have q1:=aa hcb 1;have hql:=af hcb;have HS:=hid (show f.now[k]=L.E ((L.M g).ps[k]) by
    have:f.now[k]?=(List.map L.E (L.M g).ps)[k]?:=by rw [H2.out.now]
    rw [List.getElem?_eq_getElem hk,List.getElem?_map,List.getElem?_eq_getElem hkp] at this;injection this)
   generalize (L.M g).ps[k]=p at *;clear hcb hsl hsv hv hlp;have hi1:(0:Int)≤(k:Int):=by omega
   have hd0:decide ((k:Int)<0)=false:=decide_eq_false (by omega);have hd1:decide ((k:Int) ≥ (f.now.length:Int))=false:=decide_eq_false (by omega);simp only [List.getElem?_toArray,List.getElem?_cons_zero,List.getElem?_cons_succ] at q0 q1;go_wp2_with fail;go_ret2;exact ⟨by rw [HE.out.1,HE.out.2,HS.out];rfl,HD.out,HC.out⟩
  ·have HE:=hid (show mR d n i=14∧rt d n i=[] by
    have:mR d n i=14:=by unfold mR Dk.size;rw [he,hf,if_neg (by simp),if_neg hi]
    refine ⟨this,?_⟩;unfold rt;rw [if_neg (by rw [this];decide)])
   rw [hv] at b0;by_cases h0:i<0
   ·go_wp2_with fail;go_ret2;exact ⟨by rw [HE.out.1,HE.out.2];rfl,HD.out,HC.out⟩
   ·have hd0:decide (i<0)=false:=decide_eq_false h0;have hd1:decide (i ≥ (f.now.length:Int))=true:=decide_eq_true (by omega);go_wp2_with fail;go_ret2;exact ⟨by rw [HE.out.1,HE.out.2];rfl,HD.out,HC.out⟩
 ·have HE:=hid (show mR d n i=dq d n true∧rt d n i=[] by
   have:mR d n i=dq d n true:=by unfold mR;rw [if_pos he]
   exact ⟨this,by unfold rt;rw [if_neg (by rw [this];exact he)]⟩)
  generalize dq d n true=x at *;have hx:(x == 0)=false:=by simpa using he
  go_wp2_with fail;go_ret2;exact ⟨by rw [HE.out.1,HE.out.2];rfl,HD.out,HC.out⟩
end Go.Proofs.YtdmhbgpejppbkaaGreat
namespace Go.Proofs.YtdmhbgpejppbkaaGreat
open Go.RowKit
structure Ob where
 F:Nat→Prop
 P:World→Prop
 loc:∀ {S:Nat→Prop} {w w':World},P w→Ch S w w'→(∀ k,F k→¬ S k)→P w'
 lt:∀ {w:World},P w→∀ k,F k→k<w.heap.size
def Sep (w:World) (l:List Ob):Prop:=(∀ o ∈ l,o.P w)∧l.Pairwise fun a b=>∀ k,a.F k→¬ b.F k
section
variable {w w':World} {l l1 l2:List Ob} {a b:Ob}
theorem Sep.perm (h:Sep w l) (hp:l.Perm l1):Sep w l1:=⟨fun o ho=>h.1 o (hp.mem_iff.2 ho),(hp.pairwise_iff (fun {_ _} hx k h1 h2=>hx k h2 h1)).1 h.2⟩
theorem Sep.apart (h:Sep w (l1 ++ a :: l2)):∀ o ∈ l1 ++ l2,∀ k,o.F k→¬ a.F k:=fun o ho k hk hak=>by
 have h2:=List.pairwise_append.1 h.2;rcases List.mem_append.1 ho with ho | ho
 ·exact h2.2.2 o ho a (by simp) k hk hak
 ·exact (List.pairwise_cons.1 h2.2.1).1 o ho k hak hk
theorem Sep.upd {S:Nat→Prop} (h:Sep w (l1 ++ a :: l2)) (hc:Ch S w w') (hs:∀ k,S k→a.F k) (hb:b.P w') (hF:∀ k,b.F k→a.F k∨w.heap.size≤k):Sep w' (l1 ++ b :: l2):=by
 have hap:=h.apart;have hlt:∀ o ∈ l1 ++ l2,∀ k,o.F k→k<w.heap.size:=fun o ho k hk=>o.lt (h.1 o (by rcases List.mem_append.1 ho with ho | ho <;> simp [ho])) k hk
 have hd:∀ o ∈ l1 ++ l2,∀ k,o.F k→¬ b.F k:=fun o ho k hk hbk=>by
  rcases hF k hbk with h1 | h1
  ·exact hap o ho k hk h1
  ·have:=hlt o ho k hk;omega
 have h2:=List.pairwise_append.1 h.2;have h3:=List.pairwise_cons.1 h2.2.1;refine ⟨fun o ho=>?_,List.pairwise_append.2 ⟨h2.1,List.pairwise_cons.2 ⟨fun o ho k hk hok=>hd o (by simp [ho]) k hok hk,h3.2⟩,fun x hx y hy=>?_⟩⟩
 ·have hm:o=b∨o ∈ l1 ++ l2:=by
   simp only [List.mem_append,List.mem_cons] at ho ⊢;rcases ho with ho | ho | ho
   ·exact .inr (.inl ho)
   ·exact .inl ho
   ·exact .inr (.inr ho)
  rcases hm with rfl | hm
  ·exact hb
  ·exact o.loc (h.1 o (by rcases List.mem_append.1 hm with hm | hm <;> simp [hm])) hc fun k hk hsk=>hap o hm k hk (hs k hsk)
 ·rcases List.mem_cons.1 hy with rfl | hy
  ·exact fun k hk=>hd x (by simp [hx]) k hk
  ·exact h2.2.2 x hx y (by simp [hy])
theorem Sep.keep {S:Nat→Prop} (h:Sep w l) (hc:Ch S w w') (hs:∀ o ∈ l,∀ k,o.F k→¬ S k):Sep w' l:=⟨fun o ho=>o.loc (h.1 o ho) hc fun k hk=>hs o ho k hk,h.2⟩
theorem Sep.below (h:Sep w l) (hb:Below w.heap.size w w'):Sep w' l:=h.keep (S:=fun _=>False) (Ch.of_below hb) fun _ _ _ _ h=>h
theorem Sep.new (h:Sep w l) (hb:Below w.heap.size w w') (hP:b.P w') (hF:∀ k,b.F k→w.heap.size≤k):Sep w' (b :: l):=by
 have h2:=h.below hb;refine ⟨fun o ho=>?_,List.pairwise_cons.2 ⟨fun o ho k hk hok=>?_,h2.2⟩⟩
 ·rcases List.mem_cons.1 ho with rfl | ho
  ·exact hP
  ·exact h2.1 o ho
 ·have:=o.lt (h.1 o ho) k hok;have:=hF k hk;omega
theorem Sep.drop (h:Sep w (l1 ++ a :: l2)):Sep w (l1 ++ l2):=by have h2:=List.pairwise_append.1 h.2;have h3:=List.pairwise_cons.1 h2.2.1;exact ⟨fun o ho=>h.1 o (by rcases List.mem_append.1 ho with ho | ho <;> simp [ho]),List.pairwise_append.2 ⟨h2.1,h3.2,fun x hx y hy=>h2.2.2 x hx y (by simp [hy])⟩⟩
theorem Sep.as (h:Sep w (l1 ++ a :: l2)) (hb:b.P w) (hF:∀ k,b.F k→a.F k):Sep w (l1 ++ b :: l2):=h.upd (S:=fun _=>False) (Ch.refl _ w) (fun _ h=>h.elim) hb (fun k hk=>.inl (hF k hk))
end
def Ob.nil:Ob:=⟨fun _=>False,fun _=>True,fun _ _ _=>trivial,fun _ _ h=>h.elim⟩
def Ob.blk (g:Nat) (o:Obj):Ob:=⟨fun k=>k=g,fun w=>w.heap[g]?=some o,fun h hc hn=>hc.keep h (hn g rfl),fun h _ hk=>hk ▸ af h⟩
def Ob.row {α:Type} (f:α→List Value) (size:Nat) (e:TypeId) (v:Value) (xs:List α):Ob:=
 ⟨fun k=>v.ownBlock=some k,fun w=>Own f size e 0 w v xs,fun h hc hn=>h.ch hc fun k hk=>hn k hk,fun h k hk=>(h.lt k hk).2⟩
end Go.Proofs.YtdmhbgpejppbkaaGreat
