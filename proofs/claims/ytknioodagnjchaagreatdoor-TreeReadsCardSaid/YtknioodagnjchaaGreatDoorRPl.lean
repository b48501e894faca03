/- A shelf as pages in use and free ones, plain. Chains, plain. What a node stands for, plain. Where a key stands, pairs by key, plain. The reference's book of pages and its search among keys, plain. No program errs with code 0. The cuts of a node, plain. A kid in two, two kids in one, plain. A kid that was changed, plain. A change of a tree, plain. Find, list, drop; how many pages; an armed shelf, plain. Trees on a shelf, as the laws want them; plain. More on trees on a shelf, plain: keys taken out one by one; two trees; a shelf that is down. What cahierlaw16.awake does to its pages, plain: run by the kernel. -/
import Derived.Test.YtknioodagnjchaaGreatDoorRSp
import Derived.WalkKit
namespace Go.Proofs.YtknioodagnjchaaGreatDoor
theorem lD:∀ (l:List Int) (z:By) (i:Nat) (h:i<l.length),(((l.flatMap fun n=>aK 4 n.toNat) ++ z).drop (4 * i)).take 4=aK 4 l[i].toNat
 | [],_,i,h=>by simp at h
 | a :: l,z,0,h=>by
   simp only [List.flatMap_cons,Nat.mul_zero,List.drop_zero,List.getElem_cons_zero,List.append_assoc];rw [List.take_left' (ay 4 _)]
 | a :: l,z,i+1,h=>by
   simp only [List.flatMap_cons,List.append_assoc,List.getElem_cons_succ]
   rw [show 4 * (i+1)=(aK 4 a.toNat).length+4 * i by rw [ay];omega,List.drop_append,List.drop_of_length_le (by omega),List.nil_append,
    show (aK 4 a.toNat).length+4 * i - (aK 4 a.toNat).length=4 * i by omega]
   exact lD l z i (by simpa using h)
theorem gF {t:Tk} (h:bH t=false):cI (aD (eV t))=t:=by
 obtain ⟨h1,h2,h3,h4⟩:=jm h;have hl:=oJ (t:=t);rw [jg (by omega)];generalize List.replicate (232 - (eV t).length) (0:UInt8)=z;obtain ⟨nx,ls⟩:=t;simp only at h1 h2 h3 h4;have hb:eV ⟨nx,ls⟩ ++ z=4 :: (aK 4 nx.toNat ++ (UInt8.ofNat (ls.length % 256) :: ((ls.flatMap fun n=>aK 4 n.toNat) ++ z))):=by simp [eV,aK]
 have hd:(eV ⟨nx,ls⟩ ++ z).getD 5 0=UInt8.ofNat ls.length:=by rw [hb];simp [aK];rw [Nat.mod_eq_of_lt (by omega)]
 have hm:min ((eV ⟨nx,ls⟩ ++ z).getD 5 0).toNat 50=ls.length:=by rw [hd,cA (by omega)];omega
 unfold cI;rw [hm];congr 1
 ·rw [hb,List.drop_succ_cons,List.drop_zero];unfold kg;rw [List.take_left' (ay 4 _),fg 4 _ (by omega)];omega
 ·refine List.ext_getElem (by simp) fun i hi1 hi2=>?_
  have hi:i<ls.length:=hi2;have h5:=h4 ls[i] (List.getElem_mem hi);rw [List.getElem_map,List.getElem_range]
  rw [show (eV ⟨nx,ls⟩ ++ z).drop (6+4 * i)=((ls.flatMap fun n=>aK 4 n.toNat) ++ z).drop (4 * i) by
   rw [hb,show 6+4 * i=(5+4 * i)+1 by omega,List.drop_succ_cons,show 5+4 * i=(aK 4 nx.toNat).length+(4 * i+1) by rw [ay];omega,List.drop_append,List.drop_of_length_le (by omega),List.nil_append,
    show (aK 4 nx.toNat).length+(4 * i+1) - (aK 4 nx.toNat).length=4 * i+1 by omega,List.drop_succ_cons]]
  unfold kg;rw [lD ls z i hi,fg 4 _ (by omega)];omega
theorem gU {t:Tk} (h:bH t=false):di (aD (eV t))=true:=by unfold di;rw [gF h,h];simp
inductive FreeL (B:Int→By):Int→List Int→Prop where
 | nil:FreeL B 0 []
 | cons {t next:Int} {l F:List Int}:t≠0→di (B t)=true→cI (B t)=⟨next,l⟩→FreeL B next F→FreeL B t (t :: (l ++ F))
theorem FreeL.congr {B B':Int→By} {t:Int} {F:List Int} (h:FreeL B t F) (hb:∀ p ∈ F,B' p=B p):FreeL B' t F:=by
 induction h with
 | nil=>exact .nil
 | cons h0 h1 h2 _ ih=> have e:=hb _ List.mem_cons_self;exact .cons h0 (by rw [e];exact h1) (by rw [e];exact h2) (ih fun p hp=>hb p (by simp [hp]))
theorem FreeL.zero {B:Int→By} {t:Int} {F:List Int} (h:FreeL B t F):t=0↔F=[]:=by
 cases h with
 | nil=>simp
 | cons h0=>simp [h0]
theorem FreeL.mem {B:Int→By} {t:Int} {F:List Int} (h:FreeL B t F) (h0:t≠0):t ∈ F:=by
 cases h with
 | nil=>exact absurd rfl h0
 | cons=>exact List.mem_cons_self
theorem FreeL.inv {B:Int→By} {t:Int} {F:List Int} (h:FreeL B t F) (h0:t≠0):∃ next l F2,F=t :: (l ++ F2)∧di (B t)=true∧cI (B t)=⟨next,l⟩∧FreeL B next F2:=by
 cases h with
 | nil=>exact absurd rfl h0
 | cons _ h1 h2 h3=>exact ⟨_,_,_,rfl,h1,h2,h3⟩
structure Ow (s:Sf) (U F:List Int):Prop where
 ok:s.Ok
 lim:s.lim=4096
 left:s.left=-1
 fl:FreeL s.B s.h.trunk F
 sp:s.h.spare=F.length
 nd:(U ++ F).Nodup
 rng:∀ p,p ∈ U ++ F↔1≤p∧p<s.h.pages
theorem lr:∀ (N:Nat) (L:List Int),L.Nodup→(∀ p,p ∈ L↔1≤p∧p<(N:Int)+1)→L.length=N
 | 0,L,_,h=>by
   cases L with
   | nil=>rfl
   | cons a L=>have:=(h a).1 List.mem_cons_self;omega
 | N+1,L,hn,h=>by
   have hm:(N:Int)+1 ∈ L:=(h _).2 (by omega)
   have h1:=lr N (L.erase ((N:Int)+1)) (hn.erase _) (fun p=>by
    rw [hn.mem_erase_iff,h p];constructor
    ·intro h;omega
    ·intro h;omega)
   rw [List.length_erase_of_mem hm] at h1;have:=List.length_pos_of_mem hm;omega
theorem Ow.count {s:Sf} {U F:List Int} (h:Ow s U F):(U.length+F.length:Int)+1=s.h.pages:=by have hp:=h.ok.h.p1;have:=lr (s.h.pages - 1).toNat (U ++ F) h.nd (fun p=>by rw [h.rng p];omega);rw [List.length_append] at this;omega
theorem Ow.perm {s:Sf} {U U' F:List Int} (h:Ow s U F) (hp:U.Perm U'):Ow s U' F:=
 { h with nd:=(hp.append_right F).nodup_iff.1 h.nd,rng:=fun p=>by rw [← h.rng p];exact ((hp.append_right F).mem_iff).symm }
theorem Ow.inU {s:Sf} {U F:List Int} (h:Ow s U F) {p:Int} (hp:p ∈ U):1≤p∧p<s.h.pages:=(h.rng p).1 (List.mem_append_left _ hp)
theorem Ow.notF {s:Sf} {U F:List Int} (h:Ow s U F) {p:Int} (hp:p ∈ U):p ∉ F:=fun hf=>(List.nodup_append.1 h.nd).2.2 p hp p hf rfl
theorem Ow.beg0 {s:Sf} {U F:List Int} (h:Ow s U F):bl s=s:=by unfold bl;rw [if_neg (by rw [h.left];omega)]
theorem Ow.beg {s:Sf} {U F:List Int} (h:Ow s U F) {p:Int} (hp:p ∈ U):bc s p=0:=by have:=h.inU hp;unfold bc;rw [if_neg (by rw [h.left];omega),if_neg (by omega)]
theorem Ow.get {s:Sf} {U F:List Int} (h:Ow s U F) {p:Int} (hp:p ∈ U) {α:Type} (k:By→Pro α):(Pro.get p k).run s=(k (s.B p)).run s:=by rw [Pro.run,if_pos (h.beg hp),h.beg0]
def dG (s:Sf) (p:Int) (d:By):Sf:={ s with B:=bx s.B p d }
theorem cV (B:Int→By) (p:Int) (d:By):bx B p d p=d:=by simp [bx]
theorem aZ (B:Int→By) {p q:Int} (d:By) (h:q≠p):bx B p d q=B q:=by simp [bx,h]
theorem Ow.put {s:Sf} {U F:List Int} (h:Ow s U F) {p:Int} (hp:p ∈ U) {d:By} (hd:d.length=232) {α:Type} (k:Unit→Pro α):
  (Pro.put p d k).run s=(k ()).run (dG s p d)∧Ow (dG s p d) U F:=by
 have hb:=h.beg hp;refine ⟨?_,{ ok:=⟨h.ok.h,bW h.ok.l hd,h.ok.l0,h.ok.l1⟩,lim:=h.lim,left:=h.left,fl:=h.fl.congr (fun q hq=>aZ _ _ (fun e=>h.notF hp (e ▸ hq))),sp:=h.sp,nd:=h.nd,rng:=h.rng }⟩;rw [Pro.run,if_pos (by unfold hZ;rw [if_pos hb,if_pos hd])];congr 1;unfold iW dG;rw [if_pos ⟨hb,hd⟩,h.beg0]
theorem Hd.ok_pages {h:Hd} (hk:h.Ok) (h2:h.pages<4096):Hd.Ok { h with pages:=h.pages+1 }:=⟨by have:=hk.p1;simp only;omega,by simp only;omega,hk.t0,hk.t1,hk.s0,hk.s1⟩
theorem pP {s:Sf} (h1:s.left=-1) (h2:¬ (s.h.spare=0∧s.lim≤s.h.pages)):bj s=(bm s.h s.B).e:=by unfold bj;rw [if_neg (by omega),if_neg h2]
theorem Ow.new {s:Sf} {U F:List Int} (h:Ow s U F) (hU:U.length<4095):∃ n s' F',(∀ {α:Type} (k:Int→Pro α),(Pro.new k).run s=(k n).run s')∧n ∉ U∧Ow s' (n :: U) F'∧s'.B n=blankL∧(∀ p ∈ U,s'.B p=s.B p)∧s'.h.root=s.h.root∧s.h.pages≤s'.h.pages∧(F.length=F'.length+1∨F=[]∧F'=[]):=by
 suffices hh:∃ n h' B',(bm s.h s.B)=⟨n,h',0,B'⟩∧¬ (s.h.spare=0∧s.lim≤s.h.pages)∧n ∉ U∧h'.root=s.h.root∧s.h.pages≤h'.pages∧∃ F',(F.length=F'.length+1∨F=[]∧F'=[])∧Ow { s with h:=h',B:=bx B' n blankL } (n :: U) F'∧(∀ p ∈ U,bx B' n blankL p=s.B p) by
  obtain ⟨n,h',B',ht,hr,hn,hrt,hpg,F',hF,ho,hb⟩:=hh;have he:bj s=0:=by rw [pP h.left hr,ht]
  refine ⟨n,{ s with h:=h',B:=bx B' n blankL },F',fun k=>?_,hn,ho,cV _ _ _,hb,hrt,hpg,hF⟩;rw [Pro.run,if_pos he];unfold bN aR;rw [if_pos he,if_pos he,ht,h.beg0]
 have hc:=h.count;have hp1:=h.ok.h.p1;have hp2:=h.ok.h.p2;by_cases hF:F=[]
 ·subst hF;have h0:s.h.spare=0:=by rw [h.sp];rfl
  have hpg:s.h.pages<4096:=by simp at hc;omega
  have hn:s.h.pages ∉ U:=fun hm=>by have:=h.inU hm;omega
  refine ⟨s.h.pages,{ s.h with pages:=s.h.pages+1 },s.B,by unfold bm;rw [if_pos h0,if_neg (by omega)],by rw [h.lim];omega,hn,rfl,by simp only;omega,[],.inr ⟨rfl,rfl⟩,?_,fun p hp=>aZ _ _ (fun e=>hn (e ▸ hp))⟩;refine { ok:=⟨Hd.ok_pages h.ok.h hpg,bW h.ok.l cG,h.ok.l0,h.ok.l1⟩,lim:=h.lim,left:=h.left,fl:=?_,sp:=h.sp,nd:=?_,rng:=fun p=>?_ }
  ·exact h.fl.congr (fun p hp=>absurd hp List.not_mem_nil)
  ·have:=h.nd;rw [List.append_nil] at *;exact List.nodup_cons.2 ⟨hn,this⟩
  ·have:=h.rng p;simp only [List.append_nil,List.mem_cons] at *;rw [this];constructor
   ·intro h;omega
   ·intro h;omega
 ·have h0:s.h.spare≠0:=by rw [h.sp];have:=List.length_pos_iff.2 hF;omega
  have ht:s.h.trunk≠0:=fun e=>hF (h.fl.zero.1 e)
  obtain ⟨next,l,F2,rfl,hok,hdp,hf2⟩:=h.fl.inv ht
  ·skip;have hnd:=h.nd;have hnd2:(s.h.trunk :: (l ++ F2)).Nodup:=(List.nodup_append.1 hnd).2.1;have hdis:=(List.nodup_append.1 hnd).2.2;rw [List.nodup_cons] at hnd2;have hnd3:=List.nodup_append.1 hnd2.2;have hbad:bH ⟨next,l⟩=false:=by rw [← hdp];exact fx hok
   obtain ⟨t1,t2,t3,t4⟩:=jm hbad;simp only at t1 t2 t3 t4;have hin:∀ p,p ∈ s.h.trunk :: (l ++ F2)→1≤p∧p<s.h.pages:=fun p hp=>(h.rng p).1 (List.mem_append_right _ hp)
   have hnx:next<s.h.pages:=by
    by_cases e:next=0
    ·omega
    ·exact (hin next (by simp [hf2.mem e])).2
   have htk:(bm s.h s.B)=if eC ⟨next,l⟩ s.h.pages then df s.B 30
     else if 0<l.length then ⟨l.getD (l.length - 1) 0,{ s.h with spare:=s.h.spare - 1 },0,bx s.B s.h.trunk (aD (eV ⟨next,l.take (l.length - 1)⟩))⟩
     else if ((next == 0) != (s.h.spare == 1)) then df s.B 30
     else ⟨s.h.trunk,{ s.h with trunk:=next,spare:=s.h.spare - 1 },0,s.B⟩:=by
    unfold bm;rw [if_neg h0,if_neg (by rw [hok];simp)];simp only [hdp]
   have hlen:(s.h.trunk :: (l ++ F2)).length=1+l.length+F2.length:=by simp;omega
   have hsp:=h.sp;rw [hlen] at hsp;have hab:eC ⟨next,l⟩ s.h.pages=false:=by
    unfold eC;rw [decide_eq_false (by simp only;omega),Bool.false_or];by_cases hl:0<l.length
    ·rw [decide_eq_true hl,Bool.true_and];have hx:l.getD (l.length - 1) 0 ∈ l:=by rw [List.getD_eq_getElem?_getD,List.getElem?_eq_getElem (by omega)];exact List.getElem_mem _
     have:=hin _ (show l.getD (l.length - 1) 0 ∈ s.h.trunk :: (l ++ F2) from List.mem_cons_of_mem _ (List.mem_append_left _ hx));exact decide_eq_false (by simp only;omega)
    ·rw [decide_eq_false hl,Bool.false_and]
   rw [hab,if_neg (by simp)] at htk;by_cases hl:0<l.length
   ·rw [if_pos hl] at htk;obtain ⟨m,x,rfl⟩:∃ m x,l=m ++ [x]:=⟨l.dropLast,l.getLast (by intro e;subst e;simp at hl),(List.dropLast_concat_getLast _).symm⟩;have e1:(m ++ [x]).getD ((m ++ [x]).length - 1) 0=x:=by simp
    have e2:(m ++ [x]).take ((m ++ [x]).length - 1)=m:=by simp
    rw [e1,e2] at htk;have hxU:x ∉ U:=fun hm=>hdis x hm x (by simp) rfl
    have htU:s.h.trunk ∉ U:=fun hm=>hdis _ hm _ (by simp) rfl
    have hxt:x≠s.h.trunk:=fun e=>hnd2.1 (by rw [← e];simp)
    have hx2:x ∉ F2:=fun hm=>hnd3.2.2 x (by simp) x hm rfl
    have htF2:s.h.trunk ∉ F2:=fun hm=>hnd2.1 (by simp [hm])
    have hb2:bH ⟨next,m⟩=false:=by have:=jN hbad m.length;simpa using this
    refine ⟨x,_,_,htk,fun hh=>h0 hh.1,hxU,rfl,Int.le_refl _,s.h.trunk :: (m ++ F2),.inl (by simp;omega),?_,fun p hp=>?_⟩
    ·refine { ok:=⟨⟨h.ok.h.p1,h.ok.h.p2,h.ok.h.t0,h.ok.h.t1,by simp only;omega,by have:=h.ok.h.s1;simp only;omega⟩,bW (bW h.ok.l (cY _)) cG,h.ok.l0,h.ok.l1⟩,lim:=h.lim,left:=h.left,fl:=?_,sp:=?_,nd:=?_,rng:=fun p=>?_ }
     ·refine .cons ht (next:=next) ?_ ?_ (hf2.congr fun p hp=>?_)
      ·show di (bx _ _ _ s.h.trunk)=true;rw [aZ _ _ hxt.symm,cV];exact gU hb2
      ·show cI (bx _ _ _ s.h.trunk)=_;rw [aZ _ _ hxt.symm,cV];exact gF hb2
      ·show bx _ _ _ p=_;rw [aZ _ _ (fun e=>hx2 (by rw [← e];exact hp)),aZ _ _ (fun e=>htF2 (by rw [← e];exact hp))]
     ·simp only [List.length_cons,List.length_append,List.length_nil] at *;omega
     ·refine (List.Perm.nodup_iff ?_).1 hnd;have:(U ++ (s.h.trunk :: (m ++ [x] ++ F2))).Perm (x :: (U ++ (s.h.trunk :: (m ++ F2)))):=by refine List.Perm.trans (List.Perm.append_left U ?_) (List.perm_middle (a:=x) (l₁:=U));rw [List.append_assoc,List.singleton_append];exact (List.Perm.cons _ List.perm_middle).trans (List.Perm.swap _ _ _)
      exact this
     ·have:=h.rng p;show _↔1≤p∧p<s.h.pages;rw [← this];simp only [List.mem_append,List.mem_cons,List.not_mem_nil,or_false];constructor
      ·rintro ((h | h) | h | h | h) <;> simp [h]
      ·rintro (h | h | (h | h) | h) <;> simp [h]
    ·rw [aZ _ _ (fun e=>hxU (by rw [← e];exact hp)),aZ _ _ (fun e=>htU (by rw [← e];exact hp))]
   ·have hl0:l=[]:=List.length_eq_zero_iff.1 (by omega);subst hl0;rw [if_neg (by simp)] at htk;simp only [List.nil_append,List.length_nil] at *;have hz:=hf2.zero;have hchk:((next == 0) != (s.h.spare == 1))=false:=by
     by_cases e:next=0
     ·have:F2=[]:=hz.1 e;subst this;simp [e];rw [hsp];simp
     ·have:F2≠[]:=fun hh=>e (hz.2 hh)
      have:=List.length_pos_iff.2 this;have e2:s.h.spare≠1:=by omega
      rw [beq_eq_false_iff_ne.2 e,beq_eq_false_iff_ne.2 e2];rfl
    rw [hchk,if_neg (by simp)] at htk;have htU:s.h.trunk ∉ U:=fun hm=>hdis _ hm _ (by simp) rfl
    refine ⟨s.h.trunk,_,_,htk,fun hh=>h0 hh.1,htU,rfl,Int.le_refl _,F2,.inl (by simp),?_,fun p hp=>aZ _ _ (fun e=>htU (e ▸ hp))⟩;refine { ok:=⟨⟨h.ok.h.p1,h.ok.h.p2,by simp only;omega,by simp only;omega,by simp only;omega,by have:=h.ok.h.s1;simp only;omega⟩,bW h.ok.l cG,h.ok.l0,h.ok.l1⟩,lim:=h.lim,left:=h.left,fl:=?_,sp:=?_,nd:=?_,rng:=fun p=>?_ }
    ·exact hf2.congr fun p hp=>aZ _ _ (fun e=>hnd2.1 (e ▸ hp))
    ·simp only;omega
    ·exact (List.Perm.nodup_iff List.perm_middle).1 hnd
    ·show _↔1≤p∧p<s.h.pages;rw [← h.rng p];simp only [List.mem_append,List.mem_cons];constructor
     ·rintro ((h | h) | h) <;> simp [h]
     ·rintro (h | h | h) <;> simp [h]
theorem Ow.free {s:Sf} {U F:List Int} {n:Int} (h:Ow s (n :: U) F):∃ s' F',(∀ {α:Type} (k:Unit→Pro α),(Pro.free n k).run s=(k ()).run s')∧Ow s' U F'∧(∀ p ∈ U,s'.B p=s.B p)∧s'.h.root=s.h.root∧s'.h.pages=s.h.pages∧F'.length=F.length+1:=by
 have hc:=h.count;have hnin:=h.inU (p:=n) List.mem_cons_self;have hnd:=h.nd;rw [List.cons_append,List.nodup_cons] at hnd;have hnU:n ∉ U:=fun hm=>hnd.1 (List.mem_append_left _ hm)
 have hnF:n ∉ F:=fun hm=>hnd.1 (List.mem_append_right _ hm)
 have hdis:=(List.nodup_append.1 hnd.2).2.2;have hs1:¬ s.h.pages - 1≤s.h.spare:=by rw [h.sp];simp only [List.length_cons] at hc;omega
 have hp2:=h.ok.h.p2
 suffices hh:∃ h' B' F',cu s.h s.B n=⟨h',0,B'⟩∧Ow { s with h:=h',B:=B' } U F'∧(∀ p ∈ U,B' p=s.B p)∧h'.root=s.h.root∧h'.pages=s.h.pages∧F'.length=F.length+1 by
  obtain ⟨h',B',F',hg,ho,hb,hr,hpg,hl⟩:=hh;have he:co s n=0:=by unfold co;rw [h.beg List.mem_cons_self,hg];rfl
  refine ⟨_,F',fun k=>?_,ho,hb,hr,hpg,hl⟩;rw [Pro.run,if_pos he];congr 1;unfold dh;rw [if_pos he,h.beg0,hg]
 have hfull0:bH ⟨0,[]⟩=false:=rfl
 have hgive:cu s.h s.B n=if s.h.trunk=0 then ⟨{ s.h with trunk:=n,spare:=s.h.spare+1 },0,bx s.B n (aD (eV ⟨0,[]⟩))⟩
   else if di (s.B s.h.trunk)=false then fR s.B 30
   else if (cI (s.B s.h.trunk)).list.length<50 then ⟨{ s.h with spare:=s.h.spare+1 },0,bx s.B s.h.trunk (aD (eV ⟨(cI (s.B s.h.trunk)).next,(cI (s.B s.h.trunk)).list ++ [n]⟩))⟩
   else ⟨{ s.h with trunk:=n,spare:=s.h.spare+1 },0,bx s.B n (aD (eV ⟨s.h.trunk,[]⟩))⟩:=by
  unfold cu;rw [if_neg (by omega),if_neg hs1]
 have rng':∀ F':List Int,(∀ p,p ∈ F'↔p=n∨p ∈ F)→∀ p,p ∈ U ++ F'↔1≤p∧p<s.h.pages:=fun F' hF' p=>by
  rw [← h.rng p];simp only [List.cons_append,List.mem_cons,List.mem_append,hF'];constructor
  ·rintro (h | h | h) <;> simp [h]
  ·rintro (h | h | h) <;> simp [h]
 have nd':∀ F':List Int,F'.Perm (n :: F)→(U ++ F').Nodup:=fun F' hF'=>by
  refine (List.Perm.nodup_iff ((List.Perm.append_left U hF').trans List.perm_middle)).2 ?_;exact List.nodup_cons.2 hnd
 have hsp1:s.h.spare+1≤4096:=by omega
 have hs0:=h.ok.h.s0;by_cases ht:s.h.trunk=0
 ·rw [if_pos ht] at hgive;have hF:F=[]:=h.fl.zero.1 ht;subst hF;refine ⟨_,_,[n],hgive,?_,fun p hp=>aZ _ _ (fun e=>hnU (e ▸ hp)),rfl,rfl,rfl⟩;refine { ok:=⟨⟨h.ok.h.p1,h.ok.h.p2,by show (0:Int)≤n;omega,by show n<4096;omega,by show 0≤s.h.spare+1;omega,by show s.h.spare+1≤4096;omega⟩,bW h.ok.l (cY _),h.ok.l0,h.ok.l1⟩,lim:=h.lim,left:=h.left,fl:=?_,sp:=?_,nd:=nd' _ (List.Perm.refl _),rng:=rng' _ (fun p=>by simp) }
  ·refine FreeL.cons (l:=[]) (F:=[]) (next:=0) (show n≠0 by omega) ?_ ?_ .nil
   ·show di (bx _ _ _ n)=true;rw [cV];exact gU hfull0
   ·show cI (bx _ _ _ n)=_;rw [cV];exact gF hfull0
  ·have:=h.sp;show s.h.spare+1=1;simp only [List.length_nil] at this;omega
 ·rw [if_neg ht] at hgive;have hfl:=h.fl;obtain ⟨next,l,F2,rfl,hok,hdp,hf2⟩:=h.fl.inv ht
  ·skip;have hbad:bH ⟨next,l⟩=false:=by rw [← hdp];exact fx hok
   rw [hok,hdp,if_neg (by simp)] at hgive;simp only at hgive;have htU:s.h.trunk ∉ U:=fun hm=>hdis _ hm _ (by simp) rfl
   have htn:s.h.trunk≠n:=fun e=>hnF (by rw [← e];simp)
   have hnF2:n ∉ F2:=fun hm=>hnF (by simp [hm])
   have hnd2:(s.h.trunk :: (l ++ F2)).Nodup:=(List.nodup_append.1 hnd.2).2.1;rw [List.nodup_cons] at hnd2;have htF2:s.h.trunk ∉ F2:=fun hm=>hnd2.1 (by simp [hm])
   obtain ⟨t1,t2,t3,t4⟩:=jm hbad;simp only at t1 t2 t3 t4;by_cases h50:l.length<50
   ·rw [if_pos h50] at hgive;have hb2:bH ⟨next,l ++ [n]⟩=false:=by unfold bH at hbad ⊢;simp only [Bool.or_eq_false_iff,List.any_append] at hbad ⊢;refine ⟨⟨hbad.1.1,by simp;omega⟩,hbad.2,?_⟩;simp [er];omega
    refine ⟨_,_,s.h.trunk :: ((l ++ [n]) ++ F2),hgive,?_,fun p hp=>aZ _ _ (fun e=>htU (e ▸ hp)),rfl,rfl,by simp;omega⟩;refine { ok:=⟨⟨h.ok.h.p1,h.ok.h.p2,h.ok.h.t0,h.ok.h.t1,by simp only;omega,by simp only;omega⟩,bW h.ok.l (cY _),h.ok.l0,h.ok.l1⟩,lim:=h.lim,left:=h.left,fl:=?_,sp:=?_,nd:=nd' _ ?_,rng:=rng' _ (fun p=>?_) }
    ·refine FreeL.cons (next:=next) ht ?_ ?_ (hf2.congr fun p hp=>aZ _ _ (fun e=>htF2 (e ▸ hp)))
     ·show di (bx _ _ _ s.h.trunk)=true;rw [cV];exact gU hb2
     ·show cI (bx _ _ _ s.h.trunk)=_;rw [cV];exact gF hb2
    ·have:=h.sp;simp only [List.length_cons,List.length_append,List.length_nil] at *;omega
    ·rw [List.append_assoc,List.singleton_append];exact (List.Perm.cons _ List.perm_middle).trans (List.Perm.swap _ _ _)
    ·simp only [List.mem_cons,List.mem_append,List.not_mem_nil,or_false];constructor
     ·rintro (h | (h | h) | h) <;> simp [h]
     ·rintro (h | h | h | h) <;> simp [h]
   ·rw [if_neg h50] at hgive;have hb2:bH ⟨s.h.trunk,[]⟩=false:=by have h1:=h.ok.h.t0;have h2:=h.ok.h.t1;unfold bH;simp [er];omega
    refine ⟨_,_,n :: ([] ++ (s.h.trunk :: (l ++ F2))),hgive,?_,fun p hp=>aZ _ _ (fun e=>hnU (e ▸ hp)),rfl,rfl,by simp⟩;refine { ok:=⟨⟨h.ok.h.p1,h.ok.h.p2,by show (0:Int)≤n;omega,by show n<4096;omega,by show 0≤s.h.spare+1;omega,by show s.h.spare+1≤4096;omega⟩,bW h.ok.l (cY _),h.ok.l0,h.ok.l1⟩,lim:=h.lim,left:=h.left,fl:=?_,sp:=?_,nd:=nd' _ (List.Perm.refl _),rng:=rng' _ (fun p=>by simp) }
    ·refine FreeL.cons (next:=s.h.trunk) (show n≠0 by omega) ?_ ?_ (hfl.congr fun p hp=>aZ _ _ (fun e=>hnF (e ▸ hp)))
     ·show di (bx _ _ _ n)=true;rw [cV];exact gU hb2
     ·show cI (bx _ _ _ n)=_;rw [cV];exact gF hb2
    ·have:=h.sp;simp only [List.length_cons,List.length_append,List.length_nil] at *;omega
def Hp (s:Sf) (U:List Int):Prop:=∃ F,Ow s U F
structure Kp (X:List Int) (s s':Sf):Prop where
 b:∀ p ∈ X,s'.B p=s.B p
 root:s'.h.root=s.h.root
 pages:s.h.pages≤s'.h.pages
theorem Kp.refl (X:List Int) (s:Sf):Kp X s s:=⟨fun _ _=>rfl,rfl,Int.le_refl _⟩
theorem Kp.trans {X:List Int} {a b c:Sf} (h:Kp X a b) (h2:Kp X b c):Kp X a c:=⟨fun p hp=>(h2.b p hp).trans (h.b p hp),h2.root.trans h.root,Int.le_trans h.pages h2.pages⟩
theorem Kp.sub {X Y:List Int} {a b:Sf} (h:Kp X a b) (hs:∀ p ∈ Y,p ∈ X):Kp Y a b:=⟨fun p hp=>h.b p (hs p hp),h.root,h.pages⟩
theorem Hp.perm {s:Sf} {U U':List Int} (h:Hp s U) (hp:U.Perm U'):Hp s U':=let ⟨F,h⟩:=h;⟨F,h.perm hp⟩
theorem Hp.nd {s:Sf} {U:List Int} (h:Hp s U):U.Nodup:=let ⟨_,h⟩:=h;(List.nodup_append.1 h.nd).1
theorem Hp.rng {s:Sf} {U:List Int} (h:Hp s U) {p:Int} (hp:p ∈ U):1≤p∧p<4096:=by obtain ⟨F,h⟩:=h;have:=h.inU hp;have:=h.ok.h.p2;omega
theorem Hp.pg {s:Sf} {U:List Int} (h:Hp s U) {p:Int} (hp:p ∈ U):cm p=true:=by have:=h.rng hp;simp [cm];omega
theorem Hp.get {s:Sf} {U:List Int} (h:Hp s U) {p:Int} (hp:p ∈ U) {α:Type} (k:By→Pro α):(Pro.get p k).run s=(k (s.B p)).run s:=let ⟨_,h⟩:=h;h.get hp k
theorem Hp.put {s:Sf} {U:List Int} (h:Hp s U) {p:Int} (hp:p ∈ U) {d:By} (hd:d.length=232) {α:Type} (k:Unit→Pro α):
  (Pro.put p d k).run s=(k ()).run (dG s p d)∧Hp (dG s p d) U:=by
 obtain ⟨F,h⟩:=h;have:=h.put hp hd k;exact ⟨this.1,F,this.2⟩
theorem fL {X:List Int} {s:Sf} {p:Int} {d:By} (hp:p ∉ X):Kp X s (dG s p d):=⟨fun _ hq=>aZ _ _ (fun e=>hp (e ▸ hq)),rfl,Int.le_refl _⟩
theorem mA {s:Sf} {p:Int} {d:By}:(dG s p d).B p=d:=cV _ _ _
theorem Hp.new {s:Sf} {U:List Int} (h:Hp s U) (hU:U.length<4095):∃ n s',(∀ {α:Type} (k:Int→Pro α),(Pro.new k).run s=(k n).run s')∧n ∉ U∧Hp s' (n :: U)∧Kp U s s':=by obtain ⟨F,h⟩:=h;obtain ⟨n,s',F',h1,h2,h3,_,h5,h6,h7,_⟩:=h.new hU;exact ⟨n,s',h1,h2,⟨F',h3⟩,⟨h5,h6,h7⟩⟩
theorem Hp.free {s:Sf} {U:List Int} {n:Int} (h:Hp s (n :: U)):∃ s',(∀ {α:Type} (k:Unit→Pro α),(Pro.free n k).run s=(k ()).run s')∧Hp s' U∧Kp U s s':=by obtain ⟨F,h⟩:=h;obtain ⟨s',F',h1,h2,h3,h4,h5,_⟩:=h.free;exact ⟨s',h1,⟨F',h2⟩,⟨h3,h4,by omega⟩⟩
inductive Lk (B:Int→By):Nat→Int→By→List Int→Prop where
 | nil {p:Int}:Lk B 0 p [] []
 | cons {left:Nat} {p next:Int} {part v:By} {ps:List Int}:left≠0→eP (B p) left=some (next,part)→Lk B (left - 227) next v ps→Lk B left p (part ++ v) (p :: ps)
theorem Lk.congr {B B':Int→By} {left:Nat} {p:Int} {v:By} {ps:List Int} (h:Lk B left p v ps) (hb:∀ q ∈ ps,B' q=B q):Lk B' left p v ps:=by
 induction h with
 | nil=>exact .nil
 | cons h0 h1 _ ih=>exact .cons h0 (by rw [hb _ List.mem_cons_self];exact h1) (ih fun q hq=>hb q (List.mem_cons_of_mem _ hq))
theorem Lk.len {B:Int→By} {left:Nat} {p:Int} {v:By} {ps:List Int} (h:Lk B left p v ps):ps.length=(left+226) / 227:=by
 induction h with
 | nil=>rfl
 | cons h0 _ _ ih=>rw [List.length_cons,ih];omega
theorem Lk.run {s:Sf} {U:List Int} (hs:Hp s U) {left:Nat} {p:Int} {v:By} {ps:List Int} (h:Lk s.B left p v ps):∀ f,ps.length≤f→(∀ q ∈ ps,q ∈ U)→(jw f left p).run s=(s,.ok (v,ps)):=by
 induction h with
 | nil=>intro f _ _;cases f <;> rfl
 | @cons left p next part v ps h0 h1 _ ih=>
   intro f hf hu;cases f with
   | zero=>simp at hf
   | succ f=> rw [jw,if_neg h0,hs.get (hu _ List.mem_cons_self),h1];exact af (ih f (by simpa using hf) (fun q hq=>hu q (List.mem_cons_of_mem _ hq)))
def Cel (B:Int→By) (c:Ce) (v:By) (ps:List Int):Prop:=aE c=true∧if c.size≤40 then v=c.data∧ps=[] else Lk B c.size.toNat c.page v ps
theorem Cel.congr {B B':Int→By} {c:Ce} {v:By} {ps:List Int} (h:Cel B c v ps) (hb:∀ q ∈ ps,B' q=B q):Cel B' c v ps:=by
 unfold Cel at *;refine ⟨h.1,?_⟩;have h2:=h.2
 split at h2
 ·rename_i hc;rw [if_pos hc];exact h2
 ·rename_i hc;rw [if_neg hc];exact h2.congr hb
theorem Cel.run {s:Sf} {U:List Int} (hs:Hp s U) {c:Ce} {v:By} {ps:List Int} (h:Cel s.B c v ps) (hu:∀ q ∈ ps,q ∈ U):(bb c).run s=(s,.ok (v,ps)):=by
 have hg:=h.1;have h2:=h.2;unfold bb;rw [if_neg (by rw [hg];simp)]
 split at h2
 ·rename_i hc
  obtain ⟨_,_,h3⟩:=eS hg (by omega);rw [if_pos h3,h2.1,h2.2];rfl
 ·rename_i hc
  obtain ⟨_,h3,_,h4⟩:=eR hg (by omega);rw [if_neg (by omega)];exact h2.run hs 23 (by rw [h2.len];omega) hu
theorem od {part:By} {next:Int} {left:Nat} (h0:0≤next) (h1:next<4096) (hl:part.length=min 227 left) (hn:next=0↔left≤227):eP (dV part next) left=some (next,part):=by
 have e1:(dV part next).getD 0 0=3:=rfl;have e2:((dV part next).drop 1).take 4=aK 4 next.toNat:=by unfold dV;rw [List.drop_succ_cons,List.drop_zero,List.append_assoc,List.take_left' (ay 4 _)]
 have e3:(dV part next).drop 5=part ++ List.replicate (227 - part.length) 0:=by unfold dV;rw [List.drop_succ_cons,List.append_assoc,List.drop_left' (ay 4 _)]
 have e4:bM (aK 4 next.toNat)=next.toNat:=fg 4 _ (by omega);have e5:cn ((part ++ List.replicate (227 - part.length) 0).drop left)=true:=by
  unfold cn;rw [List.all_eq_true];intro x hx;by_cases h:left≤227
  ·rw [List.drop_left' (by omega)] at hx;rw [(List.mem_replicate.1 hx).2];rfl
  ·rw [List.drop_of_length_le (by simp;omega)] at hx;exact absurd hx List.not_mem_nil
 unfold eP;rw [e1,e2,e3,e4,if_pos ⟨rfl,by rw [← hn];omega,e5⟩];simp only [Option.some.injEq,Prod.mk.injEq];refine ⟨by omega,?_⟩;by_cases h:left≤227
 ·rw [List.take_left' (by omega)]
 ·rw [List.take_of_length_le (by simp;omega),show 227 - part.length=0 by omega];simp
theorem pM {part:By} {next:Int} (h:part.length≤227):(dV part next).length=232:=by simp [dV,ay];omega
theorem oU {v:By} (hv:v.length≤5000) {X:List Int}:∀ (j:Nat) (s:Sf) (next:Int) (ps:List Int),j≤23→Hp s (ps ++ X)→(ps ++ X).length+j≤4095→(j - 1) * 227<v.length→
  Lk s.B (v.length - j * 227) next (v.drop (j * 227)) ps→(0≤next∧next<4096)→(next=0↔v.length≤j * 227)→
  ∃ s' p ps',(ix v j next).run s=(s',.ok p)∧Hp s' (ps' ++ X)∧Kp X s s'∧Lk s'.B v.length p v ps'∧0≤p∧p<4096∧(0<j→1≤p)
 | 0,s,next,ps,_,hs,_,_,hl,hn,_=>⟨s,next,ps,rfl,hs,Kp.refl _ _,by simpa using hl,hn.1,hn.2,fun h=>absurd h (by omega)⟩
 | j+1,s,next,ps,hj,hs,hc,hv0,hl,hn,hz=>by
   obtain ⟨n,s1,h1,h2,h3,h4⟩:=hs.new (by omega);have hlen:(v.drop (j * 227)).length=v.length - j * 227:=List.length_drop;have hpl:((v.drop (j * 227)).take 227).length=min 227 (v.length - j * 227):=by rw [List.length_take,hlen]
   obtain ⟨h5,h6⟩:=h3.put (p:=n) List.mem_cons_self (d:=dV ((v.drop (j * 227)).take 227) next) (pM (by rw [hpl];omega)) (fun _=>ix v j n);have hrg:=h3.rng (p:=n) List.mem_cons_self;have hv0':j * 227<v.length:=by simpa using hv0
   have hk:Lk (dG s1 n (dV ((v.drop (j * 227)).take 227) next)).B (v.length - j * 227) n (v.drop (j * 227)) (n :: ps):=by
    have e:v.drop (j * 227)=(v.drop (j * 227)).take 227 ++ v.drop ((j+1) * 227):=by rw [show (j+1) * 227=j * 227+227 by omega,← List.drop_drop,List.take_append_drop]
    have hl':Lk (dG s1 n (dV ((v.drop (j * 227)).take 227) next)).B (v.length - j * 227 - 227) next (v.drop ((j+1) * 227)) ps:=by
     rw [show v.length - j * 227 - 227=v.length - (j+1) * 227 by omega];refine hl.congr fun q hq=>?_
     rw [show (dG s1 n (dV ((v.drop (j * 227)).take 227) next)).B q=s1.B q from aZ _ _ (fun e=>h2 (by rw [← e];exact List.mem_append_left _ hq))];exact h4.b q (List.mem_append_left _ hq)
    have:=Lk.cons (p:=n) (by omega) (by rw [mA];exact od hn.1 hn.2 hpl (by rw [hz];omega)) hl';rw [← e] at this;exact this
   obtain ⟨s',p,ps',r1,r2,r3,r4,r5,r6,r7⟩:=oU hv j _ n (n :: ps) (by omega) h6 (by simp only [List.length_append,List.length_cons] at *;omega) (by omega) hk (by omega) (by omega);refine ⟨s',p,ps',?_,r2,?_,r4,r5,r6,fun _=>?_⟩
   ·rw [ix,h1,h5];exact r1
   ·refine Kp.trans ((h4.sub fun q hq=>List.mem_append_right _ hq).trans (fL fun hx=>h2 (List.mem_append_right _ hx))) r3
   ·rcases Nat.eq_zero_or_pos j with h | h
    ·subst h;simp only [ix,Pro.run,Prod.mk.injEq,Ans.ok.injEq] at r1;omega
    ·exact r7 h
def chn (v:By):Nat:=if v.length≤40 then 0 else (v.length+226) / 227
theorem nC {v:By} (hv:v.length≤5000) {X:List Int} {s:Sf} (hs:Hp s X) (hc:X.length+23≤4095):
  ∃ s' c ps,(cH v).run s=(s',.ok c)∧Hp s' (ps ++ X)∧Kp X s s'∧Cel s'.B c v ps∧ps.length=chn v∧(fA c).length≤42:=by
 unfold cH;rw [if_neg (by omega)];by_cases h:v.length≤40
 ·rw [if_pos h];refine ⟨s,⟨v.length,v,0⟩,[],rfl,hs,Kp.refl _ _,⟨?_,?_⟩,by simp [chn,h],?_⟩
  ·unfold aE;rw [if_neg (by simp only;omega),if_pos (by simp only;omega)];simp
  ·rw [if_pos (by simp only;omega)];exact ⟨rfl,rfl⟩
  ·unfold fA;rw [if_neg (by simp only;omega),List.length_append,cJ];simp only
   split <;> omega
 ·rw [if_neg h]
  obtain ⟨s',p,ps,r1,r2,r3,r4,r5,r6,r7⟩:=oU hv (X:=X) ((v.length - 1) / 227+1) s 0 [] (by omega) hs (by simp;omega) (by simp;omega)
   (by rw [show v.length - ((v.length - 1) / 227+1) * 227=0 by omega,List.drop_of_length_le (by omega)];exact .nil) (by omega) (by constructor <;> intro <;> omega)
  have hp:=r7 (by omega);refine ⟨s',⟨v.length,[],p⟩,ps,af r1,r2,r3,⟨?_,?_⟩,by rw [r4.len];simp [chn,h],?_⟩
  ·unfold aE;rw [if_neg (by simp only;omega),if_neg (by simp only;omega)];simp [cm];omega
  ·rw [if_neg (by simp only;omega)];exact r4
  ·unfold fA;rw [if_pos (by simp only;omega),List.length_append,cJ,ay];simp only
   split <;> omega
theorem Cel.len {B:Int→By} {c:Ce} {v:By} {ps:List Int} (h:Cel B c v ps):ps.length≤23:=by
 obtain ⟨hg,h⟩:=h
 split at h
 ·rw [h.2];simp
 ·rename_i hc
  obtain ⟨_,_,_,h4⟩:=eR hg (by omega);rw [h.len];omega
theorem jh {X:List Int}:∀ (ps:List Int) (s:Sf),Hp s (ps ++ X)→∃ s',(dN ps).run s=(s',.ok ())∧Hp s' X∧Kp X s s'
 | [],s,hs=>⟨s,rfl,hs,Kp.refl _ _⟩
 | p :: ps,s,hs=>by
   obtain ⟨s1,h1,h2,h3⟩:=Hp.free (n:=p) (U:=ps ++ X) hs;obtain ⟨s',r1,r2,r3⟩:=jh ps s1 h2;exact ⟨s',by rw [dN,h1];exact r1,r2,(h3.sub fun q hq=>List.mem_append_right _ hq).trans r3⟩
theorem qa {X:List Int} {s:Sf} {c:Ce} {v:By} {ps:List Int} (hs:Hp s (ps ++ X)) (h:Cel s.B c v ps):∃ s',(cf c).run s=(s',.ok ())∧Hp s' X∧Kp X s s':=by obtain ⟨s',r1,r2,r3⟩:=jh ps s hs;refine ⟨s',?_,r2,r3⟩;unfold cf;rw [af (h.run hs fun q hq=>List.mem_append_left _ hq)];exact r1
end Go.Proofs.YtknioodagnjchaaGreatDoor
namespace Go.Proofs.YtknioodagnjchaaGreatDoor
abbrev Pr:=By × By
def rH (lo:By) (hi:Option By) (k:By):Prop:=bK k lo=false∧∀ h,hi=some h→bK k h=true
def tU (ps:List Pr):Prop:=ps.Pairwise fun a b=>bK a.1 b.1=true
def dw (B:Int→By):List By→List Ce→List Pr→List Int→Prop
 | [],[],ps,gs=>ps=[]∧gs=[]
 | k :: ks,c :: cs,ps,gs=>∃ v g1 p2 g2,ps=(k,v) :: p2∧gs=g1 ++ g2∧Cel B c v g1∧dw B ks cs p2 g2
 | _,_,_,_=>False
abbrev TP:=Int→By→Option By→List Pr→List Int→Prop
def dP (T:TP):By→List By→Option By→List Int→List Pr→List Int→Prop
 | lo,[],hi,[d],ps,gs=>T d lo hi ps gs
 | lo,k :: ks,hi,d :: ds,ps,gs=>∃ p1 p2 g1 g2,ps=p1 ++ p2∧gs=g1 ++ g2∧T d lo (some k) p1 g1∧dP T k ks hi ds p2 g2
 | _,_,_,_,_,_=>False
def bf (B:Int→By):Nat→Nd→By→Option By→List Pr→List Int→Prop
 | 0,n,lo,hi,ps,gs=>n.leaf=true∧n.kids=[]∧aO n.keys=true∧(∀ k ∈ n.keys,rH lo hi k)∧dw B n.keys n.cells ps gs
 | d+1,n,lo,hi,ps,gs=>n.leaf=false∧n.cells=[]∧(∀ k ∈ n.keys,k.length≤64)∧
   dP (fun p lo hi ps gs=>ps≠[]∧∃ m g,cN (B p)=some m∧gs=p :: g∧bf B d m lo hi ps g) lo n.keys hi n.kids ps gs
def iJ (B:Int→By) (d:Nat):TP:=fun p lo hi ps gs=>ps≠[]∧∃ m g,cN (B p)=some m∧gs=p :: g∧bf B d m lo hi ps g
theorem node_succ {B:Int→By} {d:Nat} {n:Nd} {lo:By} {hi:Option By} {ps:List Pr} {gs:List Int}:
  bf B (d+1) n lo hi ps gs↔n.leaf=false∧n.cells=[]∧(∀ k ∈ n.keys,k.length≤64)∧dP (iJ B d) lo n.keys hi n.kids ps gs:=Iff.rfl
def Tr (B:Int→By) (d:Nat) (p:Int) (ps:List Pr) (gs:List Int):Prop:=∃ m g,cN (B p)=some m∧gs=p :: g∧bf B d m [] none ps g
def kR (T:TP):By→List By→List Int→By→List Pr→List Int→Prop
 | lo,[],[],lo',ps,gs=>lo'=lo∧ps=[]∧gs=[]
 | lo,k :: ks,d :: ds,lo',ps,gs=>∃ p1 p2 g1 g2,ps=p1 ++ p2∧gs=g1 ++ g2∧T d lo (some k) p1 g1∧kR T k ks ds lo' p2 g2
 | _,_,_,_,_,_=>False
def kK (T:TP) (hi':Option By):List By→Option By→List Int→List Pr→List Int→Prop
 | [],hi,[],ps,gs=>hi'=hi∧ps=[]∧gs=[]
 | k :: ks,hi,ds,ps,gs=>hi'=some k∧dP T k ks hi ds ps gs
 | _,_,_,_,_=>False
section
variable {T T':TP}
theorem dJ:∀ {ks:List By} {ds:List Int} {lo:By} {hi:Option By} {ps:List Pr} {gs:List Int},dP T lo ks hi ds ps gs→ds.length=ks.length+1
 | [],[],_,_,_,_,h=>h.elim
 | [],[d],_,_,_,_,_=>rfl
 | [],_ :: _ :: _,_,_,_,_,h=>h.elim
 | k :: ks,[],_,_,_,_,h=>h.elim
 | k :: ks,d :: ds,_,_,_,_,h=>by
   obtain ⟨p1,p2,g1,g2,_,_,_,h⟩:=h;have:=dJ h;simp [this]
theorem d9:∀ {i:Nat} {ks:List By} {ds:List Int} {lo:By} {hi:Option By} {ps:List Pr} {gs:List Int},dP T lo ks hi ds ps gs→i<ds.length→
  ∃ lo' hi' p1 p2 p3 g1 g2 g3,kR T lo (ks.take i) (ds.take i) lo' p1 g1∧T (ds.getD i 0) lo' hi' p2 g2∧kK T hi' (ks.drop i) hi (ds.drop (i+1)) p3 g3∧ps=p1 ++ (p2 ++ p3)∧gs=g1 ++ (g2 ++ g3)
 | _,[],[],_,_,_,_,h,_=>h.elim
 | 0,[],[d],lo,hi,ps,gs,h,_=>⟨lo,hi,[],ps,[],[],gs,[],⟨rfl,rfl,rfl⟩,h,⟨rfl,rfl,rfl⟩,by simp,by simp⟩
 | i+1,[],[d],_,_,_,_,_,hi=>by simp at hi
 | _,[],_ :: _ :: _,_,_,_,_,h,_=>h.elim
 | _,k :: ks,[],_,_,_,_,h,_=>h.elim
 | 0,k :: ks,d :: ds,lo,hi,ps,gs,h,_=>by
   obtain ⟨p1,p2,g1,g2,hp,hg,h1,h2⟩:=h;exact ⟨lo,some k,[],p1,p2,[],g1,g2,⟨rfl,rfl,rfl⟩,h1,⟨rfl,h2⟩,by simp [hp],by simp [hg]⟩
 | i+1,k :: ks,d :: ds,lo,hi,ps,gs,h,hi'=>by
   obtain ⟨p1,p2,g1,g2,rfl,rfl,h1,h2⟩:=h;obtain ⟨lo',hi',q1,q2,q3,r1,r2,r3,e1,e2,e3,rfl,rfl⟩:=d9 (i:=i) h2 (by simpa using hi');exact ⟨lo',hi',p1 ++ q1,q2,q3,g1 ++ r1,r2,r3,⟨p1,q1,g1,r1,rfl,rfl,h1,e1⟩,e2,e3,by simp,by simp⟩
theorem eJ:∀ {a:List By} {c:List Int} {b:List By} {e:List Int} {d:Int} {lo lo':By} {hi hi':Option By} {p1 p2 p3:List Pr} {g1 g2 g3:List Int},
  kR T lo a c lo' p1 g1→T d lo' hi' p2 g2→kK T hi' b hi e p3 g3→dP T lo (a ++ b) hi (c ++ d :: e) (p1 ++ (p2 ++ p3)) (g1 ++ (g2 ++ g3))
 | [],[],[],[],_,_,_,_,_,_,_,_,_,_,_,h1,h2,h3=>by
   obtain ⟨rfl,rfl,rfl⟩:=h1;obtain ⟨rfl,rfl,rfl⟩:=h3;simp only [List.nil_append,List.append_nil];exact h2
 | [],[],[],_ :: _,_,_,_,_,_,_,_,_,_,_,_,_,_,h=>h.elim
 | [],[],k :: ks,e,_,_,_,_,_,_,_,_,_,_,_,h1,h2,h3=>by
   obtain ⟨rfl,rfl,rfl⟩:=h1;obtain ⟨rfl,h3⟩:=h3;exact ⟨_,_,_,_,by simp,by simp,h2,h3⟩
 | [],_ :: _,_,_,_,_,_,_,_,_,_,_,_,_,_,h,_,_=>h.elim
 | _ :: _,[],_,_,_,_,_,_,_,_,_,_,_,_,_,h,_,_=>h.elim
 | k :: ks,x :: c,b,e,d,lo,lo',hi,hi',_,_,_,_,_,_,h,h2,h3=>by
   obtain ⟨q1,q2,r1,r2,rfl,rfl,h1,h4⟩:=h;exact ⟨q1,_,r1,_,by simp only [List.append_assoc],by simp only [List.append_assoc],h1,eJ h4 h2 h3⟩
theorem l7:∀ {a:List By} {c:List Int} {lo lo':By} {p:List Pr} {g:List Int},kR T lo a c lo' p g→c.length=a.length
 | [],[],_,_,_,_,_=>rfl
 | [],_ :: _,_,_,_,_,h=>h.elim
 | _ :: _,[],_,_,_,_,h=>h.elim
 | k :: ks,d :: ds,_,_,_,_,h=>by
   obtain ⟨_,_,_,_,_,_,_,h⟩:=h;simp [l7 h]
theorem j9:∀ {a:List By} {c:List Int} {lo lo' k:By} {d:Int} {p:List Pr} {g:List Int},c.length=a.length→kR T lo (a ++ [k]) (c ++ [d]) lo' p g→
  ∃ l p1 p2 g1 g2,lo'=k∧p=p1 ++ p2∧g=g1 ++ g2∧kR T lo a c l p1 g1∧T d l (some k) p2 g2
 | [],[],lo,lo',k,d,_,_,_,h=>by
   obtain ⟨p1,p2,g1,g2,rfl,rfl,h1,h2⟩:=h;obtain ⟨rfl,rfl,rfl⟩:=h2;exact ⟨lo,[],p1,[],g1,rfl,by simp,by simp,⟨rfl,rfl,rfl⟩,h1⟩
 | [],_ :: _,_,_,_,_,_,_,h,_=>by simp at h
 | _ :: _,[],_,_,_,_,_,_,h,_=>by simp at h
 | k' :: ks,x :: c,lo,lo',k,d,_,_,hl,h=>by
   obtain ⟨q1,q2,r1,r2,rfl,rfl,h1,h4⟩:=h;obtain ⟨l,p1,p2,g1,g2,rfl,rfl,rfl,h5,h6⟩:=j9 (by simpa using hl) h4;exact ⟨l,q1 ++ p1,p2,r1 ++ g1,g2,rfl,by simp,by simp,⟨q1,p1,r1,g1,rfl,rfl,h1,h5⟩,h6⟩
theorem qz {b:List By} {e:List Int} {k:By} {d:Int} {hi hi':Option By} {p2 p3:List Pr} {g2 g3:List Int} (h:T d k hi' p2 g2) (h3:kK T hi' b hi e p3 g3):kK T (some k) (k :: b) hi (d :: e) (p2 ++ p3) (g2 ++ g3):=
 ⟨rfl,by simpa using eJ (a:=[]) (c:=[]) (lo:=k) (p1:=[]) (g1:=[]) ⟨rfl,rfl,rfl⟩ h h3⟩
theorem nU {b:List By} {e:List Int} {k:By} {d:Int} {hi hi':Option By} {p:List Pr} {g:List Int} (h:kK T hi' (k :: b) hi (d :: e) p g):∃ h2 p2 p3 g2 g3,hi'=some k∧p=p2 ++ p3∧g=g2 ++ g3∧T d k h2 p2 g2∧kK T h2 b hi e p3 g3:=by obtain ⟨rfl,h⟩:=h;obtain ⟨lo',hi',p1,p2,p3,g1,g2,g3,h1,h2,h3,rfl,rfl⟩:=d9 (i:=0) h (by simp);obtain ⟨rfl,rfl,rfl⟩:=h1;exact ⟨hi',p2,p3,g2,g3,rfl,rfl,rfl,h2,h3⟩
theorem rL {b:List By} {e:List Int} {hi hi':Option By} {p:List Pr} {g:List Int} (h:kK T hi' b hi e p g):e.length=b.length:=by
 cases b with
 | nil=>cases e with
   | nil=>rfl
   | cons=>exact h.elim
 | cons k b=>have:=dJ h.2;simp [this]
theorem ja:∀ {ks:List By} {ds:List Int} {lo:By} {hi:Option By} {ps:List Pr} {gs:List Int},(∀ d lo hi ps g,(∀ q ∈ g,q ∈ gs)→T d lo hi ps g→T' d lo hi ps g)→dP T lo ks hi ds ps gs→dP T' lo ks hi ds ps gs
 | [],[],_,_,_,_,_,h=>h.elim
 | [],[d],_,_,_,_,hm,h=>hm _ _ _ _ _ (fun _ h=>h) h
 | [],_ :: _ :: _,_,_,_,_,_,h=>h.elim
 | k :: ks,[],_,_,_,_,_,h=>h.elim
 | k :: ks,d :: ds,_,_,_,_,hm,h=>by
   obtain ⟨p1,p2,g1,g2,rfl,rfl,h1,h2⟩:=h;exact ⟨p1,p2,g1,g2,rfl,rfl,hm _ _ _ _ _ (fun q hq=>List.mem_append_left _ hq) h1,ja (fun d lo hi ps g hg=>hm d lo hi ps g fun q hq=>List.mem_append_right _ (hg q hq)) h2⟩
theorem mN:∀ {ks:List By} {ds:List Int} {lo lo':By} {ps:List Pr} {gs:List Int},(∀ d lo hi ps g,(∀ q ∈ g,q ∈ gs)→T d lo hi ps g→T' d lo hi ps g)→kR T lo ks ds lo' ps gs→kR T' lo ks ds lo' ps gs
 | [],[],_,_,_,_,_,h=>h
 | [],_ :: _,_,_,_,_,_,h=>h.elim
 | _ :: _,[],_,_,_,_,_,h=>h.elim
 | k :: ks,d :: ds,_,_,_,_,hm,h=>by
   obtain ⟨p1,p2,g1,g2,rfl,rfl,h1,h2⟩:=h;exact ⟨p1,p2,g1,g2,rfl,rfl,hm _ _ _ _ _ (fun q hq=>List.mem_append_left _ hq) h1,mN (fun d lo hi ps g hg=>hm d lo hi ps g fun q hq=>List.mem_append_right _ (hg q hq)) h2⟩
theorem qy {b:List By} {e:List Int} {hi hi':Option By} {p:List Pr} {g:List Int} (hm:∀ d lo hi ps g',(∀ q ∈ g',q ∈ g)→T d lo hi ps g'→T' d lo hi ps g') (h:kK T hi' b hi e p g):kK T' hi' b hi e p g:=by
 cases b with
 | nil=>cases e with
   | nil=>exact h
   | cons=>exact h.elim
 | cons k b=>exact ⟨h.1,ja hm h.2⟩
theorem jf {lo k x:By} {hi:Option By} (h1:bK k lo=false) (h:rH k hi x):rH lo hi x:=⟨lz h1 h.1,h.2⟩
structure Fine (T:TP):Prop where
 ne:∀ {d lo hi ps gs},T d lo hi ps gs→ps≠[]
 inb:∀ {d lo hi ps gs},T d lo hi ps gs→∀ p ∈ ps,rH lo hi p.1
 srt:∀ {d lo hi ps gs},T d lo hi ps gs→tU ps
 len:∀ {d lo hi ps gs},T d lo hi ps gs→∀ p ∈ ps,p.1.length≤64
theorem fr (hT:Fine T):∀ {ks:List By} {ds:List Int} {lo:By} {hi:Option By} {ps:List Pr} {gs:List Int},dP T lo ks hi ds ps gs→
  ps≠[]∧(∀ p ∈ ps,rH lo hi p.1)∧tU ps∧(∀ p ∈ ps,p.1.length≤64)∧(∀ k ∈ ks,bK lo k=true∧∀ h,hi=some h→bK k h=true)∧ks.Pairwise (fun a b=>bK a b=true)
 | [],[],_,_,_,_,h=>h.elim
 | [],[d],_,_,_,_,h=>⟨hT.ne h,hT.inb h,hT.srt h,hT.len h,fun _ hk=>absurd hk List.not_mem_nil,List.Pairwise.nil⟩
 | [],_ :: _ :: _,_,_,_,_,h=>h.elim
 | k :: ks,[],_,_,_,_,h=>h.elim
 | k :: ks,d :: ds,lo,hi,_,_,h=>by
   obtain ⟨p1,p2,g1,g2,rfl,rfl,h1,h2⟩:=h;obtain ⟨i1,i2,i3,i4,i5,i6⟩:=fr hT h2;have j1:=hT.ne h1;have j2:=hT.inb h1;have j3:=hT.srt h1;have hlk:bK lo k=true:=by
    cases p1 with
    | nil=>exact absurd rfl j1
    | cons x xs=> have:=j2 x List.mem_cons_self;exact d8 (this.1) (this.2 k rfl)
   have hkl:bK k lo=false:=bg hlk;have hkh:∀ h,hi=some h→bK k h=true:=by
    cases p2 with
    | nil=>exact absurd rfl i1
    | cons x xs=> have:=i2 x List.mem_cons_self;exact fun h e=>d8 this.1 (this.2 h e)
   refine ⟨by simp [j1],fun p hp=>?_,?_,fun p hp=>?_,fun x hx=>?_,?_⟩
   ·rcases List.mem_append.1 hp with hp | hp
    ·exact ⟨(j2 p hp).1,fun h e=>cX ((j2 p hp).2 k rfl) (hkh h e)⟩
    ·exact jf hkl (i2 p hp)
   ·refine List.pairwise_append.2 ⟨j3,i3,fun a ha b hb=>?_⟩;exact dr ((j2 a ha).2 k rfl) (i2 b hb).1
   ·rcases List.mem_append.1 hp with hp | hp
    ·exact hT.len h1 p hp
    ·exact i4 p hp
   ·rcases List.mem_cons.1 hx with rfl | hx
    ·exact ⟨hlk,hkh⟩
    ·exact ⟨cX hlk (i5 x hx).1,(i5 x hx).2⟩
   ·exact List.pairwise_cons.2 ⟨fun x hx=>(i5 x hx).1,i6⟩
theorem ke (hT:Fine T):∀ {ks:List By} {ds:List Int} {lo lo':By} {ps:List Pr} {gs:List Int},kR T lo ks ds lo' ps gs→
  (∀ p ∈ ps,rH lo (some lo') p.1)∧bK lo' lo=false∧(lo'=lo∨lo' ∈ ks)
 | [],[],_,_,_,_,⟨rfl,rfl,rfl⟩=>⟨fun _ h=>absurd h List.not_mem_nil,dA _,.inl rfl⟩
 | [],_ :: _,_,_,_,_,h=>h.elim
 | _ :: _,[],_,_,_,_,h=>h.elim
 | k :: ks,d :: ds,lo,lo',_,_,h=>by
   obtain ⟨p1,p2,g1,g2,rfl,rfl,h1,h2⟩:=h;obtain ⟨i1,i2,i3⟩:=ke hT h2;have j1:=hT.ne h1;have j2:=hT.inb h1;have hlk:bK lo k=true:=by
    cases p1 with
    | nil=>exact absurd rfl j1
    | cons x xs=> have:=j2 x List.mem_cons_self;exact d8 (this.1) (this.2 k rfl)
   refine ⟨fun p hp=>?_,lz (bg hlk) i2,.inr ?_⟩
   ·rcases List.mem_append.1 hp with hp | hp
    ·exact ⟨(j2 p hp).1,fun h e=>by injection e with e;subst e;exact dr ((j2 p hp).2 k rfl) i2⟩
    ·exact jf (bg hlk) (i1 p hp)
   ·rcases i3 with rfl | i3
    ·exact List.mem_cons_self
    ·exact List.mem_cons_of_mem _ i3
theorem mv (hT:Fine T) {b:List By} {e:List Int} {hi hi':Option By} {p:List Pr} {g:List Int} (h:kK T hi' b hi e p g):
  (∀ x ∈ p,∃ h,hi'=some h∧bK x.1 h=false)∧(∀ h,hi=some h→∃ h',hi'=some h'∧bK h h'=false)∧(hi'=hi∨∃ k ∈ b,hi'=some k):=by
 cases b with
 | nil=>cases e with
   | nil=>obtain ⟨rfl,rfl,rfl⟩:=h;exact ⟨fun _ h=>absurd h List.not_mem_nil,fun h e=>⟨h,e,dA _⟩,.inl rfl⟩
   | cons=>exact h.elim
 | cons k b=>
   obtain ⟨rfl,h⟩:=h;have:=fr hT h;refine ⟨fun x hx=>⟨k,rfl,(this.2.1 x hx).1⟩,fun h e=>⟨k,rfl,?_⟩,.inr ⟨k,List.mem_cons_self,rfl⟩⟩;obtain ⟨h1,h2,_⟩:=this;cases p with
   | nil=>exact absurd rfl h1
   | cons x xs=> have:=h2 x List.mem_cons_self;exact bg (d8 this.1 (this.2 _ e))
end
theorem eb {B B':Int→By}:∀ {ks:List By} {cs:List Ce} {ps:List Pr} {gs:List Int},dw B ks cs ps gs→(∀ q ∈ gs,B' q=B q)→dw B' ks cs ps gs
 | [],[],_,_,h,_=>h
 | [],_ :: _,_,_,h,_=>h.elim
 | _ :: _,[],_,_,h,_=>h.elim
 | k :: ks,c :: cs,_,_,h,hb=>by
   obtain ⟨v,g1,p2,g2,rfl,rfl,h1,h2⟩:=h;exact ⟨v,g1,p2,g2,rfl,rfl,h1.congr fun q hq=>hb q (List.mem_append_left _ hq),eb h2 fun q hq=>hb q (List.mem_append_right _ hq)⟩
theorem cz {B:Int→By}:∀ {ks:List By} {cs:List Ce} {ps:List Pr} {gs:List Int},dw B ks cs ps gs→ks=ps.map (·.1)∧cs.length=ks.length∧∀ c ∈ cs,aE c=true
 | [],[],_,_,⟨rfl,rfl⟩=>⟨rfl,rfl,fun _ h=>absurd h List.not_mem_nil⟩
 | [],_ :: _,_,_,h=>h.elim
 | _ :: _,[],_,_,h=>h.elim
 | k :: ks,c :: cs,_,_,h=>by
   obtain ⟨v,g1,p2,g2,rfl,rfl,h1,h2⟩:=h;obtain ⟨i1,i2,i3⟩:=cz h2;refine ⟨by simp [← i1],by simp [i2],fun x hx=>?_⟩;rcases List.mem_cons.1 hx with rfl | hx
   ·exact h1.1
   ·exact i3 x hx
theorem ig {B:Int→By}:∀ (i:Nat) {ks:List By} {cs:List Ce} {ps:List Pr} {gs:List Int},dw B ks cs ps gs→
  ∃ p1 p2 g1 g2,ps=p1 ++ p2∧gs=g1 ++ g2∧dw B (ks.take i) (cs.take i) p1 g1∧dw B (ks.drop i) (cs.drop i) p2 g2
 | 0,ks,cs,ps,gs,h=>⟨[],ps,[],gs,rfl,rfl,⟨rfl,rfl⟩,h⟩
 | i+1,[],[],_,_,⟨rfl,rfl⟩=>⟨[],[],[],[],rfl,rfl,⟨rfl,rfl⟩,⟨rfl,rfl⟩⟩
 | i+1,[],_ :: _,_,_,h=>h.elim
 | i+1,_ :: _,[],_,_,h=>h.elim
 | i+1,k :: ks,c :: cs,_,_,h=>by
   obtain ⟨v,g1,p2,g2,rfl,rfl,h1,h2⟩:=h;obtain ⟨q1,q2,r1,r2,rfl,rfl,h3,h4⟩:=ig i h2;exact ⟨(k,v) :: q1,q2,g1 ++ r1,r2,rfl,by simp,⟨v,g1,q1,r1,rfl,rfl,h1,h3⟩,h4⟩
theorem gW {B:Int→By}:∀ {k1 k2:List By} {c1 c2:List Ce} {p1 p2:List Pr} {g1 g2:List Int},dw B k1 c1 p1 g1→dw B k2 c2 p2 g2→dw B (k1 ++ k2) (c1 ++ c2) (p1 ++ p2) (g1 ++ g2)
 | [],_,[],_,_,_,_,_,⟨rfl,rfl⟩,h=>h
 | [],_,_ :: _,_,_,_,_,_,h,_=>h.elim
 | _ :: _,_,[],_,_,_,_,_,h,_=>h.elim
 | k :: ks,_,c :: cs,_,_,_,_,_,h,h2=>by
   obtain ⟨v,g1,p2,g2,rfl,rfl,h1,h3⟩:=h;exact ⟨v,g1,_,_,rfl,by simp only [List.append_assoc],h1,gW h3 h2⟩
theorem rises_pw:∀ {l:List By},aO l=true↔(∀ k ∈ l,k.length≤64)∧l.Pairwise (fun a b=>bK a b=true)
 | []=>by simp [aO]
 | [a]=>by simp [aO]
 | a :: b :: r=>by
   rw [aO,Bool.and_eq_true,Bool.and_eq_true,decide_eq_true_eq,rises_pw];constructor
   ·rintro ⟨⟨h1,h2⟩,h3,h4⟩;refine ⟨fun k hk=>?_,List.pairwise_cons.2 ⟨fun k hk=>?_,h4⟩⟩
    ·rcases List.mem_cons.1 hk with rfl | hk
     ·exact h1
     ·exact h3 k hk
    ·rcases List.mem_cons.1 hk with rfl | hk
     ·exact h2
     ·exact cX h2 ((List.pairwise_cons.1 h4).1 k hk)
   ·rintro ⟨h1,h2⟩;have:=List.pairwise_cons.1 h2;exact ⟨⟨h1 a List.mem_cons_self,this.1 b List.mem_cons_self⟩,fun k hk=>h1 k (List.mem_cons_of_mem _ hk),this.2⟩
theorem cj (B:Int→By):∀ (d:Nat) {n:Nd} {lo:By} {hi:Option By} {ps:List Pr} {gs:List Int},bf B d n lo hi ps gs→
  (∀ p ∈ ps,rH lo hi p.1)∧tU ps∧(∀ p ∈ ps,p.1.length≤64)∧aO n.keys=true
 | 0,n,lo,hi,ps,gs,h=>by
   obtain ⟨h1,h2,h3,h4,h5⟩:=h;obtain ⟨e,_⟩:=cz h5;have hr:=rises_pw.1 h3;refine ⟨fun p hp=>h4 _ (by rw [e];exact List.mem_map_of_mem hp),?_,fun p hp=>hr.1 _ (by rw [e];exact List.mem_map_of_mem hp),h3⟩;rw [e] at hr;exact List.pairwise_map.1 hr.2
 | d+1,n,lo,hi,ps,gs,h=>by
   obtain ⟨h1,h2,h3,h4⟩:=node_succ.1 h;have hT:Fine (iJ B d):=⟨fun h=>h.1,fun h=>let ⟨_,_,_,_,_,h⟩:=h;(cj B d h).1,fun h=>let ⟨_,_,_,_,_,h⟩:=h;(cj B d h).2.1,fun h=>let ⟨_,_,_,_,_,h⟩:=h;(cj B d h).2.2.1⟩;obtain ⟨i1,i2,i3,i4,i5,i6⟩:=fr hT h4;exact ⟨i2,i3,i4,rises_pw.2 ⟨h3,i6⟩⟩
theorem gi (B:Int→By) (d:Nat):Fine (iJ B d):=⟨fun h=>h.1,fun h=>let ⟨_,_,_,_,_,h⟩:=h;(cj B d h).1,fun h=>let ⟨_,_,_,_,_,h⟩:=h;(cj B d h).2.1,fun h=>let ⟨_,_,_,_,_,h⟩:=h;(cj B d h).2.2.1⟩
theorem bZ {B B':Int→By}:∀ (d:Nat) {n:Nd} {lo:By} {hi:Option By} {ps:List Pr} {gs:List Int},bf B d n lo hi ps gs→(∀ q ∈ gs,B' q=B q)→bf B' d n lo hi ps gs
 | 0,n,lo,hi,ps,gs,h,hb=>by
   obtain ⟨h1,h2,h3,h4,h5⟩:=h;exact ⟨h1,h2,h3,h4,eb h5 hb⟩
 | d+1,n,lo,hi,ps,gs,h,hb=>by
   obtain ⟨h1,h2,h3,h4⟩:=node_succ.1 h;refine node_succ.2 ⟨h1,h2,h3,ja (fun p lo hi ps g hg hs=>?_) h4⟩;obtain ⟨hs0,m,g',hs1,rfl,hs2⟩:=hs;exact ⟨hs0,m,g',by rw [hb p (hg p List.mem_cons_self)];exact hs1,rfl,bZ d hs2 fun q hq=>hb q (hg q (List.mem_cons_of_mem _ hq))⟩
theorem gP {B B':Int→By} {d:Nat} {p:Int} {lo:By} {hi:Option By} {ps:List Pr} {gs:List Int} (h:iJ B d p lo hi ps gs) (hb:∀ q ∈ gs,B' q=B q):iJ B' d p lo hi ps gs:=by obtain ⟨hs0,m,g',hs1,rfl,hs2⟩:=h;exact ⟨hs0,m,g',by rw [hb p List.mem_cons_self];exact hs1,rfl,bZ d hs2 fun q hq=>hb q (List.mem_cons_of_mem _ hq)⟩
theorem oW {B:Int→By} {d:Nat}:∀ {ks:List By} {ds:List Int} {lo:By} {hi:Option By} {ps:List Pr} {gs:List Int},dP (iJ B d) lo ks hi ds ps gs→ds.Sublist gs
 | [],[],_,_,_,_,h=>h.elim
 | [],[x],_,_,_,_,h=>by
   obtain ⟨_,m,g,_,rfl,_⟩:=h;exact List.Sublist.cons_cons _ (List.nil_sublist _)
 | [],_ :: _ :: _,_,_,_,_,h=>h.elim
 | k :: ks,[],_,_,_,_,h=>h.elim
 | k :: ks,x :: ds,_,_,_,_,h=>by
   obtain ⟨p1,p2,g1,g2,rfl,rfl,h1,h2⟩:=h;obtain ⟨_,m,g,_,rfl,_⟩:=h1;exact List.Sublist.cons_cons _ ((oW h2).trans (List.sublist_append_right _ _))
theorem iZ {B:Int→By} {d:Nat} {n:Nd} {lo:By} {hi:Option By} {ps:List Pr} {gs:List Int} (h:bf B d n lo hi ps gs) (hn:gs.Nodup) (hp:∀ q ∈ gs,cm q=true) (hk:d≠0→n.keys≠[]):aB n=true:=by
 obtain ⟨_,_,_,hr⟩:=cj B d h;obtain ⟨nl,nk,nc,nd⟩:=n;cases d with
 | zero=> obtain ⟨h1,h2,h3,h4,h5⟩:=h;simp only at h1 h2;subst h1 h2;obtain ⟨_,e,hc⟩:=cz h5;exact fd hr e hc
 | succ d=> obtain ⟨h1,h2,h3,h4⟩:=node_succ.1 h;simp only at h1 h2;subst h1 h2;have hs:=oW h4;exact dM hr (hk (by omega)) (dJ h4) (hn.sublist hs) fun q hq=>hp q (hs.subset hq)
end Go.Proofs.YtknioodagnjchaaGreatDoor
namespace Go.Proofs.YtknioodagnjchaaGreatDoor
theorem oG {α:Type} (p:α→Bool):∀ l:List α,l.take (l.takeWhile p).length=l.takeWhile p
 | []=>rfl
 | a :: l=>by
   rw [List.takeWhile_cons]
   split
   ·rw [List.length_cons,List.take_succ_cons,oG p l]
   ·rfl
theorem oH {α:Type} (p:α→Bool):∀ l:List α,l.drop (l.takeWhile p).length=l.dropWhile p
 | []=>rfl
 | a :: l=>by
   rw [List.takeWhile_cons,List.dropWhile_cons]
   split
   ·rw [List.length_cons,List.drop_succ_cons,oH p l]
   ·rfl
theorem ta {α:Type} {p:α→Bool} {l:List α} {x:α} (h:x ∈ l.takeWhile p):p x=true:=by
 induction l with
 | nil=>exact absurd h List.not_mem_nil
 | cons a l ih=>
   rw [List.takeWhile_cons] at h
   split at h
   ·rcases List.mem_cons.1 h with rfl | h
    ·assumption
    ·exact ih h
   ·exact absurd h List.not_mem_nil
theorem tR {ks:List By} {k:By} (hs:ks.Pairwise fun a b=>bK a b=true):∀ x ∈ ks.dropWhile (fun x=>bK x k),bK x k=false:=by
 induction ks with
 | nil=>intro x h;exact absurd h List.not_mem_nil
 | cons a l ih=>
   have h1:=List.pairwise_cons.1 hs;intro x hx;rw [List.dropWhile_cons] at hx
   split at hx
   ·exact ih h1.2 x hx
   ·rename_i ha
    have ha':bK a k=false:=by simpa using ha
    rcases List.mem_cons.1 hx with rfl | hx
    ·exact ha'
    ·cases h2:bK x k
     ·rfl
     ·have:=cX (h1.1 x hx) h2;rw [ha'] at this;cases this
theorem gR {ks:List By} {k:By} (hs:ks.Pairwise fun a b=>bK a b=true):(∀ x ∈ ks.take (bB ks k),bK x k=true)∧(∀ x ∈ ks.drop (bB ks k),bK x k=false)∧bB ks k≤ks.length:=by unfold bB;rw [oG,oH];exact ⟨fun x hx=>ta (p:=fun x=>bK x k) hx,tR hs,(List.takeWhile_sublist _).length_le⟩
theorem eE {ks:List By} {k:By} (h:fO ks k=true):bB ks k<ks.length∧ks[bB ks k]?=some k∧ks.drop (bB ks k)=k :: ks.drop (bB ks k+1):=by
 have h1:ks[bB ks k]?=some k:=by simpa [fO] using h
 obtain ⟨hl,h2⟩:=List.getElem?_eq_some_iff.1 h1;refine ⟨hl,h1,?_⟩;rw [List.drop_eq_getElem_cons hl,h2]
theorem je {ks:List By} {k:By} (hs:ks.Pairwise fun a b=>bK a b=true) (h:fO ks k=false):∀ x ∈ ks.drop (bB ks k),bK k x=true:=by
 intro x hx;have h1:=(gR (k:=k) hs).2.1;rcases hd:ks.drop (bB ks k) with _ | ⟨y,l⟩
 ·rw [hd] at hx;exact absurd hx List.not_mem_nil
 ·have hy:ks[bB ks k]?=some y:=by have:=congrArg List.head? hd;rw [List.head?_drop] at this;simpa using this
  have hne:y≠k:=by rintro rfl;unfold fO at h;rw [hy] at h;simp at h
  have hyk:bK k y=true:=oe (h1 y (by rw [hd];simp)) hne;have hpw:(y :: l).Pairwise fun a b=>bK a b=true:=by rw [← hd];exact hs.sublist (List.drop_sublist _ _)
  rw [hd] at hx;rcases List.mem_cons.1 hx with rfl | hx
  ·exact hyk
  ·exact cX hyk ((List.pairwise_cons.1 hpw).1 x hx)
theorem m7 {n:Nd} {k:By} (hs:n.keys.Pairwise fun a b=>bK a b=true):(∀ x ∈ n.keys.take (bT n k),bK k x=false)∧(∀ x ∈ n.keys.drop (bT n k),bK k x=true)∧bT n k≤n.keys.length:=by
 obtain ⟨h1,h2,h3⟩:=gR (k:=k) hs;unfold bT;cases hi:fO n.keys k
 ·rw [if_neg (by simp)];exact ⟨fun x hx=>bg (h1 x hx),je hs hi,h3⟩
 ·obtain ⟨i1,i2,i3⟩:=eE hi;rw [if_pos rfl];refine ⟨fun x hx=>?_,fun x hx=>?_,i1⟩
  ·rw [List.take_add_one,i2] at hx;rcases List.mem_append.1 hx with hx | hx
   ·exact bg (h1 x hx)
   ·rw [show x=k by simpa using hx];exact dA k
  ·have hpw:(k :: n.keys.drop (bB n.keys k+1)).Pairwise fun a b=>bK a b=true:=by rw [← i3];exact hs.sublist (List.drop_sublist _ _)
   exact (List.pairwise_cons.1 hpw).1 x hx
def qW (ps:List Pr) (k:By):List Pr:=ps.filter fun p=>bK p.1 k
def o6 (ps:List Pr) (k:By):List Pr:=ps.filter fun p=>bK k p.1
def iw (ps:List Pr) (k v:By):List Pr:=qW ps k ++ (k,v) :: o6 ps k
def fT (ps:List Pr) (k:By):Option By:=(ps.find? fun p=>p.1 == k).map (·.2)
theorem oR {ps:List Pr} {k:By} (h:∀ p ∈ ps,bK p.1 k=true):qW ps k=ps:=List.filter_eq_self.2 h
theorem mV {ps:List Pr} {k:By} (h:∀ p ∈ ps,bK p.1 k=false):qW ps k=[]:=List.filter_eq_nil_iff.2 fun p hp=>by rw [h p hp];simp
theorem mj {ps:List Pr} {k:By} (h:∀ p ∈ ps,bK k p.1=true):o6 ps k=ps:=List.filter_eq_self.2 h
theorem kq {ps:List Pr} {k:By} (h:∀ p ∈ ps,bK k p.1=false):o6 ps k=[]:=List.filter_eq_nil_iff.2 fun p hp=>by rw [h p hp];simp
theorem me (a b:List Pr) (k:By):qW (a ++ b) k=qW a k ++ qW b k:=List.filter_append ..
theorem jH (a b:List Pr) (k:By):o6 (a ++ b) k=o6 a k ++ o6 b k:=List.filter_append ..
theorem qK {a b c:List Pr} {k v:By} (h1:∀ p ∈ a,bK p.1 k=true) (h2:∀ p ∈ c,bK k p.1=true):iw (a ++ (b ++ c)) k v=a ++ (iw b k v ++ c):=by unfold iw;rw [me,me,jH,jH,oR h1,kq (fun p hp=>bg (h1 p hp)),mV (fun p hp=>bg (h2 p hp)),mj h2];simp
theorem kr {a b c:List Pr} {k:By} (h1:∀ p ∈ a,p.1≠k) (h2:∀ p ∈ c,p.1≠k):fT (a ++ (b ++ c)) k=fT b k:=by unfold fT;have e2:c.find? (fun p=>p.1 == k)=none:=List.find?_eq_none.2 (fun p hp=>by simpa using h2 p hp);rw [List.find?_append,List.find?_append,List.find?_eq_none.2 (fun p hp=>by simpa using h1 p hp),e2];simp
theorem pY {ps:List Pr} {k:By} (h:∀ p ∈ ps,p.1≠k):fT ps k=none:=by unfold fT;rw [List.find?_eq_none.2 (fun p hp=>by simpa using h p hp)];rfl
theorem ni (k v:By):fT [(k,v)] k=some v:=by simp [fT]
theorem tb {ps:List Pr} {k:By}:∀ p ∈ qW ps k,bK p.1 k=true:=fun _ hp=>(List.mem_filter.1 hp).2
theorem ti {ps:List Pr} {k:By}:∀ p ∈ o6 ps k,bK k p.1=true:=fun _ hp=>(List.mem_filter.1 hp).2
theorem nh (ps:List Pr) (k v x:By):fT (iw ps k v) x=if x=k then some v else fT ps x:=by
 by_cases h:x=k
 ·subst h;rw [if_pos rfl];unfold iw;have:=kr (a:=qW ps x) (b:=[(x,v)]) (c:=o6 ps x) (k:=x) (fun p hp=>fN (tb p hp)) (fun p hp=>(fN (ti p hp)).symm);rw [List.singleton_append] at this;rw [this,ni]
 ·rw [if_neg h];unfold fT iw;rw [List.find?_append,List.find?_cons_of_neg (by simpa using fun e=>h e.symm)];unfold qW o6;rw [List.find?_filter,List.find?_filter];rcases fM x k with hx | hx | hx
  ·have e1:(fun a:Pr=>decide (bK a.1 k=true∧(a.1 == x)=true))=fun a=>a.1 == x:=by
    funext a;by_cases e:a.1=x
    ·simp [e,hx]
    ·simp [e]
   have e2:List.find? (fun a:Pr=>decide (bK k a.1=true∧(a.1 == x)=true)) ps=none:=List.find?_eq_none.2 fun a _=>by
    by_cases e:a.1=x
    ·simp [e,bg hx]
    ·simp [e]
   rw [e1,e2,Option.or_none]
  ·exact absurd hx h
  ·have e1:(fun a:Pr=>decide (bK k a.1=true∧(a.1 == x)=true))=fun a=>a.1 == x:=by
    funext a;by_cases e:a.1=x
    ·simp [e,hx]
    ·simp [e]
   have e2:List.find? (fun a:Pr=>decide (bK a.1 k=true∧(a.1 == x)=true)) ps=none:=List.find?_eq_none.2 fun a _=>by
    by_cases e:a.1=x
    ·simp [e,bg hx]
    ·simp [e]
   rw [e1,e2,Option.none_or]
theorem kj {B:Int→By} {n:Nd} {lo:By} {hi:Option By} {ps:List Pr} {gs:List Int} (h:bf B 0 n lo hi ps gs) (k:By):
  ∃ g1 g2,gs=g1 ++ g2∧dw B (n.keys.take (bB n.keys k)) (n.cells.take (bB n.keys k)) (qW ps k) g1∧
    (fO n.keys k=false→fT ps k=none∧dw B (n.keys.drop (bB n.keys k)) (n.cells.drop (bB n.keys k)) (o6 ps k) g2)∧
    (fO n.keys k=true→∃ v g3 g4,g2=g3 ++ g4∧fT ps k=some v∧Cel B (n.cells.getD (bB n.keys k) ⟨0,[],0⟩) v g3∧dw B (n.keys.drop (bB n.keys k+1)) (n.cells.drop (bB n.keys k+1)) (o6 ps k) g4):=by
 obtain ⟨_,_,h3,_,h5⟩:=h;have hs:=(rises_pw.1 h3).2;obtain ⟨i1,i2,i3⟩:=gR (k:=k) hs;obtain ⟨p1,p2,g1,g2,rfl,rfl,e1,e2⟩:=ig (bB n.keys k) h5;have k1:=(cz e1).1;have k2:=(cz e2).1;have a1:∀ p ∈ p1,bK p.1 k=true:=fun p hp=>i1 _ (by rw [k1];exact List.mem_map_of_mem hp)
 have a2:∀ p ∈ p2,bK p.1 k=false:=fun p hp=>i2 _ (by rw [k2];exact List.mem_map_of_mem hp)
 refine ⟨g1,g2,rfl,?_,fun hi=>?_,fun hi=>?_⟩
 ·rw [me,oR a1,mV a2,List.append_nil];exact e1
 ·have a3:∀ p ∈ p2,bK k p.1=true:=fun p hp=>je hs hi _ (by rw [k2];exact List.mem_map_of_mem hp)
  refine ⟨pY fun p hp=>?_,?_⟩
  ·rcases List.mem_append.1 hp with hp | hp
   ·exact fN (a1 p hp)
   ·exact (fN (a3 p hp)).symm
  ·rw [jH,kq (fun p hp=>bg (a1 p hp)),mj a3,List.nil_append];exact e2
 ·obtain ⟨j1,j2,j3⟩:=eE hi;have hcl:=(cz h5).2.1;have hc:n.cells.drop (bB n.keys k)=n.cells.getD (bB n.keys k) ⟨0,[],0⟩ :: n.cells.drop (bB n.keys k+1):=by rw [List.drop_eq_getElem_cons (by omega),List.getD_eq_getElem?_getD,List.getElem?_eq_getElem (by omega)];rfl
  rw [j3,hc] at e2;obtain ⟨v,g3,p3,g4,rfl,rfl,e3,e4⟩:=e2;have hpw:(k :: n.keys.drop (bB n.keys k+1)).Pairwise fun a b=>bK a b=true:=by rw [← j3];exact hs.sublist (List.drop_sublist _ _)
  have a3:∀ p ∈ p3,bK k p.1=true:=fun p hp=>(List.pairwise_cons.1 hpw).1 _ (by rw [(cz e4).1];exact List.mem_map_of_mem hp)
  refine ⟨v,g3,g4,rfl,?_,e3,?_⟩
  ·have:=kr (a:=p1) (b:=[(k,v)]) (c:=p3) (k:=k) (fun p hp=>fN (a1 p hp)) (fun p hp=>(fN (a3 p hp)).symm);rw [List.singleton_append] at this;rw [this,ni]
  ·rw [jH,kq (fun p hp=>bg (a1 p hp)),List.nil_append];unfold o6;rw [List.filter_cons_of_neg (by simp [dA])];rw [show List.filter (fun p:Pr=>bK k p.1) p3=p3 from mj a3];exact e4
theorem dZ:∀ (a b:List By) (c e:List Ce),c.length=a.length→bC (a ++ b) (c ++ e)=bC a c ++ bC b e
 | [],_,[],_,_=>rfl
 | [],_,_ :: _,_,h=>by simp at h
 | _ :: _,_,[],_,h=>by simp at h
 | k :: a,b,x :: c,e,h=>by simp [bC,dZ a b c e (by simpa using h)]
theorem nb:∀ (a b:List By) (c e:List Int),c.length=a.length→dR (a ++ b) (c ++ e)=dR a c ++ dR b e
 | [],_,[],_,_=>rfl
 | [],_,_ :: _,_,h=>by simp at h
 | _ :: _,_,[],_,h=>by simp at h
 | k :: a,b,x :: c,e,h=>by simp [dR,nb a b c e (by simpa using h)]
def br (n:Nd):Nat:=if n.leaf then (bC n.keys n.cells).length else (n.keys.map fun k=>(e9 k).length+4).sum
theorem m9:∀ (ks:List By) (ds:List Int),ds.length=ks.length→(dR ks ds).length=(ks.map fun k=>(e9 k).length+4).sum
 | [],[],_=>rfl
 | [],_ :: _,h=>by simp at h
 | _ :: _,[],h=>by simp at h
 | k :: ks,d :: ds,h=>by simp [dR,m9 ks ds (by simpa using h),ay];omega
theorem fB {n:Nd} (h:aB n=true):(ar n).length=br n+if n.leaf then 3 else 7:=by
 unfold ar br;cases hl:n.leaf
 ·obtain ⟨_,_,h2,_⟩:=aI h hl;simp [ay,m9 n.keys n.kids.tail (by rw [List.length_tail];omega)];omega
 ·simp [ay];omega
theorem dx {k:By} (h:k.length≤64):(e9 k).length=k.length+1:=by unfold e9;rw [List.length_append,cJ,if_pos (by omega)];omega
theorem nE {c:Ce} (h:aE c=true):(fA c).length≤42:=by
 unfold fA;rw [List.length_append,cJ];by_cases h2:40<c.size
 ·rw [if_pos h2,ay];split <;> omega
 ·obtain ⟨h3,h4,_⟩:=eS h h2;rw [if_neg h2,if_pos (by omega)];omega
def ew (ns:List Int) (n:Int):Nat:=(ns.takeWhile fun x=>!decide (x=n)).length
def nH (ns:List Int) (ds:List By) (n:Int):By:=ds.getD (ew ns n) blankL
theorem l8 (ns:List Int) (n:Int):ew ns n≤ns.length:=(List.takeWhile_sublist _).length_le
theorem gz (x:Int) (ns:List Int) (n:Int):ew (x :: ns) n=if x=n then 0 else ew ns n+1:=by unfold ew;rw [List.takeWhile_cons];by_cases h:x=n <;> simp [h]
theorem qN {ns:List Int} {n:Int} (h:ew ns n<ns.length):ns[ew ns n]=n:=by
 induction ns with
 | nil=>simp at h
 | cons x ns ih=>
   have e:=gz x ns n;by_cases hx:x=n
   ·rw [if_pos hx] at e;simp only [e];exact hx
   ·rw [if_neg hx] at e;simp only [e];rw [e] at h;exact ih (by simpa using h)
theorem rV {ns:List Int} {n m:Int}:ew (ns ++ [n]) m=if ew ns m<ns.length then ew ns m else if n=m then ns.length else ns.length+1:=by
 induction ns with
 | nil=>simp [gz];unfold ew;simp
 | cons x ns ih=>
   rw [List.cons_append,gz,gz,ih];by_cases hx:x=m
   ·simp [hx]
   ·rw [if_neg hx,if_neg hx];by_cases h1:ew ns m<ns.length
    ·rw [if_pos h1,if_pos (by simp only [List.length_cons];omega)]
    ·rw [if_neg h1,if_neg (show ¬ (ew ns m+1<(x :: ns).length) by simp only [List.length_cons];omega)];by_cases h2:n=m
     ·rw [if_pos h2,if_pos h2];simp
     ·rw [if_neg h2,if_neg h2];simp
theorem sG {ns:List Int} {ds:List By} {n:Int} {d:By} (hl:ns.length=ds.length) (h:ew ns n=ns.length):nH (ns ++ [n]) (ds ++ [d])=bx (nH ns ds) n d:=by
 funext m;unfold nH bx;show (ds ++ [d]).getD (ew (ns ++ [n]) m) blankL=if m=n then d else ds.getD (ew ns m) blankL
 rw [rV];by_cases hm:m=n
 ·subst hm;rw [if_neg (by omega),if_pos rfl,if_pos rfl,hl];simp
 ·rw [if_neg hm,if_neg (show ¬ n=m from fun e=>hm e.symm)];by_cases h1:ew ns m<ns.length
  ·rw [if_pos h1,List.getD_eq_getElem?_getD,List.getD_eq_getElem?_getD,List.getElem?_append_left (by omega)]
  ·rw [if_neg h1];have h2:=l8 ns m;rw [List.getD_eq_getElem?_getD,List.getD_eq_getElem?_getD,List.getElem?_eq_none (by simp;omega),List.getElem?_eq_none (by omega)]
theorem sE {ns:List Int} {ds:List By} {n:Int} {d:By} (hl:ns.length=ds.length) (h:ew ns n<ns.length):nH ns (ds.set (ew ns n) d)=bx (nH ns ds) n d:=by
 funext m;unfold nH bx;show (ds.set (ew ns n) d).getD (ew ns m) blankL=if m=n then d else ds.getD (ew ns m) blankL
 by_cases hm:m=n
 ·subst hm;rw [if_pos rfl,List.getD_eq_getElem?_getD,List.getElem?_set_self (by omega)];rfl
 ·rw [if_neg hm,List.getD_eq_getElem?_getD,List.getD_eq_getElem?_getD];by_cases h1:ew ns m<ns.length
  ·have hne:ew ns n≠ew ns m:=fun e=>by
    have a:=qN h;have b:=qN h1;simp only [e] at a;exact hm (b.symm.trans a)
   rw [List.getElem?_set_ne hne]
  ·have h2:=l8 ns m;rw [List.getElem?_eq_none (by simp;omega),List.getElem?_eq_none (by omega)]
theorem tv {ns:List Int} {ds:List By} {n:Int} (hl:ns.length=ds.length) (h:ew ns n<ns.length):nH ns ds n=ds[ew ns n]'(by omega):=by unfold nH;rw [List.getD_eq_getElem?_getD,List.getElem?_eq_getElem (by omega)];rfl
theorem sF {ns:List Int} {ds:List By} {n:Int} (hl:ns.length=ds.length) (h:ew ns n=ns.length):nH ns ds n=blankL:=by unfold nH;rw [List.getD_eq_getElem?_getD,List.getElem?_eq_none (by omega)];rfl
def fK (ks:List By) (k:By):Nat:=(ks.takeWhile fun x=>!bK k x).length
theorem oS:∀ {ks:List By} {k:By},(ks.Pairwise fun a b=>bK a b=true)→fK ks k=if fO ks k then bB ks k+1 else bB ks k
 | [],k,_=>by simp [fK,fO,bB]
 | a :: ks,k,h=>by
   obtain ⟨h1,h2⟩:=List.pairwise_cons.1 h;have ih:=oS (k:=k) h2;unfold fK fO bB at *;rw [List.takeWhile_cons,List.takeWhile_cons];rcases fM a k with hk | hk | hk
   ·rw [bg hk,hk];simp only [Bool.not_false,if_true,List.length_cons,List.getElem?_cons_succ];rw [ih]
    split <;> rfl
   ·subst hk;rw [dA]
    have h0:(ks.takeWhile fun x=>!bK a x)=[]:=by
     cases ks with
     | nil=>rfl
     | cons b ks=>rw [List.takeWhile_cons,h1 b List.mem_cons_self];rfl
    simp [h0]
   ·rw [hk,bg hk];have hne:a≠k:=fun e=>by rw [e,dA] at hk;cases hk
    simp [hne]
def Pro.NZ {α:Type}:Pro α→Prop
 | .pure _=>True
 | .fail e=>e≠0
 | .get _ k=>∀ l,(k l).NZ
 | .put _ _ k=>(k ()).NZ
 | .new k=>∀ n,(k n).NZ
 | .free _ k=>(k ()).NZ
theorem Pro.NZ.run {α:Type}:∀ (p:Pro α) (s:Sf) (x:Int),p.NZ→(p.run s).2=.err x→x≠0
 | .pure a,s,x,_,h=>by cases h
 | .fail e,s,x,hp,h=>by cases h;exact hp
 | .get n k,s,x,hp,h=>by
   simp only [Pro.run] at h
   split at h
   ·exact Pro.NZ.run _ _ x (hp _) h
   ·rename_i h0;cases h;exact h0
 | .put n d k,s,x,hp,h=>by
   simp only [Pro.run] at h
   split at h
   ·exact Pro.NZ.run (k ()) _ x hp h
   ·rename_i h0;cases h;exact h0
 | .new k,s,x,hp,h=>by
   simp only [Pro.run] at h
   split at h
   ·exact Pro.NZ.run _ _ x (hp _) h
   ·rename_i h0;cases h;exact h0
 | .free n k,s,x,hp,h=>by
   simp only [Pro.run] at h
   split at h
   ·exact Pro.NZ.run (k ()) _ x hp h
   ·rename_i h0;cases h;exact h0
theorem Pro.NZ.bind {α β:Type}:∀ (p:Pro α) (f:α→Pro β),p.NZ→(∀ a,(f a).NZ)→(p.bind f).NZ
 | .pure a,_,_,hf=>hf a
 | .fail _,_,hp,_=>hp
 | .get _ k,f,hp,hf=>fun l=>Pro.NZ.bind (k l) f (hp l) hf
 | .put _ _ k,f,hp,hf=>Pro.NZ.bind (k ()) f hp hf
 | .new k,f,hp,hf=>fun n=>Pro.NZ.bind (k n) f (hp n) hf
 | .free _ k,f,hp,hf=>Pro.NZ.bind (k ()) f hp hf
theorem rh:∀ (f left:Nat) (a:Int),(jw f left a).NZ
 | 0,_,_=>trivial
 | f+1,left,a=>by
   unfold jw
   split
   ·trivial
   ·intro l
    show (match eP l left with
     | none=>Pro.fail 30
     | some (next,part)=>(jw f (left - 227) next).bind fun r=>Pro.pure (part ++ r.1,a :: r.2)).NZ
    split
    ·exact show (30:Int)≠0 by decide
    ·exact Pro.NZ.bind (jw f _ _) _ (rh f _ _) (fun _=>trivial)
theorem im (c:Ce):(bb c).NZ:=by
 unfold bb
 split
 ·exact show (1:Int)≠0 by decide
 ·split
  ·trivial
  ·exact rh _ _ _
theorem lB:∀ l:List Int,(dN l).NZ
 | []=>trivial
 | _ :: l=>lB l
theorem gT (c:Ce):(cf c).NZ:=Pro.NZ.bind _ _ (im c) (fun r=>lB r.2)
theorem eo (a:Int):(aV a).NZ:=by
 intro l
 show (match cN l with
  | none=>Pro.fail 30
  | some n=>Pro.pure n).NZ
 split
 ·exact show (30:Int)≠0 by decide
 ·trivial
def jx (n:Nd):List Nat:=if n.leaf then List.zipWith (fun k c=>(e9 k).length+(fA c).length) n.keys n.cells else n.keys.map fun k=>(e9 k).length+4
theorem lx:∀ (ks:List By) (cs:List Ce),(bC ks cs).length=(List.zipWith (fun k c=>(e9 k).length+(fA c).length) ks cs).sum
 | [],_=>by simp [bC]
 | _ :: _,[]=>by simp [bC]
 | k :: ks,c :: cs=>by simp [bC,lx ks cs];omega
theorem iH (n:Nd):br n=(jx n).sum:=by
 unfold br jx;cases n.leaf
 ·rfl
 ·exact lx _ _
theorem kw {m:Nat} (es:List Nat):∀ i,i≤es.length→(es.drop i).sum≤m→∃ j,j≤i∧(es.drop j).sum≤m∧(j=0∨m<(es.drop (j - 1)).sum)
 | 0,_,h=>⟨0,Nat.le_refl _,h,.inl rfl⟩
 | i+1,hi,h=>by
   by_cases h2:(es.drop i).sum≤m
   ·obtain ⟨j,h3,h4,h5⟩:=kw es i (by omega) h2;exact ⟨j,by omega,h4,h5⟩
   ·exact ⟨i+1,Nat.le_refl _,h,.inr (by simp;omega)⟩
theorem eZ (es:List Nat) (i:Nat):(es.take i).sum+(es.drop i).sum=es.sum:=by rw [← List.sum_append,List.take_append_drop]
theorem ji (es:List Nat) {j:Nat} (h1:1≤j) (h2:j≤es.length):∃ e ∈ es,(es.drop (j - 1)).sum=e+(es.drop j).sum:=by refine ⟨es[j - 1]'(by omega),List.getElem_mem _,?_⟩;rw [List.drop_eq_getElem_cons (by omega),List.sum_cons,show j - 1+1=j by omega]
theorem qe (es:List Nat) (hM:∀ e ∈ es,e≤107) (h1:229<es.sum) (h2:es.sum≤352):∃ i,1≤i∧i<es.length∧(es.take i).sum≤229∧(es.drop i).sum≤229:=by
 obtain ⟨j,hj,h3,h4⟩:=kw (m:=229) es es.length (Nat.le_refl _) (by simp);have hj0:j≠0:=by rintro rfl;simp at h3;omega
 have h4:229<(es.drop (j - 1)).sum:=h4.resolve_left hj0;obtain ⟨e,he,h5⟩:=ji es (j:=j) (by omega) hj;have:=hM e he;have h6:=eZ es j;refine ⟨j,by omega,?_,by omega,h3⟩;rcases Nat.lt_or_ge j es.length with h | h
 ·exact h
 ·rw [List.drop_of_length_le (i:=j) (by omega)] at h5;simp at h5;omega
theorem qd (es:List Nat) (hM:∀ e ∈ es,e≤69) (h1:225<es.sum) (h2:es.sum≤450):∃ i,1≤i∧i+1<es.length∧(es.take i).sum≤225∧(es.drop (i+1)).sum≤225:=by
 obtain ⟨j,hj,h3,h4⟩:=kw (m:=225) es es.length (Nat.le_refl _) (by simp);have hj0:j≠0:=by rintro rfl;simp at h3;omega
 have h4:225<(es.drop (j - 1)).sum:=h4.resolve_left hj0;obtain ⟨e,he,h5⟩:=ji es (j:=j) (by omega) hj;have:=hM e he;have hjl:j<es.length:=by
  rcases Nat.lt_or_ge j es.length with h | h
  ·exact h
  ·rw [List.drop_of_length_le (i:=j) (by omega)] at h5;simp at h5;omega
 by_cases hj1:j=1
 ·subst hj1;simp at h4;obtain ⟨e2,he2,h7⟩:=ji es (j:=2) (by omega) (by omega);have:=hM e2 he2;simp only [Nat.reduceSub] at h7;have hl:2<es.length:=by
   rcases Nat.lt_or_ge 2 es.length with h | h
   ·exact h
   ·rw [List.drop_of_length_le (i:=2) (by omega)] at h7;simp at h5 h7;omega
  have h6:=eZ es 1;simp only [Nat.reduceSub,List.drop_zero] at h5;exact ⟨1,by omega,by omega,by omega,by simp only [Nat.reduceAdd];omega⟩
 ·have h6:=eZ es (j - 1);exact ⟨j - 1,by omega,by omega,by omega,by rw [show j - 1+1=j by omega];exact h3⟩
theorem st {n:Nd} (h:aB n=true):∀ e ∈ jx n,e≤if n.leaf then 107 else 69:=by
 intro e he;unfold jx at he;cases hl:n.leaf
 ·rw [hl,if_neg (by simp)] at he;obtain ⟨k,hk,rfl⟩:=List.mem_map.1 he;have h1:=bF (aI h hl).1 k hk;rw [dx h1,if_neg (by simp)];omega
 ·rw [hl,if_pos rfl] at he;obtain ⟨hr,hc,_,hg⟩:=bS h hl;obtain ⟨i,hi,rfl⟩:=List.getElem_of_mem he;rw [List.getElem_zipWith];rw [List.length_zipWith] at hi;have h1:=bF hr n.keys[i] (List.getElem_mem _);have h2:=nE (hg n.cells[i] (List.getElem_mem _));rw [dx h1,if_pos rfl];omega
theorem eH {a b:List By} (h:aO b=true) (hs:a.Sublist b):aO a=true:=by obtain ⟨h1,h2⟩:=rises_pw.1 h;exact rises_pw.2 ⟨fun k hk=>h1 k (hs.subset hk),h2.sublist hs⟩
theorem nu {n:Nd} (h:aB n=true) {i:Nat} (h1:1≤i) (h2:i<n.keys.length) (h3:n.leaf=false→i+1<n.keys.length):aB (aM n i).1=true∧aB (aM n i).2.2=true:=by
 unfold aM;cases hl:n.leaf
 ·obtain ⟨hr,h0,hd,_,h5,h6⟩:=aI h hl;have h3:=h3 hl;rw [if_neg (by simp)];refine ⟨dM (eH hr (List.take_sublist _ _)) ?_ ?_ (h5.sublist (List.take_sublist _ _)) (fun d hd=>h6 d (List.mem_of_mem_take hd)),dM (eH hr (List.drop_sublist _ _)) ?_ ?_ (h5.sublist (List.drop_sublist _ _)) (fun d hd=>h6 d (List.mem_of_mem_drop hd))⟩
  ·intro e;have:=congrArg List.length e;rw [List.length_take,List.length_nil] at this;omega
  ·rw [List.length_take,List.length_take];omega
  ·intro e;have:=congrArg List.length e;rw [List.length_drop,List.length_nil] at this;omega
  ·rw [List.length_drop,List.length_drop];omega
 ·obtain ⟨hr,hc,_,hg⟩:=bS h hl;rw [if_pos rfl];refine ⟨fd (eH hr (List.take_sublist _ _)) (by rw [List.length_take,List.length_take];omega) (fun c hc=>hg c (List.mem_of_mem_take hc)),fd (eH hr (List.drop_sublist _ _)) (by rw [List.length_drop,List.length_drop];omega) (fun c hc=>hg c (List.mem_of_mem_drop hc))⟩
theorem dX {n:Nd} (h:aB n=true):aY n=br n+if n.leaf then 3 else 7:=by
 rw [← fB h];unfold aY g8;rw [if_pos h,if_neg];cases hl:n.leaf
 ·have:=(aI h hl).2.1;simpa using this
 ·simp
theorem nw (n:Nd) (i:Nat):br (aM n i).1=((jx n).take i).sum∧br (aM n i).2.2=((jx n).drop (if n.leaf then i else i+1)).sum:=by
 rw [iH,iH];unfold aM jx;cases n.leaf
 ·simp [List.map_take,List.map_drop]
 ·simp [List.take_zipWith,List.drop_zipWith]
theorem rl {n:Nd} (h:aB n=true):(jx n).length=n.keys.length:=by
 unfold jx;cases hl:n.leaf
 ·simp
 ·simp [(bS h hl).2.1]
theorem lK {n:Nd}:∀ (k i:Nat),1≤i→i≤k→dp (aM n i)=true→∃ x,bI n k=some x
 | 0,i,h1,h2,_=>by omega
 | k+1,i,h1,h2,h3=>by
   unfold bI;by_cases h:dp (aM n (k+1))=true
   ·rw [if_pos h];cases bI n k with
    | none=>exact ⟨_,rfl⟩
    | some b=>
      simp only
      split
      ·exact ⟨_,rfl⟩
      ·exact ⟨_,rfl⟩
   ·rw [if_neg h];exact lK k i h1 (by rcases Nat.lt_or_ge i (k+1) with h4 | h4;omega;exact absurd (by rw [show k+1=i by omega];exact h3) h) h3
theorem mo {n:Nd}:∀ (k:Nat) {x:Nd × By × Nd},bI n k=some x→∃ j,1≤j∧j≤k∧x=aM n j∧dp x=true
 | 0,x,h=>by cases h
 | k+1,x,h=>by
   unfold bI at h;by_cases hc:dp (aM n (k+1))=true
   ·rw [if_pos hc] at h;cases hb:bI n k with
    | none=> rw [hb] at h;simp only [Option.some.injEq] at h;exact ⟨k+1,by omega,by omega,h.symm,by rw [← h];exact hc⟩
    | some b=>
      rw [hb] at h;simp only at h
      split at h
      ·injection h with h
       exact ⟨k+1,by omega,by omega,h.symm,by rw [← h];exact hc⟩
      ·injection h with h
       subst h;obtain ⟨j,j1,j2,j3⟩:=mo k hb;exact ⟨j,j1,by omega,j3⟩
   ·rw [if_neg hc] at h;obtain ⟨j,j1,j2,j3⟩:=mo k h;exact ⟨j,j1,by omega,j3⟩
theorem mP {n:Nd} (h:aB n=true) (hb:if n.leaf then 229<br n∧br n≤352 else 225<br n∧br n≤450):
  ∃ i,1≤i∧i<n.keys.length∧(n.leaf=false→i+1<n.keys.length)∧cw n=aM n i∧aB (aM n i).1=true∧aB (aM n i).2.2=true∧(ar (aM n i).1).length≤232∧(ar (aM n i).2.2).length≤232:=by
 have hle:=st h;have hlen:=rl h;have hleafcut:∀ i,(aM n i).1.leaf=n.leaf∧(aM n i).2.2.leaf=n.leaf:=fun i=>by unfold aM;cases n.leaf <;> exact ⟨rfl,rfl⟩
 have hex:∃ i,1≤i∧i<n.keys.length∧dp (aM n i)=true:=by
  rw [iH] at hb
  have key:∀ i,1≤i→i<n.keys.length→(n.leaf=false→i+1<n.keys.length)→br (aM n i).1+(if n.leaf then 3 else 7)≤232→br (aM n i).2.2+(if n.leaf then 3 else 7)≤232→dp (aM n i)=true:=fun i h1 h2 h3 h4 h5=>by
   obtain ⟨g1,g2⟩:=nu h h1 h2 h3;have t1:=dX g1;have t2:=dX g2;rw [(hleafcut i).1] at t1;rw [(hleafcut i).2] at t2;unfold dp bX;rw [t1,t2,decide_eq_true h4,decide_eq_true h5];cases n.leaf <;> simp
  cases hl:n.leaf
  ·rw [hl,if_neg (by simp)] at hb;obtain ⟨i,h1,h2,h3,h4⟩:=qd (jx n) (fun e he=>by have:=hle e he;rw [hl,if_neg (by simp)] at this;exact this) hb.1 hb.2;have:=nw n i;rw [hl,if_neg (by simp)] at this;refine ⟨i,h1,by omega,key i h1 (by omega) (fun _=>by omega) ?_ ?_⟩
   ·rw [this.1,hl,if_neg (by simp)];omega
   ·rw [this.2,hl,if_neg (by simp)];omega
  ·rw [hl,if_pos rfl] at hb;obtain ⟨i,h1,h2,h3,h4⟩:=qe (jx n) (fun e he=>by have:=hle e he;rw [hl,if_pos rfl] at this;exact this) hb.1 hb.2;have:=nw n i;rw [hl,if_pos rfl] at this;refine ⟨i,h1,by omega,key i h1 (by omega) (fun e=>by rw [hl] at e;cases e) ?_ ?_⟩
   ·rw [this.1,hl,if_pos rfl];omega
   ·rw [this.2,hl,if_pos rfl];omega
 obtain ⟨i,h1,h2,h3⟩:=hex;obtain ⟨x,hx⟩:=lK (n.keys.length - 1) i h1 (by omega) h3;obtain ⟨j,j1,j2,j3,j4⟩:=mo _ hx
 have hj3:n.leaf=false→j+1<n.keys.length:=fun hl=>by
  rw [j3] at j4;unfold dp at j4;simp only [Bool.and_eq_true,decide_eq_true_eq] at j4;rcases Nat.lt_or_ge (j+1) n.keys.length with h | h
  ·exact h
  ·have:(aM n j).2.2.keys=[]:=by unfold aM;rw [hl,if_neg (by simp)];exact List.drop_of_length_le h
   have h0:aY (aM n j).2.2=0:=by unfold aY;rw [if_pos];rw [(hleafcut j).2,hl,this];rfl
   exact absurd h0 j4.1.1.2
 obtain ⟨g1,g2⟩:=nu h j1 (by omega) hj3;refine ⟨j,j1,by omega,hj3,?_,g1,g2,?_,?_⟩
 ·unfold cw;rw [hx,j3];rfl
 ·rw [j3] at j4;unfold dp bX at j4;simp only [Bool.and_eq_true,decide_eq_true_eq] at j4;rw [fB g1,← dX g1];exact j4.1.2
 ·rw [j3] at j4;unfold dp bX at j4;simp only [Bool.and_eq_true,decide_eq_true_eq] at j4;rw [fB g2,← dX g2];exact j4.2
theorem mR {B:Int→By} {d:Nat} {n:Nd} {lo:By} {hi:Option By} {ps:List Pr} {gs:List Int} (h:bf B d n lo hi ps gs) {i:Nat} (h1:1≤i) (h2:i<n.keys.length):
  ∃ p1 p2 g1 g2,ps=p1 ++ p2∧gs=g1 ++ g2∧bf B d (aM n i).1 lo (some (aM n i).2.1) p1 g1∧bf B d (aM n i).2.2 (aM n i).2.1 hi p2 g2∧p1≠[]∧p2≠[]∧(aM n i).2.1.length≤64:=by
 obtain ⟨_,_,_,hr⟩:=cj B d h;obtain ⟨hr1,hr2⟩:=rises_pw.1 hr;have hk:n.keys.getD i []=n.keys[i]:=by rw [List.getD_eq_getElem?_getD,List.getElem?_eq_getElem h2];rfl
 have hpw:=(List.take_append_drop i n.keys ▸ hr2:(n.keys.take i ++ n.keys.drop i).Pairwise _);rw [List.drop_eq_getElem_cons h2] at hpw;have hpa:=List.pairwise_append.1 hpw;have hpb:=List.pairwise_cons.1 hpa.2.1;cases d with
 | zero=>
   obtain ⟨a1,a2,a3,a4,a5⟩:=h;obtain ⟨p1,p2,g1,g2,rfl,rfl,e1,e2⟩:=ig i a5;have hc:aM n i=(⟨true,n.keys.take i,n.cells.take i,[]⟩,n.keys[i],⟨true,n.keys.drop i,n.cells.drop i,[]⟩):=by unfold aM;rw [if_pos a1,hk]
   rw [hc]
   refine ⟨p1,p2,g1,g2,rfl,rfl,⟨rfl,rfl,eH a3 (List.take_sublist _ _),fun k hk=>⟨(a4 k (List.mem_of_mem_take hk)).1,fun h e=>?_⟩,e1⟩,
    ⟨rfl,rfl,eH a3 (List.drop_sublist _ _),fun k hk=>⟨?_,(a4 k (List.mem_of_mem_drop hk)).2⟩,e2⟩,?_,?_,hr1 _ (List.getElem_mem _)⟩
   ·injection e with e
    subst e;exact hpa.2.2 k hk _ List.mem_cons_self
   ·have hk:k ∈ n.keys.drop i:=hk;rw [List.drop_eq_getElem_cons h2] at hk;rcases List.mem_cons.1 hk with rfl | hk
    ·exact dA _
    ·exact bg (hpb.1 k hk)
   ·rintro rfl;have:=congrArg List.length (cz e1).1;simp at this;rcases this with h | h
    ·omega
    ·rw [h] at h2;simp at h2
   ·rintro rfl;have:=congrArg List.length (cz e2).1;simp at this;omega
 | succ d=>
   obtain ⟨a1,a2,a3,a4⟩:=node_succ.1 h;have hlen:=dJ a4;have hT:=gi B d;obtain ⟨lo',hi',p1,p2,p3,g1,g2,g3,e1,e2,e3,rfl,rfl⟩:=d9 (i:=i) a4 (by omega);have hc:aM n i=(⟨false,n.keys.take i,[],n.kids.take (i+1)⟩,n.keys[i],⟨false,n.keys.drop (i+1),[],n.kids.drop (i+1)⟩):=by unfold aM;rw [if_neg (by rw [a1];simp),hk]
   rw [hc];rw [List.drop_eq_getElem_cons h2] at e3;obtain ⟨rfl,e3⟩:=e3;have hkid:n.kids.take (i+1)=n.kids.take i ++ [n.kids.getD i 0]:=by rw [List.take_succ_eq_append_getElem (by omega),List.getD_eq_getElem?_getD,List.getElem?_eq_getElem (by omega)];rfl
   have hleft:=eJ (b:=[]) (e:=[]) (hi:=some n.keys[i]) (p3:=[]) (g3:=[]) e1 e2 ⟨rfl,rfl,rfl⟩;rw [List.append_nil,List.append_nil,List.append_nil,← hkid] at hleft;refine ⟨p1 ++ p2,p3,g1 ++ g2,g3,by simp,by simp,node_succ.2 ⟨rfl,rfl,fun k hk=>a3 k (List.mem_of_mem_take hk),hleft⟩,node_succ.2 ⟨rfl,rfl,fun k hk=>a3 k (List.mem_of_mem_drop hk),e3⟩,?_,(fr hT e3).1,a3 _ (List.getElem_mem _)⟩;have:=hT.ne e2;simp [this]
theorem pO {B:Int→By} {d:Nat} {l r:Nd} {lo:By} {k:By} {hi:Option By} {p1 p2:List Pr} {g1 g2:List Int} (h1:bf B d l lo (some k) p1 g1) (h2:bf B d r k hi p2 g2)
  (hk:bK k lo=false) (hh:∀ h,hi=some h→bK h k=false) (hk64:k.length≤64):bf B d (bw l k r) lo hi (p1 ++ p2) (g1 ++ g2):=by
 cases d with
 | zero=>
   obtain ⟨a1,a2,a3,a4,a5⟩:=h1;obtain ⟨b1,b2,b3,b4,b5⟩:=h2;have hj:bw l k r=⟨true,l.keys ++ r.keys,l.cells ++ r.cells,[]⟩:=by unfold bw;rw [a1,a2,b2];simp
   rw [hj];refine ⟨rfl,rfl,?_,fun x hx=>?_,gW a5 b5⟩
   ·obtain ⟨r1,r2⟩:=rises_pw.1 a3;obtain ⟨s1,s2⟩:=rises_pw.1 b3;refine rises_pw.2 ⟨fun x hx=>(List.mem_append.1 hx).elim (r1 x) (s1 x),List.pairwise_append.2 ⟨r2,s2,fun a ha b hb=>?_⟩⟩;exact dr ((a4 a ha).2 k rfl) (b4 b hb).1
   ·rcases List.mem_append.1 hx with hx | hx
    ·exact ⟨(a4 x hx).1,fun h e=>dr ((a4 x hx).2 k rfl) (hh h e)⟩
    ·exact jf hk (b4 x hx)
 | succ d=>
   obtain ⟨a1,a2,a3,a4⟩:=node_succ.1 h1;obtain ⟨b1,b2,b3,b4⟩:=node_succ.1 h2;have hj:bw l k r=⟨false,l.keys ++ k :: r.keys,[],l.kids ++ r.kids⟩:=by unfold bw;rw [a1,a2,b2];simp
   rw [hj];refine node_succ.2 ⟨rfl,rfl,fun x hx=>?_,?_⟩
   ·rcases List.mem_append.1 hx with hx | hx
    ·exact a3 x hx
    ·rcases List.mem_cons.1 hx with rfl | hx
     ·exact hk64
     ·exact b3 x hx
   ·have hl:=dJ a4;obtain ⟨lo',hi',q1,q2,q3,r1,r2,r3,e1,e2,e3,rfl,rfl⟩:=d9 (i:=l.keys.length) a4 (by omega);rw [List.drop_length,List.drop_of_length_le (by omega)] at e3;obtain ⟨rfl,rfl,rfl⟩:=e3;rw [List.take_length] at e1;have:=eJ e1 e2 (b:=k :: r.keys) (e:=r.kids) (hi:=hi) ⟨rfl,b4⟩;have hkd:l.kids=l.kids.take l.keys.length ++ [l.kids.getD l.keys.length 0]:=by rw [List.getD_eq_getElem?_getD,List.getElem?_eq_getElem (by omega),Option.getD_some,← List.take_succ_eq_append_getElem (by omega),List.take_of_length_le (by omega)]
    simp only;rw [hkd];simpa using this
theorem lA {l r:Nd} (k:By) (hl:l.leaf=r.leaf) (hc:l.leaf=true→l.cells.length=l.keys.length) (hk:k.length≤64):br (bw l k r)≤br l+br r+if l.leaf then 0 else 69:=by
 unfold br bw;rw [← hl];cases h:l.leaf
 ·simp only [Bool.false_eq_true,if_false,List.map_append,List.sum_append,List.map_cons,List.map_nil,List.sum_cons,List.sum_nil];have:=dx hk;omega
 ·simp only [if_true,List.append_nil];rw [dZ _ _ _ _ (hc h),List.length_append];omega
theorem dn {n:Nd} (h:aB n=true) (h2:(ar n).length≤232) {s:Sf} {U:List Int} (hs:Hp s U) {p:Int} (hp:p ∈ U):
  (aC p n).run s=(dG s p (aD (ar n)),.ok ())∧Hp (dG s p (aD (ar n))) U∧cN ((dG s p (aD (ar n))).B p)=some n:=by
 obtain ⟨h3,h4⟩:=hs.put hp (cY (ar n)) (α:=Unit) .pure;refine ⟨?_,h4,?_⟩
 ·unfold aC;rw [if_neg (by rw [h];simp;omega),h3];rfl
 ·rw [mA];exact ru h h2
theorem dI {s:Sf} {U:List Int} (hs:Hp s U) {p:Int} (hp:p ∈ U) {n:Nd} (h:cN (s.B p)=some n):(aV p).run s=(s,.ok n):=by unfold aV;rw [hs.get hp,h];rfl
def f7 (n:Nd):Nat:=if n.leaf then 229 else 225
theorem cZ {n:Nd} (h:aB n=true):(ar n).length≤232↔br n≤f7 n:=by rw [fB h];unfold f7;cases n.leaf <;> simp <;> omega
theorem fw {n:Nd} (h:aB n=true):bX n=true↔br n≤f7 n:=by rw [← cZ h,fB h];unfold bX;rw [decide_eq_true_eq,dX h]
def ey (n:Nd):Nat:=if n.leaf then 352 else 450
theorem nt {n:Nd} (h1:f7 n<br n) (h2:br n≤ey n):if n.leaf then 229<br n∧br n≤352 else 225<br n∧br n≤450:=by
 unfold f7 at h1;unfold ey at h2
 split at h1
 ·rename_i h;rw [if_pos h] at h2 ⊢;exact ⟨h1,h2⟩
 ·rename_i h;rw [if_neg h] at h2 ⊢;exact ⟨h1,h2⟩
theorem mQ {s:Sf} {d:Nat} {c:Nd} {lo:By} {hi:Option By} {pc:List Pr} {gc Y:List Int} {q:Int} (n:Nd) (i:Nat) (hq:n.kids.getD i 0=q) (hs:Hp s (q :: (gc ++ Y))) (hroom:(q :: (gc ++ Y)).length<4095)
  (hc:bf s.B d c lo hi pc gc) (hg:aB c=true) (h1:f7 c<br c) (h2:br c≤ey c):
  ∃ s' r key p1 p2 g1 g2,(dm n i c).run s=(s',.ok { n with keys:=n.keys.insertIdx i key,kids:=n.kids.insertIdx (i+1) r })∧Hp s' (q :: g1 ++ (r :: g2 ++ Y))∧Kp Y s s'∧pc=p1 ++ p2∧gc=g1 ++ g2∧
    iJ s'.B d q lo (some key) p1 (q :: g1)∧iJ s'.B d r key hi p2 (r :: g2)∧key.length≤64:=by
 obtain ⟨j,j1,j2,_,j3,j4,j5,j6,j7⟩:=mP hg (nt h1 h2);obtain ⟨p1,p2,g1,g2,rfl,rfl,e1,e2,e3,e4,e5⟩:=mR hc j1 j2;obtain ⟨r,s1,n1,n2,n3,n4⟩:=hs.new hroom;have hqU:q ∈ r :: (q :: (g1 ++ g2 ++ Y)):=by simp
 have hrU:r ∈ r :: (q :: (g1 ++ g2 ++ Y)):=by simp
 obtain ⟨w1,w2,w3⟩:=dn j4 j6 n3 hqU;obtain ⟨v1,v2,v3⟩:=dn j5 j7 w2 hrU;have hnd:=n3.nd;have hrq:r≠q:=fun e=>n2 (by rw [e];simp)
 have hq1:q ∉ g1 ++ g2 ++ Y:=(List.nodup_cons.1 (List.nodup_cons.1 hnd).2).1;have hr1:r ∉ g1 ++ g2 ++ Y:=fun h=>n2 (List.mem_cons_of_mem _ h)
 have hk:Kp (g1 ++ g2 ++ Y) s (dG (dG s1 q (aD (ar (aM c j).1))) r (aD (ar (aM c j).2.2))):=
  ((n4.sub fun p hp=>List.mem_cons_of_mem _ hp).trans (fL hq1)).trans (fL hr1)
 refine ⟨_,r,(aM c j).2.1,p1,p2,g1,g2,?_,v2.perm ?_,hk.sub (fun p hp=>List.mem_append_right _ hp),rfl,rfl,⟨e3,_,_,?_,rfl,bZ d e1 fun p hp=>hk.b p (by simp [hp])⟩,⟨e4,_,_,v3,rfl,bZ d e2 fun p hp=>hk.b p (by simp [hp])⟩,e5⟩
 ·unfold dm;rw [n1,hq,j3,af w1,af v1];rfl
 ·rw [List.perm_iff_count];intro a;simp only [List.count_cons,List.count_append];omega
 ·rw [show (dG (dG s1 q (aD (ar (aM c j).1))) r (aD (ar (aM c j).2.2))).B q=(dG s1 q (aD (ar (aM c j).1))).B q from aZ _ _ hrq.symm];exact w3
theorem iz {α:Type} (a:List α) (x:α) (b:List α) (y:α):(a ++ x :: b).getD a.length y=x:=by simp
theorem pZ {α:Type} (a:List α) (x z:α) (b:List α) (y:α):(a ++ x :: z :: b).getD (a.length+1) y=z:=by simp
theorem eh {α:Type} (a b:List α) (x:α):(a ++ b).insertIdx a.length x=a ++ x :: b:=by
 induction a with
 | nil=>rfl
 | cons y a ih=>simp [ih]
theorem kp {α:Type} (a b:List α) (x y:α):(a ++ y :: b).insertIdx (a.length+1) x=a ++ y :: x :: b:=by have:=eh (a ++ [y]) b x;simpa using this
theorem iD {α:Type} (a b:List α) (x:α):(a ++ x :: b).eraseIdx a.length=a ++ b:=by
 induction a with
 | nil=>rfl
 | cons y a ih=>simp [ih]
theorem kP {α:Type} (a b:List α) (x y:α):(a ++ y :: x :: b).eraseIdx (a.length+1)=a ++ y :: b:=by have:=iD (a ++ [y]) b x;simpa using this
theorem oL {α:Type} (a b:List α) (x z:α):(a ++ x :: b).set a.length z=a ++ z :: b:=by
 induction a with
 | nil=>rfl
 | cons y a ih=>simp [ih]
def eY (ks:List By):Nat:=(ks.map fun k=>(e9 k).length+4).sum
theorem eK (a b:List By):eY (a ++ b)=eY a+eY b:=by simp [eY]
theorem eQ (k:By) (b:List By):eY (k :: b)=(e9 k).length+4+eY b:=by simp [eY]
structure Parent (B:Int→By) (d:Nat) (a b:List By) (c e:List Int) (lo lo':By) (hi hi':Option By) (p1 p3:List Pr) (g1 g3:List Int):Prop where
 pre:kR (iJ B d) lo a c lo' p1 g1
 suf:kK (iJ B d) hi' b hi e p3 g3
 la:∀ k ∈ a,k.length≤64
 lb:∀ k ∈ b,k.length≤64
theorem Parent.congr {B B':Int→By} {d:Nat} {a b:List By} {c e:List Int} {lo lo':By} {hi hi':Option By} {p1 p3:List Pr} {g1 g3:List Int} (h:Parent B d a b c e lo lo' hi hi' p1 p3 g1 g3)
  (hb:∀ q ∈ g1 ++ g3,B' q=B q):Parent B' d a b c e lo lo' hi hi' p1 p3 g1 g3:=
 ⟨mN (fun _ _ _ _ _ hg hs=>gP hs fun q hq=>hb q (List.mem_append_left _ (hg q hq))) h.pre,qy (fun _ _ _ _ _ hg hs=>gP hs fun q hq=>hb q (List.mem_append_right _ (hg q hq))) h.suf,h.la,h.lb⟩
theorem Parent.one {B:Int→By} {d:Nat} {a b:List By} {c e:List Int} {lo lo':By} {hi hi':Option By} {p1 p3:List Pr} {g1 g3:List Int} (h:Parent B d a b c e lo lo' hi hi' p1 p3 g1 g3)
  {q:Int} {p:List Pr} {g:List Int} (hk:iJ B d q lo' hi' p g):bf B (d+1) ⟨false,a ++ b,[],c ++ q :: e⟩ lo hi (p1 ++ (p ++ p3)) (g1 ++ (g ++ g3)):=
 node_succ.2 ⟨rfl,rfl,fun k hk=>(List.mem_append.1 hk).elim (h.la k) (h.lb k),eJ h.pre hk h.suf⟩
theorem Parent.two {B:Int→By} {d:Nat} {a b:List By} {c e:List Int} {lo lo':By} {hi hi':Option By} {p1 p3:List Pr} {g1 g3:List Int} (h:Parent B d a b c e lo lo' hi hi' p1 p3 g1 g3)
  {q r:Int} {key:By} {p p':List Pr} {g g':List Int} (hk:iJ B d q lo' (some key) p g) (hk2:iJ B d r key hi' p' g') (hl:key.length≤64):
  bf B (d+1) ⟨false,a ++ key :: b,[],c ++ q :: r :: e⟩ lo hi (p1 ++ (p ++ (p' ++ p3))) (g1 ++ (g ++ (g' ++ g3))):=
 node_succ.2 ⟨rfl,rfl,fun k hk=>(List.mem_append.1 hk).elim (h.la k) fun hk=>(List.mem_cons.1 hk).elim (fun e=>e ▸ hl) (h.lb k),eJ h.pre hk (qz hk2 h.suf)⟩
theorem mT {s:Sf} {d:Nat} {a b:List By} {c e:List Int} {lo lo':By} {hi hi':Option By} {p1 p3 pl pr:List Pr} {g1 g3 gl gr X:List Int} (hp:Parent s.B d a b c e lo lo' hi hi' p1 p3 g1 g3)
  {l r:Nd} {ql qr:Int} {key:By} (hl:bf s.B d l lo' (some key) pl gl) (hr:bf s.B d r key hi' pr gr) (h64:key.length≤64) (hk1:bK key lo'=false) (hk2:∀ h,hi'=some h→bK h key=false)
  (hs:Hp s ((g1 ++ ((ql :: gl) ++ ((qr :: gr) ++ g3))) ++ X)) (hne:pl ++ pr≠[]) (hb:br (bw l key r)≤ey l):
  ∃ s' n' gs',(ct ⟨false,a ++ key :: b,[],c ++ ql :: qr :: e⟩ a.length l r).run s=(s',.ok n')∧bf s'.B (d+1) n' lo hi (p1 ++ ((pl ++ pr) ++ p3)) gs'∧Hp s' (gs' ++ X)∧Kp X s s'∧
    gs'.length≤(g1 ++ ((ql :: gl) ++ ((qr :: gr) ++ g3))).length∧eY n'.keys≤eY (a ++ key :: b)+64∧n'.leaf=false:=by
 have hca:=l7 hp.pre;have hj:=pO hl hr hk1 hk2 h64;have hleaf:(bw l key r).leaf=l.leaf:=rfl;have hsP:Hp s (ql :: (qr :: ((gl ++ gr) ++ ((g1 ++ g3) ++ X)))):=hs.perm (by
  rw [List.perm_iff_count];intro a;simp only [List.count_cons,List.count_append];omega)
 have hnd:=hsP.nd;have hq1:=(List.nodup_cons.1 hnd).1;have hq2:=(List.nodup_cons.1 (List.nodup_cons.1 hnd).2).1;have hne12:ql≠qr:=fun e=>hq1 (by rw [e];simp)
 have hgood:aB (bw l key r)=true:=by
  refine iZ hj ?_ (fun q hq=>hsP.pg (List.mem_cons_of_mem _ (List.mem_cons_of_mem _ (List.mem_append_left _ hq)))) fun hd=>?_
  ·refine (List.nodup_cons.1 (List.nodup_cons.1 hnd).2).2.sublist (List.sublist_append_left _ _)
  ·cases d with
   | zero=>exact absurd rfl hd
   | succ d=> have:=(node_succ.1 hl).1;unfold bw;rw [this];simp
 unfold ct;simp only;rw [iz,← hca,iz,pZ,kP,hca,iD,oL];cases hf:bX (bw l key r)
 ·have hbig:f7 (bw l key r)<br (bw l key r):=by
   rcases Nat.lt_or_ge (f7 (bw l key r)) (br (bw l key r)) with h | h
   ·exact h
   ·rw [(fw hgood).2 h] at hf;cases hf
  obtain ⟨j,j1,j2,_,j3,j4,j5,j6,j7⟩:=mP hgood (nt hbig hb);obtain ⟨q1,q2,r1,r2,hpe,hge,e1,e2,e3,e4,e5⟩:=mR hj j1 j2;rw [if_neg (by simp),j3];obtain ⟨w1,w2,w3⟩:=dn j4 j6 hsP (p:=ql) (by simp);obtain ⟨v1,v2,v3⟩:=dn j5 j7 w2 (p:=qr) (by simp);rw [af w1,af v1];have hk:Kp ((gl ++ gr) ++ ((g1 ++ g3) ++ X)) s (dG (dG s ql (aD (ar (aM (bw l key r) j).1))) qr (aD (ar (aM (bw l key r) j).2.2))):=
   (fL (fun h=>hq1 (List.mem_cons_of_mem _ h))).trans (fL hq2)
  have hpar:=hp.congr (B':=(dG (dG s ql (aD (ar (aM (bw l key r) j).1))) qr (aD (ar (aM (bw l key r) j).2.2))).B) (fun q hq=>hk.b q (List.mem_append_right _ (List.mem_append_left _ hq)));have hN:=hpar.two (q:=ql) (r:=qr) (key:=(aM (bw l key r) j).2.1) (p:=q1) (p':=q2) (g:=ql :: r1) (g':=qr :: r2)
   ⟨e3,_,_,by rw [show (dG (dG s ql (aD (ar (aM (bw l key r) j).1))) qr (aD (ar (aM (bw l key r) j).2.2))).B ql=(dG s ql (aD (ar (aM (bw l key r) j).1))).B ql from aZ _ _ hne12];exact w3,rfl,bZ d e1 fun p hp=>hk.b p (List.mem_append_left _ (by rw [hge];simp [hp]))⟩
   ⟨e4,_,_,v3,rfl,bZ d e2 fun p hp=>hk.b p (List.mem_append_left _ (by rw [hge];simp [hp]))⟩ e5
  refine ⟨_,_,g1 ++ ((ql :: r1) ++ ((qr :: r2) ++ g3)),rfl,?_,v2.perm ?_,hk.sub (fun p hp=>List.mem_append_right _ (List.mem_append_right _ hp)),?_,?_,rfl⟩
  ·rw [hpe];have e6:p1 ++ (q1 ++ q2 ++ p3)=p1 ++ (q1 ++ (q2 ++ p3)):=by simp
   rw [e6];exact hN
  ·rw [hge,List.perm_iff_count];intro a;simp only [List.count_cons,List.count_append];omega
  ·have:=congrArg List.length hge;simp only [List.length_append,List.length_cons] at *;omega
  ·rw [eK,eK,eQ,eQ,dx e5,dx h64];omega
 ·rw [if_pos rfl];have hcap:=(fw hgood).1 hf;obtain ⟨w1,w2,w3⟩:=dn hgood ((cZ hgood).2 hcap) hsP (p:=ql) (by simp);rw [af w1];have w2':Hp (dG s ql (aD (ar (bw l key r)))) (qr :: (ql :: ((gl ++ gr) ++ ((g1 ++ g3) ++ X)))):=w2.perm (List.Perm.swap _ _ _);obtain ⟨s',f1,f2,f3⟩:=w2'.free;rw [f1];have hk:Kp ((gl ++ gr) ++ ((g1 ++ g3) ++ X)) s s':=(fL (fun h=>hq1 (List.mem_cons_of_mem _ h))).trans (f3.sub fun p hp=>List.mem_cons_of_mem _ hp);have hpar:=hp.congr (B':=s'.B) (fun q hq=>hk.b q (List.mem_append_right _ (List.mem_append_left _ hq)));have hN:=hpar.one (q:=ql) (p:=pl ++ pr) (g:=ql :: (gl ++ gr)) ⟨hne,_,_,by rw [f3.b ql (by simp)];exact w3,rfl,bZ d hj fun p hp=>hk.b p (List.mem_append_left _ hp)⟩;refine ⟨_,_,_,rfl,hN,f2.perm ?_,hk.sub (fun p hp=>List.mem_append_right _ (List.mem_append_right _ hp)),?_,?_,rfl⟩
  ·rw [List.perm_iff_count];intro a;simp only [List.count_cons,List.count_append];omega
  ·simp only [List.length_append,List.length_cons];omega
  ·rw [eK,eK,eQ];omega
theorem eI {B:Int→By} {d:Nat} {n:Nd} {lo:By} {hi:Option By} {ps:List Pr} {gs:List Int} (h:bf B d n lo hi ps gs):n.leaf=decide (d=0):=by
 cases d with
 | zero=>rw [h.1];rfl
 | succ d=>rw [(node_succ.1 h).1];rfl
theorem l9 {B:Int→By} {d:Nat} {n:Nd} {lo:By} {hi:Option By} {ps:List Pr} {gs:List Int} (h:bf B d n lo hi ps gs) (hk:d=0→n.keys≠[]):ps≠[]:=by
 cases d with
 | zero=> have:=(cz h.2.2.2.2).1;rintro rfl;exact hk rfl this
 | succ d=>exact (fr (gi B d) (node_succ.1 h).2.2.2).1
theorem fQ {n:Nd} (h:n.leaf=false):br n=eY n.keys:=by unfold br;rw [h];rfl
theorem kk {B:Int→By} {d:Nat} {n:Nd} {lo:By} {hi:Option By} {ps:List Pr} {gs:List Int} (h:bf B d n lo hi ps gs):n.leaf=true→n.cells.length=n.keys.length:=fun hl=>by
 cases d with
 | zero=>exact (cz h.2.2.2.2).2.1
 | succ d=>rw [(node_succ.1 h).1] at hl;cases hl
theorem nW {s:Sf} {d:Nat} {a b:List By} {c e:List Int} {lo lo':By} {hi hi':Option By} {p1 p3 pc:List Pr} {g1 g3 gc X:List Int} (hp:Parent s.B d a b c e lo lo' hi hi' p1 p3 g1 g3)
  {m:Nd} {q:Int} (hm:bf s.B d m lo' hi' pc gc) (hs:Hp s ((g1 ++ ((q :: gc) ++ g3)) ++ X)) (hab:a ++ b≠[]) (hlh:∀ h,hi'=some h→bK lo' h=true)
  (hroom:((g1 ++ ((q :: gc) ++ g3)) ++ X).length<4095) (hcut:br m≤ey m):
  ∃ s' n' gs',(aX ⟨false,a ++ b,[],c ++ q :: e⟩ a.length m).run s=(s',.ok n')∧bf s'.B (d+1) n' lo hi (p1 ++ (pc ++ p3)) gs'∧Hp s' (gs' ++ X)∧Kp X s s'∧
    gs'.length≤(g1 ++ ((q :: gc) ++ g3)).length+1∧eY n'.keys≤eY (a ++ b)+69∧n'.leaf=false:=by
 have hca:=l7 hp.pre;have hbe:=rL hp.suf;have hT:=gi s.B d;have hml:=eI hm;have hsP:Hp s (q :: (gc ++ ((g1 ++ g3) ++ X))):=hs.perm (by
  rw [List.perm_iff_count];intro a;simp only [List.count_cons,List.count_append];omega)
 have hq:(c ++ q :: e).getD a.length 0=q:=by rw [← hca];exact iz _ _ _ _
 have hgood:(d≠0→m.keys≠[])→aB m=true:=fun hk=>iZ hm ((List.nodup_cons.1 hsP.nd).2.sublist (List.sublist_append_left _ _)) (fun x hx=>hsP.pg (List.mem_cons_of_mem _ (List.mem_append_left _ hx))) hk
 have htz:∀ hk:(d≠0→m.keys≠[]),aY m=br m+if m.leaf then 3 else 7:=fun hk=>dX (hgood hk)
 unfold aX;by_cases hg:fb m=true
 ·
  rw [if_pos hg]
  have hk:d≠0→m.keys≠[]:=fun hd hk=>by
   unfold fb bX aY at hg;rw [hml,decide_eq_false hd,hk] at hg;simp at hg
  have hgd:=hgood hk;have hbig:f7 m<br m:=by
   rcases Nat.lt_or_ge (f7 m) (br m) with h | h
   ·exact h
   ·unfold fb at hg;rw [(fw hgd).2 h] at hg;simp at hg
  obtain ⟨s',r,key,q1,q2,r1,r2,w1,w2,w3,rfl,rfl,w6,w7,w8⟩:=mQ ⟨false,a ++ b,[],c ++ q :: e⟩ a.length hq hsP (by simp only [List.length_append,List.length_cons] at *;omega) hm hgd hbig hcut;have hpar:=hp.congr (B':=s'.B) (fun x hx=>w3.b x (List.mem_append_left _ hx));have hN:=hpar.two w6 w7 w8;simp only [eh] at w1;rw [← hca,kp] at w1;rw [← hca];refine ⟨s',_,_,w1,by simpa using hN,w2.perm ?_,w3.sub (fun p hp=>List.mem_append_right _ hp),?_,?_,rfl⟩
  ·rw [List.perm_iff_count];intro a;simp only [List.count_cons,List.count_append];omega
  ·simp only [List.length_append,List.length_cons];omega
  ·rw [eK,eK,eQ,dx w8];omega
 ·rw [if_neg hg];by_cases hw:77≤aY m
  ·
   rw [if_pos hw]
   have hk:d≠0→m.keys≠[]:=fun hd hk=>by
    unfold aY at hw;rw [hml,decide_eq_false hd,hk] at hw;simp at hw
   have hgd:=hgood hk
   have hk0:m.keys≠[]:=fun e=>by
    by_cases hd:d=0
    ·have h1:=htz hk;rw [iH] at h1;unfold jx at h1;rw [hml,decide_eq_true hd,e] at h1;simp at h1;omega
    ·exact hk hd e
   have hfit:bX m=true:=by
    unfold fb at hg;rw [hml] at hg;by_cases hd:d=0
    ·have h0:m.keys.isEmpty=false:=by simpa using hk0
     simp [hd,h0] at hg;exact hg
    ·simpa [hd] using hg
   obtain ⟨w1,w2,w3⟩:=dn hgd ((cZ hgd).2 ((fw hgd).1 hfit)) hsP (p:=q) List.mem_cons_self;have hkp:Kp (gc ++ ((g1 ++ g3) ++ X)) s (dG s q (aD (ar m))):=fL (List.nodup_cons.1 hsP.nd).1;have hpar:=hp.congr (B':=(dG s q (aD (ar m))).B) (fun x hx=>hkp.b x (List.mem_append_right _ (List.mem_append_left _ hx)));have hN:=hpar.one (q:=q) (p:=pc) (g:=q :: gc) ⟨l9 hm (fun _=>hk0),m,gc,w3,rfl,bZ d hm fun x hx=>hkp.b x (List.mem_append_left _ hx)⟩;refine ⟨_,_,_,?_,hN,w2.perm ?_,hkp.sub (fun p hp=>List.mem_append_right _ (List.mem_append_right _ hp)),?_,?_,rfl⟩
   ·rw [hq,af w1];rfl
   ·rw [List.perm_iff_count];intro a;simp only [List.count_cons,List.count_append];omega
   ·simp only [List.length_append,List.length_cons];omega
   ·simp only;omega
  ·rw [if_neg hw];have hlight:br m≤if m.leaf then 73 else 69:=by
    by_cases hk:d≠0→m.keys≠[]
    ·have:=htz hk;cases hl:m.leaf <;> simp [hl] at this ⊢ <;> omega
    ·have hd:d≠0:=fun e=>hk fun h=>absurd e h
     have hkk:m.keys=[]:=Classical.byContradiction fun h=>hk fun _=>h
     have hl:m.leaf=false:=by rw [hml];exact decide_eq_false hd
     rw [fQ hl,hkk,hl];simp [eY]
   rcases List.eq_nil_or_concat a with ha | ⟨a',key,ha⟩
   ·
    subst ha;have hc0:c=[]:=List.length_eq_zero_iff.1 hca;subst hc0;cases b with
    | nil=>exact absurd rfl hab
    | cons key b=>
      cases e with
      | nil=>simp at hbe
      | cons qr e=>
        obtain ⟨h2,pr,p3',gr,g3',rfl,rfl,rfl,hr,hsuf⟩:=nU hp.suf;obtain ⟨rfl,rfl,rfl⟩:=hp.pre;obtain ⟨hrne,r,gr',hrd,rfl,hrN⟩:=hr;have hrb:=du hrd;have hrl:r.leaf=m.leaf:=by rw [hml,eI hrN]
        have h64:=hp.lb key List.mem_cons_self;simp only [List.nil_append,List.length_nil,Nat.lt_irrefl,if_false];rw [show (q :: qr :: e).getD 1 0=qr from rfl];rw [af (dI hs (by simp) hrd),if_pos hrl];have hlk:=hlh key rfl;have hrf:=cj s.B d hrN
        have hkh:∀ h,h2=some h→bK h key=false:=fun h hh=>by
         cases pr with
         | nil=>exact absurd rfl hrne
         | cons x xs=> have:=hrf.1 x List.mem_cons_self;exact bg (d8 this.1 (this.2 h hh))
        have hjb:=lA key hrl.symm (kk hm) h64;have hrb2:=(cZ hrb.1).1 hrb.2.1;obtain ⟨s',n',gs',w1,w2,w3,w4,w5,w6,w7⟩:=mT (a:=[]) (c:=[]) (b:=b) (e:=e) (lo:=lo') (p1:=[]) (g1:=[]) (X:=X)
         ⟨⟨rfl,rfl,rfl⟩,hsuf,fun _ h=>absurd h List.not_mem_nil,fun k hk=>hp.lb k (List.mem_cons_of_mem _ hk)⟩ hm hrN h64 (bg hlk) hkh hs (by simp [hrne])
         (by unfold ey;unfold f7 at hrb2;rw [hrl] at hrb2;cases hl:m.leaf <;> simp [hl] at hjb hrb2 hlight ⊢ <;> omega)
        exact ⟨s',n',gs',w1,by simpa using w2,w3,w4,by simp only [List.length_append,List.length_cons,List.length_nil] at w5 ⊢;omega,by simp only [List.nil_append] at w6 ⊢;omega,w7⟩
   ·
    rw [List.concat_eq_append] at ha;subst ha;rcases List.eq_nil_or_concat c with hc | ⟨c',ql,hc⟩
    ·subst hc;simp at hca
    ·rw [List.concat_eq_append] at hc;subst hc;have hca':c'.length=a'.length:=by simpa using hca
     obtain ⟨l',q1,pl,r1,gl,rfl,rfl,rfl,hpre,hl⟩:=j9 hca' hp.pre;obtain ⟨hlne,l,gl',hld,rfl,hlN⟩:=hl;have hlb:=du hld;have hll:l.leaf=m.leaf:=by rw [hml,eI hlN]
     have h64:=hp.la lo' (by simp);have hlf:=cj s.B d hlN;have hkl:bK lo' l'=false:=by
      cases pl with
      | nil=>exact absurd rfl hlne
      | cons x xs=> have:=hlf.1 x List.mem_cons_self;exact bg (d8 this.1 (this.2 _ rfl))
     have hjb:=lA lo' hll (kk hlN) h64;have hlb2:=(cZ hlb.1).1 hlb.2.1;rw [if_pos (by simp)];have e1:(c' ++ [ql] ++ q :: e).getD ((a' ++ [lo']).length - 1) 0=ql:=by rw [List.length_append,List.length_singleton,Nat.add_sub_cancel,← hca',List.append_assoc];exact iz _ _ _ _
     have hqlU:ql ∈ r1 ++ ql :: gl' ++ (q :: gc ++ g3) ++ X:=by simp
     simp only;rw [e1,af (dI hs hqlU hld),if_pos hll];obtain ⟨s',n',gs',w1,w2,w3,w4,w5,w6,w7⟩:=mT (a:=a') (c:=c') (b:=b) (e:=e) (X:=X)
      ⟨hpre,hp.suf,fun k hk=>hp.la k (List.mem_append_left _ hk),hp.lb⟩ hlN hm h64 hkl (fun h hh=>bg (hlh h hh)) (ql:=ql) (qr:=q) (by simpa using hs) (by simp [hlne])
      (by unfold ey;unfold f7 at hlb2;rw [hll] at hlb2 hjb ⊢;cases hl:m.leaf <;> simp [hl] at hjb hlb2 hlight ⊢ <;> omega)
     have e2:(⟨false,a' ++ [lo'] ++ b,[],c' ++ [ql] ++ q :: e⟩:Nd)=⟨false,a' ++ lo' :: b,[],c' ++ ql :: q :: e⟩:=by simp
     refine ⟨s',n',gs',?_,by simpa using w2,w3,w4,?_,?_,w7⟩
     ·rw [e2,show (a' ++ [lo']).length - 1=a'.length by simp];exact w1
     ·simp only [List.length_append,List.length_cons] at *;omega
     ·rw [show a' ++ [lo'] ++ b=a' ++ lo' :: b by simp];omega
structure LeafAct (act:Nd→Pro (Option Nd)) (k:By) (f:List Pr→List Pr) (did:List Pr→Bool):Prop where
 mid:∀ {a b c:List Pr},(∀ p ∈ a,bK p.1 k=true)→(∀ p ∈ c,bK k p.1=true)→f (a ++ (b ++ c))=a ++ (f b ++ c)∧did (a ++ (b ++ c))=did b
 run:∀ {s:Sf} {n:Nd} {lo:By} {hi:Option By} {ps:List Pr} {gs X:List Int},bf s.B 0 n lo hi ps gs→rH lo hi k→Hp s (gs ++ X)→(gs ++ X).length+23≤4095→br n≤229→
  (did ps=false∧(act n).run s=(s,.ok none))∨
  (did ps=true∧∃ s' n' gs',(act n).run s=(s',.ok (some n'))∧bf s'.B 0 n' lo hi (f ps) gs'∧Hp s' (gs' ++ X)∧Kp X s s'∧gs'.length≤gs.length+23∧br n'≤336)
def iY (d:Nat):Nat:=if d=0 then 336 else 294
theorem lO {act:Nd→Pro (Option Nd)} {k:By} {f:List Pr→List Pr} {did:List Pr→Bool} (ha:LeafAct act k f did):∀ (d:Nat) (fu:Nat) {s:Sf} {q:Int} {n:Nd} {lo:By} {hi:Option By} {ps:List Pr} {gs X:List Int},
  d≤fu→cN (s.B q)=some n→bf s.B d n lo hi ps gs→rH lo hi k→Hp s ((q :: gs) ++ X)→((q :: gs) ++ X).length+23+d≤4094→
  (did ps=false∧(aT act k fu q).run s=(s,.ok none))∨
  (did ps=true∧∃ s' n' gs',(aT act k fu q).run s=(s',.ok (some n'))∧bf s'.B d n' lo hi (f ps) gs'∧Hp s' ((q :: gs') ++ X)∧Kp X s s'∧gs'.length≤gs.length+23+d∧br n'≤iY d)
 | 0,fu,s,q,n,lo,hi,ps,gs,X,_,hd,hn,hb,hs,hr=>by
   have hg:=du hd;have hcap:=(cZ hg.1).1 hg.2.1;unfold f7 at hcap;rw [if_pos hn.1] at hcap;have hs':Hp s (gs ++ (q :: X)):=hs.perm (by rw [List.perm_iff_count];intro a;simp only [List.count_cons,List.count_append];omega);have hrd:=dI hs (p:=q) (by simp) hd;have hrun:(aT act k fu q).run s=(act n).run s:=by unfold aT;rw [af hrd,if_pos hn.1]
   rw [hrun];rcases ha.run hn hb hs' (by simp only [List.length_append,List.length_cons] at *;omega) hcap with ⟨h1,h2⟩ | ⟨h1,s',n',gs',h2,h3,h4,h5,h6,h7⟩
   ·exact .inl ⟨h1,h2⟩
   ·refine .inr ⟨h1,s',n',gs',h2,h3,h4.perm ?_,h5.sub (fun p hp=>List.mem_cons_of_mem _ hp),by omega,h7⟩;rw [List.perm_iff_count];intro a;simp only [List.count_cons,List.count_append];omega
 | d+1,fu,s,q,n,lo,hi,ps,gs,X,hf,hd,hn,hb,hs,hr=>by
   obtain ⟨fu,rfl⟩:∃ g,fu=g+1:=⟨fu - 1,by omega⟩;have hg:=du hd;have hcap:=(cZ hg.1).1 hg.2.1;obtain ⟨nl,nk,nc,nd⟩:=n;obtain ⟨h1,h2,h3,h4⟩:=node_succ.1 hn;simp only at h1 h2 h3 h4;subst h1 h2;unfold f7 at hcap;rw [if_neg (by simp),fQ rfl] at hcap;simp only at hcap;obtain ⟨_,hk0,hkl,_,_,_⟩:=aI hg.1 rfl;simp only at hk0 hkl;have hT:=gi s.B d;have hr0:=(cj s.B (d+1) hn).2.2.2;have hpw:=(rises_pw.1 hr0).2;obtain ⟨k1,k2,k3⟩:=m7 (n:=⟨false,nk,[],nd⟩) (k:=k) hpw;simp only at k1 k2 k3;obtain ⟨i,hi0⟩:∃ i,bT ⟨false,nk,[],nd⟩ k=i:=⟨_,rfl⟩;rw [hi0] at k1 k2 k3;obtain ⟨lo',hi',p1,p2,p3,g1,g2,g3,e1,e2,e3,rfl,rfl⟩:=d9 (i:=i) h4 (by omega);have f1:=ke hT e1;have f3:=mv hT e3;have hlo':bK k lo'=false:=by
    rcases f1.2.2 with h | h
    ·rw [h];exact hb.1
    ·exact k1 _ h
   have hhi':∀ h,hi'=some h→bK k h=true:=by
    intro h e;rcases f3.2.2 with h5 | ⟨x,h5,h6⟩
    ·exact hb.2 h (h5 ▸ e)
    ·rw [h6] at e;injection e with e
     exact e ▸ k2 x h5
   have hx1:∀ p ∈ p1,bK p.1 k=true:=fun p hp=>dr ((f1.1 p hp).2 lo' rfl) hlo'
   have hx3:∀ p ∈ p3,bK k p.1=true:=fun p hp=>by
    obtain ⟨h,e,h5⟩:=f3.1 p hp;exact dr (hhi' h e) h5
   obtain ⟨hm1,hm2⟩:=ha.mid (b:=p2) hx1 hx3;obtain ⟨e20,m,g2',hmd,rfl,hmN⟩:=e2;have hlh:∀ h,hi'=some h→bK lo' h=true:=fun h e=>d8 hlo' (hhi' h e)
   obtain ⟨qk,hqk⟩:∃ qk,nd.getD i 0=qk:=⟨_,rfl⟩;rw [hqk] at hmd hs hr;have hkids:nd=nd.take i ++ qk :: nd.drop (i+1):=by rw [← hqk,List.getD_eq_getElem?_getD,List.getElem?_eq_getElem (by omega),Option.getD_some,← List.drop_eq_getElem_cons (by omega),List.take_append_drop]
   have hs':Hp s ((qk :: g2') ++ (q :: (g1 ++ g3) ++ X)):=hs.perm (by rw [List.perm_iff_count];intro a;simp only [List.count_cons,List.count_append];omega)
   have hrun:(aT act k (fu+1) q).run s=((aT act k fu qk).bind fun o=>match o with
     | none=>.pure none
     | some c=>(aX ⟨false,nk,[],nd⟩ i c).bind fun n'=>.pure (some n')).run s:=by
    conv=>lhs;unfold aT
    rw [af (dI hs (p:=q) (by simp) hd),if_neg (by simp)];simp only;rw [hi0,hqk];rfl
   rw [hrun,hm1,hm2];rcases lO ha d fu (by omega) hmd hmN ⟨hlo',hhi'⟩ hs' (by simp only [List.length_append,List.length_cons] at *;omega) with ⟨w1,w2⟩ | ⟨w1,s1,c,gc,w2,w3,w4,w5,w6,w7⟩
   ·exact .inl ⟨w1,by rw [af w2];rfl⟩
   ·have hpar:Parent s.B d (nk.take i) (nk.drop i) (nd.take i) (nd.drop (i+1)) lo lo' hi hi' p1 p3 g1 g3:=⟨e1,e3,fun x hx=>h3 x (List.mem_of_mem_take hx),fun x hx=>h3 x (List.mem_of_mem_drop hx)⟩;have hpar1:=hpar.congr (B':=s1.B) (fun x hx=>w5.b x (by simp at hx ⊢;rcases hx with hx | hx <;> simp [hx]))
    obtain ⟨s',n',gs',r1,r2,r3,r4,r5,r6,r7⟩:=nW hpar1 w3 (X:=q :: X) (q:=qk) (w4.perm (by rw [List.perm_iff_count];intro a;simp only [List.count_cons,List.count_append];omega)) (by rw [List.take_append_drop];exact hk0) hlh
     (by simp only [List.length_append,List.length_cons] at *;omega) (by
       have hcl:=eI w3;unfold iY at w7;unfold ey;by_cases h0:d=0
       ·rw [if_pos h0] at w7;rw [hcl,decide_eq_true h0,if_pos rfl];omega
       ·rw [if_neg h0] at w7;rw [hcl,decide_eq_false h0,if_neg (by simp)];omega)
    rw [List.take_append_drop,← hkids,List.length_take,Nat.min_eq_left k3] at r1;refine .inr ⟨w1,s',n',gs',?_,r2,r3.perm ?_,(w5.sub fun p hp=>by simp [hp]).trans (r4.sub fun p hp=>List.mem_cons_of_mem _ hp),?_,?_⟩
    ·rw [af w2];simp only;rw [af r1];rfl
    ·rw [List.perm_iff_count];intro a;simp only [List.count_cons,List.count_append];omega
    ·simp only [List.length_append,List.length_cons] at *;omega
    ·unfold iY;rw [if_neg (by omega),fQ r7];rw [List.take_append_drop] at r6;omega
theorem oI {s:Sf} {d:Nat} {n:Nd} {ps:List Pr} {gs X:List Int} {q:Int} (hn:bf s.B d n [] none ps gs) (hs:Hp s ((q :: gs) ++ X)) (hk:d≠0→n.keys≠[]) (hb:br n≤ey n) (hr:((q :: gs) ++ X).length+1<4095):
  ∃ s' d' gs',(ex q n).run s=(s',.ok ())∧Tr s'.B d' q ps (q :: gs')∧Hp s' ((q :: gs') ++ X)∧Kp X s s'∧d'≤d+1∧gs'.length≤gs.length+2:=by
 have hnd:=hs.nd;have hg:=iZ hn ((List.nodup_cons.1 hnd).2.sublist (List.sublist_append_left _ _)) (fun x hx=>hs.pg (List.mem_cons_of_mem _ (List.mem_append_left _ hx))) hk;unfold ex;cases hf:bX n
 ·rw [if_neg (by simp)];have hbig:f7 n<br n:=by
   rcases Nat.lt_or_ge (f7 n) (br n) with h | h
   ·exact h
   ·rw [(fw hg).2 h] at hf;cases hf
  obtain ⟨o,s1,n1,n2,n3,n4⟩:=hs.new (by omega);have hn1:bf s1.B d n [] none ps gs:=bZ d hn fun x hx=>n4.b x (by simp [hx])
  have n3':Hp s1 (o :: (gs ++ (q :: X))):=n3.perm (by rw [List.perm_iff_count];intro a;simp only [List.count_cons,List.count_append];omega);obtain ⟨s2,r,key,p1,p2,g1,g2,w1,w2,w3,rfl,rfl,w6,w7,w8⟩:=mQ ⟨false,[],[],[o]⟩ 0 (q:=o) rfl n3' (by simp only [List.length_append,List.length_cons] at *;omega) hn1 hg hbig hb;have hor:o≠r:=by have:=w2.nd;rw [List.cons_append,List.nodup_cons] at this;exact fun e=>this.1 (by rw [e];simp)
  have hoq:o≠q:=fun e=>n2 (by rw [e];simp)
  have htop:aB ⟨false,[key],[],[o,r]⟩=true:=dM (by simp [aO,w8]) (by simp) rfl (by simp [hor]) (fun x hx=>by
   simp only [List.mem_cons,List.not_mem_nil,or_false] at hx;rcases hx with rfl | rfl
   ·exact w2.pg (by simp)
   ·exact w2.pg (by simp))
  obtain ⟨v1,v2,v3⟩:=dn htop ((cZ htop).2 (by rw [fQ rfl];simp only [eQ,dx w8];simp [eY,f7];omega)) w2 (p:=q) (by simp);have hq:q ∉ (o :: g1) ++ (r :: g2) ++ X:=by have:=(w2.perm (U':=q :: ((o :: g1) ++ (r :: g2) ++ X)) (by rw [List.perm_iff_count];intro a;simp only [List.count_cons,List.count_append];omega)).nd;exact (List.nodup_cons.1 this).1
  have hkp:=fL (s:=s2) (d:=aD (ar ⟨false,[key],[],[o,r]⟩)) hq;refine ⟨_,d+1,o :: g1 ++ (r :: g2),?_,⟨_,_,v3,rfl,node_succ.2 ⟨rfl,rfl,fun k hk=>by rw [List.mem_singleton.1 hk];exact w8,p1,p2,o :: g1,r :: g2,rfl,rfl,?_,?_⟩⟩,v2.perm ?_,?_,by omega,by simp only [List.length_append,List.length_cons];omega⟩
  ·rw [n1,af w1];exact v1
  ·exact gP w6 fun x hx=>hkp.b x (by simp at hx ⊢;rcases hx with hx | hx <;> simp [hx])
  ·exact gP w7 fun x hx=>hkp.b x (by simp at hx ⊢;rcases hx with hx | hx <;> simp [hx])
  ·rw [List.perm_iff_count];intro a;simp only [List.count_cons,List.count_append];omega
  ·exact ((n4.sub fun x hx=>List.mem_append_right _ hx).trans (w3.sub fun x hx=>List.mem_cons_of_mem _ hx)).trans (hkp.sub fun x hx=>List.mem_append_right _ hx)
 ·rw [if_pos rfl];obtain ⟨w1,w2,w3⟩:=dn hg ((cZ hg).2 ((fw hg).1 hf)) hs (p:=q) (by simp);have hkp:Kp (gs ++ X) s (dG s q (aD (ar n))):=fL (List.nodup_cons.1 hnd).1;exact ⟨_,d,gs,w1,⟨n,gs,w3,rfl,bZ d hn fun x hx=>hkp.b x (List.mem_append_left _ hx)⟩,w2,hkp.sub (fun p hp=>List.mem_append_right _ hp),by omega,by omega⟩
theorem qE {s:Sf} {d:Nat} {n:Nd} {ps:List Pr} {gs X:List Int} {q:Int} (hn:bf s.B d n [] none ps gs) (hs:Hp s ((q :: gs) ++ X)) (hb:br n≤iY d) (hr:((q :: gs) ++ X).length+1<4095):
  ∃ s' d' gs',(cT 1 q n).run s=(s',.ok ())∧Tr s'.B d' q ps (q :: gs')∧Hp s' ((q :: gs') ++ X)∧Kp X s s'∧d'≤d+1∧gs'.length≤gs.length+2:=by
 have hcap:∀ (d:Nat) (n:Nd),br n≤iY d→n.leaf=decide (d=0)→br n≤ey n:=fun d n h hl=>by
  unfold iY at h;unfold ey;rw [hl];by_cases h0:d=0
  ·rw [if_pos h0] at h;rw [decide_eq_true h0,if_pos rfl];omega
  ·rw [if_neg h0] at h;rw [decide_eq_false h0,if_neg (by simp)];omega
 unfold cT;by_cases hc:(!n.leaf && n.keys.isEmpty)=true
 ·rw [if_pos hc];rw [Bool.and_eq_true] at hc;have hl:n.leaf=false:=by simpa using hc.1
  have hk:n.keys=[]:=by simpa using hc.2
  cases d with
  | zero=>rw [hn.1] at hl;cases hl
  | succ d=>
    obtain ⟨h1,h2,h3,h4⟩:=node_succ.1 hn;obtain ⟨nl,nk,nc,nd⟩:=n;simp only at h1 h2 h4 hk;subst h1 h2 hk;have hlen:=dJ h4;obtain ⟨x,rfl⟩:∃ x,nd=[x]:=by
     cases nd with
     | nil=>simp at hlen
     | cons x l=>cases l with
       | nil=>exact ⟨x,rfl⟩
       | cons=>simp at hlen
    obtain ⟨hne,m,g,hm,rfl,hmN⟩:=h4;rw [show ([x]:List Int).getD 0 0=x from rfl,af (dI hs (by simp) hm)];have hs2:Hp s (x :: ((q :: g) ++ X)):=hs.perm (by rw [List.perm_iff_count];intro a;simp only [List.count_cons,List.count_append];omega);obtain ⟨s1,f1,f2,f3⟩:=hs2.free;rw [f1];have hg:=du hm;have hcp:=(cZ hg.1).1 hg.2.1;have hmN1:bf s1.B d m [] none ps g:=bZ d hmN fun y hy=>f3.b y (by simp [hy])
    obtain ⟨s',d',gs',r1,r2,r3,r4,r5,r6⟩:=oI hmN1 f2 (fun hd=>by
     have hl:=eI hmN;rw [decide_eq_false hd] at hl;exact (aI hg.1 hl).2.1) (by unfold f7 at hcp;unfold ey;cases hl:m.leaf <;> simp [hl] at hcp ⊢ <;> omega) (by simp only [List.length_append,List.length_cons] at *;omega)
    exact ⟨s',d',gs',r1,r2,r3,(f3.sub fun y hy=>List.mem_append_right _ hy).trans r4,by omega,by simp only [List.length_cons];omega⟩
 ·rw [if_neg hc];have hl:=eI hn;exact oI hn hs (fun hd hk=>hc (by rw [hl,decide_eq_false hd,hk];rfl)) (hcap d n hb hl) hr
theorem nL {act:Nd→Pro (Option Nd)} {k:By} {f:List Pr→List Pr} {did:List Pr→Bool} (ha:LeafAct act k f did) {s:Sf} {d:Nat} {q:Int} {ps:List Pr} {gs X:List Int} (hd:d≤19) (ht:Tr s.B d q ps (q :: gs))
  (hs:Hp s ((q :: gs) ++ X)) (hr:((q :: gs) ++ X).length+50≤4094):
  ∃ s' d' gs',(ca act q k).run s=(s',.ok (did ps))∧Tr s'.B d' q (if did ps then f ps else ps) (q :: gs')∧Hp s' ((q :: gs') ++ X)∧Kp X s s'∧d'≤d+1∧gs'.length≤gs.length+25+d:=by
 obtain ⟨n,g,hn,hg,hN⟩:=ht;injection hg with _ hg
 subst hg;unfold ca;rcases lO ha d 19 hd hn hN ⟨jE k,fun h e=>by cases e⟩ hs (by omega) with ⟨w1,w2⟩ | ⟨w1,s1,c,gc,w2,w3,w4,w5,w6,w7⟩
 ·refine ⟨s,d,gs,?_,?_,hs,Kp.refl _ _,by omega,by omega⟩
  ·rw [af w2,w1];rfl
  ·rw [w1];exact ⟨n,gs,hn,rfl,hN⟩
 ·obtain ⟨s',d',gs',r1,r2,r3,r4,r5,r6⟩:=qE w3 w4 w7 (by simp only [List.length_append,List.length_cons] at *;omega);refine ⟨s',d',gs',?_,?_,r3,w5.trans r4,r5,by omega⟩
  ·rw [af w2];simp only;rw [af r1,w1];rfl
  ·rw [w1,if_pos rfl];exact r2
theorem rT (k v:By) (hk:k.length≤64) (hv:v.length≤5000):LeafAct (aH k v) k (fun ps=>iw ps k v) (fun _=>true):=by
 refine ⟨fun h1 h2=>⟨qK h1 h2,rfl⟩,fun {s n lo hi ps gs X} hn hb hs hr hcap=>.inr ⟨rfl,?_⟩⟩;obtain ⟨g1,g2,rfl,hL,hno,hyes⟩:=kj hn k;obtain ⟨a1,a2,a3,a4,a5⟩:=hn;have hpw:=(rises_pw.1 a3).2;have h64:=(rises_pw.1 a3).1;obtain ⟨l1,l2,l3⟩:=gR (k:=k) hpw;obtain ⟨_,hcl,hcg⟩:=cz a5;obtain ⟨nl,nk,nc,nd⟩:=n;simp only at *;subst a1 a2;have hbody:br ⟨true,nk,nc,[]⟩=(bC nk nc).length:=rfl;unfold aH;simp only;cases hi:fO nk k
 ·rw [if_neg (by simp)];obtain ⟨_,hR⟩:=hno hi;obtain ⟨s',c,gc,r1,r2,r3,r4,r5,r6⟩:=nC hv hs (by omega);rw [af r1];have e1:nk.insertIdx (bB nk k) k=nk.take (bB nk k) ++ k :: nk.drop (bB nk k):=by
   have:=eh (nk.take (bB nk k)) (nk.drop (bB nk k)) k
   rwa [List.take_append_drop,List.length_take,Nat.min_eq_left l3] at this
  have e2:nc.insertIdx (bB nk k) c=nc.take (bB nk k) ++ c :: nc.drop (bB nk k):=by
   have:=eh (nc.take (bB nk k)) (nc.drop (bB nk k)) c
   rwa [List.take_append_drop,List.length_take,Nat.min_eq_left (by omega)] at this
  have hlen:=r4.len;refine ⟨s',_,g1 ++ (gc ++ g2),rfl,⟨rfl,rfl,?_,fun x hx=>?_,?_⟩,r2.perm ?_,r3.sub (fun x hx=>List.mem_append_right _ hx),?_,?_⟩
  ·simp only;rw [e1];have hgt:=je hpw hi;refine rises_pw.2 ⟨fun x hx=>?_,List.pairwise_append.2 ⟨hpw.sublist (List.take_sublist _ _),List.pairwise_cons.2 ⟨hgt,hpw.sublist (List.drop_sublist _ _)⟩,fun a ha b hb=>?_⟩⟩
   ·rcases List.mem_append.1 hx with hx | hx
    ·exact h64 x (List.mem_of_mem_take hx)
    ·rcases List.mem_cons.1 hx with rfl | hx
     ·exact hk
     ·exact h64 x (List.mem_of_mem_drop hx)
   ·rcases List.mem_cons.1 hb with rfl | hb
    ·exact l1 a ha
    ·exact cX (l1 a ha) (hgt b hb)
  ·simp only at hx;rw [e1] at hx;rcases List.mem_append.1 hx with hx | hx
   ·exact a4 x (List.mem_of_mem_take hx)
   ·rcases List.mem_cons.1 hx with rfl | hx
    ·exact hb
    ·exact a4 x (List.mem_of_mem_drop hx)
  ·simp only;rw [e1,e2];exact gW (eb hL fun x hx=>r3.b x (by simp [hx])) ⟨v,gc,_,g2,rfl,rfl,r4,eb hR fun x hx=>r3.b x (by simp [hx])⟩
  ·rw [List.perm_iff_count];intro a;simp only [List.count_append];omega
  ·simp only [List.length_append];omega
  ·show (bC _ _).length≤336;simp only;rw [e1,e2,dZ _ _ _ _ (by rw [List.length_take,List.length_take];omega)];have hsum:(bC nk nc).length=(bC (nk.take (bB nk k)) (nc.take (bB nk k))).length+(bC (nk.drop (bB nk k)) (nc.drop (bB nk k))).length:=by rw [← List.length_append,← dZ _ _ _ _ (by rw [List.length_take,List.length_take];omega),List.take_append_drop,List.take_append_drop]
   have:=dx hk;simp only [bC,List.length_append];omega
 ·rw [if_pos rfl];obtain ⟨v0,g3,g4,rfl,_,hC,hR⟩:=hyes hi;obtain ⟨i1,i2,i3⟩:=eE hi;have hs1:Hp s (g3 ++ (g1 ++ g4 ++ X)):=hs.perm (by rw [List.perm_iff_count];intro a;simp only [List.count_append];omega);obtain ⟨s1,d1,d2,d3⟩:=qa hs1 hC;rw [af d1];obtain ⟨s',c,gc,r1,r2,r3,r4,r5,r6⟩:=nC hv d2 (by simp only [List.length_append] at *;omega);rw [af r1];have hlen:=r4.len;obtain ⟨c0,hc0⟩:∃ c0,nc.getD (bB nk k) ⟨0,[],0⟩=c0:=⟨_,rfl⟩;have hcd:nc=nc.take (bB nk k) ++ c0 :: nc.drop (bB nk k+1):=by rw [← hc0,List.getD_eq_getElem?_getD,List.getElem?_eq_getElem (by omega),Option.getD_some,← List.drop_eq_getElem_cons (by omega),List.take_append_drop]
  have hkd:nk=nk.take (bB nk k) ++ k :: nk.drop (bB nk k+1):=by rw [← i3,List.take_append_drop]
  have e2:nc.set (bB nk k) c=nc.take (bB nk k) ++ c :: nc.drop (bB nk k+1):=by
   have:=oL (nc.take (bB nk k)) (nc.drop (bB nk k+1)) c0 c
   rwa [← hcd,List.length_take,Nat.min_eq_left (by omega)] at this
  refine ⟨s',_,g1 ++ (gc ++ g4),rfl,⟨rfl,rfl,a3,a4,?_⟩,r2.perm ?_,(d3.sub fun x hx=>List.mem_append_right _ hx).trans (r3.sub fun x hx=>List.mem_append_right _ hx),?_,?_⟩
  ·simp only;rw [e2]
   have hh:=gW (eb hL fun x hx=>(r3.b x (by simp [hx])).trans (d3.b x (by simp [hx]))) (k2:=k :: nk.drop (bB nk k+1)) (c2:=c :: nc.drop (bB nk k+1)) (p2:=(k,v) :: o6 ps k) (g2:=gc ++ g4)
    ⟨v,gc,_,g4,rfl,rfl,r4,eb hR fun x hx=>(r3.b x (by simp [hx])).trans (d3.b x (by simp [hx]))⟩
   rw [← hkd] at hh;exact hh
  ·rw [List.perm_iff_count];intro a;simp only [List.count_append];omega
  ·simp only [List.length_append];omega
  ·show (bC _ _).length≤336;simp only;rw [e2];have hsum:(bC nk nc).length=(bC (nk.take (bB nk k)) (nc.take (bB nk k))).length+(bC (k :: nk.drop (bB nk k+1)) (c0 :: nc.drop (bB nk k+1))).length:=by rw [← List.length_append,← dZ _ _ _ _ (by rw [List.length_take,List.length_take];omega),← hkd,← hcd]
   have hsum2:(bC nk (nc.take (bB nk k) ++ c :: nc.drop (bB nk k+1))).length=(bC (nk.take (bB nk k)) (nc.take (bB nk k))).length+(bC (k :: nk.drop (bB nk k+1)) (c :: nc.drop (bB nk k+1))).length:=by rw [← List.length_append,← dZ _ _ _ _ (by rw [List.length_take,List.length_take];omega),← hkd]
   rw [hsum2];simp only [bC,List.length_append] at hsum ⊢;omega
theorem Hp.spare {s:Sf} {U:List Int} (h:Hp s U):s.h.spare+U.length+1=s.h.pages:=by obtain ⟨F,h⟩:=h;have:=h.count;have:=h.sp;omega
theorem Hp.left {s:Sf} {U:List Int} (h:Hp s U):s.left=-1:=let ⟨_,h⟩:=h;h.left
theorem Hp.ok {s:Sf} {U:List Int} (h:Hp s U):s.Ok:=let ⟨_,h⟩:=h;h.ok
theorem nm {k:By}:∀ (d f:Nat) {s:Sf} {q:Int} {n:Nd} {lo:By} {hi:Option By} {ps:List Pr} {gs U:List Int},d<f→cN (s.B q)=some n→bf s.B d n lo hi ps gs→rH lo hi k→Hp s U→(∀ x ∈ q :: gs,x ∈ U)→
  (bo f q k).run s=(s,.ok (fT ps k))
 | 0,f,s,q,n,lo,hi,ps,gs,U,hf,hd,hn,hb,hs,hu=>by
   obtain ⟨f,rfl⟩:∃ g,f=g+1:=⟨f - 1,by omega⟩;unfold bo;rw [af (dI hs (hu q List.mem_cons_self) hd),if_pos hn.1];obtain ⟨g1,g2,rfl,hL,hno,hyes⟩:=kj hn k;unfold fV;cases hi':fO n.keys k
   ·rw [if_neg (by simp),(hno hi').1];rfl
   ·rw [if_pos rfl];obtain ⟨v,g3,g4,rfl,hg,hC,_⟩:=hyes hi';rw [af (hC.run hs fun x hx=>hu x (by simp [hx])),hg];rfl
 | d+1,f,s,q,n,lo,hi,ps,gs,U,hf,hd,hn,hb,hs,hu=>by
   obtain ⟨f,rfl⟩:∃ g,f=g+1:=⟨f - 1,by omega⟩;obtain ⟨h1,h2,h3,h4⟩:=node_succ.1 hn;have hT:=gi s.B d;have hpw:=(rises_pw.1 (cj s.B (d+1) hn).2.2.2).2;obtain ⟨k1,k2,k3⟩:=m7 (n:=n) (k:=k) hpw;have hkl:=dJ h4;obtain ⟨lo',hi',p1,p2,p3,g1,g2,g3,e1,e2,e3,rfl,rfl⟩:=d9 (i:=bT n k) h4 (by omega);have f1:=ke hT e1;have f3:=mv hT e3;have hlo':bK k lo'=false:=by
    rcases f1.2.2 with h | h
    ·rw [h];exact hb.1
    ·exact k1 _ h
   have hhi':∀ h,hi'=some h→bK k h=true:=by
    intro h e;rcases f3.2.2 with h5 | ⟨x,h5,h6⟩
    ·exact hb.2 h (h5 ▸ e)
    ·rw [h6] at e;injection e with e
     exact e ▸ k2 x h5
   unfold bo;rw [af (dI hs (hu q List.mem_cons_self) hd),if_neg (by rw [h1];simp)];obtain ⟨_,m,g2',hmd,rfl,hmN⟩:=e2
   rw [kr (fun p hp=>fN (dr ((f1.1 p hp).2 lo' rfl) hlo')) (fun p hp=>by
    obtain ⟨h,e,h5⟩:=f3.1 p hp;exact (fN (dr (hhi' h e) h5)).symm)]
   exact nm d f (by omega) hmd hmN ⟨hlo',hhi'⟩ hs fun x hx=>hu x (by simp at hx ⊢;rcases hx with hx | hx <;> simp [hx])
theorem ss {s:Sf} {d:Nat} {q:Int} {ps:List Pr} {gs U:List Int} (ht:Tr s.B d q ps gs) (hd:d≤19) (hs:Hp s U) (hu:∀ x ∈ gs,x ∈ U) (k:By):(bo 20 q k).run s=(s,.ok (fT ps k)):=by obtain ⟨n,g,hn,rfl,hN⟩:=ht;exact nm d 20 (by omega) hn hN ⟨jE k,fun h e=>by cases e⟩ hs hu
theorem ko {T:TP} {N:Nat} (hT:∀ {d lo hi ps gs},T d lo hi ps gs→N≤ps.length):∀ {ks:List By} {ds:List Int} {lo:By} {hi:Option By} {ps:List Pr} {gs:List Int},dP T lo ks hi ds ps gs→ds.length * N≤ps.length
 | [],[],_,_,_,_,h=>h.elim
 | [],[d],_,_,_,_,h=>by have:=hT h;simpa using this
 | [],_ :: _ :: _,_,_,_,_,h=>h.elim
 | k :: ks,[],_,_,_,_,h=>h.elim
 | k :: ks,d :: ds,lo,hi,_,_,h=>by
   obtain ⟨p1,p2,g1,g2,rfl,rfl,h1,h2⟩:=h;have:=hT h1;have:=ko hT h2;rw [List.length_cons,Nat.succ_mul,List.length_append];omega
theorem lu (B:Int→By):∀ (d:Nat) {n:Nd} {p:Int} {lo:By} {hi:Option By} {ps:List Pr} {gs:List Int},cN (B p)=some n→bf B d n lo hi ps gs→ps≠[]→2 ^ d≤ps.length
 | 0,n,p,lo,hi,ps,gs,_,_,h=>by have:=List.length_pos_iff.2 h;simp only [Nat.pow_zero];omega
 | d+1,n,p,lo,hi,ps,gs,hd,hn,_=>by
   obtain ⟨h1,h2,h3,h4⟩:=node_succ.1 hn;have hg:=aI (du hd).1 h1;have hkl:=dJ h4;have hk:2≤n.kids.length:=by have:=List.length_pos_iff.2 hg.2.1;omega
   have:=ko (N:=2 ^ d) (fun h=>by obtain ⟨hne,m,g,hm,_,hN⟩:=h;exact lu B d hm hN hne) h4;have h5:=Nat.mul_le_mul_right (2 ^ d) hk;rw [Nat.pow_succ];omega
theorem Tr.deep {B:Int→By} {d:Nat} {q:Int} {ps:List Pr} {gs:List Int} (h:Tr B d q ps gs):d=0∨2 ^ d≤ps.length:=by
 obtain ⟨n,g,hn,_,hN⟩:=h;rcases Nat.eq_zero_or_pos d with h | h
 ·exact .inl h
 ·refine .inr (lu B d hn hN ?_);exact l9 hN (fun e=>by omega)
theorem Tr.deep_le {B:Int→By} {d:Nat} {q:Int} {ps:List Pr} {gs:List Int} (h:Tr B d q ps gs) {m:Nat} (hp:ps.length<2 ^ (m+1)):d≤m:=by
 rcases h.deep with h | h
 ·omega
 ·rcases Nat.lt_or_ge m d with h2 | h2
  ·have:=Nat.pow_le_pow_right (n:=2) (by omega) (show m+1≤d from h2);omega
  ·exact h2
theorem pQ {l:By} (hl:l.length=232) {left:Nat} {next:Int} {part:By} (h:eP l left=some (next,part)):part.length=min left 227:=by
 unfold eP at h
 split at h
 ·injection h with h
  injection h with _ h
  rw [← h,List.length_take,List.length_drop,hl]
 ·cases h
theorem Lk.vlen {B:Int→By} (hB:∀ n,(B n).length=232) {left:Nat} {p:Int} {v:By} {ps:List Int} (h:Lk B left p v ps):v.length=left:=by
 induction h with
 | nil=>rfl
 | cons h0 h1 _ ih=> rw [List.length_append,ih,pQ (hB _) h1];omega
theorem Cel.chn {B:Int→By} (hB:∀ n,(B n).length=232) {c:Ce} {v:By} {ps:List Int} (h:Cel B c v ps):ps.length=chn v:=by
 obtain ⟨hg,h⟩:=h;unfold Go.Proofs.YtknioodagnjchaaGreatDoor.chn
 split at h
 ·rename_i hc
  obtain ⟨_,h2,_⟩:=eS hg (by omega);rw [h.1,h.2,if_pos (by omega)];rfl
 ·rename_i hc
  have:=h.vlen hB;rw [h.len,this,if_neg (by omega)]
def wt (ps:List Pr):Nat:=(ps.map fun p=>2+chn p.2).sum
theorem sR (a b:List Pr):wt (a ++ b)=wt a+wt b:=by simp [wt]
theorem oD (p:Pr) (a:List Pr):wt (p :: a)=2+chn p.2+wt a:=by simp [wt]
theorem ij {B:Int→By} (hB:∀ n,(B n).length=232):∀ {ks:List By} {cs:List Ce} {ps:List Pr} {gs:List Int},dw B ks cs ps gs→gs.length+2 * ps.length=wt ps
 | [],[],_,_,⟨rfl,rfl⟩=>rfl
 | [],_ :: _,_,_,h=>h.elim
 | _ :: _,[],_,_,h=>h.elim
 | k :: ks,c :: cs,_,_,h=>by
   obtain ⟨v,g1,p2,g2,rfl,rfl,h1,h2⟩:=h;have:=ij hB h2;have h3:=h1.chn hB;rw [oD,List.length_append,List.length_cons];simp only;omega
theorem km {T:TP} (hT:∀ {d lo hi ps gs},T d lo hi ps gs→gs.length+1≤wt ps):∀ {ks:List By} {ds:List Int} {lo:By} {hi:Option By} {ps:List Pr} {gs:List Int},dP T lo ks hi ds ps gs→gs.length+ds.length≤wt ps
 | [],[],_,_,_,_,h=>h.elim
 | [],[d],_,_,_,_,h=>by have:=hT h;simpa using this
 | [],_ :: _ :: _,_,_,_,_,h=>h.elim
 | k :: ks,[],_,_,_,_,h=>h.elim
 | k :: ks,d :: ds,lo,hi,_,_,h=>by
   obtain ⟨p1,p2,g1,g2,rfl,rfl,h1,h2⟩:=h;have:=hT h1;have:=km hT h2;rw [List.length_cons,sR,List.length_append];omega
theorem kh {B:Int→By} (hB:∀ n,(B n).length=232):∀ (d:Nat) {n:Nd} {p:Int} {lo:By} {hi:Option By} {ps:List Pr} {gs:List Int},cN (B p)=some n→bf B d n lo hi ps gs→ps≠[]→gs.length+2≤wt ps
 | 0,n,p,lo,hi,ps,gs,_,hn,h=>by
   have:=ij hB hn.2.2.2.2;have:=List.length_pos_iff.2 h;omega
 | d+1,n,p,lo,hi,ps,gs,hd,hn,_=>by
   obtain ⟨h1,h2,h3,h4⟩:=node_succ.1 hn;have hg:=aI (du hd).1 h1;have hkl:=dJ h4;have hk:2≤n.kids.length:=by have:=List.length_pos_iff.2 hg.2.1;omega
   have:=km (fun h=>by obtain ⟨hne,m,g,hm,rfl,hN⟩:=h;have:=kh hB d hm hN hne;simp only [List.length_cons];omega) h4;omega
theorem Tr.pages {B:Int→By} (hB:∀ n,(B n).length=232) {d:Nat} {q:Int} {ps:List Pr} {gs:List Int} (h:Tr B d q ps gs):gs.length≤wt ps+1:=by
 obtain ⟨n,g,hn,rfl,hN⟩:=h;by_cases hp:ps=[]
 ·subst hp;cases d with
  | zero=> have:=ij hB hN.2.2.2.2;simp [wt] at this;simp [this,wt]
  | succ d=>exact absurd rfl (l9 hN (fun e=>by omega))
 ·have:=kh hB d hn hN hp;rw [List.length_cons];omega
theorem Tr.nil_pages {B:Int→By} (hB:∀ n,(B n).length=232) {d:Nat} {q:Int} {gs:List Int} (h:Tr B d q [] gs):gs=[q]:=by have h1:=h.pages hB;obtain ⟨n,g,hn,rfl,hN⟩:=h;simp only [wt,List.map_nil,List.sum_nil,List.length_cons] at h1;have:g=[]:=List.length_eq_zero_iff.1 (by omega);rw [this]
theorem Tr.head {B:Int→By} {d:Nat} {q:Int} {ps:List Pr} {gs:List Int} (h:Tr B d q ps gs):∃ g,gs=q :: g:=let ⟨_,g,_,h,_⟩:=h;⟨g,h⟩
theorem Tr.congr {B B':Int→By} {d:Nat} {q:Int} {ps:List Pr} {gs:List Int} (h:Tr B d q ps gs) (hb:∀ x ∈ gs,B' x=B x):Tr B' d q ps gs:=by obtain ⟨n,g,hn,rfl,hN⟩:=h;exact ⟨n,g,by rw [hb q List.mem_cons_self];exact hn,rfl,bZ d hN fun x hx=>hb x (List.mem_cons_of_mem _ hx)⟩
theorem Tr.srt {B:Int→By} {d:Nat} {q:Int} {ps:List Pr} {gs:List Int} (h:Tr B d q ps gs):tU ps∧∀ p ∈ ps,p.1.length≤64:=by obtain ⟨n,g,hn,rfl,hN⟩:=h;have:=cj B d hN;exact ⟨this.2.1,this.2.2.1⟩
theorem lH {s:Sf} {U:List Int} (hs:Hp s U):∀ {ks:List By} {cs:List Ce} {ps:List Pr} {gs:List Int} (out:List Int),dw s.B ks cs ps gs→(∀ x ∈ gs,x ∈ U)→(dO cs out).run s=(s,.ok (out ++ gs))
 | [],[],_,_,out,⟨rfl,rfl⟩,_=>by simp [dO,Pro.run]
 | [],_ :: _,_,_,_,h,_=>h.elim
 | _ :: _,[],_,_,_,h,_=>h.elim
 | k :: ks,c :: cs,_,_,out,h,hu=>by
   obtain ⟨v,g1,p2,g2,rfl,rfl,h1,h2⟩:=h;unfold dO;rw [af (h1.run hs fun x hx=>hu x (List.mem_append_left _ hx)),lH hs (out ++ g1) h2 fun x hx=>hu x (List.mem_append_right _ hx),List.append_assoc]
def dK (f:Nat):List Int→List Int→Pro (List Int)
 | [],out=>.pure out
 | k :: ks,out=>(bq f k out).bind fun o=>dK f ks o
theorem ed {α β γ:Type}:∀ (p:Pro α) (f:α→Pro β) (g:β→Pro γ),(p.bind f).bind g=p.bind fun a=>(f a).bind g
 | .pure a,f,g=>rfl
 | .fail e,f,g=>rfl
 | .get n k,f,g=>by simp only [Pro.bind];congr 1;funext l;exact ed _ f g
 | .put n d k,f,g=>by simp only [Pro.bind];congr 1;funext l;exact ed _ f g
 | .new k,f,g=>by simp only [Pro.bind];congr 1;funext l;exact ed _ f g
 | .free n k,f,g=>by simp only [Pro.bind];congr 1;funext l;exact ed _ f g
theorem jb (f:Nat):∀ (ks:List Int) (p:Pro (List Int)),ks.foldl (fun p k=>p.bind fun o=>bq f k o) p=p.bind (dK f ks)
 | [],p=>by
   simp only [List.foldl_nil];have:(dK f [])=Pro.pure:=by funext o;rfl
   rw [this];have hb:∀ p:Pro (List Int),p.bind Pro.pure=p:=by
    intro p
    induction p with
    | pure a=>rfl
    | fail e=>rfl
    | get n k ih=>simp only [Pro.bind];congr 1;funext l;exact ih l
    | put n d k ih=>simp only [Pro.bind];congr 1;funext l;exact ih l
    | new k ih=>simp only [Pro.bind];congr 1;funext l;exact ih l
    | free n k ih=>simp only [Pro.bind];congr 1;funext l;exact ih l
   rw [hb]
 | k :: ks,p=>by
   rw [List.foldl_cons,jb f ks,ed];rfl
theorem i8 {s:Sf} {U:List Int} (hs:Hp s U):∀ (d f:Nat) {q:Int} {n:Nd} {lo:By} {hi:Option By} {ps:List Pr} {gs:List Int} (out:List Int),d<f→cN (s.B q)=some n→bf s.B d n lo hi ps gs→(∀ x ∈ q :: gs,x ∈ U)→out.length+gs.length<4096→
  (bq f q out).run s=(s,.ok (out ++ q :: gs))
 | 0,f,q,n,lo,hi,ps,gs,out,hf,hd,hn,hu,hl=>by
   obtain ⟨f,rfl⟩:∃ g,f=g+1:=⟨f - 1,by omega⟩;unfold bq;rw [af (dI hs (hu q List.mem_cons_self) hd),if_neg (by omega),af (lH hs _ hn.2.2.2.2 fun x hx=>hu x (List.mem_cons_of_mem _ hx)),hn.2.1];simp [Pro.run]
 | d+1,f,q,n,lo,hi,ps,gs,out,hf,hd,hn,hu,hl=>by
   obtain ⟨f,rfl⟩:∃ g,f=g+1:=⟨f - 1,by omega⟩;obtain ⟨h1,h2,h3,h4⟩:=node_succ.1 hn
   have hkids:∀ {ks:List By} {ds:List Int} {lo:By} {hi:Option By} {ps:List Pr} {gs:List Int} (out:List Int),dP (iJ s.B d) lo ks hi ds ps gs→(∀ x ∈ gs,x ∈ U)→out.length+gs.length≤4096→(dK f ds out).run s=(s,.ok (out ++ gs)):=by
    intro ks
    induction ks with
    | nil=>
      intro ds lo hi ps gs out h hu hl
      match ds,h with
      | [x],h=> obtain ⟨_,m,g,hm,rfl,hN⟩:=h;unfold dK;rw [af (i8 hs d f out (by omega) hm hN hu (by simp only [List.length_cons] at hl;omega))];rfl
    | cons k ks ih=>
      intro ds lo hi ps gs out h hu hl
      match ds,h with
      | x :: ds,h=> obtain ⟨p1,p2,g1,g2,rfl,rfl,⟨_,m,g,hm,rfl,hN⟩,h2⟩:=h;unfold dK;rw [af (i8 hs d f out (by omega) hm hN (fun y hy=>hu y (List.mem_append_left _ hy)) (by simp only [List.length_append,List.length_cons] at hl;omega))];rw [ih (out ++ x :: g) h2 (fun y hy=>hu y (List.mem_append_right _ hy)) (by simp only [List.length_append,List.length_cons] at *;omega),List.append_assoc]
   unfold bq;rw [af (dI hs (hu q List.mem_cons_self) hd),if_neg (by omega),h2];rw [show (dO [] (out ++ [q]))=.pure (out ++ [q]) from rfl];rw [show (Pro.pure (out ++ [q])).bind (fun o=>List.foldl (fun p k=>p.bind fun o=>bq f k o) (Pro.pure o) n.kids)=List.foldl (fun p k=>p.bind fun o=>bq f k o) (Pro.pure (out ++ [q])) n.kids from rfl];rw [jb,show (Pro.pure (out ++ [q])).bind (dK f n.kids)=dK f n.kids (out ++ [q]) from rfl];rw [hkids (out ++ [q]) h4 (fun x hx=>hu x (List.mem_cons_of_mem _ hx)) (by simp only [List.length_append,List.length_cons,List.length_nil];omega)];simp
theorem mW {s:Sf} {d:Nat} {q:Int} {ps:List Pr} {gs U:List Int} (ht:Tr s.B d q ps gs) (hd:d≤19) (hs:Hp s U) (hu:∀ x ∈ gs,x ∈ U) (hl:gs.length≤4096):(fW q).run s=(s,.ok gs):=by obtain ⟨n,g,hn,rfl,hN⟩:=ht;unfold fW;rw [i8 hs d 20 [] (by omega) hn hN hu (by simp only [List.length_cons,List.length_nil] at *;omega)];rfl
theorem np {s:Sf} {d:Nat} {q:Int} {ps:List Pr} {gs X:List Int} (ht:Tr s.B d q ps gs) (hd:d≤19) (hs:Hp s (gs ++ X)) (hl:gs.length≤4096):∃ s',(eu q).run s=(s',.ok ())∧Hp s' X∧Kp X s s':=by obtain ⟨s',r1,r2,r3⟩:=jh gs s hs;refine ⟨s',?_,r2,r3⟩;unfold eu;rw [af (mW ht hd hs (fun x hx=>List.mem_append_left _ hx) hl)];exact r1
theorem rQ {s:Sf} {d:Nat} {q:Int} {ps:List Pr} {gs X:List Int} (ht:Tr s.B d q ps gs) (hd:d≤19) (hs:Hp s (gs ++ X)) (hr:(gs ++ X).length+50≤4094) {k v:By} (hk:k.length≤64) (hv:v.length≤5000):
  ∃ s' d' gs',(cP q k v).run s=(s',.ok ())∧Tr s'.B d' q (iw ps k v) gs'∧Hp s' (gs' ++ X)∧Kp X s s':=by
 obtain ⟨g,rfl⟩:=ht.head;obtain ⟨s',d',gs',r1,r2,r3,r4,_,_⟩:=nL (rT k v hk hv) hd ht hs hr;refine ⟨s',d',q :: gs',?_,r2,r3,r4⟩;unfold cP;rw [if_neg (by omega),if_neg (by omega),af r1];rfl
theorem sQ (ps:List Pr):2 * ps.length≤wt ps:=by
 induction ps with
 | nil=>exact Nat.le_refl _
 | cons a l ih=>rw [oD,List.length_cons];omega
def TS (s:Sf) (q:Int) (ps:List Pr) (X:List Int):Prop:=∃ d gs,Tr s.B d q ps gs∧Hp s (gs ++ X)
theorem TS.deep {s:Sf} {q:Int} {ps:List Pr} {X gs:List Int} {d:Nat} (ht:Tr s.B d q ps gs) (hs:Hp s (gs ++ X)) (hw:wt ps+X.length+60≤4094):d≤19∧gs.length≤wt ps+1:=by have h1:=ht.pages hs.ok.l;have h2:=sQ ps;exact ⟨ht.deep_le (m:=19) (by omega),h1⟩
theorem TS.ok {s:Sf} {q:Int} {ps:List Pr} {X:List Int} (h:TS s q ps X):s.Ok:=let ⟨_,_,_,hs⟩:=h;hs.ok
theorem TS.left {s:Sf} {q:Int} {ps:List Pr} {X:List Int} (h:TS s q ps X):s.left=-1:=let ⟨_,_,_,hs⟩:=h;hs.left
theorem TS.srt {s:Sf} {q:Int} {ps:List Pr} {X:List Int} (h:TS s q ps X):tU ps∧∀ p ∈ ps,p.1.length≤64:=let ⟨_,_,ht,_⟩:=h;ht.srt
theorem TS.rng {s:Sf} {q:Int} {ps:List Pr} {X:List Int} (h:TS s q ps X):1≤q∧q<4096:=by obtain ⟨d,gs,ht,hs⟩:=h;obtain ⟨g,rfl⟩:=ht.head;exact hs.rng (p:=q) (by simp)
theorem TS.put {s:Sf} {q:Int} {ps:List Pr} {X:List Int} (h:TS s q ps X) (hw:wt ps+X.length+60≤4094) {k v:By} (hk:k.length≤64) (hv:v.length≤5000):
  ∃ s',(cP q k v).run s=(s',.ok ())∧TS s' q (iw ps k v) X∧Kp X s s':=by
 obtain ⟨d,gs,ht,hs⟩:=h;obtain ⟨h1,h2⟩:=TS.deep ht hs hw;obtain ⟨s',d',gs',r1,r2,r3,r4⟩:=rQ ht h1 hs (by rw [List.length_append];omega) hk hv;exact ⟨s',r1,⟨d',gs',r2,r3⟩,r4⟩
theorem TS.get {s:Sf} {q:Int} {ps:List Pr} {X:List Int} (h:TS s q ps X) (hw:wt ps+X.length+60≤4094) (k:By):(bo 20 q k).run s=(s,.ok (fT ps k)):=by obtain ⟨d,gs,ht,hs⟩:=h;obtain ⟨h1,h2⟩:=TS.deep ht hs hw;exact ss ht h1 hs (fun x hx=>List.mem_append_left _ hx) k
theorem TS.list {s:Sf} {q:Int} {ps:List Pr} {X:List Int} (h:TS s q ps X) (hw:wt ps+X.length+60≤4094):∃ g,(fW q).run s=(s,.ok (q :: g))∧(q :: g).Nodup∧s.h.spare+(q :: g).length+X.length+1=s.h.pages∧(ps=[]→g=[])∧g.length≤wt ps:=by
 obtain ⟨d,gs,ht,hs⟩:=h;obtain ⟨h1,h2⟩:=TS.deep ht hs hw;have h3:=mW ht h1 hs (fun x hx=>List.mem_append_left _ hx) (by omega);have h4:=hs.spare;have h5:=(List.nodup_append.1 hs.nd).1;have h6:ps=[]→gs=[q]:=fun e=>by subst e;exact ht.nil_pages hs.ok.l
 obtain ⟨g,rfl⟩:=ht.head;refine ⟨g,h3,h5,?_,fun e=>?_,?_⟩
 ·rw [List.length_append] at h4;omega
 ·have:=h6 e;injection this
 ·rw [List.length_cons] at h2;omega
theorem TS.drop {s:Sf} {q:Int} {ps:List Pr} {X:List Int} (h:TS s q ps X) (hw:wt ps+X.length+60≤4094):∃ s',(eu q).run s=(s',.ok ())∧Hp s' X∧Kp X s s':=by obtain ⟨d,gs,ht,hs⟩:=h;obtain ⟨h1,h2⟩:=TS.deep ht hs hw;exact np ht h1 hs (by omega)
def TS2 (s:Sf) (x:Int) (ps:List Pr) (y:Int) (qs:List Pr):Prop:=∃ d gs d2 gs2,Tr s.B d x ps gs∧Tr s.B d2 y qs gs2∧Hp s (gs ++ gs2)
theorem TS2.symm {s:Sf} {x:Int} {ps:List Pr} {y:Int} {qs:List Pr} (h:TS2 s x ps y qs):TS2 s y qs x ps:=by obtain ⟨d,gs,d2,gs2,h1,h2,h3⟩:=h;exact ⟨d2,gs2,d,gs,h2,h1,h3.perm List.perm_append_comm⟩
theorem TS2.one {s:Sf} {x:Int} {ps:List Pr} {y:Int} {qs:List Pr} (h:TS2 s x ps y qs):∃ X,TS s x ps X∧X.length≤wt qs+1∧∀ s' ps',TS s' x ps' X→Kp X s s'→TS2 s' x ps' y qs:=by obtain ⟨d,gs,d2,gs2,h1,h2,h3⟩:=h;refine ⟨gs2,⟨d,gs,h1,h3⟩,h2.pages h3.ok.l,fun s' ps' ht hk=>?_⟩;obtain ⟨d',gs',h4,h5⟩:=ht;exact ⟨d',gs',d2,gs2,h4,h2.congr hk.b,h5⟩
def HasTh (ps:List Pr) (th:List Bool) (f g:Nat→By):Prop:=∀ k,(h:k<th.length)→fT ps (f k)=if th[k] then some (g k) else none
theorem HasTh.nil (n:Nat) (f g:Nat→By):HasTh [] (List.replicate n false) f g:=fun k h=>by simp [fT]
theorem HasTh.put {ps:List Pr} {th:List Bool} {f g:Nat→By} (h:HasTh ps th f g) (hf:∀ a b,a<th.length→b<th.length→f a=f b→a=b) {k:Nat} (hk:k<th.length):HasTh (iw ps (f k) (g k)) (th.set k true) f g:=fun j hj=>by
 rw [List.length_set] at hj;rw [nh,List.getElem_set];by_cases e:k=j
 ·subst e;rw [if_pos rfl,if_pos rfl];rfl
 ·rw [if_neg (fun e2=>e (hf _ _ hk hj e2.symm)),if_neg e];exact h j hj
theorem HasTh.is {ps:List Pr} {th:List Bool} {f g:Nat→By} (h:HasTh ps th f g) {k:Nat} (hk:k<th.length):(fT ps (f k)).isSome=th[k]:=by rw [h k hk];cases th[k] <;> rfl
structure Lef (M:Nat) (f:Nat→By) (ps:List Pr) (left:List Nat):Prop where
 nd:left.Nodup
 lt:∀ j ∈ left,j<M
 all:∀ p ∈ ps,∃ j ∈ left,p.1=f j
 is:∀ j ∈ left,(fT ps (f j)).isSome=true
theorem Lef.nil (M:Nat) (f:Nat→By):Lef M f [] []:=⟨List.nodup_nil,fun _ h=>absurd h List.not_mem_nil,fun _ h=>absurd h List.not_mem_nil,fun _ h=>absurd h List.not_mem_nil⟩
theorem qS {ps:List Pr} {k v:By} {p:Pr} (h:p ∈ iw ps k v):p=(k,v)∨p ∈ ps:=by
 unfold iw qW o6 at h;simp only [List.mem_append,List.mem_cons,List.mem_filter] at h;rcases h with h | h | h
 ·exact .inr h.1
 ·exact .inl h
 ·exact .inr h.1
theorem Lef.put {M:Nat} {f:Nat→By} {ps:List Pr} {left:List Nat} (h:Lef M f ps left) {j:Nat} (hj:j ∉ left) (hM:j<M) (v:By):Lef M f (iw ps (f j) v) (left ++ [j]) where
 nd:=List.nodup_append.2 ⟨h.nd,by simp,fun a ha b hb e=>hj (by simp only [List.mem_singleton] at hb;rw [← hb,← e];exact ha)⟩
 lt:=fun i hi=>by
  rcases List.mem_append.1 hi with hi | hi
  ·exact h.lt i hi
  ·rw [List.mem_singleton.1 hi];exact hM
 all:=fun p hp=>by
  rcases qS hp with rfl | hp
  ·exact ⟨j,by simp,rfl⟩
  ·obtain ⟨i,hi,e⟩:=h.all p hp;exact ⟨i,List.mem_append_left _ hi,e⟩
 is:=fun i hi=>by
  rw [nh]
  split
  ·rfl
  ·rename_i hne
   rcases List.mem_append.1 hi with hi | hi
   ·exact h.is i hi
   ·exact absurd (by rw [List.mem_singleton.1 hi]) hne
theorem Lef.end {M:Nat} {f:Nat→By} {ps:List Pr} (h:Lef M f ps []):ps=[]:=by
 cases ps with
 | nil=>rfl
 | cons p l=>obtain ⟨j,hj,_⟩:=h.all p List.mem_cons_self;cases hj
theorem TS2.put {s:Sf} {x y:Int} {ps qs:List Pr} (h:TS2 s x ps y qs) (hw:wt ps+wt qs+61≤4094) {k v:By} (hk:k.length≤64) (hv:v.length≤5000):∃ s',(cP x k v).run s=(s',.ok ())∧TS2 s' x (iw ps k v) y qs:=by obtain ⟨X,h1,h2,h3⟩:=h.one;obtain ⟨s',r1,r2,r3⟩:=h1.put (by omega) hk hv;exact ⟨s',r1,h3 _ _ r2 r3⟩
theorem TS2.drop {s:Sf} {x y:Int} {ps qs:List Pr} (h:TS2 s x ps y qs) (hw:wt ps+wt qs+61≤4094):∃ s',(eu y).run s=(s',.ok ())∧TS s' x ps []:=by obtain ⟨d,gs,d2,gs2,h1,h2,h3⟩:=h;have h4:=h3.perm (List.perm_append_comm (l₁:=gs) (l₂:=gs2));have h5:=h1.pages h3.ok.l;obtain ⟨e1,e2⟩:=TS.deep h2 h4 (by omega);obtain ⟨s',r1,r2,r3⟩:=np h2 e1 h4 (by omega);exact ⟨s',r1,d,gs,h1.congr r3.b,by rw [List.append_nil];exact r2⟩
end Go.Proofs.YtknioodagnjchaaGreatDoor
namespace Go.Proofs.YtknioodagnjchaaGreatDoor
open Go.RowKit
theorem dH {α:Type} {p:Sf × Ans α} {a:Ans α} (h:p.2=a):p=(p.1,a):=by rw [← h]
def tS:Sf:=ma 500
def tG:Sf:=(makeT.run tS).1
def tF:Sf:=((cP 1 [98] [120]).run tG).1
def tE:Sf:=((cP 1 [97] [121]).run tF).1
def tD:Sf:=((cP 1 [98] [122]).run tE).1
def tC:Sf:=((bo 20 1 [98]).run tD).1
def tz:Sf:=((kx 1 [99]).run tC).1
def tx:Sf:=((fW 1).run tz).1
def tw:Sf:=((cP 1 (List.replicate 65 0) []).run tx).1
def aS9:Sf:=((eu 1).run tw).1
theorem aw1:(makeT.run tS).2=.ok 1:=by kernel_rfl
theorem ar1:(makeT.run tS)=(tG,.ok 1):=by unfold tG;exact dH aw1
theorem aw2:((cP 1 [98] [120]).run tG).2=.ok ():=by kernel_rfl
theorem ar2:((cP 1 [98] [120]).run tG)=(tF,.ok ()):=by unfold tF;exact dH aw2
theorem aw3:((cP 1 [97] [121]).run tF).2=.ok ():=by kernel_rfl
theorem ar3:((cP 1 [97] [121]).run tF)=(tE,.ok ()):=by unfold tE;exact dH aw3
theorem aw4:((cP 1 [98] [122]).run tE).2=.ok ():=by kernel_rfl
theorem ar4:((cP 1 [98] [122]).run tE)=(tD,.ok ()):=by unfold tD;exact dH aw4
theorem aw5:((bo 20 1 [98]).run tD).2=.ok (some [122]):=by kernel_rfl
theorem ar5:((bo 20 1 [98]).run tD)=(tC,.ok (some [122])):=by unfold tC;exact dH aw5
theorem aw6:((kx 1 [99]).run tC).2=.ok false:=by kernel_rfl
theorem ar6:((kx 1 [99]).run tC)=(tz,.ok false):=by unfold tz;exact dH aw6
theorem aw7:((fW 1).run tz).2=.ok [1]:=by kernel_rfl
theorem ar7:((fW 1).run tz)=(tx,.ok [1]):=by unfold tx;exact dH aw7
theorem aw8:((cP 1 (List.replicate 65 0) []).run tx).2=.err 1:=by kernel_rfl
theorem ar8:((cP 1 (List.replicate 65 0) []).run tx)=(tw,.err 1):=by unfold tw;exact dH aw8
theorem aw9:((eu 1).run tw).2=.ok ():=by kernel_rfl
theorem ar9:((eu 1).run tw)=(aS9,.ok ()):=by unfold aS9;exact dH aw9
theorem t8:aS9.h.spare=1:=by kernel_rfl
end Go.Proofs.YtknioodagnjchaaGreatDoor
