/- Rollback, Commit as they are seen from without. Rollback, Commit as they are seen from without (2). log: Pages. pager: checkpoint, Checkpoint, settle. pager: told, Checkpoint, settle, reopened, Mode. pager: Mode. -/
import Derived.Test.YtdmhbgpejppbkaaGreatXGbo
import Derived.Test.YtdmhbgpejppbkaaGreatXGbr
import Derived.Test.YtdmhbgpejppbkaaGreatXGax
import Derived.Test.YtdmhbgpejppbkaaGreatXGbl
import Derived.Test.YtdmhbgpejppbkaaGreatXGbj
import Derived.Test.YtdmhbgpejppbkaaGreatXGbm
import Derived.Test.YtdmhbgpejppbkaaGreatXGbk
import Derived.Test.YtdmhbgpejppbkaaGreatXGaz
set_option maxRecDepth 100000
set_option maxHeartbeats 4000000
namespace Go.Proofs.YtdmhbgpejppbkaaGreat
open Go.RowKit Go.Maps
def Ab.stop (A:Ab):Ab:={ A with busy:=false,S:=[] }
theorem Rz.stopped {P Q:Pgr} {A:Ab} {t:Nat} (h:Rz P A t) (ht:t≤74) (hk:Q.head=P.head∧Q.base=P.base∧Q.busy=false∧Q.saves=[]∧Q.notes=none∧Q.lg.isSome=P.lg.isSome∧aN Q.lg≤aN P.lg∧(Q.gd,Q.life)=(P.gd,P.life)) (u:Uz Q A.C A.H.pages A.C):Rz Q A.stop (t+1):=by
 obtain ⟨k1,k2,k3,k4,k5,k6,k7,k8⟩:=hk;have h1:=h.hp;have h3:=h.hc;have h4:=h.lgn;refine ⟨k1.trans h.head,k3,fun x=>(by cases x),fun x=>(by cases x),h.hok,fun x=>(by cases x),by rw [k2];exact h.bse,by show A.H.pages≤_;omega,fun x=>(by cases x),by show A.H.change≤_;omega,fun x=>(by cases x),?_,by omega,fun _=>⟨rfl,k4,k5⟩,fun a ha=>absurd ha List.not_mem_nil,⟨A.H.pages,A.C,u,by rw [k4];exact .nil,Nat.le_refl _,by omega,fun _ _ _=>rfl⟩,by omega,fun x=>(by cases x),k8.trans h.gd⟩;rcases h.md with ⟨a,b⟩ | ⟨a,b⟩
 ·refine .inl ⟨a,?_⟩;rw [b] at k6;simpa using k6
 ·exact .inr ⟨a,by rw [k6];exact b⟩
theorem Ad:∀ l:List It,(aW l).f=0→(aW l).su=[]:=fun l=>by
 refine cM (p:=fun l=>(aW l).f=0→(aW l).su=[]) (fun _=>rfl) (fun l i ih h=>?_) l;rw [cO] at h ⊢;cases i with
 | some r=>exact ih h
 | none=>cases h
theorem jc {P Q:Pgr} {C:Int→By} {N p:Nat} {B:Int→By} (h:Uz P C N B) (hq:Q.ca=[]∧Q.size=P.size∧Q.base=P.base∧Q.head=P.head∧Q.busy=false∧Q.notes=none∧Q.marred=false∧Q.spoilt=false∧Q.saves=[]∧Q.over=P.over∧Q.lost=P.lost∧Q.life=P.life) (hz:Dz Q.d) (hlife:Q.d.life=P.d.life) (hp:p≤80)
  (hst:∀ m:Nat,1≤m→m<p→bu Q m (C m)) (hmd:(Q.lg=none∧Q.d.has bf=false∧Q.d.has aQ=false∧(∀ m:Nat,1≤m→m<Q.base→aF Q.d m (C m))∧Q.base≤(Q.d.now aA).length)∨∃ l its,Q.lg=some l∧LZ Q.base C Q.d l its its.length):Uz Q C p C:=by
 obtain ⟨q1,q2,q3,q4,q5,q6,q7,q8,q9,q10,q11,q12⟩:=hq;refine ⟨⟨q10.trans h.up.over,q11.trans h.up.lost,hz.fine.up,by rw [hlife,q12];exact h.up.life⟩,by rw [q2];exact h.s1,by rw [q2];exact h.s2,⟨hz,?_,?_,q8,by rw [q3];exact h.y.base,by rw [q4];exact h.y.ch,h.y.lenC,h.y.lenC,fun _=>⟨by rw [q1];exact fun x hx=>absurd hx List.not_mem_nil,rfl⟩⟩,by rw [q1,q2];have:=h.s1;show (0:Int)≤_;omega,hp⟩
 ·rw [q1];exact ⟨List.nodup_nil,fun x hx=>absurd hx List.not_mem_nil,fun x hx=>absurd hx List.not_mem_nil,fun x hx=>absurd hx List.not_mem_nil,fun m m1 m2=>.inr (.inr (hst m m1 m2))⟩
 ·rcases hmd with ⟨m1,m2,m3,m4,m5⟩ | ⟨l,its,m1,m2⟩
  ·refine .inl ⟨[],m1,m2,?_,by rw [q7];rfl,fun m a b _=>m4 m a b,by rw [q1];exact fun x hx=>absurd hx List.not_mem_nil,fun x hx=>absurd hx List.not_mem_nil,m5,by rw [q9];exact fun x hx=>absurd hx List.not_mem_nil,fun x=>absurd x (Nat.lt_irrefl 0)⟩;rw [q6];exact iS m3
  ·exact .inr ⟨l,its,its.length,m1,q6,q7,m2,fun x=>(by rw [q5] at x;cases x),fun _=>rfl⟩
theorem pw {d:Dk} (h:Dz d) {p:Nat} (hp:p≤(d.now aA).length):p≤((bz d p).now aA).length:=by
 unfold bz
 split
 ·rw [gM h.ok,if_pos rfl,List.length_take];omega
 ·exact hp
structure PutsZ (d:Dk) (K:List (Int × By)) (l:List Int):Prop where
 can:∀ (j:Nat) (n:Int),l[j]?=some n→0≤n∧n<4096∧((aC K n).getD []).length=232∧(d.puts K (l.take j)).Fine∧(d.puts K (l.take j)).Can aA n.toNat
 z:Dz (d.puts K l)
 now:∀ m,m≠aA→(d.puts K l).now m=d.now m
 has:∀ m,m≠aA→(d.puts K l).has m=d.has m
 len:((d.puts K l).now aA).length=(d.now aA).length
 at_:∀ m:Nat,((d.puts K l).now aA)[m]?=if (m:Int) ∈ l then some (aI 1 m 0 ((aC K (m:Int)).getD [])) else (d.now aA)[m]?
 life:(d.puts K l).life=d.life
 hm:d.has aA=true→(d.puts K l).has aA=true
theorem vJ {K:List (Int × By)}:∀ (l:List Int) (d:Dk),Dz d→(∀ n ∈ l,∃ m:Nat,n=m∧m<(d.now aA).length∧((aC K n).getD []).length=232)→PutsZ d K l
 | [],d,h,_=>⟨fun j n hn=>(by cases hn),h,fun _ _=>rfl,fun _ _=>rfl,rfl,fun m=>by rw [if_neg List.not_mem_nil];rfl,rfl,id⟩
 | n :: l,d,h,hok=>by
   obtain ⟨q,rfl,h1,h2⟩:=hok n (by simp);have hml:=h.ml;obtain ⟨s,hs⟩:∃ s,(aC K (q:Int)).getD []=s:=⟨_,rfl⟩;rw [hs] at h2;have hnow:∀ m,(d.put q s).now m=if m=aA then (d.now aA).take q ++ aI 1 q 0 s :: (d.now aA).drop (q+1) else d.now m:=fun m=>io h.ok (by omega)
   have hhas:∀ m,m≠aA→(d.put q s).has m=d.has m:=fun m hm=>(gA h.ok).trans (by rw [decide_eq_false hm];rfl)
   have hl1:((d.put q s).now aA).length=(d.now aA).length:=by rw [hnow,if_pos rfl,List.length_append,List.length_take,List.length_cons,List.length_drop];omega
   have hz:Dz (d.put q s):=by have e1:=hnow aQ;have e3:=hnow bf;rw [if_neg jn_ne] at e1;rw [if_neg ma_lo.symm] at e3;exact h.wr (n:=aA) (by simp) (bw h2) (by show ((d.put q s).now aQ).length≤_;rw [e1];exact h.jl) (by show ((d.put q s).now aA).length≤_;rw [hl1];exact hml) (by show ((d.put q s).now bf).length≤_;rw [e3];exact h.ll)
   have ih:=vJ l (d.put q s) hz fun k hk=>by
    obtain ⟨m,a,b,c⟩:=hok k (List.mem_cons_of_mem _ hk);exact ⟨m,a,by rw [hl1];exact b,c⟩
   have e3:∀ l',d.puts K ((q:Int) :: l')=(d.put q s).puts K l':=fun l'=>by
    show (d.put ((q:Int)).toNat ((aC K (q:Int)).getD [])).puts K l'=_;rw [hs,Int.toNat_natCast]
   refine ⟨fun j k hk=>?_,by rw [e3];exact ih.z,fun m hm=>by rw [e3,ih.now m hm,hnow,if_neg hm],fun m hm=>by rw [e3,ih.has m hm];exact hhas m hm,by rw [e3,ih.len,hl1],fun m=>?_,by rw [e3,ih.life];rfl,fun hx=>by rw [e3];exact ih.hm ((gA h.ok).trans (by rw [hx,Bool.or_true]))⟩
   ·cases j with
    | zero=>
      injection hk with hk
      subst hk;exact ⟨by omega,by omega,by rw [hs];exact h2,h.fine,h.can (by rw [Int.toNat_natCast];omega)⟩
    | succ j=> have:=ih.can j k hk;rw [List.take_succ_cons,e3];exact this
   ·rw [e3,ih.at_];by_cases hm:(m:Int) ∈ l
    ·rw [if_pos hm,if_pos (List.mem_cons_of_mem _ hm)]
    ·rw [if_neg hm,hnow,if_pos rfl];by_cases e:m=q
     ·subst e;rw [if_pos (by simp),hs,List.getElem?_append_right (by rw [List.length_take];omega),List.length_take,Nat.min_eq_left (by omega),Nat.sub_self];rfl
     ·rw [if_neg (by simp only [List.mem_cons,not_or];exact ⟨by omega,hm⟩)];by_cases hlt:m<q
      ·rw [List.getElem?_append_left (by rw [List.length_take];omega),List.getElem?_take_of_lt hlt]
      ·rw [List.getElem?_append_right (by rw [List.length_take];omega),List.length_take,Nat.min_eq_left (by omega),show m - q=(m - q - 1)+1 by omega,List.getElem?_cons_succ,List.getElem?_drop,show q+1+(m - q - 1)=m by omega]
theorem wS {su:List (Nat × By)} (hnd:(su.map (·.1)).Nodup):((dN (aV su).reverse).map (·.1)).Nodup∧(∀ p ∈ dN (aV su).reverse,∃ r ∈ su,p=((r.1:Int),r.2))∧∀ r ∈ su,aC (dN (aV su).reverse) (r.1:Int)=some r.2:=by
 have hg:∀ l:List Pg,((dN l).map (·.1)).Nodup∧(∀ p ∈ dN l,∃ x ∈ l,p=(x.n,bs x.s))∧((l.map (·.n)).Nodup→∀ x ∈ l,aC (dN l) x.n=some (bs x.s)):=fun l=>by
  refine cM (p:=fun l=>((dN l).map (·.1)).Nodup∧(∀ p ∈ dN l,∃ x ∈ l,p=(x.n,bs x.s))∧((l.map (·.n)).Nodup→∀ x ∈ l,aC (dN l) x.n=some (bs x.s))) ⟨List.nodup_nil,fun _ h=>absurd h List.not_mem_nil,fun _ _ h=>absurd h List.not_mem_nil⟩ (fun l x ⟨i1,i2,i3⟩=>?_) l;rw [jN];refine ⟨cU i1,fun p hp=>?_,fun hn y hy=>?_⟩
  ·rcases cy hp with e | e
   ·exact ⟨x,by simp,e⟩
   ·obtain ⟨z,hz,e⟩:=i2 p e;exact ⟨z,List.mem_append_left _ hz,e⟩
  ·rw [List.map_append,List.map_singleton,List.nodup_append] at hn;obtain ⟨n1,-,n3⟩:=hn;rw [bP i1];rcases List.mem_append.1 hy with hy | hy
   ·rw [if_neg (fun e=>n3 y.n (List.mem_map.2 ⟨y,hy,rfl⟩) x.n (by simp) e)];exact i3 n1 y hy
   ·rw [List.mem_singleton.1 hy,if_pos rfl]
 obtain ⟨a,b,c⟩:=hg (aV su).reverse;refine ⟨a,fun p hp=>?_,fun r hr=>?_⟩
 ·obtain ⟨x,hx,e⟩:=b p hp;obtain ⟨r,hr,rfl⟩:=List.mem_map.1 (List.mem_reverse.1 hx);exact ⟨r,hr,by rw [e];simp only [aR]⟩
 ·have hn2:((aV su).reverse.map (·.n)).Nodup:=by rw [List.map_reverse,(List.reverse_perm _).nodup_iff];unfold aV;rw [List.map_map];have:((su.map (·.1)).map fun i:Nat=>(i:Int)).Nodup:=List.Pairwise.map _ (fun x y h e=>h (Int.natCast_inj.1 e)) hnd;rw [List.map_map] at this;exact this
  have:=c hn2 ⟨(r.1:Int),aj r.2⟩ (List.mem_reverse.2 (List.mem_map.2 ⟨r,hr,rfl⟩));rw [aR] at this;exact this
theorem Rz.rolled {P:Pgr} {A:Ab} {t:Nat} (h:Rz P A t) (ht:t≤74) (hb:A.busy=true):∃ Q,UndoP P Q∧Q.d.down=false∧Rz Q A.stop (t+1):=by
 obtain ⟨N,B,u,sv,hN,hNt,hB⟩:=h.pg;have hz:=u.y.d;have hhp:=h.hp;have hch:=u.y.ch
 have hbs:∀ m:Nat,1≤m→m<A.H.pages→m<P.base:=fun m m1 m2=>by
  rcases h.bse with e | ⟨-,e⟩ <;> omega
 have hbP:=h.busy.trans hb;rcases h.md with ⟨hmode,hl⟩ | ⟨hmode,hl⟩
 ·obtain ⟨its,hm⟩:=u.jmode hl;have hlen:=hm.jz.len u.y.base;rw [hm.jz.now,gS] at hlen;cases hn:P.notes with
  | none=>
    have e:=hm.jz.no hn;subst e;have hon:∀ m:Nat,1≤m→m<P.base→aF P.d m (A.C m):=fun m m1 m2=>hm.main m m1 m2 List.not_mem_nil
    have hjn:P.d.has aQ=false:=hm.jz.has;refine ⟨P.cleared,.none hl hn (by rw [hm.mar];rfl),hz.fine.up,h.stopped ht ⟨rfl,rfl,rfl,rfl,rfl,rfl,Nat.le_refl _,rfl⟩ (jc u ⟨rfl,rfl,rfl,rfl,rfl,rfl,rfl,rfl,rfl,rfl,rfl,rfl⟩ hz rfl (by omega) (fun m m1 m2=>?_) (.inl ⟨hl,hm.nl,hjn,hon,hm.ml⟩))⟩;rw [aU (show P.cleared.lg=none from hl)];exact hon m m1 (hbs m m1 m2)
  | some j=>
    by_cases hf:(aW its).f=0
    ·have hon:∀ m:Nat,1≤m→m<P.base→aF P.d m (A.C m):=fun m m1 m2=>hm.main m m1 m2 (by rw [Ad its hf];exact List.not_mem_nil)
     have hzd:=hz.del aQ
     have hon2:∀ m:Nat,1≤m→m<P.base→aF (P.d.del aQ) m (A.C m):=fun m m1 m2=>by
      rw [onDisk_iff,gL hz.ok,if_neg jn_ne.symm,← onDisk_iff];exact hon m m1 m2
     refine ⟨{ P.cleared with d:=P.d.del aQ },.drop hl (by rw [hn];rfl) (by rw [hm.mar,hf];rfl) hz.fine,hzd.fine.up,h.stopped ht ⟨rfl,rfl,rfl,rfl,rfl,rfl,Nat.le_refl _,rfl⟩ (jc u ⟨rfl,rfl,rfl,rfl,rfl,rfl,rfl,rfl,rfl,rfl,rfl,rfl⟩ hzd rfl (by omega) (fun m m1 m2=>?_) (.inl ⟨hl,?_,?_,hon2,?_⟩))⟩
     ·rw [aU (show ({ P.cleared with d:=P.d.del aQ }:Pgr).lg=none from hl)];exact hon2 m m1 (hbs m m1 m2)
     ·show (P.d.del aQ).has bf=false;rw [eK hz.ok,if_neg jn_lo.symm];exact hm.nl
     ·show (P.d.del aQ).has aQ=false;rw [eK hz.ok,if_pos rfl]
     ·show P.base≤((P.d.del aQ).now aA).length;rw [gL hz.ok,if_neg jn_ne.symm];exact hm.ml
    ·have hf0:0<(aW its).f:=by omega
     have hnds:((aW its).su.map (·.1)).Nodup:=by have:=hm.jz.nd;unfold JS.all at this;rw [List.map_append] at this;exact (List.nodup_append.1 this).1
     have hsu:∀ r ∈ (aW its).su,r.1<P.base∧r.2.length=232∧(1≤r.1→r.2=A.C r.1):=fun r hr=>by
      have hra:r ∈ (aW its).all:=List.mem_append_left _ hr;obtain ⟨a,b⟩:=hm.jz.ok.1 r (oS its r hra);exact ⟨a,b,hm.jz.img r hra⟩
     obtain ⟨k1,k2,k3⟩:=wS hnds;obtain ⟨K,hK⟩:∃ K,dN (aV (aW its).su).reverse=K:=⟨_,rfl⟩;rw [hK] at k1 k2 k3;have hml:=hm.ml
     have hP:=vJ (K:=K) (bF (K.map (·.1))) P.d hz fun n hn2=>by
      obtain ⟨p,hp,rfl⟩:=List.mem_map.1 (srtI_mem.1 hn2);obtain ⟨r,hr,e⟩:=k2 p hp;obtain ⟨a,b,-⟩:=hsu r hr;refine ⟨r.1,by rw [e],by omega,?_⟩;rw [e,k3 r hr];exact b
     have hT:=og hP.z P.base;have hzT:=hT.z;have hzS:=hzT.settle (n:=aA) (by simp);have hzU:=hzS.del aQ;have hud:P.d.undo P.base (aW its)=((bz (P.d.puts K (bF (K.map (·.1)))) P.base).setF aA Fi.settle).del aQ:=by unfold Dk.undo Dk.again;rw [hK]
     have hnm:∀ m,m≠aQ→(P.d.undo P.base (aW its)).now m=(bz (P.d.puts K (bF (K.map (·.1)))) P.base).now m:=fun m hm2=>by rw [hud,gL hzS.ok,if_neg hm2,bG hzT.ok]
     have hon2:∀ m:Nat,1≤m→m<P.base→aF (P.d.undo P.base (aW its)) m (A.C m):=fun m m1 m2=>by
      rw [onDisk_iff,hnm aA jn_ne.symm,← onDisk_iff];refine hT.on m _ m2 ?_;rw [onDisk_iff,hP.at_];by_cases hx:(m:Int) ∈ bF (K.map (·.1))
      ·rw [if_pos hx];obtain ⟨p,hp,e⟩:=List.mem_map.1 (srtI_mem.1 hx);obtain ⟨r,hr,e2⟩:=k2 p hp;have hmr:r.1=m:=by rw [e2] at e;have e3:((r.1:Nat):Int)=m:=e;omega
       obtain ⟨-,-,c⟩:=hsu r hr;have k4:=k3 r hr;rw [hmr] at k4 c;rw [k4,Option.getD_some,c m1]
      ·rw [if_neg hx,← onDisk_iff];refine hm.main m m1 m2 fun hc=>hx (srtI_mem.2 ?_)
       obtain ⟨r,hr,e⟩:=List.mem_map.1 hc;have:=cH (k3 r hr);rw [← e];exact List.mem_map.2 ⟨_,this,rfl⟩
     have hfile:∃ f,(P.d.puts K (bF (K.map (·.1)))).file aA=some f:=by have h1:(P.d.puts K (bF (K.map (·.1)))).has aA=true:=hP.hm (hm.mf hf0);obtain ⟨f,hf,-⟩:=ce h1;exact ⟨f,hf⟩
     refine ⟨{ P.cleared with d:=P.d.undo P.base (aW its) },.back (P.head.change+1) its hl (by rw [hm.mar];exact decide_eq_true hf0) ⟨hz.fine,hm.jz.now,?_,hm.jz.ok,by have:=u.y.base;omega,by omega,by omega,hf0,by rw [hK];exact ⟨hP.can,hP.z.fine,hfile⟩⟩,by show (P.d.undo P.base (aW its)).down=false;rw [hud];exact hzU.fine.up,h.stopped ht ⟨rfl,rfl,rfl,rfl,rfl,rfl,Nat.le_refl _,rfl⟩ (jc u ⟨rfl,rfl,rfl,rfl,rfl,rfl,rfl,rfl,rfl,rfl,rfl,rfl⟩ (by show Dz (P.d.undo P.base (aW its));rw [hud];exact hzU) ?_ (by omega) (fun m m1 m2=>?_) (.inl ⟨hl,?_,?_,hon2,?_⟩))⟩
     ·rw [hm.jz.has];cases its with
      | nil=>cases hf0
      | cons _ _=>rfl
     ·show (P.d.undo P.base (aW its)).life=P.d.life;rw [hud];exact hT.life.trans hP.life
     ·rw [aU (show ({ P.cleared with d:=P.d.undo P.base (aW its) }:Pgr).lg=none from hl)];exact hon2 m m1 (hbs m m1 m2)
     ·show (P.d.undo P.base (aW its)).has bf=false;rw [hud,eK hzS.ok,if_neg jn_lo.symm,cQ hzT.ok,decide_eq_false ma_lo.symm,Bool.false_or,hT.has bf ma_lo.symm,hP.has bf ma_lo.symm];exact hm.nl
     ·show (P.d.undo P.base (aW its)).has aQ=false;rw [hud,eK hzS.ok,if_pos rfl]
     ·show P.base≤((P.d.undo P.base (aW its)).now aA).length;rw [hnm aA jn_ne.symm];exact pw hP.z (by rw [hP.len];exact hml)
 ·obtain ⟨fr,hfr⟩:=Option.isSome_iff_exists.1 hl;obtain ⟨its,mk,hm⟩:∃ its mk,LMode P A.C fr its mk:=by
   rcases u.y.md with ⟨its,hm⟩ | ⟨l,its,mk,hm⟩
   ·have:=hm.lg;rw [hfr] at this;cases this
   ·have:=hm.lg;rw [hfr] at this;injection this with this
    subst this;exact ⟨its,mk,hm⟩
  have hB2:=hm.lz.back hz;have htop:=hm.lz.top;have hle:=hm.lz.len;have hit:(its.take mk).length=mk:=by rw [List.length_take];omega
  refine ⟨{ P.cleared with d:=cp P.d fr mk,lg:=some (fr.take mk) },.log fr mk hfr u.y.sp (hm.mark hbP) (by omega) hz.fine hB2.file,hB2.z.fine.up,h.stopped ht ⟨rfl,rfl,rfl,rfl,rfl,by rw [hfr];rfl,?_,rfl⟩ (jc u ⟨rfl,rfl,rfl,rfl,rfl,rfl,rfl,rfl,rfl,rfl,rfl,rfl⟩ hB2.z ?_ (by omega) (fun m m1 m2=>?_) (.inr ⟨fr.take mk,its.take mk,rfl,by rw [hit];exact hB2.lz⟩))⟩
  ·rw [hfr];show (fr.take mk).length≤fr.length;rw [List.length_take];omega
  ·show (cp P.d fr mk).life=P.d.life;unfold cp
   split <;> rfl
  ·have hc:=hB2.lz.com m m1 (hbs m m1 m2);rw [List.take_take,Nat.min_self] at hc;rw [ee hB2.lz rfl rfl (u.y.lenC _)];exact hc
end Go.Proofs.YtdmhbgpejppbkaaGreat
namespace Go.Proofs.YtdmhbgpejppbkaaGreat
open Go.Lib (hid)
open Go.RowKit Go.Maps Go.Sort Go.Shelf
theorem uF (mb:Option Nat) (W:World):Calls Tryz.prog 215 #[.map mb] W fun e w'=>e=.returned (.func (.func 254) #[] #[.pointer (some ⟨W.heap.size,0,none⟩)])∧w'=W.alloc (.cells #[.map mb] 195):=
 (callsIn_wide (n:=5)).1 (AnyZI.keys_in Tryz.keysJ Fence.wide 5 trivial rfl mb W)
theorem rC {w:World} {gm n:Nat} {K:List (Int × Int)} {D:DataW Unit} (ho:w.ownsMap Tryz.prog 3 BB gm n D) (hm:MpOf cq BR D K):(K.map (·.1)).Perm (intKeys D):=by
 obtain ⟨es,hD,hpw,_⟩:=ho.entries bY;obtain ⟨es',hD',hko⟩:=ho.keysOf;obtain rfl:es=es':=by rw [hD] at hD';simpa using hD'
 subst hD;refine perm_intKeys hpw (fun p hp=>by obtain ⟨v,hv⟩:=hko p hp;obtain ⟨x,_,hx,_⟩:=Maps.keyOf_i64 Tryz.underlying3 hv;exact ⟨x,hx⟩) hm.nd (fun x=>?_);have h1:=hm.has zy x;rw [cC] at h1;rw [show (Lit.int .i64 x)=cq x from rfl,h1];exact ⟨fun h=>by simpa using h,fun h=>by simpa using h⟩
theorem pJ {K:List (Int × Int)} (gm:Nat) (w:World) (hm:qV w gm K) (hl:K.length≤1000000):
  Calls Tryz.prog 97 #[.func (.func 254) #[] #[.pointer (some ⟨w.heap.size,0,none⟩)]] (w.alloc (.cells #[.map (some gm)] 195)) fun e w'=>∃ v,e=.returned v∧
   Own (fun n=>[Value.int .i64 n]) 1 3 w.heap.size w' v (bF (K.map (·.1)))∧Below w.heap.size w w':=by
 obtain ⟨D0,hown,hmo⟩:=hm;have hsz:Maps.size D0=K.length:=hmo.size;have hp:=rC hown hmo
 have hseq:SeqGives Fence.wide 2 Tryz.prog 254 #[.pointer (some ⟨w.heap.size,0,none⟩)] encZ (fun ss=>ss.Perm (intKeys D0)) (Maps.size D0) (w.alloc (.cells #[.map (some gm)] 195)):=
  AnyZI.keys_gives (ρ:=Tryz.keysJ_ren) { Tryz.keysJ with } Fence.wide _ trivial rfl (by omega) w.heap.size gm K.length D0 _ (by simp) (by simp) (by
   have hbl:=hown.lt;obtain ⟨es,clock,hb,Ft,hs,hD⟩:=hown;exact ⟨es,clock,(Below.heap_alloc _ _ gm hbl).trans hb,Ft,hs,hD⟩)
 have h:=AnyZI.sorted_in Tryz.sortedI Fence.wide 5 trivial trivial trivial trivial rfl (by omega) (vE _) (enters_of Tryz.func145 (by kernel_rfl) rfl) 254 #[.pointer (some ⟨w.heap.size,0,none⟩)] trivial (enters_of Tryz.func254 (by kernel_rfl) rfl) _ _ (by rw [hsz];unfold maxLen;omega) (by rw [hsz];omega) _ hseq;refine ((callsIn_wide (n:=5)).1 h).mono ?_;rintro e w' ⟨v,ss,rfl,hS,hrow,-,hb⟩;refine ⟨v,rfl,?_,((Below.refl _ w).alloc (Nat.le_refl _) _).trans (hb.mono (by simp))⟩;have hS2:ss.Perm (K.map (·.1)):=hS.trans hp.symm;have e1:bF (K.map (·.1))=ss.mergeSort fun x y=>decide (x≤y):=(mergeSort_of_perm_i hS2).symm
 unfold Own;rw [qG,e1,List.length_mergeSort];exact ownsRow_base_a hrow (by simp)
abbrev nuC (n:Int):List Value:=[Value.int .i64 n]
theorem sf (w:World) {gd:Nat} {M:LgM} {l:List Fr} (h:LgIs w gd M l):
  Calls Tryz.prog 159 #[ai M.gl] w fun e w'=>∃ v,e=.returned v∧Own nuC 1 3 w.heap.size w' v (bF ((bA l).map (·.1)))∧Below w.heap.size w w':=by
 obtain ⟨c0,c1,c2,cl,-⟩:=br h.blk;have HSK:=hid (pJ M.gm w h.map (by have:=dE l;have:=h.ok.n;omega));clear h c0 c1;unfold ai;go_enter Tryz.func159,Tryz.ntmps159;go_wp2_with fail;refine (uF (some M.gm) w).mono ?_;rintro e w1 ⟨rfl,rfl⟩;go_wp2_with fail;refine HSK.out.mono ?_;rintro e w2 ⟨v,rfl,ho,hb⟩;obtain ⟨A,c,rfl,-⟩:=aD ho;have HO:=hid (And.intro ho hb);clear ho hb;go_wp2_with fail;go_ret;exact ⟨_,rfl,HO.out.1,HO.out.2⟩
end Go.Proofs.YtdmhbgpejppbkaaGreat
namespace Go.Proofs.YtdmhbgpejppbkaaGreat
open Go.Lib (hid)
open Go.RowKit Go.Maps Go.Shelf
def Pgr.ckl (P:Pgr) (S:Int→By) (l:List Int):Pgr:=l.foldl (fun Q n=>if n<(P.head.pages:Int) then { Q with d:=Q.d.lay n.toNat (S n) } else Q) P
theorem qN (P:Pgr) (S:Int→By) (l:List Int) (n:Int):P.ckl S (l ++ [n])=if n<(P.head.pages:Int) then { P.ckl S l with d:=(P.ckl S l).d.lay n.toNat (S n) } else P.ckl S l:=by unfold Pgr.ckl;rw [List.foldl_append];rfl
theorem Ay (P:Pgr) (S:Int→By) (l:List Int) {k:Nat} (h:k<l.length):P.ckl S (l.take (k+1))=if l[k]<(P.head.pages:Int) then { P.ckl S (l.take k) with d:=(P.ckl S (l.take k)).d.lay (l[k]).toNat (S l[k]) } else P.ckl S (l.take k):=by rw [List.take_succ_eq_append_getElem h,qN]
theorem tD (P:Pgr) (S:Int→By):∀ (k:Nat) (l:List Int),l.length=k→P.ckl S l={ P with d:=(P.ckl S l).d }
 | 0,l,h=>by
   rw [List.length_eq_zero_iff] at h;subst h;rfl
 | k+1,l,h=>by
   rcases List.eq_nil_or_concat l with rfl | ⟨l',x,rfl⟩
   ·cases h
   ·rw [List.concat_eq_append] at *;rw [List.length_append,List.length_singleton] at h;have ih:=tD P S k l' (by omega);rw [qN]
    split
    ·generalize P.ckl S l'=R at *;rw [ih]
    ·exact ih
theorem Az (P:Pgr) (S:Int→By) (l:List Int):P.ckl S l={ P with d:=(P.ckl S l).d }:=tD P S _ l rfl
abbrev qY (fr:List Fr):List Int:=bF ((bA fr).map (·.1))
def Pgr.ckS (P:Pgr) (S:Int→By) (fr:List Fr):Pgr:={ P with d:=if fr.length=0 then (P.ckl S (qY fr)).d else (P.ckl S (qY fr)).d.setF aA Fi.settle }
def Pgr.ck (P:Pgr) (S:Int→By) (fr:List Fr):Pgr:={ P with d:=bz ((P.ckS S fr).d.del bf) P.head.pages,lg:=some [] }
structure CanCk (P:Pgr) (S:Int→By) (fr:List Fr):Prop where
 lg:P.lg=some fr
 rng:∀ (k:Nat) n,(qY fr)[k]?=some n→0≤n∧n<4096
 get:∀ (k:Nat) n,(qY fr)[k]?=some n→n<(P.head.pages:Int)→LgHas (P.ckl S ((qY fr).take k)).d fr n.toNat (S n)∧CanLay (P.ckl S ((qY fr).take k)).d n.toNat (S n)
 fine:(P.ckl S (qY fr)).d.Fine
 file:fr.length≠0→∃ f,(P.ckl S (qY fr)).d.file aA=some f
theorem pT (S:Int→By) (fr:List Fr) (w:World) {L:PgL} {P:Pgr} (h:PgIs w L P) (hc:CanCk P S fr):
  Calls Tryz.prog 107 #[ai L.gp] w fun e w'=>e=.returned (.int .i64 0)∧PTo w L (P.ck S fr) w':=by
 obtain ⟨M,hM,hli⟩:=h.haslg hc.lg;have HPG:=hid (sf w hli);have hC:=ag h.blk;have c9:=hC.c9;have hl:=hC.lt;rw [hM] at c9;have HC:=hid hc;have HH:=hid h;have HKL:=hid (show (qY fr).length≤20000 from by
  have:=dE fr;have:=hli.ok.n;unfold qY bF;rw [List.length_mergeSort,List.length_map];omega)
 obtain ⟨ks,hks⟩:∃ ks,qY fr=ks:=⟨_,rfl⟩;have HKS:=hid hks;rw [show bF ((bA fr).map (·.1))=ks from hks] at HPG;rw [hks] at HKL;unfold bn at c9;unfold ai at *;clear h hc hM hli hC hks;go_enter Tryz.func107,Tryz.ntmps107;go_wp2_with fail;refine HPG.out.mono ?_;rintro e w1 ⟨v,rfl,ho,hb⟩;obtain ⟨A,c,rfl,-⟩:=aD ho;have HP1:=hid (HH.out.below hb);have HO1:=hid (And.intro ho hb);clear ho hb c9 hl;go_wp2_with fail;go_loopw [17] (fun iv wr=>∃ k:Nat,k≤ks.length∧iv=.int .i64 k∧PTo w1 L (P.ckl S (ks.take k)) wr) (fun iv _=>ks.length - (intOf iv).toNat)
 case atStart=>exact ⟨0,Nat.zero_le _,rfl,PTo.refl HP1.out⟩
 case round=>
  obtain ⟨k,hk,rfl,hto⟩:=hrel;have HT4:=hid hto;obtain ⟨L4,g4,p4,f4,c4⟩:=hto;have he4:=Az P S (ks.take k);by_cases hlt:k<ks.length
  ·have ho4:=HO1.out.1.ch c4 fun i hi e=>by have:=(HO1.out.1.lt i hi).1;have:=HH.out.lt e;omega
   obtain ⟨bk,ck,hvk,hbk,hck,-⟩:=fI ho4 (fun _=>rfl) hlt;injection hvk with e1 e2 e3
   subst e1 e3;have hcn:=hck _ rfl;have hC4:=ag p4.blk;have k3:=hC4.c3;have k9:=hC4.c9;have hl4:=hC4.lt;have hk0:(0:Int)≤(k:Int):=by omega
   have hk1:(k:Int)<(ks.length:Int):=by omega
   have hl2:(k:Int)<20000:=by have:=HKL.out;omega
   have hup:=Ay P S ks hlt;have hrg:=HC.out.rng k ks[k] (by rw [HKS.out];exact List.getElem?_eq_getElem hlt);have hgt:=HC.out.get k ks[k] (by rw [HKS.out];exact List.getElem?_eq_getElem hlt);rw [HKS.out] at hgt;generalize ks[k]=n at *;obtain ⟨q,rfl⟩:∃ q:Nat,n=q:=⟨n.toNat,by omega⟩;rw [Int.toNat_natCast] at hup hgt;obtain ⟨M4,hM4,hli4⟩:=p4.haslg (l:=fr) (by rw [he4];exact HC.out.lg);rw [show (P.ckl S (ks.take k)).head=P.head by rw [he4],g4] at k3;rw [hM4,g4] at k9;rw [g4] at hl4;unfold bn ai at k9;have HJ:=hid (And.intro hk hlt);have HG4:=hid (And.intro g4 (And.intro f4 c4));by_cases hin:(q:Int)<(P.head.pages:Int)
   ·obtain ⟨hg1,hg2⟩:=hgt hin;have HGT:=hid (qq q (S q) wr p4.dk hli4 hg2.fine hg2.lt hg1);have HP4:=hid p4;have HCL:=hid hg2;have HE4:=hid he4;rw [if_pos hin] at hup;have HUP:=hid hup;generalize S (q:Int)=s at *;unfold ai at HGT;clear g4 p4 f4 c4 he4 ho4 hck hC4 hup hgt hM4 hli4 hrg hg1 hg2 hk;go_wp2_with fail;refine HGT.out.mono ?_;rintro e w5 ⟨rfl,hr⟩;obtain ⟨L5,g5,p5,f5,c5⟩:=PTo.dk HP4.out hr;have HLY:=hid (iI q s w5 p5 HCL.out.fine HCL.out.few HCL.out.room HCL.out.lt HCL.out.len);rw [g5,HG4.out.1] at HLY;unfold ai at HLY;have HG5:=hid (And.intro g5 (And.intro f5 c5));clear hr g5 p5 f5 c5;go_wp2_with fail;refine HLY.out.mono ?_;rintro e w6 ⟨rfl,hr⟩;have HR:=hid (show PTo w1 L (P.ckl S (ks.take (k+1))) w6 from by
     rw [HUP.out];refine PTo.and HG4.out.1 HG4.out.2.1 HG4.out.2.2 ?_;exact PTo.and HG5.out.1 HG5.out.2.1 HG5.out.2.2 hr)
    clear hr;go_wp2_with fail;go_roundw
    case rel=>exact ⟨k+1,by have:=HJ.out;omega,by go_num,HR.out⟩
    case measure=>simp [intOf];omega
   ·rw [if_neg hin] at hup;have HR:=hid (show PTo w1 L (P.ckl S (ks.take (k+1))) wr from by rw [hup];exact HT4.out);clear g4 p4 f4 c4 he4 ho4 hck hC4 hup hgt hM4 hli4 hrg hk;go_wp2_with fail;go_roundw
    case rel=>exact ⟨k+1,by have:=HJ.out;omega,by go_num,HR.out⟩
    case measure=>simp [intOf];omega
  ·obtain rfl:k=ks.length:=by omega
   rw [List.take_length] at HT4 p4 he4;obtain ⟨M4,hM4,hli4⟩:=p4.haslg (l:=fr) (by rw [he4];exact HC.out.lg);have HLN:=hid (lq wr hli4);have hC4:=ag p4.blk;have k9:=hC4.c9;have k0:=hC4.c0;have hl4:=hC4.lt;rw [hM4,g4] at k9;rw [g4] at hl4 k0;unfold bn ai at k9;unfold ai at HLN k0;have HP4:=hid p4;have HG4:=hid (And.intro g4 (And.intro f4 c4));have HE4:=hid he4;have hfi:=HC.out.fine;have hfl:=HC.out.file;rw [HKS.out] at hfi hfl;by_cases h0:fr.length=0
   ·have HFI:=hid (show (P.ckS S fr).d.Fine from by unfold Pgr.ckS;rw [if_pos h0,HKS.out];exact hfi);have HX:=hid (show PTo w L (P.ckS S fr) wr from by
     have e:P.ckS S fr=P.ckl S ks:=by unfold Pgr.ckS;rw [if_pos h0,HKS.out];exact he4.symm
     rw [e];exact PTo.pre HT4.out HO1.out.2)
    have hz:((fr.length:Nat):Int)=0:=by omega
    rw [hz] at HLN;clear g4 p4 f4 c4 he4 hM4 hli4 hC4 hfi hfl hlt hk hz;go_wp2_with fail;refine HLN.out.mono ?_;rintro e w5 ⟨rfl,rfl⟩;clear k9 k0 hl4;obtain ⟨L5,g5,p5,f5,c5⟩:=HX.out;obtain ⟨M5,hM5,hli5⟩:=p5.haslg (show (P.ckS S fr).lg=some fr from HC.out.lg);have hC5:=ag p5.blk;have c9:=hC5.c9;have hl5:=hC5.lt;rw [hM5,g5] at c9;rw [g5] at hl5;unfold bn ai at c9;have HEN:=hid (qr _ p5.dk hli5 (eU p5 hM5) HFI.out);unfold ai at HEN;have HG5:=hid (And.intro g5 (And.intro f5 c5));have HM5:=hid (And.intro p5 hM5);clear g5 p5 f5 c5 hM5 hli5 hC5;go_wp2_with fail;refine HEN.out.mono ?_;rintro e w6 ⟨rfl,hr⟩;obtain ⟨L6,g6,p6,f6,c6⟩:=HM5.out.1.setDL HM5.out.2 hr;have HTR:=hid (jt w6 p6 (HFI.out.del));rw [g6,HG5.out.1] at HTR;unfold ai at HTR;have HG6:=hid (And.intro g6 (And.intro f6 c6));clear hr g6 p6 f6 c6 c9 hl5;go_wp2_with fail;refine HTR.out.mono ?_;rintro e w7 ⟨rfl,hr⟩;have HF:=hid (show PTo w L (P.ck S fr) w7 from by
     refine PTo.and HG5.out.1 HG5.out.2.1 HG5.out.2.2 ?_;exact PTo.and HG6.out.1 HG6.out.2.1 HG6.out.2.2 hr)
    clear hr;go_wp2_with fail;go_ret;exact ⟨rfl,HF.out⟩
   ·obtain ⟨fm,hfm⟩:=hfl h0;have hsy:=hfi.sy (n:=aA) (by decide) hfm;have HSY:=hid (dJ aA (by decide) wr p4.dk);rw [hsy.1,hsy.2] at HSY;have HFI:=hid (show (P.ckS S fr).d.Fine from by unfold Pgr.ckS;rw [if_neg h0,HKS.out];exact hfi.setF);have hz:(0:Int)<((fr.length:Nat):Int):=by omega
    have H0:=hid h0;unfold cZ at HSY;rw [uw] at HSY;clear g4 p4 f4 c4 he4 hM4 hli4 hC4 hfi hfl hlt hk hsy hfm h0;go_wp2_with fail;refine HLN.out.mono ?_;rintro e w5 ⟨rfl,rfl⟩;go_wp2_with fail;refine HSY.out.mono ?_;rintro e w5 ⟨rfl,hr⟩;have HX:=hid (show PTo w L (P.ckS S fr) w5 from by
     have e:P.ckS S fr={ P.ckl S ks with d:=(P.ckl S ks).d.setF aA Fi.settle }:=by unfold Pgr.ckS;rw [if_neg H0.out,HKS.out];have:=HE4.out;generalize P.ckl S ks=R at *;rw [this]
     rw [e];refine PTo.pre (w1:=w1) ?_ HO1.out.2;exact PTo.and HG4.out.1 HG4.out.2.1 HG4.out.2.2 (PTo.dk HP4.out hr))
    clear hr k9 k0 hl4 hz;obtain ⟨L5,g5,p5,f5,c5⟩:=HX.out;obtain ⟨M5,hM5,hli5⟩:=p5.haslg (show (P.ckS S fr).lg=some fr from HC.out.lg);have hC5:=ag p5.blk;have c9:=hC5.c9;have hl5:=hC5.lt;rw [hM5,g5] at c9;rw [g5] at hl5;unfold bn ai at c9;have HEN:=hid (qr _ p5.dk hli5 (eU p5 hM5) HFI.out);unfold ai at HEN;have HG5:=hid (And.intro g5 (And.intro f5 c5));have HM5:=hid (And.intro p5 hM5);clear g5 p5 f5 c5 hM5 hli5 hC5;go_wp2_with fail;refine HEN.out.mono ?_;rintro e w6 ⟨rfl,hr⟩;obtain ⟨L6,g6,p6,f6,c6⟩:=HM5.out.1.setDL HM5.out.2 hr;have HTR:=hid (jt w6 p6 (HFI.out.del));rw [g6,HG5.out.1] at HTR;unfold ai at HTR;have HG6:=hid (And.intro g6 (And.intro f6 c6));clear hr g6 p6 f6 c6 c9 hl5;go_wp2_with fail;refine HTR.out.mono ?_;rintro e w7 ⟨rfl,hr⟩;have HF:=hid (show PTo w L (P.ck S fr) w7 from by
     refine PTo.and HG5.out.1 HG5.out.2.1 HG5.out.2.2 ?_;exact PTo.and HG6.out.1 HG6.out.2.1 HG6.out.2.2 hr)
    clear hr;go_wp2_with fail;go_ret;exact ⟨rfl,HF.out⟩
end Go.Proofs.YtdmhbgpejppbkaaGreat
namespace Go.Proofs.YtdmhbgpejppbkaaGreat
open Go.Lib (hid)
open Go.RowKit Go.Maps
section
variable {w w1 w2 w3:World} {L:PgL} {P:Pgr}
theorem PgIs.newLg (h:PgIs w L P) {M:LgM} (hb:Below w.heap.size w w1) (hm:LgIs w1 L.D.gd M []) (hF:∀ k,iA M k→w.heap.size≤k) (h2:w2=((w1.setCell ⟨L.gp,9,none⟩ (ai M.gl)).setCell ⟨L.gp,12,none⟩ (.bool false))):PTo w L { P with lg:=some [],lost:=false } w2:=by
 have a1:=h.sep.upd (l1:=[Ob.blk L.gp (bX L P),gZ L.D P.d,hO L.Fc L.vc P.size P.ca,gY L.D.gd L.N P.notes,gy L.vs L.gs P.saves]) (a:=qi L.D.gd L.G P.lg) (b:=qi L.D.gd (some M) (some [])) (S:=fun _=>False) (Ch.of_below hb) (fun _ h=>h.elim) (.inr ⟨M,[],rfl,rfl,hm⟩) (fun k hk=>.inr (hF k hk));have hb1:w1.heap[L.gp]?=some (bX L P):=(h.below hb).blk;have hc3:Ch (fun j=>j=L.gp) w1 w2:=by rw [h2];exact ((Ch.refl (fun j=>j=L.gp) w1).setCell (p:=⟨L.gp,9,none⟩) rfl _).setCell (p:=⟨L.gp,12,none⟩) rfl _
 have hbk:w2.heap[L.gp]?=some (bX { L with G:=some M } { P with lg:=some [],lost:=false }):=by rw [h2];have s1:_=some (bX { L with G:=some M } P):=ae hb1 9 (ai M.gl);exact ae s1 12 (.bool false)
 have a3:=a1.upd (l1:=[]) (b:=Ob.blk L.gp (bX { L with G:=some M } { P with lg:=some [],lost:=false })) hc3 (fun j hj=>hj) hbk (fun j hj=>.inl hj);refine ⟨{ L with G:=some M },rfl,⟨a3,⟨h.ok.s1,h.ok.s2,h.ok.base,h.ok.hp,h.ok.wp,h.ok.nos⟩,h.gd⟩,fun j hj=>?_,(Ch.of_below hb).trans (hc3.mono fun j _ e=>.inl e)⟩;rcases hj with hj | hj | hj | hj | hj | hj
 ·exact .inl (.inl hj)
 ·exact .inl (.inr (.inl hj))
 ·exact .inl (.inr (.inr (.inl hj)))
 ·exact .inl (.inr (.inr (.inr (.inl hj))))
 ·exact .inl (.inr (.inr (.inr (.inr (.inl hj)))))
 ·exact .inr (hF j hj)
theorem PgIs.noLg (h:PgIs w L P) (h2:w2=w.setCell ⟨L.gp,9,none⟩ (.pointer none)):PTo w L { P with lg:=none } w2:=by
 have a1:=h.sep.as (l1:=[Ob.blk L.gp (bX L P),gZ L.D P.d,hO L.Fc L.vc P.size P.ca,gY L.D.gd L.N P.notes,gy L.vs L.gs P.saves]) (a:=qi L.D.gd L.G P.lg) (b:=qi L.D.gd none none) (.inl ⟨rfl,rfl⟩) (fun k hk=>hk.elim);have hc3:Ch (fun j=>j=L.gp) w w2:=by rw [h2];exact (Ch.refl (fun j=>j=L.gp) w).setCell (p:=⟨L.gp,9,none⟩) rfl _
 have hbk:w2.heap[L.gp]?=some (bX { L with G:=none } { P with lg:=none }):=by rw [h2];exact ae h.blk 9 (.pointer none)
 have a3:=a1.upd (l1:=[]) (b:=Ob.blk L.gp (bX { L with G:=none } { P with lg:=none })) hc3 (fun j hj=>hj) hbk (fun j hj=>.inl hj);refine ⟨{ L with G:=none },rfl,⟨a3,⟨h.ok.s1,h.ok.s2,h.ok.base,h.ok.hp,h.ok.wp,h.ok.nos⟩,h.gd⟩,fun j hj=>?_,hc3.mono fun j _ e=>.inl e⟩;rcases hj with hj | hj | hj | hj | hj | hj
 ·exact .inl (.inl hj)
 ·exact .inl (.inr (.inl hj))
 ·exact .inl (.inr (.inr (.inl hj)))
 ·exact .inl (.inr (.inr (.inr (.inl hj))))
 ·exact .inl (.inr (.inr (.inr (.inr (.inl hj)))))
 ·exact hj.elim
theorem PgIs.workM (h:PgIs w L P) (m:Nat) (h2:w2=w.setCell ⟨L.gp,15,none⟩ (.int .i64 m)):PTo w L { P with work:={ P.work with mode:=m } } w2:=by
 have hc3:Ch (fun j=>j=L.gp) w w2:=by rw [h2];exact (Ch.refl (fun j=>j=L.gp) w).setCell (p:=⟨L.gp,15,none⟩) rfl _
 have hbk:w2.heap[L.gp]?=some (bX L { P with work:={ P.work with mode:=m } }):=by rw [h2];exact ae h.blk 15 (.int .i64 m)
 exact ⟨L,rfl,h.setBlk hc3 hbk rfl rfl rfl rfl rfl ⟨h.ok.s1,h.ok.s2,h.ok.base,h.ok.hp,h.ok.wp,h.ok.nos⟩,fun _ hk=>.inl hk,hc3.mono fun j _ e=>.inl e⟩
end
theorem ug (e0:Int) (w:World) {L:PgL} {P:Pgr} (h:PgIs w L P) (hd:P.d.down=false):
  Calls Tryz.prog 55 #[ai L.gp,.int .i64 e0] w fun e w'=>e=.returned (.int .i64 e0)∧w=w':=by
 have HD:=hid (co w h.dk);rw [hd] at HD;have c0:=(ag h.blk).c0;have hlt:=(ag h.blk).lt;unfold ai at *;clear h hd;go_enter Tryz.func55,Tryz.ntmps55;go_wp2_with fail;refine HD.out.mono ?_;rintro e w2 ⟨rfl,rfl⟩;go_wp2_with fail;go_ret;exact ⟨rfl,rfl⟩
theorem jC (w:World) {L:PgL} {P:Pgr} (h:PgIs w L P) (hu:P.Up) (hb:P.busy=false) (hlg:P.lg=none):
  Calls Tryz.prog 51 #[ai L.gp] w fun e w'=>e=.returned (.int .i64 0)∧Below w.heap.size w w':=by
 have hG:=h.nolg hlg;clear hlg;have hA:Below w.heap.size w (w.alloc (.cells #[.bool false] 4)):=(Below.refl _ w).alloc (Nat.le_refl _) _;have hX:(w.alloc (.cells #[.bool false] 4)).heap[w.heap.size]?=some (.cells #[.bool false] 4 (0,0)):=af rfl;have HB:=hid (ak false w.heap.size _ (h.below hA) hu (aa hX 0) (ab hX));rw [hb,show bV (some false) false=0 from rfl] at HB;have HA:=hid hA;have HH:=hid h;have HU:=hid (And.intro hu hb);unfold ai at *;clear h hu hb hA hX;go_enter Tryz.func51,Tryz.ntmps51;go_wp2_with fail;refine HB.out.mono ?_;rintro e w1 ⟨rfl,hb1⟩;have HB1:=hid (HA.out.trans (hb1.mono HA.out.size));have HP1:=hid (HH.out.below HB1.out);have hC:=ag HP1.out.blk;have hlt:=hC.lt;have c9:=hC.c9;rw [hG] at c9;unfold bn at c9;clear hb1 hC;go_wp2_with fail;go_ret;exact ⟨rfl,HB1.out⟩
theorem km (S:Int→By) (fr:List Fr) (w:World) {L:PgL} {P:Pgr} (h:PgIs w L P) (hu:P.Up) (hb:P.busy=false) (hc:CanCk P S fr) (hd:(P.ck S fr).d.down=false):
  Calls Tryz.prog 51 #[ai L.gp] w fun e w'=>e=.returned (.int .i64 0)∧PTo w L (P.ck S fr) w':=by
 have HC:=hid (And.intro hc hd);clear hc hd;have hA:Below w.heap.size w (w.alloc (.cells #[.bool false] 4)):=(Below.refl _ w).alloc (Nat.le_refl _) _;have hX:(w.alloc (.cells #[.bool false] 4)).heap[w.heap.size]?=some (.cells #[.bool false] 4 (0,0)):=af rfl;have HB:=hid (ak false w.heap.size _ (h.below hA) hu (aa hX 0) (ab hX));rw [hb,show bV (some false) false=0 from rfl] at HB;have HA:=hid hA;have HH:=hid h;have HU:=hid (And.intro hu hb);unfold ai at *;clear h hu hb hA hX;go_enter Tryz.func51,Tryz.ntmps51;go_wp2_with fail;refine HB.out.mono ?_;rintro e w1 ⟨rfl,hb1⟩;have HB1:=hid (HA.out.trans (hb1.mono HA.out.size));have HP1:=hid (HH.out.below HB1.out);have hC:=ag HP1.out.blk;have hlt:=hC.lt;obtain ⟨M,hM,hli⟩:=HP1.out.haslg HC.out.1.lg;have c9:=hC.c9;rw [hM] at c9;unfold bn ai at c9;have HCK:=hid (pT S fr w1 HP1.out HC.out.1);unfold ai at HCK;clear hb1 hC hM hli;go_wp2_with fail;refine HCK.out.mono ?_;rintro e w2 ⟨rfl,hr⟩;obtain ⟨L2,g2,p2,f2,c2⟩:=hr;have HTD:=hid (ug 0 w2 p2 HC.out.2);rw [g2] at HTD;unfold ai at HTD;have HF:=hid (show PTo w L (P.ck S fr) w2 from PTo.pre ⟨L2,g2,p2,f2,c2⟩ HB1.out);clear g2 p2 f2 c2 c9;go_wp2_with fail;refine HTD.out.mono ?_;rintro e w3 ⟨rfl,rfl⟩;go_wp2_with fail;go_ret;exact ⟨rfl,HF.out⟩
inductive SetP:Pgr→Pgr→Prop
 | none {P:Pgr}:P.lg=none→P.d.file bf=none→SetP P P
 | some {P:Pgr} (S:Int→By) (fr:List Fr):CanCk P S fr→SetP P (P.ck S fr)
theorem pR (w:World) {L:PgL} {P Q:Pgr} (h:PgIs w L P) (hs:SetP P Q):
  Calls Tryz.prog 54 #[ai L.gp] w fun e w'=>e=.returned (.int .i64 0)∧PTo w L Q w':=by
 have hC:=ag h.blk;have hl:=hC.lt;have c0:=hC.c0;have c9:=hC.c9;cases hs with
 | none hlg hf=> have HS:=hid (bp bf (by decide) w h.dk);rw [Dk.size_none hf] at HS;rw [h.nolg hlg] at c9;have HH:=hid h;unfold bn at c9;unfold ai cZ at *;rw [loS] at HS;clear h hlg hf hC;go_enter Tryz.func54,Tryz.ntmps54;go_wp2_with fail;refine HS.out.mono ?_;rintro e w1 ⟨rfl,rfl⟩;go_wp2_with fail;go_ret;exact ⟨rfl,PTo.refl HH.out⟩
 | some S fr hc=> obtain ⟨M,hM,hli⟩:=h.haslg hc.lg;rw [hM] at c9;have HCK:=hid (pT S fr w h hc);unfold bn at c9;unfold ai at *;clear h hc hC hM hli;go_enter Tryz.func54,Tryz.ntmps54;go_wp2_with fail;refine HCK.out.mono ?_;rintro e w1 ⟨rfl,hr⟩;have HR:=hid hr;clear hr;go_wp2_with fail;go_ret;exact ⟨rfl,HR.out⟩
def Pgr.reop (P:Pgr):Pgr:=if P.head.mode=2 then { P with lg:=some [],lost:=false } else P
theorem mS (w:World) {L:PgL} {P:Pgr} (h:PgIs w L P) (hf:P.d.file bf=none):
  Calls Tryz.prog 58 #[ai L.gp,.int .i64 0] w fun e w'=>e=.returned (.int .i64 0)∧PTo w L P.reop w':=by
 have hC:=ag h.blk;have hl:=hC.lt;have c2:=hC.c2;unfold Pgr.reop;by_cases hm:P.head.mode=2
 ·rw [if_pos hm];rw [hm] at c2;have c0:=hC.c0;have c9:=hC.c9;have c12:=hC.c12;have z9:=hC.fz 9;have z12:=hC.fz 12;have HO:=hid (sg w h.dk hf);have HH:=hid h;unfold ai at *;clear h hf hC hm;go_enter Tryz.func58,Tryz.ntmps58;go_wp2_with fail;refine HO.out.mono ?_;rintro e w1 ⟨M,rfl,hli,hF,hb⟩;have HM:=hid (show ∀ w2,w2=((w1.setCell ⟨L.gp,9,none⟩ (ai M.gl)).setCell ⟨L.gp,12,none⟩ (.bool false))→PTo w L { P with lg:=some [],lost:=false } w2 from fun w2 h2=>HH.out.newLg hb hli hF h2);have y9:=(hb.cell (p:=⟨L.gp,9,none⟩) hl).trans c9;have y12:=(hb.cell (p:=⟨L.gp,12,none⟩) hl).trans c12;have x9:=(hb.frozen (p:=⟨L.gp,9,none⟩) hl).trans z9;have x12:=(hb.frozen (p:=⟨L.gp,12,none⟩) hl).trans z12;have yl:=Nat.lt_of_lt_of_le hl hb.size;unfold ai at HM;clear hli hF hb c0 c2 c9 c12 z9 z12 hl;go_wp2_with fail;go_ret;exact ⟨rfl,HM.out _ rfl⟩
 ·rw [if_neg hm];have hmi:¬ ((P.head.mode:Int)=2):=by omega
  have HH:=hid h;unfold ai at *;clear h hf hC hm;go_enter Tryz.func58,Tryz.ntmps58;go_wp2_with fail;go_ret;exact ⟨rfl,PTo.refl HH.out⟩
end Go.Proofs.YtdmhbgpejppbkaaGreat
namespace Go.Proofs.YtdmhbgpejppbkaaGreat
open Go.Lib (hid)
open Go.RowKit Go.Maps
def Pgr.forMode (P:Pgr) (m:Nat):Pgr:={ ({ P with lg:=none }:Pgr).started with work:={ ({ P with lg:=none }:Pgr).started.work with mode:=m } }
theorem uq (m:Nat) (hm:m=1∨m=2) (w:World) {L:PgL} {P P1 Q:Pgr} (h:PgIs w L P) (hu:P.Up) (hb:P.busy=false) (hne:P.head.mode≠m) (hs:SetP P P1) (hc:CanCom2 (P1.forMode m) Q) (hf:Q.com.d.file bf=none):
  Calls Tryz.prog 14 #[ai L.gp,.int .i64 m] w fun e w'=>e=.returned (.int .i64 0)∧PTo w L Q.com.reop w':=by
 have HC:=hid (And.intro hs (And.intro hc (And.intro hf hm)));have HNE:=hid hne;clear hc hs hf hm hne;have hA:Below w.heap.size w (w.alloc (.cells #[.bool false] 4)):=(Below.refl _ w).alloc (Nat.le_refl _) _;have hX:(w.alloc (.cells #[.bool false] 4)).heap[w.heap.size]?=some (.cells #[.bool false] 4 (0,0)):=af rfl;have HB:=hid (ak false w.heap.size _ (h.below hA) hu (aa hX 0) (ab hX));rw [hb,show bV (some false) false=0 from rfl] at HB;have HA:=hid hA;have HH:=hid h;have HU:=hid (And.intro hu hb);unfold ai at *;clear h hu hb hA hX;go_enter Tryz.func14,Tryz.ntmps14;go_wp2_with fail;refine HB.out.mono ?_;rintro e w1 ⟨rfl,hb1⟩;have HB1:=hid (HA.out.trans (hb1.mono HA.out.size));have HP1:=hid (HH.out.below HB1.out);have hC:=ag HP1.out.blk;have hlt:=hC.lt;have c2:=hC.c2;have HST:=hid (pR w1 HP1.out HC.out.1);have hne2:¬ ((m:Int)=(P.head.mode:Int)):=fun e=>HNE.out (by omega)
 have hn12:(!(decide ((m:Int)=1)) && !(decide ((m:Int)=2)))=false:=by rcases HC.out.2.2.2 with e | e <;> subst e <;> decide
 have hmi:(m:Int)=1∨(m:Int)=2:=by rcases HC.out.2.2.2 with e | e <;> omega
 unfold ai at HST;clear hb1 hC;by_cases hm1:(m:Int)=1
 case pos=>
  clear hmi hn12;go_wp2_with fail;refine HST.out.mono ?_;rintro e w2 ⟨rfl,hr⟩;obtain ⟨L2,g2,p2,f2,x2⟩:=hr;have hC2:=ag p2.blk;have k9:=hC2.c9;have z9:=hC2.fz 9;have kl:=hC2.lt;rw [g2] at k9 z9 kl;have HN:=hid (show ∀ w3,w3=w2.setCell ⟨L.gp,9,none⟩ (.pointer none)→PTo w1 L { P1 with lg:=none } w3 from fun w3 h3=>PTo.and g2 f2 x2 (p2.noLg (by rw [h3,g2])));clear g2 p2 f2 x2 hC2 c2 hlt;go_upto_region 11 with fail
  obtain ⟨L3,g3,p3,f3,x3⟩:=HN.out _ rfl;have HSA:=hid (ij _ p3);rw [g3] at HSA;have HG3:=hid (And.intro g3 (And.intro f3 x3));unfold ai at HSA;generalize w2.setCell ⟨L.gp,9,none⟩ (.pointer none)=w3 at *;clear g3 p3 f3 x3 k9 z9 kl;go_wp2_with fail;refine HSA.out.mono ?_;rintro e w4 ⟨rfl,hr⟩;obtain ⟨L4,g4,p4,f4,x4⟩:=PTo.and HG3.out.1 HG3.out.2.1 HG3.out.2.2 hr;have hC4:=ag p4.blk;have k15:=hC4.c15;have z15:=hC4.fz 15;have kl:=hC4.lt;rw [g4] at k15 z15 kl;have HW:=hid (show ∀ w5,w5=w4.setCell ⟨L.gp,15,none⟩ (.int .i64 1)→PTo w1 L (P1.forMode m) w5 from fun w5 h5=>PTo.and g4 f4 x4 (p4.workM m (by rw [h5,g4,hm1])));clear hr g4 p4 f4 x4 hC4;go_upto_region 13 with fail
  obtain ⟨L5,g5,p5,f5,x5⟩:=HW.out _ rfl;have HCM:=hid (gt _ p5 HC.out.2.1);rw [g5] at HCM;have HG5:=hid (And.intro g5 (And.intro f5 x5));unfold ai at HCM;generalize w4.setCell ⟨L.gp,15,none⟩ (.int .i64 1)=w5 at *;clear g5 p5 f5 x5 k15 z15 kl;go_wp2_with fail;refine HCM.out.mono ?_;rintro e w6 ⟨rfl,hr⟩;obtain ⟨L6,g6,p6,f6,x6⟩:=PTo.and HG5.out.1 HG5.out.2.1 HG5.out.2.2 hr;have HRE:=hid (mS _ p6 HC.out.2.2.1);rw [g6] at HRE;have HG6:=hid (And.intro g6 (And.intro f6 x6));unfold ai at HRE;clear hr g6 p6 f6 x6;go_wp2_with fail;refine HRE.out.mono ?_;rintro e w7 ⟨rfl,hr⟩;have HF:=hid (show PTo w L Q.com.reop w7 from PTo.pre (PTo.and HG6.out.1 HG6.out.2.1 HG6.out.2.2 hr) HB1.out);clear hr;go_wp2_with fail;go_ret;exact ⟨rfl,HF.out⟩
 case neg=>
  have hm2:(m:Int)=2:=by omega
  clear hmi hn12;go_wp2_with fail;refine HST.out.mono ?_;rintro e w2 ⟨rfl,hr⟩;obtain ⟨L2,g2,p2,f2,x2⟩:=hr;have hC2:=ag p2.blk;have k9:=hC2.c9;have z9:=hC2.fz 9;have kl:=hC2.lt;rw [g2] at k9 z9 kl;have HN:=hid (show ∀ w3,w3=w2.setCell ⟨L.gp,9,none⟩ (.pointer none)→PTo w1 L { P1 with lg:=none } w3 from fun w3 h3=>PTo.and g2 f2 x2 (p2.noLg (by rw [h3,g2])));clear g2 p2 f2 x2 hC2 c2 hlt;go_upto_region 11 with fail
  obtain ⟨L3,g3,p3,f3,x3⟩:=HN.out _ rfl;have HSA:=hid (ij _ p3);rw [g3] at HSA;have HG3:=hid (And.intro g3 (And.intro f3 x3));unfold ai at HSA;generalize w2.setCell ⟨L.gp,9,none⟩ (.pointer none)=w3 at *;clear g3 p3 f3 x3 k9 z9 kl;go_wp2_with fail;refine HSA.out.mono ?_;rintro e w4 ⟨rfl,hr⟩;obtain ⟨L4,g4,p4,f4,x4⟩:=PTo.and HG3.out.1 HG3.out.2.1 HG3.out.2.2 hr;have hC4:=ag p4.blk;have k15:=hC4.c15;have z15:=hC4.fz 15;have kl:=hC4.lt;rw [g4] at k15 z15 kl;have HW:=hid (show ∀ w5,w5=w4.setCell ⟨L.gp,15,none⟩ (.int .i64 2)→PTo w1 L (P1.forMode m) w5 from fun w5 h5=>PTo.and g4 f4 x4 (p4.workM m (by rw [h5,g4,hm2])));clear hr g4 p4 f4 x4 hC4;go_upto_region 13 with fail
  obtain ⟨L5,g5,p5,f5,x5⟩:=HW.out _ rfl;have HCM:=hid (gt _ p5 HC.out.2.1);rw [g5] at HCM;have HG5:=hid (And.intro g5 (And.intro f5 x5));unfold ai at HCM;generalize w4.setCell ⟨L.gp,15,none⟩ (.int .i64 2)=w5 at *;clear g5 p5 f5 x5 k15 z15 kl;go_wp2_with fail;refine HCM.out.mono ?_;rintro e w6 ⟨rfl,hr⟩;obtain ⟨L6,g6,p6,f6,x6⟩:=PTo.and HG5.out.1 HG5.out.2.1 HG5.out.2.2 hr;have HRE:=hid (mS _ p6 HC.out.2.2.1);rw [g6] at HRE;have HG6:=hid (And.intro g6 (And.intro f6 x6));unfold ai at HRE;clear hr g6 p6 f6 x6;go_wp2_with fail;refine HRE.out.mono ?_;rintro e w7 ⟨rfl,hr⟩;have HF:=hid (show PTo w L Q.com.reop w7 from PTo.pre (PTo.and HG6.out.1 HG6.out.2.1 HG6.out.2.2 hr) HB1.out);clear hr;go_wp2_with fail;go_ret;exact ⟨rfl,HF.out⟩
theorem rO (n:Int) (hn:n≠1∧n≠2) (w:World) {L:PgL} {P:Pgr} (h:PgIs w L P) (hu:P.Up) (hb:P.busy=false):
  Calls Tryz.prog 14 #[ai L.gp,.int .i64 n] w fun e w'=>e=.returned (.int .i64 1)∧Below w.heap.size w w':=by
 obtain ⟨hn1,hn2⟩:=hn;have hA:Below w.heap.size w (w.alloc (.cells #[.bool false] 4)):=(Below.refl _ w).alloc (Nat.le_refl _) _;have hX:(w.alloc (.cells #[.bool false] 4)).heap[w.heap.size]?=some (.cells #[.bool false] 4 (0,0)):=af rfl;have HB:=hid (ak false w.heap.size _ (h.below hA) hu (aa hX 0) (ab hX));rw [hb,show bV (some false) false=0 from rfl] at HB;have HA:=hid hA;have HH:=hid h;have HU:=hid (And.intro hu hb);unfold ai at *;clear h hu hb hA hX;go_enter Tryz.func14,Tryz.ntmps14;go_wp2_with fail;refine HB.out.mono ?_;rintro e w1 ⟨rfl,hb1⟩;have HB1:=hid (HA.out.trans (hb1.mono HA.out.size));have HP1:=hid (HH.out.below HB1.out);have hC:=ag HP1.out.blk;have hlt:=hC.lt;have hnb:(n != 1 && n != 2)=true:=by simp [hn1,hn2]
 clear hb1 hC;go_wp2_with fail;go_ret;exact ⟨rfl,HB1.out⟩
theorem rP (m:Nat) (hm:m=1∨m=2) (w:World) {L:PgL} {P:Pgr} (h:PgIs w L P) (hu:P.Up) (hb:P.busy=false) (he:P.head.mode=m):
  Calls Tryz.prog 14 #[ai L.gp,.int .i64 m] w fun e w'=>e=.returned (.int .i64 0)∧Below w.heap.size w w':=by
 have HE:=hid (And.intro he hm);clear he hm;have hA:Below w.heap.size w (w.alloc (.cells #[.bool false] 4)):=(Below.refl _ w).alloc (Nat.le_refl _) _;have hX:(w.alloc (.cells #[.bool false] 4)).heap[w.heap.size]?=some (.cells #[.bool false] 4 (0,0)):=af rfl;have HB:=hid (ak false w.heap.size _ (h.below hA) hu (aa hX 0) (ab hX));rw [hb,show bV (some false) false=0 from rfl] at HB;have HA:=hid hA;have HH:=hid h;have HU:=hid (And.intro hu hb);unfold ai at *;clear h hu hb hA hX;go_enter Tryz.func14,Tryz.ntmps14;go_wp2_with fail;refine HB.out.mono ?_;rintro e w1 ⟨rfl,hb1⟩;have HB1:=hid (HA.out.trans (hb1.mono HA.out.size));have HP1:=hid (HH.out.below HB1.out);have hC:=ag HP1.out.blk;have hlt:=hC.lt;have c2:=hC.c2;rw [HE.out.1] at c2;clear hb1 hC;rcases HE.out.2 with e | e
 all_goals
  subst e;go_wp2_with fail;go_ret;exact ⟨rfl,HB1.out⟩
end Go.Proofs.YtdmhbgpejppbkaaGreat
