/- What is gone over, as a stream; plain. A range over Up or Down, as a function's outermost loop. A range over Up or Down, within a round. A range over Up or Down whose variables are a pair in memory and a code. cahierlaw17.taken: all pairs of a gone-over. cahierlaw17.laid: a tree of keys, and the same as a list. -/
import Derived.Test.YtknioodagnjchaaGreatDoorUWb
import Derived.Test.YtknioodagnjchaaGreatDoorUWc
import Derived.Test.YtknioodagnjchaaGreatDoorUTPut2
import Derived.Test.YtknioodagnjchaaGreatDoorUTOrd
import Derived.Test.YtknioodagnjchaaGreatDoorUTFails
import Derived.RangeFuncLeaves
import Derived.ControlIn
set_option maxRecDepth 100000
set_option maxHeartbeats 4000000
namespace Go.Proofs.YtknioodagnjchaaGreatDoor
theorem u9 {ps:List Pr} (h:qe ps) {n:Nat} (hn:n<ps.length):ps.filter (fun p=>aU p.1 ps[n].1)=ps.take n:=by
 have hp:=List.pairwise_iff_getElem.1 h;refine ki (fun p hp'=>?_) (fun p hp'=>?_)
 ·obtain ⟨j,hj,rfl⟩:=List.getElem_of_mem hp';rw [List.length_take] at hj;rw [List.getElem_take];exact hp j n (by omega) hn (by omega)
 ·obtain ⟨j,hj,rfl⟩:=List.getElem_of_mem hp';rw [List.length_drop] at hj;rw [List.getElem_drop];by_cases h0:j=0
  ·subst h0;exact db _
  ·exact aG (hp n (n+j) hn (by omega) (by omega))
theorem pw {ps:List Pr} (h:qe ps) (p:Pr→Bool):qe (ps.filter p):=List.Pairwise.filter p h
def ew (ps:List Pr) (high:By):List Pr:=if high.isEmpty then ps else ps.filter (PT high true)
def fK (ps:List Pr) (high:By):List Pr:=(ew ps high).reverse
theorem nF {ps:List Pr} {high:By} (k:By) (hk:high.isEmpty=true∨aU k high=true):ps.filter (PT k true)=(ew ps high).filter (fun p=>aU p.1 k):=by
 unfold ew
 split
 ·rfl
 ·rename_i hne
  have hk:=hk.resolve_left hne;rw [List.filter_filter];refine List.filter_congr fun p _=>?_
  have e1:PT k true p=aU p.1 k:=rfl;rw [e1];cases h1:aU p.1 k
  ·simp
  ·have:PT high true p=true:=ca h1 hk;simp [this]
theorem rH {ps:List Pr} {high:By} (h:qe ps) {n:Nat} (hn:n<(fK ps high).length):nU ps (fK ps high)[n].1 true=(fK ps high)[n+1]?:=by
 have hD:qe (ew ps high):=by unfold ew;split;exact h;exact pw h _
 have hl:(fK ps high).length=(ew ps high).length:=List.length_reverse;have hm:(ew ps high).length - 1 - n<(ew ps high).length:=by omega
 have e:(fK ps high)[n]=(ew ps high)[(ew ps high).length - 1 - n]:=List.getElem_reverse _;have hk:high.isEmpty=true∨aU ((ew ps high)[(ew ps high).length - 1 - n]).1 high=true:=by
  have hmm:=List.getElem_mem hm;generalize (ew ps high)[(ew ps high).length - 1 - n]=x at *;unfold ew at hmm
  split at hmm
  ·rename_i h0;exact .inl h0
  ·exact .inr (List.mem_filter.1 hmm).2
 rw [e];unfold nU;rw [nF _ hk,u9 hD hm];by_cases hx:n+1<(ew ps high).length
 ·unfold fK;rw [List.getElem?_reverse hx,List.getLast?_eq_getElem?,List.length_take,Nat.min_eq_left (by omega),List.getElem?_take,if_pos (by omega)];congr 1
 ·rw [show (ew ps high).length - 1 - n=0 by omega,List.getElem?_eq_none (by omega)];rfl
structure Strm (FP:Pro (Option Pr)) (GP:By→Pro (Option Pr)) (sh:Sf) (S:List Pr):Prop where
 first:FP.run sh=(sh,.ok S.head?)
 next:∀ n (h:n<S.length),(GP S[n].1).run sh=(sh,.ok S[n+1]?)
def ro (ps:List Pr):List (Pr × Int):=ps.map fun p=>(p,0)
theorem Strm.look {FP:Pro (Option Pr)} {GP:By→Pro (Option Pr)} {sh:Sf} {S:List Pr} (h:Strm FP GP sh S):∀ {n:Nat},n≤S.length→(gS FP GP (ro (S.take n))).run sh=(sh,.ok S[n]?)
 | 0,_=>by
   rw [← List.head?_eq_getElem?];exact h.first
 | n+1,hn=>by
   unfold ro;rw [List.take_succ_eq_append_getElem (show n<S.length by omega),List.map_append];refine Eq.trans ?_ (h.next n (by omega));show (gS FP GP (_ ++ [(S[n],(0:Int))])).run sh=_;rw [iG]
theorem TS.down {s:Sf} {q:Int} {ps:List Pr} {X:List Int} (h:TS s q ps X) (hw:wt ps+X.length+60≤4094) (high:By):Strm (eu high q) (fun k=>au (kE k true) 20 q) s (fK ps high):=
 ⟨by
   unfold eu fK ew
   split
   ·rw [h.last hw,List.head?_reverse]
   ·rw [h.to hw high true,List.head?_reverse];rfl,fun n hn=>by rw [h.to hw _ true,rH h.srt.1 hn]⟩
theorem uN {W:Pr→Bool}:∀ {S:List Pr} {n:Nat},(∀ p ∈ S.take n,W p=true)→(∀ p,S[n]?=some p→W p=false)→S.takeWhile W=S.take n
 | [],n,_,_=>by simp
 | a :: l,0,_,h=>by rw [List.takeWhile_cons,h a rfl];rfl
 | a :: l,n+1,h1,h2=>by
   rw [List.takeWhile_cons,h1 a (by simp),List.take_succ_cons];simp only [if_true];rw [uN (n:=n) (fun p hp=>h1 p (by simp [hp])) (fun p hp=>h2 p (by simpa using hp))]
structure Stl (gs gm:Nat) (sh:Sf) (S:List Pr) (WN:By→Bool) (s:Ov) (pre:List (Pr × Int)) (A:World):Prop where
 shs:ShIs A gs gm s.s
 eq:s.s=sh
 n:pre=ro (S.take pre.length)
 le:pre.length≤S.length
 ok:∀ p ∈ S.take pre.length,WN p.1=true
 a:s.a=.err 0∨s.a=.ok S[pre.length]?
section
variable {gs gm:Nat} {sh:Sf} {S:List Pr} {WN:By→Bool} {s t:Ov} {pre:List (Pr × Int)} {A B:World} {FP:Pro (Option Pr)} {GP:By→Pro (Option Pr)}
theorem Stl.sto (h:Stl gs gm sh S WN s pre A) (hT:Strm FP GP sh S) (hs:qV gs gm FP GP s pre A t B):Stl gs gm sh S WN t pre B:=by
 obtain ⟨h1,h2,-⟩:=hs;have:=hT.look h.le;rw [← h.n] at this;rw [h.eq,this] at h1;injection h1 with e1 e2
 exact ⟨h2,e1.symm,h.n,h.le,h.ok,.inr e2.symm⟩
theorem Stl.x {x:Pr × Int} (h:Stl gs gm sh S WN s pre A) (hx:qd WN s pre x):∃ hl:pre.length<S.length,x=(S[pre.length],0)∧WN S[pre.length].1=true:=by
 obtain ⟨-,⟨p,e1,e2,rfl⟩ | ⟨e,e1,e2,rfl⟩⟩:=hx
 ·rcases h.a with e3 | e3
  ·rw [e1] at e3;cases e3
  ·rw [e1] at e3;injection e3 with e3
   obtain ⟨hl,rfl⟩:=List.getElem?_eq_some_iff.1 e3.symm;exact ⟨hl,rfl,e2⟩
 ·rcases h.a with e3 | e3
  ·rw [e1] at e3;injection e3 with e3
   exact absurd e3 e2
  ·rw [e1] at e3;cases e3
theorem Stl.next {x:Pr × Int} (h:Stl gs gm sh S WN s pre A) (hx:qd WN s pre x) (hB:ShIs B gs gm sh):Stl gs gm sh S WN ⟨sh,s.g,.err 0⟩ (pre ++ [x]) B:=by
 obtain ⟨hl,rfl,hw⟩:=h.x hx;have e:(pre ++ [(S[pre.length],(0:Int))]).length=pre.length+1:=by simp
 refine ⟨hB,rfl,?_,by rw [e];exact hl,?_,.inl rfl⟩
 ·rw [e,List.take_succ_eq_append_getElem hl];unfold ro;rw [List.map_append];exact congrArg (· ++ _) h.n
 ·rw [e,List.take_succ_eq_append_getElem hl];intro p hp;rcases List.mem_append.1 hp with hp | hp
  ·exact h.ok p hp
  ·rw [List.mem_singleton.1 hp];exact hw
theorem Stl.done (h:Stl gs gm sh S WN s pre A) (he:tN WN s pre):pre=ro (S.takeWhile fun p=>WN p.1):=by
 have key:(∀ p,S[pre.length]?=some p→WN p.1=false)→pre=ro (S.takeWhile fun p=>WN p.1):=fun hk=>by
  rw [uN (n:=pre.length) (W:=fun p=>WN p.1) h.ok hk];exact h.n
 rcases he with e | ⟨p,e,hw⟩ | ⟨pre',e,hp,he⟩
 ·refine key fun p hp=>?_
  rcases h.a with e3 | e3
  ·rw [e] at e3;cases e3
  ·rw [e] at e3;injection e3 with e3
   rw [← e3] at hp;cases hp
 ·refine key fun q hq=>?_
  rcases h.a with e3 | e3
  ·rw [e] at e3;cases e3
  ·rw [e] at e3;injection e3 with e3
   rw [← e3] at hq;injection hq with hq
   rw [← hq];exact hw
 ·exfalso;have hm:(([],[]),e) ∈ ro (S.take pre.length):=by rw [← h.n,hp];simp
  unfold ro at hm;obtain ⟨p,-,h2⟩:=List.mem_map.1 hm;injection h2 with _ h2
  exact he h2.symm
end
end Go.Proofs.YtknioodagnjchaaGreatDoor
namespace Go.Proofs.YtknioodagnjchaaGreatDoor
open Go.RowKit
theorem g9 {P:Program} {f:FuncId} {fn:Func} {c:Code} {args:Array Value} {w:World} {R:Ending→World→Prop} (hf:P.funcs[f]?=some fn) (hb:fn.body=some c)
  (h:c.wp P (bodyPostM Fence.wide 9 P fn R) { tmps:=args ++ Array.replicate (fn.ntmps - args.size) undef,defers:=[] } w):Calls P f args w R:=
 (callsIn_wide (n:=9)).1 (callsIn_of_wp_marks hf hb trivial (wpIn_wide.2 h))
theorem jz {P:Program} {fn:Func} {R:Ending→World→Prop} {tmps:Array Value} {D:Nat} {W:World} {v:Value} (hD:W.heap[D]?=some (.deferred (some [])))
  (hr:(results fn tmps).run P (W.putObj D (.deferred none))=.ok v (W.putObj D (.deferred none))) (h:R (.returned v) (W.putObj D (.deferred none))):
  bodyPostM Fence.wide 9 P fn R .ret { tmps,defers:=[{ target:=.collected D,args:=#[] }] } W:=
 ⟨by simp,.inl ⟨_,_,rfl,run_takeDeferred hD,_,hr,h⟩⟩
theorem bR (W:World) (l:Nat) (o:Obj):Ch (fun k=>k=l) W (W.putObj l o):=Ch.of_grown (grownBy_putObj' _ l o) (fun k e=>by cases e;rfl)
theorem gV {B:Nat} {S:Nat→Prop} {W W':World} (h:Ch S W W') (hS:∀ k o,B≤k→S k→W.heap[k]?=some o→o.isCells=true):KeepsFrom B W W':=
 ⟨h.size,fun k o hB hk ho=>h.keep hk fun hs=>by rw [hS k o hB hs hk] at ho;cases ho⟩
theorem dq {n l:Nat} {P:Program} {f:FuncId} {args:Array Value} {w:World} {R:Ending→World→Prop} (h:Calls P f args w R):CallsIn (Fence.wide.inRound l) n P f args w R:=callsIn_wide.2 h
section
variable {g:Operand} {ps:Array Tmp} {assign body:Code} {Q:Exit→Act→World→Prop} {a:Act} {w:World} {gs gm N B:Nat} {FP:Pro (Option Pr)} {GP:By→Pro (Option Pr)} {WN:By→Bool}
 {I:Ov→List (Pr × Int)→World→Prop} {Ix:Code→List (Pr × Int)→World→Prop} {Ax:(Pr × Int)→Act→World→Prop}
def nN (M:Nat) (s:Ov) (A:World):Prop:=∀ g0,s.g=some g0→M≤g0∧g0<A.heap.size
theorem pA
  (hg:a.eval g=ua B)
  (hseq:SeqX Fence.wide 8 Tryz.prog 133 #[.pointer (some ⟨B+4,0,none⟩),.pointer (some ⟨B+6,0,none⟩),.pointer (some ⟨B+5,0,none⟩)] fC (vB gs gm) (qV gs gm FP GP) (qd WN) (tN WN) (KbO B (B+7)) N w)
  (hgs:gs<w.heap.size) (hgm:gm<w.heap.size) (hB:B+7≤w.heap.size) (hps:ps.size=2)
  (hI:∀ s pre,fL w.heap.size (I s pre)) (hIx:∀ c pre,fL w.heap.size (Ix c pre)) (hAx:∀ x a',fL w.heap.size (Ax x a'))
  (hISt:∀ s pre A t B',I s pre A→nN (w.heap.size+2) s A→qV gs gm FP GP s pre A t B'→nN (w.heap.size+2) t B'→I t pre B')
  (hISh:∀ s pre A,I s pre A→ShIs A gs gm s.s∧pre.length≤N∧w.heap.size+2≤A.heap.size)
  {s0:Ov} (hs0:s0.g=none) (hal:∀ (W:World),Below w.heap.size w W→W.heap.size=w.heap.size+2→I s0 [] W)
  (hassign:∀ (l:Nat) (s:Ov) (pre:List (Pr × Int)) (x:Pr × Int) (W:World) (K:Act→World→Prop),I s pre W→nN (w.heap.size+2) s W→(∀ a' W',KeepsFrom w.heap.size W W'→KbO B (B+7) s W s W'→I s pre W'→Ax x a' W'→K a' W')→
    assign.wpIn (Fence.wide.inRound l) 7 Tryz.prog (Exit.then K (fun _ _ _=>False)) { tmps:=(ps.zip (fC x)).foldl (fun t (p,v)=>t.setIfInBounds p v) a.tmps,defers:=[] } W)
  (hbody:∀ (l:Nat) (s:Ov) (pre:List (Pr × Int)) (x:Pr × Int) (a':Act) (W:World),w.heap.size≤l→(∃ r,W.heap[l]?=some (.loop r))→I s pre W→nN (w.heap.size+2) s W→qd WN s pre x→Ax x a' W→body.wpIn (Fence.wide.inRound l) 7 Tryz.prog (nh w.heap.size (KbO B (B+7)) I Ix s (pre ++ [x]) W) a' W)
  (hdone:∀ (D:Nat) (s:Ov) (xs:List (Pr × Int)) (W:World),w.heap.size≤D→nN (w.heap.size+2) s W→tN WN s xs→I s xs W→W.heap[D]?=some (.deferred (some []))→Q .normal { a with defers:={ target:=.collected D,args:=#[] } :: a.defers } W)
  (hstop:∀ (D:Nat) (c:Code) (pre:List (Pr × Int)) (W:World),w.heap.size≤D→Ix c pre W→W.heap[D]?=some (.deferred (some []))→c.wp Tryz.prog Q { a with defers:={ target:=.collected D,args:=#[] } :: a.defers } W):
  (Code.rangeFunc g ps assign body).wp Tryz.prog Q a w:=by
 refine (wpIn_wide (n:=9)).1 (mX (N:=N) (Sh:=vB gs gm) (St:=qV gs gm FP GP) (Xx:=qd WN) (Ex:=tN WN) (Kb:=KbO B (B+7)) (w0:=w) (encs:=fC) (gf:=133) (I:=fun s pre A=>I s pre A∧nN (w.heap.size+2) s A) (Ix:=Ix) (Ax:=Ax) (s0:=s0)
  rfl (by omega) hg trivial (enters_of Tryz.func133 (by kernel_rfl) rfl) hseq (Below.refl _ _) (fun h k=>h.trans k) ?_ (fun x=>hps.symm) ?_ hIx hAx ?_ ?_ ?_ ?_ ?_ ?_ ?_ ?_)
 ·intro s pre W l o o' h1 h2 hi hl ho;refine ⟨rfl,(bR W l o').size,fun k hk hlt=>(bR W l o').block k hlt fun e=>?_⟩;subst e;rcases hk with hk | hk
  ·omega
  ·have:=(hi.2 _ hk).1;omega
 ·intro s pre W l o o' hi h1 hl ho;exact ⟨hI _ _ _ _ _ _ hi.1 h1 hl ho,fun g0 e=>⟨(hi.2 g0 e).1,Nat.lt_of_lt_of_le (hi.2 g0 e).2 (bR W l o').size⟩⟩
 ·rintro s pre A t B' ⟨hi,hgk⟩ ⟨_,_,g1,e1,e2,e3,hc⟩ k o hk1 hk2 hk ho;refine hc.keep hk ?_;rintro (rfl | rfl | rfl)
  ·omega
  ·omega
  ·rcases e2 with e2 | e2
   ·have:=(hgk _ e2).1;omega
   ·have:=(hISh _ _ _ hi).2.2;omega
 ·rintro s pre A t B' ⟨hi,hgk⟩ hst;have hgt:nN (w.heap.size+2) t B':=by
   obtain ⟨_,_,g1,e1,e2,e3,hc⟩:=hst;intro g0 e0;rw [e1] at e0;injection e0 with e0
   subst e0;refine ⟨?_,e3⟩;rcases e2 with e2 | e2
   ·exact (hgk _ e2).1
   ·have:=(hISh _ _ _ hi).2.2;omega
  exact ⟨hISt _ _ _ _ _ hi hgk hst hgt,hgt⟩
 ·rintro s pre A ⟨hi,-⟩;exact ⟨(hISh _ _ _ hi).1,(hISh _ _ _ hi).2.1⟩
 ·intro W hb hsz;exact ⟨hal W hb hsz,fun g0 e=>by rw [hs0] at e;cases e⟩
 ·rintro l s pre x W K ⟨hi,hgk⟩ hK;exact hassign l s pre x W K hi hgk fun a' W' hk hkb hi' hax=>hK a' W' hk hkb ⟨hi',fun g0 e=>⟨(hgk g0 e).1,Nat.lt_of_lt_of_le (hgk g0 e).2 hkb.2.1⟩⟩ hax
 ·rintro l s pre x a' W hl hr ⟨hi,hgk⟩ hx hax;refine wpIn_mono (hbody l s pre x a' W hl hr hi hgk hx hax) ?_;rintro e a2 W2 hp;cases e with
  | normal=> obtain ⟨h1,t,h2,h3⟩:=hp;exact ⟨h1,t,h2,h3,fun g0 e=>⟨(hgk g0 (h2.1 ▸ e)).1,Nat.lt_of_lt_of_le (hgk g0 (h2.1 ▸ e)).2 h2.2.1⟩⟩
  | ret=>exact hp
  | exit id=>exact hp
  | goto t=>exact hp
  | panic ch=>exact hp
  | outgrown=>exact hp
 ·rintro D s xs W hD he ⟨hi,hgk⟩ hk;exact hdone D s xs W hD hgk he hi hk
 ·intro D c pre W hD hi hk;exact wpIn_wide.2 (hstop D c pre W hD hi hk)
end
end Go.Proofs.YtknioodagnjchaaGreatDoor
namespace Go.Proofs.YtknioodagnjchaaGreatDoor
open Go.RowKit
section
variable {g:Operand} {ps:Array Tmp} {assign body:Code} {Q:Exit→Act→World→Prop} {a:Act} {w:World} {gs gm N B:Nat} {FP:Pro (Option Pr)} {GP:By→Pro (Option Pr)} {WN:By→Bool}
 {I:Ov→List (Pr × Int)→World→Prop} {Ix:Code→List (Pr × Int)→World→Prop} {Ax:(Pr × Int)→Act→World→Prop}
end
end Go.Proofs.YtknioodagnjchaaGreatDoor
namespace Go.Proofs.YtknioodagnjchaaGreatDoor
open Go.RowKit
def AxP (M:Nat) (a:Act) (ps:Array Tmp) (i j:Nat) (x:Pr × Int) (a':Act) (W:World):Prop:=
 ∃ g,a'={ tmps:=(((ps.zip (fC x)).foldl (fun t (p,v)=>t.setIfInBounds p v) a.tmps).setIfInBounds i (.pointer (some ⟨g,0,none⟩))).setIfInBounds j (.int .i64 x.2),defers:=[] }∧M≤g∧W.heap[g]?=some (dj x.1)
theorem AxP.abide {M:Nat} {a:Act} {ps:Array Tmp} {i j:Nat} (x:Pr × Int) (a':Act):fL M (AxP M a ps i j x a'):=by
 rintro W l o o' ⟨g,e,hg,hb⟩ hl ho hc;refine ⟨g,e,hg,(bR W l o').keep hb ?_⟩;rintro rfl;rw [ho] at hb;injection hb with hb
 subst hb;cases hc
theorem KbO.alloc {lo hi:Nat} (s:Ov) (W:World) (o:Obj):KbO lo hi s W s (W.alloc o):=⟨rfl,by simp,fun k _ hk=>Below.heap_alloc _ _ _ hk⟩
theorem oE {B:Nat} (W:World) (o:Obj):KeepsFrom B W (W.alloc o):=gV (S:=fun _=>False) (Ch.alloc (Ch.refl _ W) o) (fun _ _ _ h _=>h.elim)
section
variable {g:Operand} {ps:Array Tmp} {assign body:Code} {Q:Exit→Act→World→Prop} {a:Act} {w:World} {gs gm N B:Nat} {FP:Pro (Option Pr)} {GP:By→Pro (Option Pr)} {WN:By→Bool}
 {I:Ov→List (Pr × Int)→World→Prop} {Ix:Code→List (Pr × Int)→World→Prop} {i j:Nat}
theorem gP
  (hg:a.eval g=ua B)
  (hseq:SeqX Fence.wide 8 Tryz.prog 133 #[.pointer (some ⟨B+4,0,none⟩),.pointer (some ⟨B+6,0,none⟩),.pointer (some ⟨B+5,0,none⟩)] fC (vB gs gm) (qV gs gm FP GP) (qd WN) (tN WN) (KbO B (B+7)) N w)
  (hgs:gs<w.heap.size) (hgm:gm<w.heap.size) (hB:B+7≤w.heap.size) (hps:ps.size=2)
  (hI:∀ s pre,fL w.heap.size (I s pre)) (hIx:∀ c pre,fL w.heap.size (Ix c pre))
  (hISt:∀ s pre A t B',I s pre A→nN (w.heap.size+2) s A→qV gs gm FP GP s pre A t B'→nN (w.heap.size+2) t B'→I t pre B')
  (hISh:∀ s pre A,I s pre A→ShIs A gs gm s.s∧pre.length≤N∧w.heap.size+2≤A.heap.size)
  {s0:Ov} (hs0:s0.g=none) (hal:∀ (W:World),Below w.heap.size w W→W.heap.size=w.heap.size+2→I s0 [] W)
  (hIa:∀ s pre W o,I s pre W→I s pre (W.alloc o))
  (hassign:∀ (l:Nat) (x:Pr × Int) (W:World) (K:Act→World→Prop),K { tmps:=(((ps.zip (fC x)).foldl (fun t (p,v)=>t.setIfInBounds p v) a.tmps).setIfInBounds i (.pointer (some ⟨W.heap.size,0,none⟩))).setIfInBounds j (.int .i64 x.2),defers:=[] } (W.alloc (dj x.1))→
    assign.wpIn (Fence.wide.inRound l) 7 Tryz.prog (Exit.then K (fun _ _ _=>False)) { tmps:=(ps.zip (fC x)).foldl (fun t (p,v)=>t.setIfInBounds p v) a.tmps,defers:=[] } W)
  (hbody:∀ (l:Nat) (s:Ov) (pre:List (Pr × Int)) (x:Pr × Int) (g:Nat) (W:World),w.heap.size≤l→(∃ r,W.heap[l]?=some (.loop r))→I s pre W→nN (w.heap.size+2) s W→qd WN s pre x→w.heap.size≤g→W.heap[g]?=some (dj x.1)→
    body.wpIn (Fence.wide.inRound l) 7 Tryz.prog (nh w.heap.size (KbO B (B+7)) I Ix s (pre ++ [x]) W) { tmps:=(((ps.zip (fC x)).foldl (fun t (p,v)=>t.setIfInBounds p v) a.tmps).setIfInBounds i (.pointer (some ⟨g,0,none⟩))).setIfInBounds j (.int .i64 x.2),defers:=[] } W)
  (hdone:∀ (D:Nat) (s:Ov) (xs:List (Pr × Int)) (W:World),w.heap.size≤D→nN (w.heap.size+2) s W→tN WN s xs→I s xs W→W.heap[D]?=some (.deferred (some []))→Q .normal { a with defers:={ target:=.collected D,args:=#[] } :: a.defers } W)
  (hstop:∀ (D:Nat) (c:Code) (pre:List (Pr × Int)) (W:World),w.heap.size≤D→Ix c pre W→W.heap[D]?=some (.deferred (some []))→c.wp Tryz.prog Q { a with defers:={ target:=.collected D,args:=#[] } :: a.defers } W):
  (Code.rangeFunc g ps assign body).wp Tryz.prog Q a w:=by
 refine pA (Ax:=AxP w.heap.size a ps i j) hg hseq hgs hgm hB hps hI hIx AxP.abide hISt hISh hs0 hal ?_ ?_ hdone hstop
 ·intro l s pre x W K hi hgk hK;refine hassign l x W K (hK _ _ (oE W _) (KbO.alloc s W _) (hIa _ _ _ _ hi) ⟨W.heap.size,rfl,?_,ag rfl⟩);have:=(hISh _ _ _ hi).2.2;omega
 ·rintro l s pre x a' W hl hr hi hgk hx ⟨g0,rfl,hg0,hb⟩;exact hbody l s pre x g0 W hl hr hi hgk hx hg0 hb
end
end Go.Proofs.YtknioodagnjchaaGreatDoor
namespace Go.Proofs.YtknioodagnjchaaGreatDoor
open Go.RowKit Go.Shelf
attribute [local go_sem] Oper.semAt_some
theorem fd {F:Fence} {n:Nat} {P:Program} {α:Type} {f:α→List Value} {size:Nat} {e:TypeId} {base:Nat} {w:World} {v:Value} {xs ys:List α} {ops:Array Oper} {rest:List Oper} {o:Oper} {a:Act} {Q:Exit→Act→World→Prop} (hgd:o.guard=none) {s x:Operand} {t:TypeId}
  (ho:o.op=.call { callee:=.builtin .append,args:=#[s,x],argTypes:=#[t,t] }) {bytes:Nat} (T:ElemT P t e f size bytes) {y:Value} (hs:a.eval s=v) (hx:a.eval x=y)
  (hown:Own f size e base w v xs) (hy:Sl f size w y ys)
  (h63:xs.length+ys.length≤maxLen) (hbytes:(xs.length+ys.length) * bytes≤140737488355328) (hbase:base≤w.heap.size)
  (h:∀ v' w',Own f size e base w' v' (xs ++ ys)→w.grownBy w' v.ownBlock→(v'.ownBlock=v.ownBlock∨v'.ownBlock=some w.heap.size)→wpListIn F n P ops Q rest (a.put o.dst v') w'):wpListIn F n P ops Q (o :: rest) a w:=by
 refine wpListIn_plain hgd fun K hK=>?_
 obtain ⟨v',w',hr,h2,h3,h5⟩:=fO (P:=P) T o.type hown hy h63 hbytes hbase;unfold Oper.wpIn;refine ⟨?_,?_⟩
 ·simp [Oper.about,ho,resolve,Target.leads,Sem.run_pure]
 ·rw [Oper.semAt_plain F _ _ (by rw [ho];intro c hc';cases hc')];simp [execOp,ho,resolve,invoke,builtin,hs,hx,hr,Result.andThen];exact hK _ _ (h v' w' h2 h3 h5)
theorem Own.putObj {α:Type} {f:α→List Value} {size:Nat} {e:TypeId} {base:Nat} {w:World} {v:Value} {xs:List α} (h:Own f size e base w v xs) {l:Nat} {o o':Obj} (hl:w.heap[l]?=some o) (ho:o.isCells=false):Own f size e base (w.putObj l o') v xs:=
 h.ch (bR w l o') fun k hk e=>by
  subst e;obtain ⟨cur,hc⟩:=h.blk_ty hk;rw [hl] at hc;injection hc with hc
  subst hc;cases ho
theorem oM (f:Fn) (a c:Array Value) (w:World):(binOp .eql 79 (.func f a c) .nilFunc).run Tryz.prog w=.ok (.bool false) w:=by kernel_rfl
section
variable {α:Type} {f:α→List Value} {size:Nat} {e ty:TypeId} {base bo B:Nat} {s t:Ov} {xs:List α} {A A':World}
def OutB (f:α→List Value) (size:Nat) (e ty:TypeId) (base bo B:Nat) (s:Ov) (xs:List α) (A:World):Prop:=
 ∃ v,A.heap[bo]?=some (.cells #[v] ty (0,0))∧Own f size e base A v xs∧∀ k,v.ownBlock=some k→s.g≠some k∧(k<B∨B+7≤k)
theorem OutB.ch {S:Nat→Prop} (h:OutB f size e ty base bo B s xs A) (hc:Ch S A A') (hb:¬ S bo) (hS:∀ k,base≤k→k<A.heap.size→s.g≠some k→(k<B∨B+7≤k)→(∃ cur,A.heap[k]?=some (.cells cur e (0,0)))→¬ S k):OutB f size e ty base bo B s xs A':=by obtain ⟨v,h1,h2,h3⟩:=h;exact ⟨v,hc.keep h1 hb,h2.ch hc fun k hk=>hS k (h2.lt k hk).1 (h2.lt k hk).2 (h3 k hk).1 (h3 k hk).2 (h2.blk_ty hk),h3⟩
theorem OutB.below (h:OutB f size e ty base bo B s xs A) (hb:Below A.heap.size A A'):OutB f size e ty base bo B s xs A':=h.ch (S:=fun _=>False) (Ch.of_below hb) id (fun _ _ _ _ _ _=>id)
theorem OutB.put {l:Nat} {o o':Obj} (h:OutB f size e ty base bo B s xs A) (hl:A.heap[l]?=some o) (ho:o.isCells=false):OutB f size e ty base bo B s xs (A.putObj l o'):=by
 refine h.ch (bR A l o') ?_ ?_
 ·rintro rfl;obtain ⟨v,h1,-⟩:=h;rw [hl] at h1;injection h1 with h1
  subst h1;cases ho
 ·rintro k - - - - ⟨cur,hc⟩ rfl;rw [hl] at hc;injection hc with hc
  subst hc;cases ho
theorem OutB.sto {gs gm M:Nat} {FP:Pro (Option Pr)} {GP:By→Pro (Option Pr)} {pre:List (Pr × Int)} (h:OutB f size e ty base bo B s xs A) (hs:qV gs gm FP GP s pre A t A') (hgs:gs<base) (hgm:gm<base) (hbo:base≤bo) (hg:nN M t A') (hM:bo<M):OutB f size e ty base bo B t xs A':=by
 obtain ⟨v,h1,h2,h3⟩:=h;obtain ⟨-,-,g1,e1,e2,e3,hc⟩:=hs;have hg1:=(hg g1 e1).1;have hv:∀ k,v.ownBlock=some k→k≠g1:=by
  rintro k hk rfl;rcases e2 with e2 | e2
  ·exact (h3 k hk).1 e2
  ·have:=(h2.lt k hk).2;omega
 refine ⟨v,hc.keep h1 (by omega),h2.ch hc fun k hk e=>?_,fun k hk=>⟨fun e=>?_,(h3 k hk).2⟩⟩
 ·have:=(h2.lt k hk).1;have:=hv k hk;omega
 ·rw [e1] at e;injection e with e
  exact hv k hk e.symm
def PushS (e:TypeId) (base bo B:Nat) (s:Ov) (A:World) (k:Nat):Prop:=k=bo∨base≤k∧s.g≠some k∧(k<B∨B+7≤k)∧∃ cur,A.heap[k]?=some (.cells cur e (0,0))
theorem OutB.push {w1 w7:World} {v v':Value} {x:α} (hbo:A.heap[bo]?=some (.cells #[v] ty (0,0))) (hown:Own f size e base A v xs) (hk:∀ k,v.ownBlock=some k→s.g≠some k∧(k<B∨B+7≤k)) (hb1:Below A.heap.size A w1) (hAB:B+7≤A.heap.size)
  (ho:Own f size e base w7 v' (xs ++ [x])) (hg:w1.grownBy w7 v.ownBlock) (hat:v'.ownBlock=v.ownBlock∨v'.ownBlock=some w1.heap.size) (hgl:∀ g,s.g=some g→g<A.heap.size) (hne:e≠ty):
  OutB f size e ty base bo B s (xs ++ [x]) (w7.setCell ⟨bo,0,none⟩ v')∧Ch (PushS e base bo B s A) A (w7.setCell ⟨bo,0,none⟩ v'):=by
 have hkb:∀ k,v.ownBlock=some k→k≠bo:=by
  rintro k hk' rfl;obtain ⟨cur,hc⟩:=hown.blk_ty hk';rw [hbo] at hc;injection hc with hc
  injection hc with _ hc _
  exact hne hc.symm
 have hs1:=hb1.size;have hbl:=aj hbo;have hc17:Ch (fun k=>v.ownBlock=some k) A w7:=(Ch.of_below hb1).trans (Ch.of_grown hg (fun k e=>e));have hb7:w7.heap[bo]?=some (.cells #[v] ty (0,0)):=hc17.keep hbo (fun e=>hkb _ e rfl);have hc8:Ch (fun k=>k=bo) w7 (w7.setCell ⟨bo,0,none⟩ v'):=(Ch.refl (fun k=>k=bo) w7).setCell (p:=⟨bo,0,none⟩) rfl v';refine ⟨⟨v',jv hb7 v',ho.ch hc8 fun k hk' e=>?_,fun k hk'=>?_⟩,(hc17.mono fun k _ e=>?_).trans (hc8.mono fun k _ e=>.inl e)⟩
 ·subst e;rcases hat with e | e
  ·exact hkb _ (e ▸ hk') rfl
  ·rw [hk'] at e;injection e with e;omega
 ·rcases hat with e | e
  ·exact hk k (e ▸ hk')
  ·rw [hk'] at e;injection e with e
   refine ⟨fun e2=>?_,by omega⟩;have:=hgl k e2;omega
 ·exact .inr ⟨(hown.lt k e).1,(hk k e).1,(hk k e).2,hown.blk_ty e⟩
theorem OutB.at7 {w1 w7:World} {v:Value} (hbo:A.heap[bo]?=some (.cells #[v] ty (0,0))) (hown:Own f size e base A v xs) (hb1:Below A.heap.size A w1) (hg:w1.grownBy w7 v.ownBlock) (hne:e≠ty):w7.heap[bo]?=some (.cells #[v] ty (0,0)):=by
 have hkb:∀ k,v.ownBlock=some k→k≠bo:=by
  rintro k hk' rfl;obtain ⟨cur,hc⟩:=hown.blk_ty hk';rw [hbo] at hc;injection hc with hc
  injection hc with _ hc _
  exact hne hc.symm
 have hc17:Ch (fun k=>v.ownBlock=some k) A w7:=(Ch.of_below hb1).trans (Ch.of_grown hg (fun k e=>e));exact hc17.keep hbo (fun e=>hkb _ e rfl)
theorem PushS.kbo {M:Nat} (hc:Ch (PushS e base bo B s A) A A') (hbB:bo<B) (hg:nN M s A) (hM:bo<M):KbO B (B+7) s A s A':=by
 refine ⟨rfl,hc.size,fun k hk hl=>hc.block k hl ?_⟩;rintro (rfl | ⟨-,h1,h2,-⟩)
 ·rcases hk with hk | hk
  ·omega
  ·have:=(hg _ hk).1;omega
 ·rcases hk with hk | hk
  ·omega
  ·exact h1 hk
theorem PushS.keeps {M:Nat} {v:Value} (hc:Ch (PushS e base bo B s A) A A') (hbo:A.heap[bo]?=some (.cells #[v] ty (0,0))):KeepsFrom M A A':=by
 refine gV hc ?_;rintro k o - (rfl | ⟨-,-,-,cur,h⟩) hk
 ·rw [hbo] at hk;injection hk with hk;subst hk;rfl
 ·rw [h] at hk;injection hk with hk;subst hk;rfl
end
structure TakI (w0 w:World) (bo B gs gm:Nat) (sh:Sf) (S:List Pr) (WN:By→Bool) (s:Ov) (pre:List (Pr × Int)) (A:World):Prop where
 st:Stl gs gm sh S WN s pre A
 sz:w.heap.size+2≤A.heap.size
 out:OutB kq 2 62 67 w0.heap.size bo B s (pre.map (·.1)) A
 r0:A.heap[w0.heap.size]?=some (.cells #[.slice none 0 0] 67 (0,0))
 r1:A.heap[w0.heap.size+1]?=some (.cells #[.bool false] 4 (0,0))
 ch:Ch (fun k=>k=gs∨k=gm) w0 A
section
variable {w0 w A A' B':World} {bo B gs gm:Nat} {sh:Sf} {S:List Pr} {WN:By→Bool} {s t:Ov} {pre:List (Pr × Int)} {FP:Pro (Option Pr)} {GP:By→Pro (Option Pr)}
theorem Stl.ch {Z:Nat→Prop} (h:Stl gs gm sh S WN s pre A) (hc:Ch Z A A') (h1:¬ Z gs) (h2:¬ Z gm):Stl gs gm sh S WN s pre A':=⟨h.shs.ch hc h1 h2,h.eq,h.n,h.le,h.ok,h.a⟩
theorem TakI.below (h:TakI w0 w bo B gs gm sh S WN s pre A) (hb:Below A.heap.size A A'):TakI w0 w bo B gs gm sh S WN s pre A':=
 ⟨h.st.ch (Z:=fun _=>False) (Ch.of_below hb) id id,Nat.le_trans h.sz hb.size,h.out.below hb,ab h.r0 hb,ab h.r1 hb,h.ch.then (S':=fun _=>False) (Ch.of_below hb) (fun _ h=>h.elim)⟩
theorem TakI.sto (h:TakI w0 w bo B gs gm sh S WN s pre A) (hT:Strm FP GP sh S) (hgs:gs<w0.heap.size) (hgm:gm<w0.heap.size) (h0:w0.heap.size+2≤bo) (hb:bo<w.heap.size) (hs:qV gs gm FP GP s pre A t B') (hg:nN (w.heap.size+2) t B'):TakI w0 w bo B gs gm sh S WN t pre B':=by
 have hst:=h.st.sto hT hs;have ho:=h.out.sto hs hgs hgm (by omega) hg (by omega);obtain ⟨-,-,g1,e1,e2,e3,hc⟩:=hs;have hg1:=(hg g1 e1).1;refine ⟨hst,Nat.le_trans h.sz hc.size,ho,hc.keep h.r0 (by omega),hc.keep h.r1 (by omega),h.ch.then hc fun i hi=>?_⟩;rcases hi with e | e | e
 ·exact .inl (.inl e)
 ·exact .inl (.inr e)
 ·right;omega
theorem TakI.abide (hgs:gs<w0.heap.size) (hgm:gm<w0.heap.size) (h0:w0.heap.size+2≤bo) (hb:bo<w.heap.size):fL w.heap.size (TakI w0 w bo B gs gm sh S WN s pre):=by intro W l o o' h hl ho hc;have hp:=bR W l o';exact ⟨h.st.ch hp (by omega) (by omega),Nat.le_trans h.sz hp.size,h.out.put ho hc,hp.keep h.r0 (by omega),hp.keep h.r1 (by omega),h.ch.then hp (fun i e=>.inr (by omega))⟩
theorem TakI.push {x:Pr × Int} {w1 w7:World} {v v':Value} (h:TakI w0 w bo B gs gm sh S WN s pre A) (hg:nN (w.heap.size+2) s A) (hx:qd WN s pre x) (hgs:gs<w0.heap.size) (hgm:gm<w0.heap.size) (h0:w0.heap.size+2≤bo) (hbB:bo<B) (hBw:B+7≤w.heap.size)
  (hbo:A.heap[bo]?=some (.cells #[v] 67 (0,0))) (hown:Own kq 2 62 w0.heap.size A v (pre.map (·.1))) (hk:∀ k,v.ownBlock=some k→s.g≠some k∧(k<B∨B+7≤k)) (hb1:Below A.heap.size A w1)
  (ho:Own kq 2 62 w0.heap.size w7 v' (pre.map (·.1) ++ [x.1])) (hgr:w1.grownBy w7 v.ownBlock) (hat:v'.ownBlock=v.ownBlock∨v'.ownBlock=some w1.heap.size):
  KeepsFrom w.heap.size A (w7.setCell ⟨bo,0,none⟩ v')∧∃ t,KbO B (B+7) s A t (w7.setCell ⟨bo,0,none⟩ v')∧TakI w0 w bo B gs gm sh S WN t (pre ++ [x]) (w7.setCell ⟨bo,0,none⟩ v'):=by
 have hz:=h.sz;obtain ⟨h1,hc⟩:=OutB.push (s:=s) hbo hown hk hb1 (by omega) ho hgr hat (fun g e=>(hg g e).2) (by decide);have hkb:=PushS.kbo hc hbB hg (by omega)
 have hng:∀ k,k<w0.heap.size+2→¬ PushS 62 w0.heap.size bo B s A k∨w0.heap.size≤k:=fun k hk=>by
  rcases Nat.lt_or_ge k w0.heap.size with h | h
  ·left;rintro (e | ⟨e,-⟩) <;> omega
  ·exact .inr h
 have hty:∀ k ty cur,A.heap[k]?=some (.cells cur ty (0,0))→62≠ty→k≠bo→¬ PushS 62 w0.heap.size bo B s A k:=by
  rintro k ty cur hk hne hb (e | ⟨-,-,-,cur2,e⟩)
  ·exact hb e
  ·rw [hk] at e;injection e with e
   injection e with _ e _
   exact hne e.symm
 have h2:ShIs (w7.setCell ⟨bo,0,none⟩ v') gs gm sh:=by have:=h.st.shs;rw [h.st.eq] at this;exact this.ch hc ((hng gs (by omega)).elim id (fun h=>absurd hgs (by omega))) ((hng gm (by omega)).elim id (fun h=>absurd hgm (by omega)))
 refine ⟨PushS.keeps hc hbo,⟨sh,s.g,.err 0⟩,⟨hkb.1,hkb.2⟩,⟨h.st.next hx h2,Nat.le_trans hz hc.size,?_,hc.keep h.r0 (hty _ _ _ h.r0 (by decide) (by omega)),hc.keep h.r1 (hty _ _ _ h.r1 (by decide) (by omega)),h.ch.then hc fun i hi=>?_⟩⟩
 ·rw [List.map_append];exact h1
 ·rcases hi with e | ⟨e,-⟩
  ·right;omega
  ·exact .inr e
end
theorem TakI.fin {w0 w W:World} {bo B gs gm D:Nat} {sh:Sf} {S:List Pr} {WN:By→Bool} {s:Ov} {xs:List (Pr × Int)} {v:Value} {ys:List Pr} (h:TakI w0 w bo B gs gm sh S WN s xs W) (hgs:gs<w0.heap.size) (hgm:gm<w0.heap.size) (hw:w0.heap.size+2≤w.heap.size) (hD:w.heap.size≤D) (hk:W.heap[D]?=some (.deferred (some []))) (hv:Own kq 2 62 w0.heap.size W v ys):
  ∃ W2,W2=(W.setCell ⟨w0.heap.size,0,none⟩ v).setCell ⟨w0.heap.size+1,0,none⟩ (.bool true)∧W2.heap[D]?=some (.deferred (some []))∧(W2.putObj D (.deferred none)).cell? ⟨w0.heap.size,0,none⟩=some v∧(W2.putObj D (.deferred none)).cell? ⟨w0.heap.size+1,0,none⟩=some (.bool true)∧
    Own kq 2 62 w0.heap.size (W2.putObj D (.deferred none)) v ys∧ShIs (W2.putObj D (.deferred none)) gs gm sh∧Ch (fun k=>k=gs∨k=gm) w0 (W2.putObj D (.deferred none)):=by
 have c1:=(Ch.refl (fun k=>k=w0.heap.size) W).setCell (p:=⟨w0.heap.size,0,none⟩) rfl v;have c2:=(Ch.refl (fun k=>k=w0.heap.size+1) (W.setCell ⟨w0.heap.size,0,none⟩ v)).setCell (p:=⟨w0.heap.size+1,0,none⟩) rfl (.bool true);have hk2:((W.setCell ⟨w0.heap.size,0,none⟩ v).setCell ⟨w0.heap.size+1,0,none⟩ (.bool true)).heap[D]?=some (.deferred (some [])):=c2.keep (c1.keep hk (by omega)) (by omega);have a0:=c2.keep (jv h.r0 v) (by omega);have a1:=jv (c1.keep h.r1 (by omega)) (.bool true);refine ⟨_,rfl,hk2,?_⟩;generalize (W.setCell ⟨w0.heap.size,0,none⟩ v).setCell ⟨w0.heap.size+1,0,none⟩ (.bool true)=W2 at *;have c3:=bR W2 D (.deferred none)
 have hc:Ch (fun k=>k=w0.heap.size∨k=w0.heap.size+1∨k=D) W (W2.putObj D (.deferred none)):=
  ((c1.mono fun _ _ e=>.inl e).trans (c2.mono fun _ _ e=>.inr (.inl e))).trans (c3.mono fun _ _ e=>.inr (.inr e))
 refine ⟨ae (c3.keep a0 (by omega)) 0,ae (c3.keep a1 (by omega)) 0,hv.ch hc fun k hk' e=>?_,?_,h.ch.then hc fun i hi=>.inr (by omega)⟩
 ·obtain ⟨cur,hcur⟩:=hv.blk_ty hk';rcases e with rfl | rfl | rfl
  ·rw [h.r0] at hcur;injection hcur with e;injection e with _ e _;exact absurd e (by decide)
  ·rw [h.r1] at hcur;injection hcur with e;injection e with _ e _;exact absurd e (by decide)
  ·rw [hk] at hcur;injection hcur with e;cases e
 ·have:=h.st.shs;rw [h.st.eq] at this;exact this.ch hc (by omega) (by omega)
end Go.Proofs.YtknioodagnjchaaGreatDoor
namespace Go.Proofs.YtknioodagnjchaaGreatDoor
open Go.Lib (hid)
open Go.RowKit
def nQ (long:Bool) (k:By):By:=UInt8.ofNat k.length :: (if long then List.replicate 60 0 else [])
def d8 (k:By):By:=k.take 64
def sO (long:Bool) (ps:List Pr) (k:By):List Pr:=putP ps (d8 k) (nQ long (d8 k))
def dX (long:Bool) (ks:List By):List Pr:=ks.foldl (sO long) []
theorem pI (long:Bool) (ks:List By) (k:By):dX long (ks ++ [k])=putP (dX long ks) (d8 k) (nQ long (d8 k)):=by unfold dX;rw [List.foldl_append];rfl
theorem mZ (long:Bool) (k:By):(nQ long k).length≤61:=by unfold nQ;cases long <;> simp
theorem qH (long:Bool):∀ (ks:List By) (ps:List Pr),wt (ks.foldl (sO long) ps)≤wt ps+3 * ks.length∧(ks.foldl (sO long) ps).length≤ps.length+ks.length
 | [],ps=>⟨Nat.le_refl _,Nat.le_refl _⟩
 | k :: ks,ps=>by
   obtain ⟨i1,i2⟩:=qH long ks (sO long ps k);have h1:=po ps (d8 k) (nQ long (d8 k));have h2:=p7 (mZ long (d8 k));have h3:=ul ps (d8 k) (nQ long (d8 k));rw [List.foldl_cons,List.length_cons];unfold sO at i1 i2 ⊢;omega
theorem oD (long:Bool) (ks:List By):wt (dX long ks)≤3 * ks.length∧(dX long ks).length≤ks.length:=by obtain ⟨h1,h2⟩:=qH long ks [];have h0:wt ([]:List Pr)=0:=rfl;have h3:([]:List Pr).length=0:=rfl;unfold dX;omega
theorem ShIs.no_pr {w:World} {gs gm:Nat} {s:Sf} (h:ShIs w gs gm s) (k:Nat) (hk:k=gs∨k=gm) (cur:Array Value):w.heap[k]?≠some (.cells cur 62 (0,0)):=by
 rcases hk with rfl | rfl
 ·intro e;rw [h.blk] at e;unfold l8 at e;injection e with e
  injection e with e1 e2 e3
  exact absurd e2 (by decide)
 ·intro e;obtain ⟨D,K,⟨es,clock,hb,_⟩,_⟩:=h.book;rw [hb] at e;cases e
theorem MpIs.ch {w w':World} {g base:Nat} {ps:List Pr} {S:Nat→Prop} (h:MpIs w g base ps) (hc:Ch S w w') (hS:∀ k,S k→k≠g∧∀ cur,w.heap[k]?≠some (.cells cur 62 (0,0))):MpIs w' g base ps:=by obtain ⟨v,h1,h2⟩:=h;refine ⟨v,hc.keep h1 (fun hs=>(hS g hs).1 rfl),h2.ch hc fun k hk hs=>?_⟩;obtain ⟨cur,hcur⟩:=h2.blk_ty hk;exact (hS k hs).2 cur hcur
structure LayI (w:World) (gs gm g:Nat) (root:Int) (ps:List Pr) (wr:World):Prop where
 h:∃ s,ShIs wr gs gm s∧TS s root ps []
 m:∃ base,w.heap.size≤base∧MpIs wr g base ps
 n:gs≠g∧gm≠g∧w.heap.size≤gs∧w.heap.size≤gm∧w.heap.size≤g
 b:Below w.heap.size w wr
theorem oC (ks:List By) (long:Bool) (kv:Value) (w:World) (hk:Sl sC 1 w kv ks):
  Calls Tryz.prog 33 #[kv,.bool long] w fun e w'=>∃ gs gm g root,e=.returned (.tuple #[.pointer (some ⟨gs,0,none⟩),.int .i64 root,.pointer (some ⟨g,0,none⟩)])∧LayI w gs gm g root (dX long (ks.take 200)) w':=by
 obtain ⟨Ak,ck,rfl⟩:=Sl.len' hk;have HK:=hid hk;clear hk;go_enter Tryz.func33,Tryz.ntmps33;go_wp2_with fail;refine (lP 4096 w).mono ?_;rintro e w1 ⟨gs,gm,rfl,hs,h1,h2,hb⟩;have HS1:=hid (show ShIs w1 gs gm (ue 4096) from hs);have HM2:=hid (show MpIs (w1.alloc (.cells #[.slice none 0 0] 69)) w1.heap.size w1.heap.size [] from ⟨_,ag rfl,Own.nil⟩);have HS2:=hid (HS1.out.ch (S:=fun _=>False) (Ch.alloc (Ch.refl _ w1) (.cells #[.slice none 0 0] 69)) id id);have HB2:=hid (hb.alloc hb.size (.cells #[.slice none 0 0] 69));have HN:=hid (show gs≠w1.heap.size∧gm≠w1.heap.size∧w.heap.size≤gs∧w.heap.size≤gm∧w.heap.size≤w1.heap.size from ⟨by have:=aj HS1.out.blk;omega,by have:=HS1.out.book.lt;omega,h1,h2,hb.size⟩);clear hs h1 h2 hb HS1;obtain ⟨s2,root,hmk,-,hts,-⟩:=TS.make vp (by decide);go_upto_region 3 with fail
 generalize w1.alloc (.cells #[.slice none 0 0] 69)=w2 at *;generalize w1.heap.size=g at *;go_wp2_with fail;refine (uk hmk HS2.out).mono ?_;rintro e w3 ⟨rfl,hs,hc⟩;have HI:=hid (show LayI w gs gm g root (dX long (ks.take 0)) w3 from
  ⟨⟨s2,hs,hts⟩,⟨g,HN.out.2.2.2.2,HM2.out.ch hc fun k hk=>⟨hk.elim (fun e=>e ▸ HN.out.1) (fun e=>e ▸ HN.out.2.1),HS2.out.no_pr k hk⟩⟩,HN.out,
    HB2.out.trans (hc.below HB2.out.size (fun k hk=>hk.elim (fun e=>e ▸ HN.out.2.2.1) (fun e=>e ▸ HN.out.2.2.2.1)))⟩)
 clear hs hc hts hmk HM2 HS2 HB2;go_wp2_with fail;go_loopw [11] (fun iv wr=>∃ i:Nat,i≤ks.length∧i≤200∧iv=.int .i64 i∧LayI w gs gm g root (dX long (ks.take i)) wr) (fun iv _=>200 - (intOf iv).toNat)
 case atStart=>exact ⟨0,Nat.zero_le _,Nat.zero_le _,rfl,HI.out⟩
 case round=>
  clear HI;obtain ⟨i,hi,hi3,rfl,⟨s,hs,hts⟩,⟨base,hbs,hm⟩,-,hb⟩:=hrel;have HS3:=hid hs;have HTS3:=hid hts;have HM3:=hid hm;have HBS:=hid hbs;have HB3:=hid hb;have HWT:=hid (oD long (ks.take i));clear hs hts hm hbs hb;go_upto_region 5 with fail
  go_cut [30] from 23 to 61 (fun c wx=>c=.bool (decide (i<ks.length∧i<200))∧wx=wr)
  case first=>
   by_cases ha:i<ks.length
   ·have ha1:(i:Int)<(ks.length:Int):=by omega
    by_cases hb:i<200
    ·have hb1:(i:Int)<200:=by omega
     go_wp2_with fail;go_meet
     case rel=>exact ⟨by rw [decide_eq_true (show i<ks.length∧i<200 from ⟨ha,hb⟩)] <;> (first | rfl | rw [decide_eq_true hb1]),rfl⟩
    ·have hb1:(200:Int)≤(i:Int):=by omega
     go_wp2_with fail;go_meet
     case rel=>exact ⟨by rw [decide_eq_false (show ¬ (i<ks.length∧i<200) from fun h=>hb h.2)] <;> (first | rfl | rw [decide_eq_false (show ¬ (i:Int)<200 by omega)]),rfl⟩
   ·have ha1:(ks.length:Int)≤(i:Int):=by omega
    go_wp2_with fail;go_meet
    case rel=>exact ⟨by rw [decide_eq_false (show ¬ (i<ks.length∧i<200) from fun h=>ha h.1)],rfl⟩
  case rest=>
   obtain ⟨rfl,rfl⟩:=hcut;by_cases hlt:i<ks.length∧i<200
   ·have hdl:=decide_eq_true hlt;obtain ⟨hlt,hlt2⟩:=hlt;obtain ⟨b,off,rfl,hbl,e0⟩:=(HK.out.keep HB3.out).str1 hlt;have hk0:(0:Int)≤(i:Int):=by omega
    have hk1:(i:Int)<(ks.length:Int):=by omega
    have hk2:(i:Int)<200:=by omega
    have HQ:=hid (show dX long (ks.take (i+1))=putP (dX long (ks.take i)) (d8 ks[i]) (nQ long (d8 ks[i])) by rw [List.take_succ_eq_append_getElem hlt,pI]);generalize ks[i]=k at *;have hsz:(ap k).size=k.length:=aC k;by_cases hkl:64<k.length
    ·have hg1:(64:Int)<((ap k).size:Int):=by omega
     have HKX:=hid (show (ap k).extract 0 64=ap (d8 k) by rw [dR,bG];rfl);go_upto_region 10 with fail
     rw [HKX.out];have HKC:=hid (show (d8 k).length≤64 by unfold d8;rw [List.length_take];omega);obtain ⟨s',r1,r2,-⟩:=HTS3.out.put (by have:=HWT.out;rw [List.length_take] at this;simp;omega) (k:=d8 k) (v:=nQ long (d8 k)) HKC.out (by have:=mZ long (d8 k);omega);have HR1:=hid r1;have HR2:=hid (show TS s' root (dX long (ks.take (i+1))) [] by rw [HQ.out];exact r2);have HMQ:=hid (qM (d8 k) (nQ long (d8 k)) HTS3.out.srt.1);have HQ2:=hid (HMQ.out.trans HQ.out.symm);clear r1 r2 HTS3 hsz hg1 hkl HQ HMQ;generalize d8 k=k' at *;clear e0 HKX;have hks:(ap k').size=k'.length:=aC k';have hku:IntKind.u8.wrap (k'.length:Int)=(k'.length:Int):=by have:=HKC.out;rw [IntKind.wrap_u8];omega
     have hkm:(k'.length:Int) % 256=(k'.length:Int):=by have:=HKC.out;omega
     have HBB:=hid (show Value.int .u8 (k'.length:Int)=.int .u8 ((UInt8.ofNat k'.length).toNat:Int) by have:=HKC.out;rw [UInt8.toNat_ofNat',Nat.mod_eq_of_lt (by omega)]);have hcv:(convert 46 9 (.slice (some ⟨wc.heap.size,0,none⟩) 1 1)).run Tryz.prog (wc.alloc (.cells #[.int .u8 (k'.length:Int)] 5))=.ok (.string (ap [UInt8.ofNat k'.length])) (wc.alloc (.cells #[.int .u8 (k'.length:Int)] 5)):=by rw [HBB.out];exact eD _ _ 1 1 [UInt8.ofNat k'.length] rfl (eE (fz:=(0,0)) (ag rfl))
     go_upto_region 11 with fail
     have HB4:=hid ((Below.refl _ wc).alloc (Nat.le_refl _) (.cells #[.int .u8 (k'.length:Int)] 5));clear hcv hku hkm;generalize wc.alloc (.cells #[.int .u8 (k'.length:Int)] 5)=w4 at *;cases long
     case false=>
      have HSN:=hid (HS3.out.ch (S:=fun _=>False) (Ch.of_below HB4.out) id id);have HMN:=hid (HM3.out.ch (S:=fun _=>False) (Ch.of_below HB4.out) (fun _ h=>h.elim));go_wp2_with fail;refine (jF HR1.out HSN.out).mono ?_;rintro e w6 ⟨rfl,hs,hc⟩;have HS6:=hid hs;have HM6:=hid (HMN.out.ch hc fun k hk=>⟨hk.elim (fun e=>e ▸ HN.out.1) (fun e=>e ▸ HN.out.2.1),HSN.out.no_pr k hk⟩);have HB6:=hid ((HB3.out.trans (HB4.out.mono HB3.out.size)).trans (hc.below (Nat.le_trans HB3.out.size HB4.out.size) (fun k hk=>hk.elim (fun e=>e ▸ HN.out.2.2.1) (fun e=>e ▸ HN.out.2.2.2.1))));clear hs hc;go_wp2_with fail;refine (iX (dX false (ks.take i)) k' (nQ false k') g base w6 HM6.out (by have:=HWT.out;rw [List.length_take] at this;omega)).mono ?_;rintro e w7 ⟨⟨rr,rfl⟩,hm,hc⟩;rw [HQ2.out] at hm;have HM7:=hid hm;have HS7:=hid (HS6.out.ch hc HN.out.1 HN.out.2.1);have HB7:=hid (HB6.out.trans (hc.below HB6.out.size (fun k hk=>hk ▸ HN.out.2.2.2.2)));clear hm hc;go_wp2_with fail;go_roundw
      case rel=>exact ⟨i+1,by omega,by omega,by go_num,⟨s',HS7.out,HR2.out⟩,⟨w6.heap.size,HB6.out.size,HM7.out⟩,HN.out,HB7.out⟩
      case measure=>simp [intOf];omega
     case true=>
      obtain ⟨zs,hzs⟩:∃ zs,List.replicate 60 (0:UInt8)=zs:=⟨_,rfl⟩;have hmk:(Instr.makeSlice 46 (.int .i64 60) (.int .i64 60)).run Tryz.prog w4=.ok (.slice (some ⟨w4.heap.size,0,none⟩) 60 60) (w4.alloc (.cells (zs.flatMap uC).toArray 5)):=by rw [← hzs];exact iY w4 60 (by omega)
      have hcv:(convert 46 9 (.slice (some ⟨w4.heap.size,0,none⟩) 60 60)).run Tryz.prog (w4.alloc (.cells (zs.flatMap uC).toArray 5))=.ok (.string (ap zs)) (w4.alloc (.cells (zs.flatMap uC).toArray 5)):=
       eD _ _ 60 60 zs (by rw [← hzs,List.length_replicate]) (eE (fz:=(0,0)) (ag rfl))
      have HB5:=hid (HB4.out.trans (((Below.refl _ w4).alloc (Nat.le_refl _) (.cells (zs.flatMap uC).toArray 5)).mono HB4.out.size));have HZS:=hid hzs;have hap:=en (ap [UInt8.ofNat k'.length]) (ap zs);rw [bG,bG] at hap;clear hzs;have hz1:(ap [UInt8.ofNat k'.length]).size=1:=aC _;have hz2:(ap zs).size=60:=by rw [aC,← HZS.out,List.length_replicate]
      go_upto_region 13 with fail
      clear hcv hmk hap hz1 hz2;have HVV:=hid (show UInt8.ofNat k'.length :: zs=nQ true k' by rw [← HZS.out];rfl);rw [HVV.out];generalize w4.alloc (.cells (zs.flatMap uC).toArray 5)=w5 at *;have HSN:=hid (HS3.out.ch (S:=fun _=>False) (Ch.of_below HB5.out) id id);have HMN:=hid (HM3.out.ch (S:=fun _=>False) (Ch.of_below HB5.out) (fun _ h=>h.elim));go_wp2_with fail;refine (jF HR1.out HSN.out).mono ?_;rintro e w6 ⟨rfl,hs,hc⟩;have HS6:=hid hs;have HM6:=hid (HMN.out.ch hc fun k hk=>⟨hk.elim (fun e=>e ▸ HN.out.1) (fun e=>e ▸ HN.out.2.1),HSN.out.no_pr k hk⟩);have HB6:=hid ((HB3.out.trans (HB5.out.mono HB3.out.size)).trans (hc.below (Nat.le_trans HB3.out.size HB5.out.size) (fun k hk=>hk.elim (fun e=>e ▸ HN.out.2.2.1) (fun e=>e ▸ HN.out.2.2.2.1))));clear hs hc;go_wp2_with fail;refine (iX (dX true (ks.take i)) k' (nQ true k') g base w6 HM6.out (by have:=HWT.out;rw [List.length_take] at this;omega)).mono ?_;rintro e w7 ⟨⟨rr,rfl⟩,hm,hc⟩;rw [HQ2.out] at hm;have HM7:=hid hm;have HS7:=hid (HS6.out.ch hc HN.out.1 HN.out.2.1);have HB7:=hid (HB6.out.trans (hc.below HB6.out.size (fun k hk=>hk ▸ HN.out.2.2.2.2)));clear hm hc;go_wp2_with fail;go_roundw
      case rel=>exact ⟨i+1,by omega,by omega,by go_num,⟨s',HS7.out,HR2.out⟩,⟨w6.heap.size,HB6.out.size,HM7.out⟩,HN.out,HB7.out⟩
      case measure=>simp [intOf];omega
    ·have hg1:((ap k).size:Int)≤64:=by omega
     have HKX:=hid (show ap k=ap (d8 k) by unfold d8;rw [List.take_of_length_le (by omega)]);go_upto_region 10 with fail
     rw [HKX.out];have HKC:=hid (show (d8 k).length≤64 by unfold d8;rw [List.length_take];omega);obtain ⟨s',r1,r2,-⟩:=HTS3.out.put (by have:=HWT.out;rw [List.length_take] at this;simp;omega) (k:=d8 k) (v:=nQ long (d8 k)) HKC.out (by have:=mZ long (d8 k);omega);have HR1:=hid r1;have HR2:=hid (show TS s' root (dX long (ks.take (i+1))) [] by rw [HQ.out];exact r2);have HMQ:=hid (qM (d8 k) (nQ long (d8 k)) HTS3.out.srt.1);have HQ2:=hid (HMQ.out.trans HQ.out.symm);clear r1 r2 HTS3 hsz hg1 hkl HQ HMQ;generalize d8 k=k' at *;clear e0 HKX;have hks:(ap k').size=k'.length:=aC k';have hku:IntKind.u8.wrap (k'.length:Int)=(k'.length:Int):=by have:=HKC.out;rw [IntKind.wrap_u8];omega
     have hkm:(k'.length:Int) % 256=(k'.length:Int):=by have:=HKC.out;omega
     have HBB:=hid (show Value.int .u8 (k'.length:Int)=.int .u8 ((UInt8.ofNat k'.length).toNat:Int) by have:=HKC.out;rw [UInt8.toNat_ofNat',Nat.mod_eq_of_lt (by omega)]);have hcv:(convert 46 9 (.slice (some ⟨wc.heap.size,0,none⟩) 1 1)).run Tryz.prog (wc.alloc (.cells #[.int .u8 (k'.length:Int)] 5))=.ok (.string (ap [UInt8.ofNat k'.length])) (wc.alloc (.cells #[.int .u8 (k'.length:Int)] 5)):=by rw [HBB.out];exact eD _ _ 1 1 [UInt8.ofNat k'.length] rfl (eE (fz:=(0,0)) (ag rfl))
     go_upto_region 11 with fail
     have HB4:=hid ((Below.refl _ wc).alloc (Nat.le_refl _) (.cells #[.int .u8 (k'.length:Int)] 5));clear hcv hku hkm;generalize wc.alloc (.cells #[.int .u8 (k'.length:Int)] 5)=w4 at *;cases long
     case false=>
      have HSN:=hid (HS3.out.ch (S:=fun _=>False) (Ch.of_below HB4.out) id id);have HMN:=hid (HM3.out.ch (S:=fun _=>False) (Ch.of_below HB4.out) (fun _ h=>h.elim));go_wp2_with fail;refine (jF HR1.out HSN.out).mono ?_;rintro e w6 ⟨rfl,hs,hc⟩;have HS6:=hid hs;have HM6:=hid (HMN.out.ch hc fun k hk=>⟨hk.elim (fun e=>e ▸ HN.out.1) (fun e=>e ▸ HN.out.2.1),HSN.out.no_pr k hk⟩);have HB6:=hid ((HB3.out.trans (HB4.out.mono HB3.out.size)).trans (hc.below (Nat.le_trans HB3.out.size HB4.out.size) (fun k hk=>hk.elim (fun e=>e ▸ HN.out.2.2.1) (fun e=>e ▸ HN.out.2.2.2.1))));clear hs hc;go_wp2_with fail;refine (iX (dX false (ks.take i)) k' (nQ false k') g base w6 HM6.out (by have:=HWT.out;rw [List.length_take] at this;omega)).mono ?_;rintro e w7 ⟨⟨rr,rfl⟩,hm,hc⟩;rw [HQ2.out] at hm;have HM7:=hid hm;have HS7:=hid (HS6.out.ch hc HN.out.1 HN.out.2.1);have HB7:=hid (HB6.out.trans (hc.below HB6.out.size (fun k hk=>hk ▸ HN.out.2.2.2.2)));clear hm hc;go_wp2_with fail;go_roundw
      case rel=>exact ⟨i+1,by omega,by omega,by go_num,⟨s',HS7.out,HR2.out⟩,⟨w6.heap.size,HB6.out.size,HM7.out⟩,HN.out,HB7.out⟩
      case measure=>simp [intOf];omega
     case true=>
      obtain ⟨zs,hzs⟩:∃ zs,List.replicate 60 (0:UInt8)=zs:=⟨_,rfl⟩;have hmk:(Instr.makeSlice 46 (.int .i64 60) (.int .i64 60)).run Tryz.prog w4=.ok (.slice (some ⟨w4.heap.size,0,none⟩) 60 60) (w4.alloc (.cells (zs.flatMap uC).toArray 5)):=by rw [← hzs];exact iY w4 60 (by omega)
      have hcv:(convert 46 9 (.slice (some ⟨w4.heap.size,0,none⟩) 60 60)).run Tryz.prog (w4.alloc (.cells (zs.flatMap uC).toArray 5))=.ok (.string (ap zs)) (w4.alloc (.cells (zs.flatMap uC).toArray 5)):=
       eD _ _ 60 60 zs (by rw [← hzs,List.length_replicate]) (eE (fz:=(0,0)) (ag rfl))
      have HB5:=hid (HB4.out.trans (((Below.refl _ w4).alloc (Nat.le_refl _) (.cells (zs.flatMap uC).toArray 5)).mono HB4.out.size));have HZS:=hid hzs;have hap:=en (ap [UInt8.ofNat k'.length]) (ap zs);rw [bG,bG] at hap;clear hzs;have hz1:(ap [UInt8.ofNat k'.length]).size=1:=aC _;have hz2:(ap zs).size=60:=by rw [aC,← HZS.out,List.length_replicate]
      go_upto_region 13 with fail
      clear hcv hmk hap hz1 hz2;have HVV:=hid (show UInt8.ofNat k'.length :: zs=nQ true k' by rw [← HZS.out];rfl);rw [HVV.out];generalize w4.alloc (.cells (zs.flatMap uC).toArray 5)=w5 at *;have HSN:=hid (HS3.out.ch (S:=fun _=>False) (Ch.of_below HB5.out) id id);have HMN:=hid (HM3.out.ch (S:=fun _=>False) (Ch.of_below HB5.out) (fun _ h=>h.elim));go_wp2_with fail;refine (jF HR1.out HSN.out).mono ?_;rintro e w6 ⟨rfl,hs,hc⟩;have HS6:=hid hs;have HM6:=hid (HMN.out.ch hc fun k hk=>⟨hk.elim (fun e=>e ▸ HN.out.1) (fun e=>e ▸ HN.out.2.1),HSN.out.no_pr k hk⟩);have HB6:=hid ((HB3.out.trans (HB5.out.mono HB3.out.size)).trans (hc.below (Nat.le_trans HB3.out.size HB5.out.size) (fun k hk=>hk.elim (fun e=>e ▸ HN.out.2.2.1) (fun e=>e ▸ HN.out.2.2.2.1))));clear hs hc;go_wp2_with fail;refine (iX (dX true (ks.take i)) k' (nQ true k') g base w6 HM6.out (by have:=HWT.out;rw [List.length_take] at this;omega)).mono ?_;rintro e w7 ⟨⟨rr,rfl⟩,hm,hc⟩;rw [HQ2.out] at hm;have HM7:=hid hm;have HS7:=hid (HS6.out.ch hc HN.out.1 HN.out.2.1);have HB7:=hid (HB6.out.trans (hc.below HB6.out.size (fun k hk=>hk ▸ HN.out.2.2.2.2)));clear hm hc;go_wp2_with fail;go_roundw
      case rel=>exact ⟨i+1,by omega,by omega,by go_num,⟨s',HS7.out,HR2.out⟩,⟨w6.heap.size,HB6.out.size,HM7.out⟩,HN.out,HB7.out⟩
      case measure=>simp [intOf];omega
   ·have hdl:=decide_eq_false hlt;rw [hdl];have HE:=hid (show ks.take i=ks.take 200 by
     rcases Nat.lt_or_ge i ks.length with h | h
     ·have:i=200:=by omega
      rw [this]
     ·rw [List.take_of_length_le h,List.take_of_length_le (by omega)])
    have HI2:=hid (show LayI w gs gm g root (dX long (ks.take 200)) wc from ⟨⟨s,HS3.out,by rw [← HE.out];exact HTS3.out⟩,⟨base,HBS.out,by rw [← HE.out];exact HM3.out⟩,HN.out,HB3.out⟩);go_wp2_with fail;exact bodyPost_ret (v:=.tuple #[.pointer (some ⟨gs,0,none⟩),.int .i64 root,.pointer (some ⟨g,0,none⟩)]) (by simp [results,Tryz.results33,go_sem]) rfl ⟨gs,gm,g,root,rfl,HI2.out⟩
end Go.Proofs.YtknioodagnjchaaGreatDoor
