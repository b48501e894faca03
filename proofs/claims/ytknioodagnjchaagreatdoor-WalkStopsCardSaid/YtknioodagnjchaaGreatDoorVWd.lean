/- What is gone over, as a stream; plain. A range over Up or Down, as a function's outermost loop. A range over Up or Down, within a round. A range over Up or Down whose variables are a pair in memory and a code. cahierlaw17.taken: all pairs of a gone-over. cahierlaw17.laid: a tree of keys, and the same as a list. -/
import Derived.Test.YtknioodagnjchaaGreatDoorVWb
import Derived.Test.YtknioodagnjchaaGreatDoorVWc
import Derived.Test.YtknioodagnjchaaGreatDoorVTPut2
import Derived.Test.YtknioodagnjchaaGreatDoorVTOrd
import Derived.Test.YtknioodagnjchaaGreatDoorVTFails
import Derived.RangeFuncLeaves
import Derived.ControlIn
set_option maxRecDepth 100000
set_option maxHeartbeats 4000000
namespace Go.Proofs.YtknioodagnjchaaGreatDoor
theorem srt_gt {ps:List Pr} (h:Srt ps) {n:Nat} (hn:n<ps.length):ps.filter (fun p=>klt ps[n].1 p.1)=ps.drop (n+1):=by
 have hp:=List.pairwise_iff_getElem.1 h
 refine filter_cut (fun p hp'=>?_) (fun p hp'=>?_)
 ·obtain ⟨j,hj,rfl⟩:=List.getElem_of_mem hp'
  rw [List.length_take] at hj
  rw [List.getElem_take]
  rcases Nat.lt_or_ge j n with h1 | h1
  ·exact klt_asymm (hp j n (by omega) hn h1)
  ·obtain rfl:j=n:=by omega
   exact klt_irr _
 ·obtain ⟨j,hj,rfl⟩:=List.getElem_of_mem hp'
  rw [List.length_drop] at hj
  rw [List.getElem_drop]
  exact hp n (n+1+j) hn (by omega) (by omega)
theorem srt_lt {ps:List Pr} (h:Srt ps) {n:Nat} (hn:n<ps.length):ps.filter (fun p=>klt p.1 ps[n].1)=ps.take n:=by
 have hp:=List.pairwise_iff_getElem.1 h
 refine filter_cut2 (fun p hp'=>?_) (fun p hp'=>?_)
 ·obtain ⟨j,hj,rfl⟩:=List.getElem_of_mem hp'
  rw [List.length_take] at hj
  rw [List.getElem_take]
  exact hp j n (by omega) hn (by omega)
 ·obtain ⟨j,hj,rfl⟩:=List.getElem_of_mem hp'
  rw [List.length_drop] at hj
  rw [List.getElem_drop]
  by_cases h0:j=0
  ·subst h0;exact klt_irr _
  ·exact klt_asymm (hp n (n+j) hn (by omega) (by omega))
theorem srt_filter {ps:List Pr} (h:Srt ps) (p:Pr→Bool):Srt (ps.filter p):=List.Pairwise.filter p h
def upS (ps:List Pr) (low:By):List Pr:=ps.filter (PF low false)
def downD (ps:List Pr) (high:By):List Pr:=if high.isEmpty then ps else ps.filter (PT high true)
def downS (ps:List Pr) (high:By):List Pr:=(downD ps high).reverse
theorem up_next {ps:List Pr} {low:By} (h:Srt ps) {n:Nat} (hn:n<(upS ps low).length):fromP ps (upS ps low)[n].1 true=(upS ps low)[n+1]?:=by
 have hq:=srt_gt (srt_filter h (PF low false)) hn
 have hm:PF low false (upS ps low)[n]=true:=(List.mem_filter.1 (show (upS ps low)[n] ∈ ps.filter (PF low false) from List.getElem_mem hn)).2
 change (ps.filter (PF low false)).filter (fun p=>klt (upS ps low)[n].1 p.1)=_ at hq
 generalize (upS ps low)[n]=q at *
 unfold fromP
 rw [← List.head?_drop]
 change (ps.filter (PF q.1 true)).head?=((ps.filter (PF low false)).drop (n+1)).head?
 rw [← hq,List.filter_filter]
 congr 1
 refine List.filter_congr fun p _=>?_
 have e1:PF q.1 true p=klt q.1 p.1:=rfl
 rw [e1]
 cases hk:klt q.1 p.1
 ·simp
 ·have:PF low false p=true:=by
   have h1:klt q.1 low=false:=by simpa [PF] using hm
   have:klt p.1 low=false:=by
    cases h2:klt p.1 low
    ·rfl
    ·rw [klt_trans hk h2] at h1;cases h1
   simp [PF,this]
  simp [this]
theorem downD_filter {ps:List Pr} {high:By} (k:By) (hk:high.isEmpty=true∨klt k high=true):ps.filter (PT k true)=(downD ps high).filter (fun p=>klt p.1 k):=by
 unfold downD
 split
 ·rfl
 ·rename_i hne
  have hk:=hk.resolve_left hne
  rw [List.filter_filter]
  refine List.filter_congr fun p _=>?_
  have e1:PT k true p=klt p.1 k:=rfl
  rw [e1]
  cases h1:klt p.1 k
  ·simp
  ·have:PT high true p=true:=klt_trans h1 hk
   simp [this]
theorem down_next {ps:List Pr} {high:By} (h:Srt ps) {n:Nat} (hn:n<(downS ps high).length):toP ps (downS ps high)[n].1 true=(downS ps high)[n+1]?:=by
 have hD:Srt (downD ps high):=by unfold downD;split;exact h;exact srt_filter h _
 have hl:(downS ps high).length=(downD ps high).length:=List.length_reverse
 have hm:(downD ps high).length - 1 - n<(downD ps high).length:=by omega
 have e:(downS ps high)[n]=(downD ps high)[(downD ps high).length - 1 - n]:=List.getElem_reverse _
 have hk:high.isEmpty=true∨klt ((downD ps high)[(downD ps high).length - 1 - n]).1 high=true:=by
  have hmm:=List.getElem_mem hm
  generalize (downD ps high)[(downD ps high).length - 1 - n]=x at *
  unfold downD at hmm
  split at hmm
  ·rename_i h0;exact .inl h0
  ·exact .inr (List.mem_filter.1 hmm).2
 rw [e]
 unfold toP
 rw [downD_filter _ hk,srt_lt hD hm]
 by_cases hx:n+1<(downD ps high).length
 ·unfold downS
  rw [List.getElem?_reverse hx,List.getLast?_eq_getElem?,List.length_take,Nat.min_eq_left (by omega),List.getElem?_take,if_pos (by omega)]
  congr 1
 ·rw [show (downD ps high).length - 1 - n=0 by omega,List.getElem?_eq_none (by omega)]
  rfl
structure Strm (FP:Pro (Option Pr)) (GP:By→Pro (Option Pr)) (sh:Sf) (S:List Pr):Prop where
 first:FP.run sh=(sh,.ok S.head?)
 next:∀ n (h:n<S.length),(GP S[n].1).run sh=(sh,.ok S[n+1]?)
def okP (ps:List Pr):List (Pr × Int):=ps.map fun p=>(p,0)
theorem Strm.look {FP:Pro (Option Pr)} {GP:By→Pro (Option Pr)} {sh:Sf} {S:List Pr} (h:Strm FP GP sh S):∀ {n:Nat},n≤S.length→(lookO FP GP (okP (S.take n))).run sh=(sh,.ok S[n]?)
 | 0,_=>by
   rw [← List.head?_eq_getElem?]
   exact h.first
 | n+1,hn=>by
   unfold okP
   rw [List.take_succ_eq_append_getElem (show n<S.length by omega),List.map_append]
   refine Eq.trans ?_ (h.next n (by omega))
   show (lookO FP GP (_ ++ [(S[n],(0:Int))])).run sh=_
   rw [lookO_snoc]
theorem TS.up {s:Sf} {q:Int} {ps:List Pr} {X:List Int} (h:TS s q ps X) (hw:wt ps+X.length+60≤4094) (low:By):Strm (seekT (fromK low false) 20 q) (fun k=>seekT (fromK k true) 20 q) s (upS ps low):=
 ⟨h.from hw low false,fun n hn=>by rw [h.from hw _ true,up_next h.srt.1 hn]⟩
theorem TS.down {s:Sf} {q:Int} {ps:List Pr} {X:List Int} (h:TS s q ps X) (hw:wt ps+X.length+60≤4094) (high:By):Strm (downF high q) (fun k=>seekT (toK k true) 20 q) s (downS ps high):=
 ⟨by
   unfold downF downS downD
   split
   ·rw [h.last hw,List.head?_reverse]
   ·rw [h.to hw high true,List.head?_reverse];rfl,fun n hn=>by rw [h.to hw _ true,down_next h.srt.1 hn]⟩
theorem tw_eq {W:Pr→Bool}:∀ {S:List Pr} {n:Nat},(∀ p ∈ S.take n,W p=true)→(∀ p,S[n]?=some p→W p=false)→S.takeWhile W=S.take n
 | [],n,_,_=>by simp
 | a :: l,0,_,h=>by rw [List.takeWhile_cons,h a rfl];rfl
 | a :: l,n+1,h1,h2=>by
   rw [List.takeWhile_cons,h1 a (by simp),List.take_succ_cons]
   simp only [if_true]
   rw [tw_eq (n:=n) (fun p hp=>h1 p (by simp [hp])) (fun p hp=>h2 p (by simpa using hp))]
theorem tw_filter {W:Pr→Bool}:∀ {S:List Pr},S.Pairwise (fun a b=>W b=true→W a=true)→S.takeWhile W=S.filter W
 | [],_=>rfl
 | a :: l,h=>by
   obtain ⟨h1,h2⟩:=List.pairwise_cons.1 h
   cases ha:W a
   ·rw [List.takeWhile_cons,List.filter_cons,ha]
    simp only [Bool.false_eq_true,if_false]
    symm
    refine List.filter_eq_nil_iff.2 fun b hb hw=>?_
    rw [h1 b hb hw] at ha
    cases ha
   ·rw [List.takeWhile_cons,List.filter_cons,ha]
    simp only [if_true]
    rw [tw_filter h2]
def btwP (ps:List Pr) (low high:By):List Pr:=ps.filter fun p=>!klt p.1 low && upB high p.1
theorem btw_up {ps:List Pr} (h:Srt ps) (low high:By):(upS ps low).takeWhile (fun p=>upB high p.1)=btwP ps low high:=by
 have hs:=srt_filter h (PF low false)
 unfold upS
 rw [tw_filter (hs.imp fun {a b} hab hb=>?_)]
 ·unfold btwP
  rw [List.filter_filter]
  refine List.filter_congr fun p _=>?_
  show (upB high p.1 && !klt p.1 low)=_
  rw [Bool.and_comm]
 ·unfold upB at hb ⊢
  rcases Bool.or_eq_true _ _ ▸ hb with h1 | h1
  ·rw [h1];rfl
  ·rw [klt_trans hab h1,Bool.or_true]
theorem btw_down {ps:List Pr} (h:Srt ps) (low high:By):(downS ps high).takeWhile (fun p=>!klt p.1 low)=(btwP ps low high).reverse:=by
 have hD:Srt (downD ps high):=by unfold downD;split;exact h;exact srt_filter h _
 unfold downS
 rw [tw_filter (List.pairwise_reverse.2 (hD.imp fun {a b} hab ha=>?_)),List.filter_reverse]
 ·congr 1
  unfold downD btwP
  split
  ·rename_i h0
   refine List.filter_congr fun p _=>?_
   unfold upB
   rw [h0];simp
  ·rename_i h0
   rw [List.filter_filter]
   refine List.filter_congr fun p _=>?_
   have:upB high p.1=PT high true p:=by unfold upB;rw [Bool.eq_false_iff.2 h0];rfl
   rw [this]
 ·cases hb:klt b.1 low
  ·rfl
  ·rw [klt_trans hab hb] at ha;cases ha
structure Stl (gs gm:Nat) (sh:Sf) (S:List Pr) (WN:By→Bool) (s:Ov) (pre:List (Pr × Int)) (A:World):Prop where
 shs:ShIs A gs gm s.s
 eq:s.s=sh
 n:pre=okP (S.take pre.length)
 le:pre.length≤S.length
 ok:∀ p ∈ S.take pre.length,WN p.1=true
 a:s.a=.err 0∨s.a=.ok S[pre.length]?
section
variable {gs gm:Nat} {sh:Sf} {S:List Pr} {WN:By→Bool} {s t:Ov} {pre:List (Pr × Int)} {A B:World} {FP:Pro (Option Pr)} {GP:By→Pro (Option Pr)}
theorem Stl.sto (h:Stl gs gm sh S WN s pre A) (hT:Strm FP GP sh S) (hs:StO gs gm FP GP s pre A t B):Stl gs gm sh S WN t pre B:=by
 obtain ⟨h1,h2,-⟩:=hs
 have:=hT.look h.le
 rw [← h.n] at this
 rw [h.eq,this] at h1
 injection h1 with e1 e2
 exact ⟨h2,e1.symm,h.n,h.le,h.ok,.inr e2.symm⟩
theorem Stl.x {x:Pr × Int} (h:Stl gs gm sh S WN s pre A) (hx:XxO WN s pre x):∃ hl:pre.length<S.length,x=(S[pre.length],0)∧WN S[pre.length].1=true:=by
 obtain ⟨-,⟨p,e1,e2,rfl⟩ | ⟨e,e1,e2,rfl⟩⟩:=hx
 ·rcases h.a with e3 | e3
  ·rw [e1] at e3;cases e3
  ·rw [e1] at e3
   injection e3 with e3
   obtain ⟨hl,rfl⟩:=List.getElem?_eq_some_iff.1 e3.symm
   exact ⟨hl,rfl,e2⟩
 ·rcases h.a with e3 | e3
  ·rw [e1] at e3
   injection e3 with e3
   exact absurd e3 e2
  ·rw [e1] at e3;cases e3
theorem Stl.next {x:Pr × Int} (h:Stl gs gm sh S WN s pre A) (hx:XxO WN s pre x) (hB:ShIs B gs gm sh):Stl gs gm sh S WN ⟨sh,s.g,.err 0⟩ (pre ++ [x]) B:=by
 obtain ⟨hl,rfl,hw⟩:=h.x hx
 have e:(pre ++ [(S[pre.length],(0:Int))]).length=pre.length+1:=by simp
 refine ⟨hB,rfl,?_,by rw [e];exact hl,?_,.inl rfl⟩
 ·rw [e,List.take_succ_eq_append_getElem hl]
  unfold okP
  rw [List.map_append]
  exact congrArg (· ++ _) h.n
 ·rw [e,List.take_succ_eq_append_getElem hl]
  intro p hp
  rcases List.mem_append.1 hp with hp | hp
  ·exact h.ok p hp
  ·rw [List.mem_singleton.1 hp];exact hw
theorem Stl.done (h:Stl gs gm sh S WN s pre A) (he:ExO WN s pre):pre=okP (S.takeWhile fun p=>WN p.1):=by
 have key:(∀ p,S[pre.length]?=some p→WN p.1=false)→pre=okP (S.takeWhile fun p=>WN p.1):=fun hk=>by
  rw [tw_eq (n:=pre.length) (W:=fun p=>WN p.1) h.ok hk]
  exact h.n
 rcases he with e | ⟨p,e,hw⟩ | ⟨pre',e,hp,he⟩
 ·refine key fun p hp=>?_
  rcases h.a with e3 | e3
  ·rw [e] at e3;cases e3
  ·rw [e] at e3
   injection e3 with e3
   rw [← e3] at hp;cases hp
 ·refine key fun q hq=>?_
  rcases h.a with e3 | e3
  ·rw [e] at e3;cases e3
  ·rw [e] at e3
   injection e3 with e3
   rw [← e3] at hq
   injection hq with hq
   rw [← hq];exact hw
 ·exfalso
  have hm:(([],[]),e) ∈ okP (S.take pre.length):=by rw [← h.n,hp];simp
  unfold okP at hm
  obtain ⟨p,-,h2⟩:=List.mem_map.1 hm
  injection h2 with _ h2
  exact he h2.symm
end
end Go.Proofs.YtknioodagnjchaaGreatDoor
namespace Go.Proofs.YtknioodagnjchaaGreatDoor
open Go.RowKit
theorem calls_of_marks {P:Program} {f:FuncId} {fn:Func} {c:Code} {args:Array Value} {w:World} {R:Ending→World→Prop} (hf:P.funcs[f]?=some fn) (hb:fn.body=some c)
  (h:c.wp P (bodyPostM Fence.wide 9 P fn R) { tmps:=args ++ Array.replicate (fn.ntmps - args.size) undef,defers:=[] } w):Calls P f args w R:=
 (callsIn_wide (n:=9)).1 (callsIn_of_wp_marks hf hb trivial (wpIn_wide.2 h))
theorem ret_marks {P:Program} {fn:Func} {R:Ending→World→Prop} {tmps:Array Value} {D:Nat} {W:World} {v:Value} (hD:W.heap[D]?=some (.deferred (some [])))
  (hr:(results fn tmps).run P (W.putObj D (.deferred none))=.ok v (W.putObj D (.deferred none))) (h:R (.returned v) (W.putObj D (.deferred none))):
  bodyPostM Fence.wide 9 P fn R .ret { tmps,defers:=[{ target:=.collected D,args:=#[] }] } W:=
 ⟨by simp,.inl ⟨_,_,rfl,run_takeDeferred hD,_,hr,h⟩⟩
theorem ch_putObj (W:World) (l:Nat) (o:Obj):Ch (fun k=>k=l) W (W.putObj l o):=Ch.of_grown (grownBy_putObj' _ l o) (fun k e=>by cases e;rfl)
theorem keeps_ch {B:Nat} {S:Nat→Prop} {W W':World} (h:Ch S W W') (hS:∀ k o,B≤k→S k→W.heap[k]?=some o→o.isCells=true):KeepsFrom B W W':=
 ⟨h.size,fun k o hB hk ho=>h.keep hk fun hs=>by rw [hS k o hB hs hk] at ho;cases ho⟩
section
variable {g:Operand} {ps:Array Tmp} {assign body:Code} {Q:Exit→Act→World→Prop} {a:Act} {w:World} {gs gm N B:Nat} {FP:Pro (Option Pr)} {GP:By→Pro (Option Pr)} {WN:By→Bool}
 {I:Ov→List (Pr × Int)→World→Prop} {Ix:Code→List (Pr × Int)→World→Prop} {Ax:(Pr × Int)→Act→World→Prop}
def Gok (M:Nat) (s:Ov) (A:World):Prop:=∀ g0,s.g=some g0→M≤g0∧g0<A.heap.size
theorem range_over
  (hg:a.eval g=ovV B)
  (hseq:SeqX Fence.wide 8 Tryz.prog 133 #[.pointer (some ⟨B+4,0,none⟩),.pointer (some ⟨B+6,0,none⟩),.pointer (some ⟨B+5,0,none⟩)] encO (ShO gs gm) (StO gs gm FP GP) (XxO WN) (ExO WN) (KbO B (B+7)) N w)
  (hgs:gs<w.heap.size) (hgm:gm<w.heap.size) (hB:B+7≤w.heap.size) (hps:ps.size=2)
  (hI:∀ s pre,Abide w.heap.size (I s pre)) (hIx:∀ c pre,Abide w.heap.size (Ix c pre)) (hAx:∀ x a',Abide w.heap.size (Ax x a'))
  (hISt:∀ s pre A t B',I s pre A→Gok (w.heap.size+2) s A→StO gs gm FP GP s pre A t B'→Gok (w.heap.size+2) t B'→I t pre B')
  (hISh:∀ s pre A,I s pre A→ShIs A gs gm s.s∧pre.length≤N∧w.heap.size+2≤A.heap.size)
  {s0:Ov} (hs0:s0.g=none) (hal:∀ (W:World),Below w.heap.size w W→W.heap.size=w.heap.size+2→I s0 [] W)
  (hassign:∀ (l:Nat) (s:Ov) (pre:List (Pr × Int)) (x:Pr × Int) (W:World) (K:Act→World→Prop),I s pre W→Gok (w.heap.size+2) s W→(∀ a' W',KeepsFrom w.heap.size W W'→KbO B (B+7) s W s W'→I s pre W'→Ax x a' W'→K a' W')→
    assign.wpIn (Fence.wide.inRound l) 7 Tryz.prog (Exit.then K (fun _ _ _=>False)) { tmps:=(ps.zip (encO x)).foldl (fun t (p,v)=>t.setIfInBounds p v) a.tmps,defers:=[] } W)
  (hbody:∀ (l:Nat) (s:Ov) (pre:List (Pr × Int)) (x:Pr × Int) (a':Act) (W:World),w.heap.size≤l→(∃ r,W.heap[l]?=some (.loop r))→I s pre W→Gok (w.heap.size+2) s W→XxO WN s pre x→Ax x a' W→body.wpIn (Fence.wide.inRound l) 7 Tryz.prog (roundX w.heap.size (KbO B (B+7)) I Ix s (pre ++ [x]) W) a' W)
  (hdone:∀ (D:Nat) (s:Ov) (xs:List (Pr × Int)) (W:World),w.heap.size≤D→Gok (w.heap.size+2) s W→ExO WN s xs→I s xs W→W.heap[D]?=some (.deferred (some []))→Q .normal { a with defers:={ target:=.collected D,args:=#[] } :: a.defers } W)
  (hstop:∀ (D:Nat) (c:Code) (pre:List (Pr × Int)) (W:World),w.heap.size≤D→Ix c pre W→W.heap[D]?=some (.deferred (some []))→c.wp Tryz.prog Q { a with defers:={ target:=.collected D,args:=#[] } :: a.defers } W):
  (Code.rangeFunc g ps assign body).wp Tryz.prog Q a w:=by
 refine (wpIn_wide (n:=9)).1 (wpIn_range_x (N:=N) (Sh:=ShO gs gm) (St:=StO gs gm FP GP) (Xx:=XxO WN) (Ex:=ExO WN) (Kb:=KbO B (B+7)) (w0:=w) (encs:=encO) (gf:=133) (I:=fun s pre A=>I s pre A∧Gok (w.heap.size+2) s A) (Ix:=Ix) (Ax:=Ax) (s0:=s0)
  rfl (by omega) hg trivial (enters_of Tryz.func133 (by kernel_rfl) rfl) hseq (Below.refl _ _) (fun h k=>h.trans k) ?_ (fun x=>hps.symm) ?_ hIx hAx ?_ ?_ ?_ ?_ ?_ ?_ ?_ ?_)
 ·intro s pre W l o o' h1 h2 hi hl ho
  refine ⟨rfl,(ch_putObj W l o').size,fun k hk hlt=>(ch_putObj W l o').block k hlt fun e=>?_⟩
  subst e
  rcases hk with hk | hk
  ·omega
  ·have:=(hi.2 _ hk).1
   omega
 ·intro s pre W l o o' hi h1 hl ho
  exact ⟨hI _ _ _ _ _ _ hi.1 h1 hl ho,fun g0 e=>⟨(hi.2 g0 e).1,Nat.lt_of_lt_of_le (hi.2 g0 e).2 (ch_putObj W l o').size⟩⟩
 ·rintro s pre A t B' ⟨hi,hgk⟩ ⟨_,_,g1,e1,e2,e3,hc⟩ k o hk1 hk2 hk ho
  refine hc.keep hk ?_
  rintro (rfl | rfl | rfl)
  ·omega
  ·omega
  ·rcases e2 with e2 | e2
   ·have:=(hgk _ e2).1;omega
   ·have:=(hISh _ _ _ hi).2.2;omega
 ·rintro s pre A t B' ⟨hi,hgk⟩ hst
  have hgt:Gok (w.heap.size+2) t B':=by
   obtain ⟨_,_,g1,e1,e2,e3,hc⟩:=hst
   intro g0 e0
   rw [e1] at e0
   injection e0 with e0
   subst e0
   refine ⟨?_,e3⟩
   rcases e2 with e2 | e2
   ·exact (hgk _ e2).1
   ·have:=(hISh _ _ _ hi).2.2;omega
  exact ⟨hISt _ _ _ _ _ hi hgk hst hgt,hgt⟩
 ·rintro s pre A ⟨hi,-⟩
  exact ⟨(hISh _ _ _ hi).1,(hISh _ _ _ hi).2.1⟩
 ·intro W hb hsz
  exact ⟨hal W hb hsz,fun g0 e=>by rw [hs0] at e;cases e⟩
 ·rintro l s pre x W K ⟨hi,hgk⟩ hK
  exact hassign l s pre x W K hi hgk fun a' W' hk hkb hi' hax=>hK a' W' hk hkb ⟨hi',fun g0 e=>⟨(hgk g0 e).1,Nat.lt_of_lt_of_le (hgk g0 e).2 hkb.2.1⟩⟩ hax
 ·rintro l s pre x a' W hl hr ⟨hi,hgk⟩ hx hax
  refine wpIn_mono (hbody l s pre x a' W hl hr hi hgk hx hax) ?_
  rintro e a2 W2 hp
  cases e with
  | normal=>
    obtain ⟨h1,t,h2,h3⟩:=hp
    exact ⟨h1,t,h2,h3,fun g0 e=>⟨(hgk g0 (h2.1 ▸ e)).1,Nat.lt_of_lt_of_le (hgk g0 (h2.1 ▸ e)).2 h2.2.1⟩⟩
  | ret=>exact hp
  | exit id=>exact hp
  | goto t=>exact hp
  | panic ch=>exact hp
  | outgrown=>exact hp
 ·rintro D s xs W hD he ⟨hi,hgk⟩ hk
  exact hdone D s xs W hD hgk he hi hk
 ·intro D c pre W hD hi hk
  exact wpIn_wide.2 (hstop D c pre W hD hi hk)
end
end Go.Proofs.YtknioodagnjchaaGreatDoor
namespace Go.Proofs.YtknioodagnjchaaGreatDoor
open Go.RowKit
section
variable {g:Operand} {ps:Array Tmp} {assign body:Code} {Q:Exit→Act→World→Prop} {a:Act} {w:World} {gs gm N B:Nat} {FP:Pro (Option Pr)} {GP:By→Pro (Option Pr)} {WN:By→Bool}
 {I:Ov→List (Pr × Int)→World→Prop} {Ix:Code→List (Pr × Int)→World→Prop} {Ax:(Pr × Int)→Act→World→Prop}
theorem range_over_in {l0:Nat} {r0:Loop} (hl0:w.heap[l0]?=some (.loop r0))
  (hg:a.eval g=ovV B)
  (hseq:SeqX Fence.wide 6 Tryz.prog 133 #[.pointer (some ⟨B+4,0,none⟩),.pointer (some ⟨B+6,0,none⟩),.pointer (some ⟨B+5,0,none⟩)] encO (ShO gs gm) (StO gs gm FP GP) (XxO WN) (ExO WN) (KbO B (B+7)) N w)
  (hgs:gs<w.heap.size) (hgm:gm<w.heap.size) (hB:B+7≤w.heap.size) (hps:ps.size=2)
  (hI:∀ s pre,Abide w.heap.size (I s pre)) (hIx:∀ c pre,Abide w.heap.size (Ix c pre)) (hAx:∀ x a',Abide w.heap.size (Ax x a'))
  (hISt:∀ s pre A t B',I s pre A→Gok (w.heap.size+1) s A→StO gs gm FP GP s pre A t B'→Gok (w.heap.size+1) t B'→I t pre B')
  (hISh:∀ s pre A,I s pre A→ShIs A gs gm s.s∧pre.length≤N∧w.heap.size+1≤A.heap.size)
  {s0:Ov} (hs0:s0.g=none) (hal:∀ (W:World),Below w.heap.size w W→W.heap.size=w.heap.size+1→I s0 [] W)
  (hassign:∀ (l:Nat) (s:Ov) (pre:List (Pr × Int)) (x:Pr × Int) (W:World) (K:Act→World→Prop),I s pre W→Gok (w.heap.size+1) s W→(∀ a' W',KeepsFrom w.heap.size W W'→KbO B (B+7) s W s W'→I s pre W'→Ax x a' W'→K a' W')→
    assign.wpIn (Fence.wide.inRound l) 5 Tryz.prog (Exit.then K (fun _ _ _=>False)) { tmps:=(ps.zip (encO x)).foldl (fun t (p,v)=>t.setIfInBounds p v) a.tmps,defers:=[] } W)
  (hbody:∀ (l:Nat) (s:Ov) (pre:List (Pr × Int)) (x:Pr × Int) (a':Act) (W:World),w.heap.size≤l→(∃ r,W.heap[l]?=some (.loop r))→I s pre W→Gok (w.heap.size+1) s W→XxO WN s pre x→Ax x a' W→body.wpIn (Fence.wide.inRound l) 5 Tryz.prog (roundX w.heap.size (KbO B (B+7)) I Ix s (pre ++ [x]) W) a' W)
  (hdone:∀ (s:Ov) (xs:List (Pr × Int)) (W:World),Gok (w.heap.size+1) s W→ExO WN s xs→I s xs W→Q .normal a W)
  (hstop:∀ (c:Code) (pre:List (Pr × Int)) (W:World),Ix c pre W→c.wpIn (Fence.wide.inRound l0) 7 Tryz.prog Q a W):
  (Code.rangeFunc g ps assign body).wpIn (Fence.wide.inRound l0) 7 Tryz.prog Q a w:=by
 refine (wpIn_range_xn (l₀:=l0) (r₀:=r0) (F:=Fence.wide.inRound l0) (N:=N) (Sh:=ShO gs gm) (St:=StO gs gm FP GP) (Xx:=XxO WN) (Ex:=ExO WN) (Kb:=KbO B (B+7)) (w0:=w) (encs:=encO) (gf:=133) (I:=fun s pre A=>I s pre A∧Gok (w.heap.size+1) s A) (Ix:=Ix) (Ax:=Ax) (s0:=s0)
  rfl hl0 (by omega) hg trivial (enters_of Tryz.func133 (by kernel_rfl) rfl) hseq (Below.refl _ _) (fun h k=>h.trans k) ?_ (fun x=>hps.symm) ?_ hIx hAx ?_ ?_ ?_ ?_ ?_ ?_ ?_ ?_)
 ·intro s pre W l o o' h1 h2 hi hl ho
  refine ⟨rfl,(ch_putObj W l o').size,fun k hk hlt=>(ch_putObj W l o').block k hlt fun e=>?_⟩
  subst e
  rcases hk with hk | hk
  ·omega
  ·have:=(hi.2 _ hk).1
   omega
 ·intro s pre W l o o' hi h1 hl ho
  exact ⟨hI _ _ _ _ _ _ hi.1 h1 hl ho,fun g0 e=>⟨(hi.2 g0 e).1,Nat.lt_of_lt_of_le (hi.2 g0 e).2 (ch_putObj W l o').size⟩⟩
 ·rintro s pre A t B' ⟨hi,hgk⟩ ⟨_,_,g1,e1,e2,e3,hc⟩ k o hk1 hk2 hk ho
  refine hc.keep hk ?_
  rintro (rfl | rfl | rfl)
  ·omega
  ·omega
  ·rcases e2 with e2 | e2
   ·have:=(hgk _ e2).1;omega
   ·have:=(hISh _ _ _ hi).2.2;omega
 ·rintro s pre A t B' ⟨hi,hgk⟩ hst
  have hgt:Gok (w.heap.size+1) t B':=by
   obtain ⟨_,_,g1,e1,e2,e3,hc⟩:=hst
   intro g0 e0
   rw [e1] at e0
   injection e0 with e0
   subst e0
   refine ⟨?_,e3⟩
   rcases e2 with e2 | e2
   ·exact (hgk _ e2).1
   ·have:=(hISh _ _ _ hi).2.2;omega
  exact ⟨hISt _ _ _ _ _ hi hgk hst hgt,hgt⟩
 ·rintro s pre A ⟨hi,-⟩
  exact ⟨(hISh _ _ _ hi).1,(hISh _ _ _ hi).2.1⟩
 ·intro W hb hsz
  exact ⟨hal W hb hsz,fun g0 e=>by rw [hs0] at e;cases e⟩
 ·rintro l s pre x W K ⟨hi,hgk⟩ hK
  exact hassign l s pre x W K hi hgk fun a' W' hk hkb hi' hax=>hK a' W' hk hkb ⟨hi',fun g0 e=>⟨(hgk g0 e).1,Nat.lt_of_lt_of_le (hgk g0 e).2 hkb.2.1⟩⟩ hax
 ·rintro l s pre x a' W hl hr ⟨hi,hgk⟩ hx hax
  refine wpIn_mono (hbody l s pre x a' W hl hr hi hgk hx hax) ?_
  rintro e a2 W2 hp
  cases e with
  | normal=>
    obtain ⟨h1,t,h2,h3⟩:=hp
    exact ⟨h1,t,h2,h3,fun g0 e=>⟨(hgk g0 (h2.1 ▸ e)).1,Nat.lt_of_lt_of_le (hgk g0 (h2.1 ▸ e)).2 h2.2.1⟩⟩
  | ret=>exact hp
  | exit id=>exact hp
  | goto t=>exact hp
  | panic ch=>exact hp
  | outgrown=>exact hp
 ·rintro s xs W he ⟨hi,hgk⟩
  exact hdone s xs W hgk he hi
 ·intro c pre W hi
  exact hstop c pre W hi
end
end Go.Proofs.YtknioodagnjchaaGreatDoor
namespace Go.Proofs.YtknioodagnjchaaGreatDoor
open Go.RowKit
def AxP (M:Nat) (a:Act) (ps:Array Tmp) (i j:Nat) (x:Pr × Int) (a':Act) (W:World):Prop:=
 ∃ g,a'={ tmps:=(((ps.zip (encO x)).foldl (fun t (p,v)=>t.setIfInBounds p v) a.tmps).setIfInBounds i (.pointer (some ⟨g,0,none⟩))).setIfInBounds j (.int .i64 x.2),defers:=[] }∧M≤g∧W.heap[g]?=some (prB x.1)
theorem AxP.abide {M:Nat} {a:Act} {ps:Array Tmp} {i j:Nat} (x:Pr × Int) (a':Act):Abide M (AxP M a ps i j x a'):=by
 rintro W l o o' ⟨g,e,hg,hb⟩ hl ho hc
 refine ⟨g,e,hg,(ch_putObj W l o').keep hb ?_⟩
 rintro rfl
 rw [ho] at hb
 injection hb with hb
 subst hb
 cases hc
theorem KbO.alloc {lo hi:Nat} (s:Ov) (W:World) (o:Obj):KbO lo hi s W s (W.alloc o):=⟨rfl,by simp,fun k _ hk=>Below.heap_alloc _ _ _ hk⟩
theorem keeps_alloc {B:Nat} (W:World) (o:Obj):KeepsFrom B W (W.alloc o):=keeps_ch (S:=fun _=>False) (Ch.alloc (Ch.refl _ W) o) (fun _ _ _ h _=>h.elim)
section
variable {g:Operand} {ps:Array Tmp} {assign body:Code} {Q:Exit→Act→World→Prop} {a:Act} {w:World} {gs gm N B:Nat} {FP:Pro (Option Pr)} {GP:By→Pro (Option Pr)} {WN:By→Bool}
 {I:Ov→List (Pr × Int)→World→Prop} {Ix:Code→List (Pr × Int)→World→Prop} {i j:Nat}
theorem range_pairs
  (hg:a.eval g=ovV B)
  (hseq:SeqX Fence.wide 8 Tryz.prog 133 #[.pointer (some ⟨B+4,0,none⟩),.pointer (some ⟨B+6,0,none⟩),.pointer (some ⟨B+5,0,none⟩)] encO (ShO gs gm) (StO gs gm FP GP) (XxO WN) (ExO WN) (KbO B (B+7)) N w)
  (hgs:gs<w.heap.size) (hgm:gm<w.heap.size) (hB:B+7≤w.heap.size) (hps:ps.size=2)
  (hI:∀ s pre,Abide w.heap.size (I s pre)) (hIx:∀ c pre,Abide w.heap.size (Ix c pre))
  (hISt:∀ s pre A t B',I s pre A→Gok (w.heap.size+2) s A→StO gs gm FP GP s pre A t B'→Gok (w.heap.size+2) t B'→I t pre B')
  (hISh:∀ s pre A,I s pre A→ShIs A gs gm s.s∧pre.length≤N∧w.heap.size+2≤A.heap.size)
  {s0:Ov} (hs0:s0.g=none) (hal:∀ (W:World),Below w.heap.size w W→W.heap.size=w.heap.size+2→I s0 [] W)
  (hIa:∀ s pre W o,I s pre W→I s pre (W.alloc o))
  (hassign:∀ (l:Nat) (x:Pr × Int) (W:World) (K:Act→World→Prop),K { tmps:=(((ps.zip (encO x)).foldl (fun t (p,v)=>t.setIfInBounds p v) a.tmps).setIfInBounds i (.pointer (some ⟨W.heap.size,0,none⟩))).setIfInBounds j (.int .i64 x.2),defers:=[] } (W.alloc (prB x.1))→
    assign.wpIn (Fence.wide.inRound l) 7 Tryz.prog (Exit.then K (fun _ _ _=>False)) { tmps:=(ps.zip (encO x)).foldl (fun t (p,v)=>t.setIfInBounds p v) a.tmps,defers:=[] } W)
  (hbody:∀ (l:Nat) (s:Ov) (pre:List (Pr × Int)) (x:Pr × Int) (g:Nat) (W:World),w.heap.size≤l→(∃ r,W.heap[l]?=some (.loop r))→I s pre W→Gok (w.heap.size+2) s W→XxO WN s pre x→w.heap.size≤g→W.heap[g]?=some (prB x.1)→
    body.wpIn (Fence.wide.inRound l) 7 Tryz.prog (roundX w.heap.size (KbO B (B+7)) I Ix s (pre ++ [x]) W) { tmps:=(((ps.zip (encO x)).foldl (fun t (p,v)=>t.setIfInBounds p v) a.tmps).setIfInBounds i (.pointer (some ⟨g,0,none⟩))).setIfInBounds j (.int .i64 x.2),defers:=[] } W)
  (hdone:∀ (D:Nat) (s:Ov) (xs:List (Pr × Int)) (W:World),w.heap.size≤D→Gok (w.heap.size+2) s W→ExO WN s xs→I s xs W→W.heap[D]?=some (.deferred (some []))→Q .normal { a with defers:={ target:=.collected D,args:=#[] } :: a.defers } W)
  (hstop:∀ (D:Nat) (c:Code) (pre:List (Pr × Int)) (W:World),w.heap.size≤D→Ix c pre W→W.heap[D]?=some (.deferred (some []))→c.wp Tryz.prog Q { a with defers:={ target:=.collected D,args:=#[] } :: a.defers } W):
  (Code.rangeFunc g ps assign body).wp Tryz.prog Q a w:=by
 refine range_over (Ax:=AxP w.heap.size a ps i j) hg hseq hgs hgm hB hps hI hIx AxP.abide hISt hISh hs0 hal ?_ ?_ hdone hstop
 ·intro l s pre x W K hi hgk hK
  refine hassign l x W K (hK _ _ (keeps_alloc W _) (KbO.alloc s W _) (hIa _ _ _ _ hi) ⟨W.heap.size,rfl,?_,blk_new rfl⟩)
  have:=(hISh _ _ _ hi).2.2
  omega
 ·rintro l s pre x a' W hl hr hi hgk hx ⟨g0,rfl,hg0,hb⟩
  exact hbody l s pre x g0 W hl hr hi hgk hx hg0 hb
theorem range_pairs_in {l0:Nat} {r0:Loop} (hl0:w.heap[l0]?=some (.loop r0))
  (hg:a.eval g=ovV B)
  (hseq:SeqX Fence.wide 6 Tryz.prog 133 #[.pointer (some ⟨B+4,0,none⟩),.pointer (some ⟨B+6,0,none⟩),.pointer (some ⟨B+5,0,none⟩)] encO (ShO gs gm) (StO gs gm FP GP) (XxO WN) (ExO WN) (KbO B (B+7)) N w)
  (hgs:gs<w.heap.size) (hgm:gm<w.heap.size) (hB:B+7≤w.heap.size) (hps:ps.size=2)
  (hI:∀ s pre,Abide w.heap.size (I s pre)) (hIx:∀ c pre,Abide w.heap.size (Ix c pre))
  (hISt:∀ s pre A t B',I s pre A→Gok (w.heap.size+1) s A→StO gs gm FP GP s pre A t B'→Gok (w.heap.size+1) t B'→I t pre B')
  (hISh:∀ s pre A,I s pre A→ShIs A gs gm s.s∧pre.length≤N∧w.heap.size+1≤A.heap.size)
  {s0:Ov} (hs0:s0.g=none) (hal:∀ (W:World),Below w.heap.size w W→W.heap.size=w.heap.size+1→I s0 [] W)
  (hIa:∀ s pre W o,I s pre W→I s pre (W.alloc o))
  (hassign:∀ (l:Nat) (x:Pr × Int) (W:World) (K:Act→World→Prop),K { tmps:=(((ps.zip (encO x)).foldl (fun t (p,v)=>t.setIfInBounds p v) a.tmps).setIfInBounds i (.pointer (some ⟨W.heap.size,0,none⟩))).setIfInBounds j (.int .i64 x.2),defers:=[] } (W.alloc (prB x.1))→
    assign.wpIn (Fence.wide.inRound l) 5 Tryz.prog (Exit.then K (fun _ _ _=>False)) { tmps:=(ps.zip (encO x)).foldl (fun t (p,v)=>t.setIfInBounds p v) a.tmps,defers:=[] } W)
  (hbody:∀ (l:Nat) (s:Ov) (pre:List (Pr × Int)) (x:Pr × Int) (g:Nat) (W:World),w.heap.size≤l→(∃ r,W.heap[l]?=some (.loop r))→I s pre W→Gok (w.heap.size+1) s W→XxO WN s pre x→w.heap.size≤g→W.heap[g]?=some (prB x.1)→
    body.wpIn (Fence.wide.inRound l) 5 Tryz.prog (roundX w.heap.size (KbO B (B+7)) I Ix s (pre ++ [x]) W) { tmps:=(((ps.zip (encO x)).foldl (fun t (p,v)=>t.setIfInBounds p v) a.tmps).setIfInBounds i (.pointer (some ⟨g,0,none⟩))).setIfInBounds j (.int .i64 x.2),defers:=[] } W)
  (hdone:∀ (s:Ov) (xs:List (Pr × Int)) (W:World),Gok (w.heap.size+1) s W→ExO WN s xs→I s xs W→Q .normal a W)
  (hstop:∀ (c:Code) (pre:List (Pr × Int)) (W:World),Ix c pre W→c.wpIn (Fence.wide.inRound l0) 7 Tryz.prog Q a W):
  (Code.rangeFunc g ps assign body).wpIn (Fence.wide.inRound l0) 7 Tryz.prog Q a w:=by
 refine range_over_in (Ax:=AxP w.heap.size a ps i j) hl0 hg hseq hgs hgm hB hps hI hIx AxP.abide hISt hISh hs0 hal ?_ ?_ hdone hstop
 ·intro l s pre x W K hi hgk hK
  refine hassign l x W K (hK _ _ (keeps_alloc W _) (KbO.alloc s W _) (hIa _ _ _ _ hi) ⟨W.heap.size,rfl,?_,blk_new rfl⟩)
  have:=(hISh _ _ _ hi).2.2
  omega
 ·rintro l s pre x a' W hl hr hi hgk hx ⟨g0,rfl,hg0,hb⟩
  exact hbody l s pre x g0 W hl hr hi hgk hx hg0 hb
end
end Go.Proofs.YtknioodagnjchaaGreatDoor
namespace Go.Proofs.YtknioodagnjchaaGreatDoor
open Go.RowKit Go.Shelf
attribute [local go_sem] Oper.semAt_some
theorem wpListIn_append_sl {F:Fence} {n:Nat} {P:Program} {α:Type} {f:α→List Value} {size:Nat} {e:TypeId} {base:Nat} {w:World} {v:Value} {xs ys:List α} {ops:Array Oper} {rest:List Oper} {o:Oper} {a:Act} {Q:Exit→Act→World→Prop} (hgd:o.guard=none) {s x:Operand} {t:TypeId}
  (ho:o.op=.call { callee:=.builtin .append,args:=#[s,x],argTypes:=#[t,t] }) {bytes:Nat} (T:ElemT P t e f size bytes) {y:Value} (hs:a.eval s=v) (hx:a.eval x=y)
  (hown:Own f size e base w v xs) (hy:Sl f size w y ys)
  (h63:xs.length+ys.length≤maxLen) (hbytes:(xs.length+ys.length) * bytes≤140737488355328) (hbase:base≤w.heap.size)
  (h:∀ v' w',Own f size e base w' v' (xs ++ ys)→w.grownBy w' v.ownBlock→(v'.ownBlock=v.ownBlock∨v'.ownBlock=some w.heap.size)→wpListIn F n P ops Q rest (a.put o.dst v') w'):wpListIn F n P ops Q (o :: rest) a w:=by
 refine wpListIn_plain hgd fun K hK=>?_
 obtain ⟨v',w',hr,h2,h3,h5⟩:=run_append_sl (P:=P) T o.type hown hy h63 hbytes hbase
 unfold Oper.wpIn
 refine ⟨?_,?_⟩
 ·simp [Oper.about,ho,resolve,Target.leads,Sem.run_pure]
 ·rw [Oper.semAt_plain F _ _ (by rw [ho];intro c hc';cases hc')]
  simp [execOp,ho,resolve,invoke,builtin,hs,hx,hr,Result.andThen]
  exact hK _ _ (h v' w' h2 h3 h5)
theorem Own.putObj {α:Type} {f:α→List Value} {size:Nat} {e:TypeId} {base:Nat} {w:World} {v:Value} {xs:List α} (h:Own f size e base w v xs) {l:Nat} {o o':Obj} (hl:w.heap[l]?=some o) (ho:o.isCells=false):Own f size e base (w.putObj l o') v xs:=
 h.ch (ch_putObj w l o') fun k hk e=>by
  subst e
  obtain ⟨cur,hc⟩:=h.blk_ty hk
  rw [hl] at hc
  injection hc with hc
  subst hc
  cases ho
theorem func_nil (f:Fn) (a c:Array Value) (w:World):(binOp .eql 79 (.func f a c) .nilFunc).run Tryz.prog w=.ok (.bool false) w:=by kernel_rfl
def goneP (ps:List Pr) (low high:By):Bool→List Pr
 | true=>(btwP ps low high).reverse
 | false=>btwP ps low high
section
variable {α:Type} {f:α→List Value} {size:Nat} {e ty:TypeId} {base bo B:Nat} {s t:Ov} {xs:List α} {A A':World}
def OutB (f:α→List Value) (size:Nat) (e ty:TypeId) (base bo B:Nat) (s:Ov) (xs:List α) (A:World):Prop:=
 ∃ v,A.heap[bo]?=some (.cells #[v] ty (0,0))∧Own f size e base A v xs∧∀ k,v.ownBlock=some k→s.g≠some k∧(k<B∨B+7≤k)
theorem OutB.ch {S:Nat→Prop} (h:OutB f size e ty base bo B s xs A) (hc:Ch S A A') (hb:¬ S bo) (hS:∀ k,base≤k→k<A.heap.size→s.g≠some k→(k<B∨B+7≤k)→(∃ cur,A.heap[k]?=some (.cells cur e (0,0)))→¬ S k):OutB f size e ty base bo B s xs A':=by
 obtain ⟨v,h1,h2,h3⟩:=h
 exact ⟨v,hc.keep h1 hb,h2.ch hc fun k hk=>hS k (h2.lt k hk).1 (h2.lt k hk).2 (h3 k hk).1 (h3 k hk).2 (h2.blk_ty hk),h3⟩
theorem OutB.below (h:OutB f size e ty base bo B s xs A) (hb:Below A.heap.size A A'):OutB f size e ty base bo B s xs A':=h.ch (S:=fun _=>False) (Ch.of_below hb) id (fun _ _ _ _ _ _=>id)
theorem OutB.put {l:Nat} {o o':Obj} (h:OutB f size e ty base bo B s xs A) (hl:A.heap[l]?=some o) (ho:o.isCells=false):OutB f size e ty base bo B s xs (A.putObj l o'):=by
 refine h.ch (ch_putObj A l o') ?_ ?_
 ·rintro rfl
  obtain ⟨v,h1,-⟩:=h
  rw [hl] at h1
  injection h1 with h1
  subst h1
  cases ho
 ·rintro k - - - - ⟨cur,hc⟩ rfl
  rw [hl] at hc
  injection hc with hc
  subst hc
  cases ho
theorem OutB.sto {gs gm M:Nat} {FP:Pro (Option Pr)} {GP:By→Pro (Option Pr)} {pre:List (Pr × Int)} (h:OutB f size e ty base bo B s xs A) (hs:StO gs gm FP GP s pre A t A') (hgs:gs<base) (hgm:gm<base) (hbo:base≤bo) (hg:Gok M t A') (hM:bo<M):OutB f size e ty base bo B t xs A':=by
 obtain ⟨v,h1,h2,h3⟩:=h
 obtain ⟨-,-,g1,e1,e2,e3,hc⟩:=hs
 have hg1:=(hg g1 e1).1
 have hv:∀ k,v.ownBlock=some k→k≠g1:=by
  rintro k hk rfl
  rcases e2 with e2 | e2
  ·exact (h3 k hk).1 e2
  ·have:=(h2.lt k hk).2
   omega
 refine ⟨v,hc.keep h1 (by omega),h2.ch hc fun k hk e=>?_,fun k hk=>⟨fun e=>?_,(h3 k hk).2⟩⟩
 ·have:=(h2.lt k hk).1
  have:=hv k hk
  omega
 ·rw [e1] at e
  injection e with e
  exact hv k hk e.symm
def PushS (e:TypeId) (base bo B:Nat) (s:Ov) (A:World) (k:Nat):Prop:=k=bo∨base≤k∧s.g≠some k∧(k<B∨B+7≤k)∧∃ cur,A.heap[k]?=some (.cells cur e (0,0))
theorem OutB.push {w1 w7:World} {v v':Value} {x:α} (hbo:A.heap[bo]?=some (.cells #[v] ty (0,0))) (hown:Own f size e base A v xs) (hk:∀ k,v.ownBlock=some k→s.g≠some k∧(k<B∨B+7≤k)) (hb1:Below A.heap.size A w1) (hAB:B+7≤A.heap.size)
  (ho:Own f size e base w7 v' (xs ++ [x])) (hg:w1.grownBy w7 v.ownBlock) (hat:v'.ownBlock=v.ownBlock∨v'.ownBlock=some w1.heap.size) (hgl:∀ g,s.g=some g→g<A.heap.size) (hne:e≠ty):
  OutB f size e ty base bo B s (xs ++ [x]) (w7.setCell ⟨bo,0,none⟩ v')∧Ch (PushS e base bo B s A) A (w7.setCell ⟨bo,0,none⟩ v'):=by
 have hkb:∀ k,v.ownBlock=some k→k≠bo:=by
  rintro k hk' rfl
  obtain ⟨cur,hc⟩:=hown.blk_ty hk'
  rw [hbo] at hc
  injection hc with hc
  injection hc with _ hc _
  exact hne hc.symm
 have hs1:=hb1.size
 have hbl:=blk_lt hbo
 have hc17:Ch (fun k=>v.ownBlock=some k) A w7:=(Ch.of_below hb1).trans (Ch.of_grown hg (fun k e=>e))
 have hb7:w7.heap[bo]?=some (.cells #[v] ty (0,0)):=hc17.keep hbo (fun e=>hkb _ e rfl)
 have hc8:Ch (fun k=>k=bo) w7 (w7.setCell ⟨bo,0,none⟩ v'):=(Ch.refl (fun k=>k=bo) w7).setCell (p:=⟨bo,0,none⟩) rfl v'
 refine ⟨⟨v',set1 hb7 v',ho.ch hc8 fun k hk' e=>?_,fun k hk'=>?_⟩,(hc17.mono fun k _ e=>?_).trans (hc8.mono fun k _ e=>.inl e)⟩
 ·subst e
  rcases hat with e | e
  ·exact hkb _ (e ▸ hk') rfl
  ·rw [hk'] at e;injection e with e;omega
 ·rcases hat with e | e
  ·exact hk k (e ▸ hk')
  ·rw [hk'] at e
   injection e with e
   refine ⟨fun e2=>?_,by omega⟩
   have:=hgl k e2
   omega
 ·exact .inr ⟨(hown.lt k e).1,(hk k e).1,(hk k e).2,hown.blk_ty e⟩
theorem OutB.at7 {w1 w7:World} {v:Value} (hbo:A.heap[bo]?=some (.cells #[v] ty (0,0))) (hown:Own f size e base A v xs) (hb1:Below A.heap.size A w1) (hg:w1.grownBy w7 v.ownBlock) (hne:e≠ty):w7.heap[bo]?=some (.cells #[v] ty (0,0)):=by
 have hkb:∀ k,v.ownBlock=some k→k≠bo:=by
  rintro k hk' rfl
  obtain ⟨cur,hc⟩:=hown.blk_ty hk'
  rw [hbo] at hc
  injection hc with hc
  injection hc with _ hc _
  exact hne hc.symm
 have hc17:Ch (fun k=>v.ownBlock=some k) A w7:=(Ch.of_below hb1).trans (Ch.of_grown hg (fun k e=>e))
 exact hc17.keep hbo (fun e=>hkb _ e rfl)
theorem PushS.kbo {M:Nat} (hc:Ch (PushS e base bo B s A) A A') (hbB:bo<B) (hg:Gok M s A) (hM:bo<M):KbO B (B+7) s A s A':=by
 refine ⟨rfl,hc.size,fun k hk hl=>hc.block k hl ?_⟩
 rintro (rfl | ⟨-,h1,h2,-⟩)
 ·rcases hk with hk | hk
  ·omega
  ·have:=(hg _ hk).1;omega
 ·rcases hk with hk | hk
  ·omega
  ·exact h1 hk
theorem PushS.keeps {M:Nat} {v:Value} (hc:Ch (PushS e base bo B s A) A A') (hbo:A.heap[bo]?=some (.cells #[v] ty (0,0))):KeepsFrom M A A':=by
 refine keeps_ch hc ?_
 rintro k o - (rfl | ⟨-,-,-,cur,h⟩) hk
 ·rw [hbo] at hk;injection hk with hk;subst hk;rfl
 ·rw [h] at hk;injection hk with hk;subst hk;rfl
end
structure TakI (w0 w:World) (bo B gs gm:Nat) (sh:Sf) (S:List Pr) (WN:By→Bool) (s:Ov) (pre:List (Pr × Int)) (A:World):Prop where
 st:Stl gs gm sh S WN s pre A
 sz:w.heap.size+2≤A.heap.size
 out:OutB prC 2 62 67 w0.heap.size bo B s (pre.map (·.1)) A
 r0:A.heap[w0.heap.size]?=some (.cells #[.slice none 0 0] 67 (0,0))
 r1:A.heap[w0.heap.size+1]?=some (.cells #[.bool false] 4 (0,0))
 ch:Ch (fun k=>k=gs∨k=gm) w0 A
section
variable {w0 w A A' B':World} {bo B gs gm:Nat} {sh:Sf} {S:List Pr} {WN:By→Bool} {s t:Ov} {pre:List (Pr × Int)} {FP:Pro (Option Pr)} {GP:By→Pro (Option Pr)}
theorem Stl.ch {Z:Nat→Prop} (h:Stl gs gm sh S WN s pre A) (hc:Ch Z A A') (h1:¬ Z gs) (h2:¬ Z gm):Stl gs gm sh S WN s pre A':=⟨h.shs.ch hc h1 h2,h.eq,h.n,h.le,h.ok,h.a⟩
theorem TakI.below (h:TakI w0 w bo B gs gm sh S WN s pre A) (hb:Below A.heap.size A A'):TakI w0 w bo B gs gm sh S WN s pre A':=
 ⟨h.st.ch (Z:=fun _=>False) (Ch.of_below hb) id id,Nat.le_trans h.sz hb.size,h.out.below hb,blk_keep h.r0 hb,blk_keep h.r1 hb,h.ch.then (S':=fun _=>False) (Ch.of_below hb) (fun _ h=>h.elim)⟩
theorem TakI.sto (h:TakI w0 w bo B gs gm sh S WN s pre A) (hT:Strm FP GP sh S) (hgs:gs<w0.heap.size) (hgm:gm<w0.heap.size) (h0:w0.heap.size+2≤bo) (hb:bo<w.heap.size) (hs:StO gs gm FP GP s pre A t B') (hg:Gok (w.heap.size+2) t B'):TakI w0 w bo B gs gm sh S WN t pre B':=by
 have hst:=h.st.sto hT hs
 have ho:=h.out.sto hs hgs hgm (by omega) hg (by omega)
 obtain ⟨-,-,g1,e1,e2,e3,hc⟩:=hs
 have hg1:=(hg g1 e1).1
 refine ⟨hst,Nat.le_trans h.sz hc.size,ho,hc.keep h.r0 (by omega),hc.keep h.r1 (by omega),h.ch.then hc fun i hi=>?_⟩
 rcases hi with e | e | e
 ·exact .inl (.inl e)
 ·exact .inl (.inr e)
 ·right;omega
theorem TakI.abide (hgs:gs<w0.heap.size) (hgm:gm<w0.heap.size) (h0:w0.heap.size+2≤bo) (hb:bo<w.heap.size):Abide w.heap.size (TakI w0 w bo B gs gm sh S WN s pre):=by
 intro W l o o' h hl ho hc
 have hp:=ch_putObj W l o'
 exact ⟨h.st.ch hp (by omega) (by omega),Nat.le_trans h.sz hp.size,h.out.put ho hc,hp.keep h.r0 (by omega),hp.keep h.r1 (by omega),h.ch.then hp (fun i e=>.inr (by omega))⟩
theorem TakI.push {x:Pr × Int} {w1 w7:World} {v v':Value} (h:TakI w0 w bo B gs gm sh S WN s pre A) (hg:Gok (w.heap.size+2) s A) (hx:XxO WN s pre x) (hgs:gs<w0.heap.size) (hgm:gm<w0.heap.size) (h0:w0.heap.size+2≤bo) (hbB:bo<B) (hBw:B+7≤w.heap.size)
  (hbo:A.heap[bo]?=some (.cells #[v] 67 (0,0))) (hown:Own prC 2 62 w0.heap.size A v (pre.map (·.1))) (hk:∀ k,v.ownBlock=some k→s.g≠some k∧(k<B∨B+7≤k)) (hb1:Below A.heap.size A w1)
  (ho:Own prC 2 62 w0.heap.size w7 v' (pre.map (·.1) ++ [x.1])) (hgr:w1.grownBy w7 v.ownBlock) (hat:v'.ownBlock=v.ownBlock∨v'.ownBlock=some w1.heap.size):
  KeepsFrom w.heap.size A (w7.setCell ⟨bo,0,none⟩ v')∧∃ t,KbO B (B+7) s A t (w7.setCell ⟨bo,0,none⟩ v')∧TakI w0 w bo B gs gm sh S WN t (pre ++ [x]) (w7.setCell ⟨bo,0,none⟩ v'):=by
 have hz:=h.sz
 obtain ⟨h1,hc⟩:=OutB.push (s:=s) hbo hown hk hb1 (by omega) ho hgr hat (fun g e=>(hg g e).2) (by decide)
 have hkb:=PushS.kbo hc hbB hg (by omega)
 have hng:∀ k,k<w0.heap.size+2→¬ PushS 62 w0.heap.size bo B s A k∨w0.heap.size≤k:=fun k hk=>by
  rcases Nat.lt_or_ge k w0.heap.size with h | h
  ·left
   rintro (e | ⟨e,-⟩) <;> omega
  ·exact .inr h
 have hty:∀ k ty cur,A.heap[k]?=some (.cells cur ty (0,0))→62≠ty→k≠bo→¬ PushS 62 w0.heap.size bo B s A k:=by
  rintro k ty cur hk hne hb (e | ⟨-,-,-,cur2,e⟩)
  ·exact hb e
  ·rw [hk] at e
   injection e with e
   injection e with _ e _
   exact hne e.symm
 have h2:ShIs (w7.setCell ⟨bo,0,none⟩ v') gs gm sh:=by
  have:=h.st.shs
  rw [h.st.eq] at this
  exact this.ch hc ((hng gs (by omega)).elim id (fun h=>absurd hgs (by omega))) ((hng gm (by omega)).elim id (fun h=>absurd hgm (by omega)))
 refine ⟨PushS.keeps hc hbo,⟨sh,s.g,.err 0⟩,⟨hkb.1,hkb.2⟩,⟨h.st.next hx h2,Nat.le_trans hz hc.size,?_,hc.keep h.r0 (hty _ _ _ h.r0 (by decide) (by omega)),hc.keep h.r1 (hty _ _ _ h.r1 (by decide) (by omega)),h.ch.then hc fun i hi=>?_⟩⟩
 ·rw [List.map_append]
  exact h1
 ·rcases hi with e | ⟨e,-⟩
  ·right;omega
  ·exact .inr e
end
theorem TakI.fin {w0 w W:World} {bo B gs gm D:Nat} {sh:Sf} {S:List Pr} {WN:By→Bool} {s:Ov} {xs:List (Pr × Int)} {v:Value} {ys:List Pr} (h:TakI w0 w bo B gs gm sh S WN s xs W) (hgs:gs<w0.heap.size) (hgm:gm<w0.heap.size) (hw:w0.heap.size+2≤w.heap.size) (hD:w.heap.size≤D) (hk:W.heap[D]?=some (.deferred (some []))) (hv:Own prC 2 62 w0.heap.size W v ys):
  ∃ W2,W2=(W.setCell ⟨w0.heap.size,0,none⟩ v).setCell ⟨w0.heap.size+1,0,none⟩ (.bool true)∧W2.heap[D]?=some (.deferred (some []))∧(W2.putObj D (.deferred none)).cell? ⟨w0.heap.size,0,none⟩=some v∧(W2.putObj D (.deferred none)).cell? ⟨w0.heap.size+1,0,none⟩=some (.bool true)∧
    Own prC 2 62 w0.heap.size (W2.putObj D (.deferred none)) v ys∧ShIs (W2.putObj D (.deferred none)) gs gm sh∧Ch (fun k=>k=gs∨k=gm) w0 (W2.putObj D (.deferred none)):=by
 have c1:=(Ch.refl (fun k=>k=w0.heap.size) W).setCell (p:=⟨w0.heap.size,0,none⟩) rfl v
 have c2:=(Ch.refl (fun k=>k=w0.heap.size+1) (W.setCell ⟨w0.heap.size,0,none⟩ v)).setCell (p:=⟨w0.heap.size+1,0,none⟩) rfl (.bool true)
 have hk2:((W.setCell ⟨w0.heap.size,0,none⟩ v).setCell ⟨w0.heap.size+1,0,none⟩ (.bool true)).heap[D]?=some (.deferred (some [])):=c2.keep (c1.keep hk (by omega)) (by omega)
 have a0:=c2.keep (set1 h.r0 v) (by omega)
 have a1:=set1 (c1.keep h.r1 (by omega)) (.bool true)
 refine ⟨_,rfl,hk2,?_⟩
 generalize (W.setCell ⟨w0.heap.size,0,none⟩ v).setCell ⟨w0.heap.size+1,0,none⟩ (.bool true)=W2 at *
 have c3:=ch_putObj W2 D (.deferred none)
 have hc:Ch (fun k=>k=w0.heap.size∨k=w0.heap.size+1∨k=D) W (W2.putObj D (.deferred none)):=
  ((c1.mono fun _ _ e=>.inl e).trans (c2.mono fun _ _ e=>.inr (.inl e))).trans (c3.mono fun _ _ e=>.inr (.inr e))
 refine ⟨blk_cell (c3.keep a0 (by omega)) 0,blk_cell (c3.keep a1 (by omega)) 0,hv.ch hc fun k hk' e=>?_,?_,h.ch.then hc fun i hi=>.inr (by omega)⟩
 ·obtain ⟨cur,hcur⟩:=hv.blk_ty hk'
  rcases e with rfl | rfl | rfl
  ·rw [h.r0] at hcur;injection hcur with e;injection e with _ e _;exact absurd e (by decide)
  ·rw [h.r1] at hcur;injection hcur with e;injection e with _ e _;exact absurd e (by decide)
  ·rw [hk] at hcur;injection hcur with e;cases e
 ·have:=h.st.shs
  rw [h.st.eq] at this
  exact this.ch hc (by omega) (by omega)
theorem downS_len (ps:List Pr) (high:By):(downS ps high).length≤ps.length:=by
 unfold downS downD
 rw [List.length_reverse]
 split
 ·exact Nat.le_refl _
 ·exact List.length_filter_le _ _
theorem taken_any (sh:Sf) (root:Int) (ps:List Pr) (low high:By) (down:Bool) (gs gm:Nat) (w:World) (hS:ShIs w gs gm sh) (hT:TS sh root ps []) (hw:wt ps≤800) (hl:ps.length≤400):
  Calls Tryz.prog 40 #[.pointer (some ⟨gs,0,none⟩),.int .i64 root,.string (mkS low),.string (mkS high),.bool down] w fun e w'=>∃ v,e=.returned (.tuple #[v,.bool true])∧Own prC 2 62 w.heap.size w' v (goneP ps low high down)∧ShIs w' gs gm sh∧Ch (fun k=>k=gs∨k=gm) w w':=by
 have HS:=Lib.hid hS
 have HT:=Lib.hid hT
 have hgs:=blk_lt hS.blk
 have hgm:=hS.book.lt
 clear hS hT
 refine calls_of_marks Tryz.func40 rfl ?_
 simp only [Tryz.ntmps40,List.size_toArray,List.length_cons,List.length_nil,Nat.reduceAdd,Nat.reduceSub,Array.replicate_succ,Array.replicate_zero,List.push_toArray,List.append_toArray,List.nil_append,List.cons_append]
 go_upto_region 2 with fail
 have HR0:=Lib.hid (show ((((w.alloc (.cells #[.slice none 0 0] 67)).alloc (.cells #[.bool false] 4)).alloc (.cells #[] 62)).alloc (.cells #[.slice (some ⟨w.heap.size+1+1,0,none⟩) 0 0] 67)).heap[w.heap.size]?=some (.cells #[.slice none 0 0] 67 (0,0)) from blk_alloc (blk_alloc (blk_alloc (blk_new rfl) _) _) _)
 have HR1:=Lib.hid (show ((((w.alloc (.cells #[.slice none 0 0] 67)).alloc (.cells #[.bool false] 4)).alloc (.cells #[] 62)).alloc (.cells #[.slice (some ⟨w.heap.size+1+1,0,none⟩) 0 0] 67)).heap[w.heap.size+1]?=some (.cells #[.bool false] 4 (0,0)) from blk_alloc (blk_alloc (blk_new (by simp)) _) _)
 have HBO:=Lib.hid (show ((((w.alloc (.cells #[.slice none 0 0] 67)).alloc (.cells #[.bool false] 4)).alloc (.cells #[] 62)).alloc (.cells #[.slice (some ⟨w.heap.size+1+1,0,none⟩) 0 0] 67)).heap[w.heap.size+1+1+1]?=some (.cells #[.slice (some ⟨w.heap.size+1+1,0,none⟩) 0 0] 67 (0,0)) from blk_new (by simp))
 have HOW:=Lib.hid (show Own prC 2 62 w.heap.size ((((w.alloc (.cells #[.slice none 0 0] 67)).alloc (.cells #[.bool false] 4)).alloc (.cells #[] 62)).alloc (.cells #[.slice (some ⟨w.heap.size+1+1,0,none⟩) 0 0] 67)) (.slice (some ⟨w.heap.size+1+1,0,none⟩) 0 0) ([]:List Pr) from
  Own.alloc (by
   have:=World.ownsRow_lit (e:=62) (size:=2) ((w.alloc (.cells #[.slice none 0 0] 67)).alloc (.cells #[.bool false] 4)) #[] 0 (Nat.le_refl _) (by simp [maxLen]) (by simp)
   simp only [World.size_alloc] at this
   exact Own.base (show Own prC 2 62 (w.heap.size+1+1) _ _ ([]:List Pr) from this) (by omega)) _)
 have HB4:=Lib.hid (show Below w.heap.size w ((((w.alloc (.cells #[.slice none 0 0] 67)).alloc (.cells #[.bool false] 4)).alloc (.cells #[] 62)).alloc (.cells #[.slice (some ⟨w.heap.size+1+1,0,none⟩) 0 0] 67)) from ((((Below.refl _ w).alloc (Nat.le_refl _) _).alloc (by simp) _).alloc (by simp;omega) _).alloc (by simp;omega) _)
 have HBZ:=Lib.hid (show ((((w.alloc (.cells #[.slice none 0 0] 67)).alloc (.cells #[.bool false] 4)).alloc (.cells #[] 62)).alloc (.cells #[.slice (some ⟨w.heap.size+1+1,0,none⟩) 0 0] 67)).heap.size=w.heap.size+4 by simp)
 generalize (((w.alloc (.cells #[.slice none 0 0] 67)).alloc (.cells #[.bool false] 4)).alloc (.cells #[] 62)).alloc (.cells #[.slice (some ⟨w.heap.size+1+1,0,none⟩) 0 0] 67)=w4 at *
 go_wp2_with fail
 refine (wup_any gs root low high w4).mono ?_
 rintro e w5 ⟨rfl,hup,hb5,hsz5⟩
 have HUP:=Lib.hid hup
 have HB5:=Lib.hid hb5
 have HSZ:=Lib.hid hsz5
 clear hup hb5 hsz5
 unfold ovV
 have hfn:=func_nil
 cases down
 case false=>
  go_wp2_with fail
  have HZ:=Lib.hid (show w.heap.size+4≤w4.heap.size∧w5.heap.size=w4.heap.size+7 from ⟨by have:=HBZ.out;have:=HB5.out.size;omega,HSZ.out⟩)
  have hsq:=up_seq Fence.wide 8 (fun _=>trivial) rfl (by omega) (fun _ _ _ _ _ h=>callsIn_wide.2 h) gs gm 400 root low high w4.heap.size ⟨Nat.lt_of_lt_of_le hgs (HB4.out.size),Nat.lt_of_lt_of_le hgm (HB4.out.size)⟩ w5 HUP.out (by have:=HSZ.out;omega)
  have HST:=Lib.hid (HT.out.up (by simp;omega) low)
  have HE:=Lib.hid (show (upS ps low).takeWhile (fun p=>upB high p.1)=goneP ps low high false from btw_up HT.out.srt.1 low high)
  have HLN:=Lib.hid (show (upS ps low).length≤400 from Nat.le_trans (List.length_filter_le _ _) hl)
  refine range_pairs (i:=14) (j:=15) (I:=TakI w w5 (w.heap.size+1+1+1) w4.heap.size gs gm sh (upS ps low) (upB high)) (Ix:=fun _ _ _=>False) (s0:=⟨sh,none,.err 0⟩)
   rfl hsq ?gs ?gm ?bb rfl (fun s pre=>TakI.abide hgs hgm (by omega) ?bo) (fun _ _ _ _ _ _ h _ _ _=>h.elim) ?sto ?sh rfl ?al ?ia ?assign ?body ?done ?stop
  case gs=>have:=HZ.out;have:=HB4.out.size;omega
  case gm=>have:=HZ.out;have:=HB4.out.size;omega
  case bb=>have:=HZ.out;omega
  case bo=>have:=HZ.out;omega
  case sto=>exact fun s pre A t B' hi hg hs hg'=>hi.sto HST.out hgs hgm (by omega) (by have:=HZ.out;omega) hs hg'
  case sh=>exact fun s pre A hi=>⟨hi.st.shs,Nat.le_trans hi.st.le HLN.out,hi.sz⟩
  case al=>
   intro W hb hsz
   have HBW:=Lib.hid (((HB5).out).trans (hb.mono (by have:=HZ.out;have:=HBZ.out;omega)))
   exact ⟨⟨HS.out.ch (S:=fun _=>False) (Ch.of_below (HB4.out.trans (HBW.out.mono HB4.out.size))) id id,rfl,rfl,Nat.zero_le _,fun p hp=>absurd hp List.not_mem_nil,.inl rfl⟩,by omega,
    ⟨_,blk_keep HBO.out HBW.out,HOW.out.below HBW.out,fun k hk=>⟨(fun e=>by cases e),.inl (by have:=(HOW.out.lt k hk).2;have:=HZ.out.1;have:=HBZ.out;omega)⟩⟩,blk_keep HR0.out HBW.out,blk_keep HR1.out HBW.out,Ch.of_below (HB4.out.trans (HBW.out.mono HB4.out.size))⟩
  case ia=>exact fun s pre W o hi=>hi.below ((Below.refl _ _).alloc (Nat.le_refl _) o)
  case assign=>
   rintro l ⟨⟨xk,xv⟩,xe⟩ W K hK
   unfold encO at hK ⊢
   simp at hK
   gi_wp2
   exact hK
  case body=>
   rintro l s pre x g W hl ⟨r,hr⟩ hi hgk hx hg hb
   have HI:=Lib.hid hi
   have HX:=Lib.hid hx
   have HGK:=Lib.hid hgk
   obtain ⟨hxl,hxe,hxw⟩:=hi.st.x hx
   have hpl:pre.length≤400:=Nat.le_trans hi.st.le HLN.out
   obtain ⟨v,h1,h2,h3⟩:=hi.out
   obtain ⟨Ao,co,hv⟩:=Sl.len' (h2.sl prC_len)
   rw [List.length_map] at hv
   subst hv
   have H1:=Lib.hid h1
   have H2:=Lib.hid h2
   have H3:=Lib.hid h3
   have c0:=blk_cell h1 0
   have c1:=blk_lt h1
   have c2:=blk_frozen h1 0
   obtain ⟨p0,p1,p2,p3,p4⟩:=pr_cells hb
   generalize (upS ps low)[pre.length]=q at *
   subst hxe
   have hnl:¬ (500:Int)<(pre.length:Int):=by omega
   clear hi hx hgk h1 h2 h3 hxl
   unfold encO
   dsimp only
   gi_wp2_with (gi_at_builtin;refine Hid.out ?_)
   refine Lib.hid ?_
   have hoa:=H2.out.alloc (.cells #[.string (mkS q.1),.string (mkS q.2)] 62)
   refine wpListIn_append_sl (ys:=[q]) rfl rfl elPr rfl rfl hoa (Sl.one (q:Pr) (by simp) prC_len rfl) (by simp [maxLen];omega) (by simp;omega) (by simp;omega) ?_
   intro v' w7 ho hgr hat
   obtain ⟨Av,cv,hvv⟩:=Sl.len' (ho.sl prC_len)
   rw [show (pre.map (·.1) ++ [q]).length=pre.length+1 by simp] at hvv
   subst hvv
   have HBW:=Lib.hid (show Below W.heap.size W (W.alloc (prB q)) from (Below.refl _ W).alloc (Nat.le_refl _) _)
   have h7:=OutB.at7 H1.out H2.out HBW.out hgr (by decide)
   have f0:=blk_cell h7 0
   have f1:=blk_lt h7
   have f2:=blk_frozen h7 0
   have HP:=Lib.hid (HI.out.push HGK.out HX.out hgs hgm (by omega) (by have:=HZ.out;omega) (by have:=HZ.out;omega) H1.out H2.out H3.out HBW.out ho hgr hat)
   clear hoa ho hgr hat h7 c0 c1 c2 p0 p1 p2 p3 p4 hb
   gi_wp2_with fail
   exact HP.out
  case done=>
   rintro D s xs W hD hgk he hi hk
   have hdn:=hi.st.done he
   have hxm:xs.map (·.1)=goneP ps low high false:=by
    rw [hdn,HE.out]
    unfold okP
    rw [List.map_map]
    exact List.map_id _
   obtain ⟨v,h1,h2,h3⟩:=hi.out
   rw [hxm] at h2
   have H2:=Lib.hid h2
   have HI:=Lib.hid hi
   obtain ⟨Av,cv,rfl⟩:=Sl.len' (h2.sl prC_len)
   generalize (goneP ps low high false).length=nv at *
   have c0:=blk_cell h1 0
   have c1:=blk_lt h1
   have d4:=blk_cell hi.r0 0
   have d5:=blk_cell hi.r1 0
   have d0:=blk_lt hi.r0
   have d1:=blk_frozen hi.r0 0
   have d2:=blk_lt hi.r1
   have d3:=blk_frozen hi.r1 0
   have HK:=Lib.hid hk
   have hdl:=blk_lt hk
   clear h1 h2 h3 hdn hxm he hgk hi hk
   go_wp2_with fail
   obtain ⟨W2,hW2,k0,k1,k2,k3,k4,k5⟩:=HI.out.fin hgs hgm (by have:=HZ.out;omega) hD HK.out H2.out
   rw [← hW2]
   exact ret_marks (v:=.tuple #[.slice Av nv cv,.bool true]) k0 (by simp [results,Tryz.results40,go_sem,k1,k2]) ⟨_,rfl,k3,k4,k5⟩
  case stop=>exact fun _ _ _ _ _ h _=>h.elim
 case true=>
  go_wp2_with fail
  refine (wdown_any gs root low high w5).mono ?_
  rintro e w6 ⟨rfl,hdn,hb6,hsz6⟩
  have HDN:=Lib.hid hdn
  have HB6:=Lib.hid (HB5.out.trans (hb6.mono HB5.out.size))
  have HSZ6:=Lib.hid hsz6
  clear hdn hb6 hsz6
  unfold ovV
  go_wp2_with fail
  have HZ:=Lib.hid (show w.heap.size+4≤w5.heap.size∧w6.heap.size=w5.heap.size+7 from ⟨by have:=HBZ.out;have:=HB5.out.size;omega,HSZ6.out⟩)
  have hsq:=down_seq Fence.wide 8 (fun _=>trivial) rfl (by omega) (fun _ _ _ _ _ h=>callsIn_wide.2 h) gs gm 400 root low high w5.heap.size ⟨Nat.lt_of_lt_of_le hgs (Nat.le_trans HB4.out.size HB5.out.size),Nat.lt_of_lt_of_le hgm (Nat.le_trans HB4.out.size HB5.out.size)⟩ w6 HDN.out (by have:=HSZ6.out;omega)
  have HST:=Lib.hid (HT.out.down (by simp;omega) high)
  have HE:=Lib.hid (show (downS ps high).takeWhile (fun p=>!klt p.1 low)=goneP ps low high true from btw_down HT.out.srt.1 low high)
  have HLN:=Lib.hid (show (downS ps high).length≤400 from Nat.le_trans (downS_len _ _) hl)
  refine range_pairs (i:=14) (j:=15) (I:=TakI w w6 (w.heap.size+1+1+1) w5.heap.size gs gm sh (downS ps high) (fun k=>!klt k low)) (Ix:=fun _ _ _=>False) (s0:=⟨sh,none,.err 0⟩)
   rfl hsq ?gs ?gm ?bb rfl (fun s pre=>TakI.abide hgs hgm (by omega) ?bo) (fun _ _ _ _ _ _ h _ _ _=>h.elim) ?sto ?sh rfl ?al ?ia ?assign ?body ?done ?stop
  case gs=>have:=HZ.out;have:=HB4.out.size;omega
  case gm=>have:=HZ.out;have:=HB4.out.size;omega
  case bb=>have:=HZ.out;omega
  case bo=>have:=HZ.out;omega
  case sto=>exact fun s pre A t B' hi hg hs hg'=>hi.sto HST.out hgs hgm (by omega) (by have:=HZ.out;omega) hs hg'
  case sh=>exact fun s pre A hi=>⟨hi.st.shs,Nat.le_trans hi.st.le HLN.out,hi.sz⟩
  case al=>
   intro W hb hsz
   have HBW:=Lib.hid (((HB6).out).trans (hb.mono (by have:=HZ.out;have:=HBZ.out;omega)))
   exact ⟨⟨HS.out.ch (S:=fun _=>False) (Ch.of_below (HB4.out.trans (HBW.out.mono HB4.out.size))) id id,rfl,rfl,Nat.zero_le _,fun p hp=>absurd hp List.not_mem_nil,.inl rfl⟩,by omega,
    ⟨_,blk_keep HBO.out HBW.out,HOW.out.below HBW.out,fun k hk=>⟨(fun e=>by cases e),.inl (by have:=(HOW.out.lt k hk).2;have:=HZ.out.1;have:=HBZ.out;omega)⟩⟩,blk_keep HR0.out HBW.out,blk_keep HR1.out HBW.out,Ch.of_below (HB4.out.trans (HBW.out.mono HB4.out.size))⟩
  case ia=>exact fun s pre W o hi=>hi.below ((Below.refl _ _).alloc (Nat.le_refl _) o)
  case assign=>
   rintro l ⟨⟨xk,xv⟩,xe⟩ W K hK
   unfold encO at hK ⊢
   simp at hK
   gi_wp2
   exact hK
  case body=>
   rintro l s pre x g W hl ⟨r,hr⟩ hi hgk hx hg hb
   have HI:=Lib.hid hi
   have HX:=Lib.hid hx
   have HGK:=Lib.hid hgk
   obtain ⟨hxl,hxe,hxw⟩:=hi.st.x hx
   have hpl:pre.length≤400:=Nat.le_trans hi.st.le HLN.out
   obtain ⟨v,h1,h2,h3⟩:=hi.out
   obtain ⟨Ao,co,hv⟩:=Sl.len' (h2.sl prC_len)
   rw [List.length_map] at hv
   subst hv
   have H1:=Lib.hid h1
   have H2:=Lib.hid h2
   have H3:=Lib.hid h3
   have c0:=blk_cell h1 0
   have c1:=blk_lt h1
   have c2:=blk_frozen h1 0
   obtain ⟨p0,p1,p2,p3,p4⟩:=pr_cells hb
   generalize (downS ps high)[pre.length]=q at *
   subst hxe
   have hnl:¬ (500:Int)<(pre.length:Int):=by omega
   clear hi hx hgk h1 h2 h3 hxl
   unfold encO
   dsimp only
   gi_wp2_with (gi_at_builtin;refine Hid.out ?_)
   refine Lib.hid ?_
   have hoa:=H2.out.alloc (.cells #[.string (mkS q.1),.string (mkS q.2)] 62)
   refine wpListIn_append_sl (ys:=[q]) rfl rfl elPr rfl rfl hoa (Sl.one (q:Pr) (by simp) prC_len rfl) (by simp [maxLen];omega) (by simp;omega) (by simp;omega) ?_
   intro v' w7 ho hgr hat
   obtain ⟨Av,cv,hvv⟩:=Sl.len' (ho.sl prC_len)
   rw [show (pre.map (·.1) ++ [q]).length=pre.length+1 by simp] at hvv
   subst hvv
   have HBW:=Lib.hid (show Below W.heap.size W (W.alloc (prB q)) from (Below.refl _ W).alloc (Nat.le_refl _) _)
   have h7:=OutB.at7 H1.out H2.out HBW.out hgr (by decide)
   have f0:=blk_cell h7 0
   have f1:=blk_lt h7
   have f2:=blk_frozen h7 0
   have HP:=Lib.hid (HI.out.push HGK.out HX.out hgs hgm (by omega) (by have:=HZ.out;omega) (by have:=HZ.out;omega) H1.out H2.out H3.out HBW.out ho hgr hat)
   clear hoa ho hgr hat h7 c0 c1 c2 p0 p1 p2 p3 p4 hb
   gi_wp2_with fail
   exact HP.out
  case done=>
   rintro D s xs W hD hgk he hi hk
   have hdn:=hi.st.done he
   have hxm:xs.map (·.1)=goneP ps low high true:=by
    rw [hdn,HE.out]
    unfold okP
    rw [List.map_map]
    exact List.map_id _
   obtain ⟨v,h1,h2,h3⟩:=hi.out
   rw [hxm] at h2
   have H2:=Lib.hid h2
   have HI:=Lib.hid hi
   obtain ⟨Av,cv,rfl⟩:=Sl.len' (h2.sl prC_len)
   generalize (goneP ps low high true).length=nv at *
   have c0:=blk_cell h1 0
   have c1:=blk_lt h1
   have d4:=blk_cell hi.r0 0
   have d5:=blk_cell hi.r1 0
   have d0:=blk_lt hi.r0
   have d1:=blk_frozen hi.r0 0
   have d2:=blk_lt hi.r1
   have d3:=blk_frozen hi.r1 0
   have HK:=Lib.hid hk
   have hdl:=blk_lt hk
   clear h1 h2 h3 hdn hxm he hgk hi hk
   go_wp2_with fail
   obtain ⟨W2,hW2,k0,k1,k2,k3,k4,k5⟩:=HI.out.fin hgs hgm (by have:=HZ.out;omega) hD HK.out H2.out
   rw [← hW2]
   exact ret_marks (v:=.tuple #[.slice Av nv cv,.bool true]) k0 (by simp [results,Tryz.results40,go_sem,k1,k2]) ⟨_,rfl,k3,k4,k5⟩
  case stop=>exact fun _ _ _ _ _ h _=>h.elim
end Go.Proofs.YtknioodagnjchaaGreatDoor
namespace Go.Proofs.YtknioodagnjchaaGreatDoor
open Go.RowKit
def vlB (long:Bool) (k:By):By:=UInt8.ofNat k.length :: (if long then List.replicate 60 0 else [])
def cutK (k:By):By:=k.take 64
def layP (long:Bool) (ps:List Pr) (k:By):List Pr:=putP ps (cutK k) (vlB long (cutK k))
def laidP (long:Bool) (ks:List By):List Pr:=ks.foldl (layP long) []
theorem laidP_snoc (long:Bool) (ks:List By) (k:By):laidP long (ks ++ [k])=putP (laidP long ks) (cutK k) (vlB long (cutK k)):=by
 unfold laidP
 rw [List.foldl_append]
 rfl
theorem vlB_len (long:Bool) (k:By):(vlB long k).length≤61:=by
 unfold vlB
 cases long <;> simp
theorem layP_wt (long:Bool):∀ (ks:List By) (ps:List Pr),wt (ks.foldl (layP long) ps)≤wt ps+3 * ks.length∧(ks.foldl (layP long) ps).length≤ps.length+ks.length
 | [],ps=>⟨Nat.le_refl _,Nat.le_refl _⟩
 | k :: ks,ps=>by
   obtain ⟨i1,i2⟩:=layP_wt long ks (layP long ps k)
   have h1:=wt_put ps (cutK k) (vlB long (cutK k))
   have h2:=chn_le (vlB_len long (cutK k))
   have h3:=len_put ps (cutK k) (vlB long (cutK k))
   rw [List.foldl_cons,List.length_cons]
   unfold layP at i1 i2 ⊢
   omega
theorem laidP_wt (long:Bool) (ks:List By):wt (laidP long ks)≤3 * ks.length∧(laidP long ks).length≤ks.length:=by
 obtain ⟨h1,h2⟩:=layP_wt long ks []
 have h0:wt ([]:List Pr)=0:=rfl
 have h3:([]:List Pr).length=0:=rfl
 unfold laidP
 omega
theorem ShIs.no_pr {w:World} {gs gm:Nat} {s:Sf} (h:ShIs w gs gm s) (k:Nat) (hk:k=gs∨k=gm) (cur:Array Value):w.heap[k]?≠some (.cells cur 62 (0,0)):=by
 rcases hk with rfl | rfl
 ·intro e
  rw [h.blk] at e
  unfold shB at e
  injection e with e
  injection e with e1 e2 e3
  exact absurd e2 (by decide)
 ·intro e
  obtain ⟨D,K,⟨es,clock,hb,_⟩,_⟩:=h.book
  rw [hb] at e
  cases e
theorem MpIs.ch {w w':World} {g base:Nat} {ps:List Pr} {S:Nat→Prop} (h:MpIs w g base ps) (hc:Ch S w w') (hS:∀ k,S k→k≠g∧∀ cur,w.heap[k]?≠some (.cells cur 62 (0,0))):MpIs w' g base ps:=by
 obtain ⟨v,h1,h2⟩:=h
 refine ⟨v,hc.keep h1 (fun hs=>(hS g hs).1 rfl),h2.ch hc fun k hk hs=>?_⟩
 obtain ⟨cur,hcur⟩:=h2.blk_ty hk
 exact (hS k hs).2 cur hcur
structure LayI (w:World) (gs gm g:Nat) (root:Int) (ps:List Pr) (wr:World):Prop where
 h:∃ s,ShIs wr gs gm s∧TS s root ps []
 m:∃ base,w.heap.size≤base∧MpIs wr g base ps
 n:gs≠g∧gm≠g∧w.heap.size≤gs∧w.heap.size≤gm∧w.heap.size≤g
 b:Below w.heap.size w wr
theorem laid_any (ks:List By) (long:Bool) (kv:Value) (w:World) (hk:Sl sC 1 w kv ks):
  Calls Tryz.prog 33 #[kv,.bool long] w fun e w'=>∃ gs gm g root,e=.returned (.tuple #[.pointer (some ⟨gs,0,none⟩),.int .i64 root,.pointer (some ⟨g,0,none⟩)])∧LayI w gs gm g root (laidP long (ks.take 200)) w':=by
 obtain ⟨Ak,ck,rfl⟩:=Sl.len' hk
 have HK:=Lib.hid hk
 clear hk
 go_enter Tryz.func33,Tryz.ntmps33
 go_wp2_with fail
 refine (sNewShelf_any 4096 w).mono ?_
 rintro e w1 ⟨gs,gm,rfl,hs,h1,h2,hb⟩
 have HS1:=Lib.hid (show ShIs w1 gs gm (newS 4096) from hs)
 have HM2:=Lib.hid (show MpIs (w1.alloc (.cells #[.slice none 0 0] 69)) w1.heap.size w1.heap.size [] from ⟨_,blk_new rfl,Own.nil⟩)
 have HS2:=Lib.hid (HS1.out.ch (S:=fun _=>False) (Ch.alloc (Ch.refl _ w1) (.cells #[.slice none 0 0] 69)) id id)
 have HB2:=Lib.hid (hb.alloc hb.size (.cells #[.slice none 0 0] 69))
 have HN:=Lib.hid (show gs≠w1.heap.size∧gm≠w1.heap.size∧w.heap.size≤gs∧w.heap.size≤gm∧w.heap.size≤w1.heap.size from ⟨by have:=blk_lt HS1.out.blk;omega,by have:=HS1.out.book.lt;omega,h1,h2,hb.size⟩)
 clear hs h1 h2 hb HS1
 obtain ⟨s2,root,hmk,-,hts,-⟩:=TS.make hp_new (by decide)
 go_upto_region 3 with fail
 generalize w1.alloc (.cells #[.slice none 0 0] 69)=w2 at *
 generalize w1.heap.size=g at *
 go_wp2_with fail
 refine (make_ok hmk HS2.out).mono ?_
 rintro e w3 ⟨rfl,hs,hc⟩
 have HI:=Lib.hid (show LayI w gs gm g root (laidP long (ks.take 0)) w3 from
  ⟨⟨s2,hs,hts⟩,⟨g,HN.out.2.2.2.2,HM2.out.ch hc fun k hk=>⟨hk.elim (fun e=>e ▸ HN.out.1) (fun e=>e ▸ HN.out.2.1),HS2.out.no_pr k hk⟩⟩,HN.out,
    HB2.out.trans (hc.below HB2.out.size (fun k hk=>hk.elim (fun e=>e ▸ HN.out.2.2.1) (fun e=>e ▸ HN.out.2.2.2.1)))⟩)
 clear hs hc hts hmk HM2 HS2 HB2
 go_wp2_with fail
 go_loopw [11] (fun iv wr=>∃ i:Nat,i≤ks.length∧i≤200∧iv=.int .i64 i∧LayI w gs gm g root (laidP long (ks.take i)) wr) (fun iv _=>200 - (intOf iv).toNat)
 case atStart=>exact ⟨0,Nat.zero_le _,Nat.zero_le _,rfl,HI.out⟩
 case round=>
  clear HI
  obtain ⟨i,hi,hi3,rfl,⟨s,hs,hts⟩,⟨base,hbs,hm⟩,-,hb⟩:=hrel
  have HS3:=Lib.hid hs
  have HTS3:=Lib.hid hts
  have HM3:=Lib.hid hm
  have HBS:=Lib.hid hbs
  have HB3:=Lib.hid hb
  have HWT:=Lib.hid (laidP_wt long (ks.take i))
  clear hs hts hm hbs hb
  go_upto_region 5 with fail
  go_cut [30] from 23 to 61 (fun c wx=>c=.bool (decide (i<ks.length∧i<200))∧wx=wr)
  case first=>
   by_cases ha:i<ks.length
   ·have ha1:(i:Int)<(ks.length:Int):=by omega
    by_cases hb:i<200
    ·have hb1:(i:Int)<200:=by omega
     go_wp2_with fail
     go_meet
     case rel=>exact ⟨by rw [decide_eq_true (show i<ks.length∧i<200 from ⟨ha,hb⟩)] <;> (first | rfl | rw [decide_eq_true hb1]),rfl⟩
    ·have hb1:(200:Int)≤(i:Int):=by omega
     go_wp2_with fail
     go_meet
     case rel=>exact ⟨by rw [decide_eq_false (show ¬ (i<ks.length∧i<200) from fun h=>hb h.2)] <;> (first | rfl | rw [decide_eq_false (show ¬ (i:Int)<200 by omega)]),rfl⟩
   ·have ha1:(ks.length:Int)≤(i:Int):=by omega
    go_wp2_with fail
    go_meet
    case rel=>exact ⟨by rw [decide_eq_false (show ¬ (i<ks.length∧i<200) from fun h=>ha h.1)],rfl⟩
  case rest=>
   obtain ⟨rfl,rfl⟩:=hcut
   by_cases hlt:i<ks.length∧i<200
   ·have hdl:=decide_eq_true hlt
    obtain ⟨hlt,hlt2⟩:=hlt
    obtain ⟨b,off,rfl,hbl,e0⟩:=(HK.out.keep HB3.out).str1 hlt
    have hk0:(0:Int)≤(i:Int):=by omega
    have hk1:(i:Int)<(ks.length:Int):=by omega
    have hk2:(i:Int)<200:=by omega
    have HQ:=Lib.hid (show laidP long (ks.take (i+1))=putP (laidP long (ks.take i)) (cutK ks[i]) (vlB long (cutK ks[i])) by rw [List.take_succ_eq_append_getElem hlt,laidP_snoc])
    generalize ks[i]=k at *
    have hsz:(mkS k).size=k.length:=mkS_size k
    by_cases hkl:64<k.length
    ·have hg1:(64:Int)<((mkS k).size:Int):=by omega
     have HKX:=Lib.hid (show (mkS k).extract 0 64=mkS (cutK k) by rw [ext_mkS,bs_mkS];rfl)
     go_upto_region 10 with fail
     rw [HKX.out]
     have HKC:=Lib.hid (show (cutK k).length≤64 by unfold cutK;rw [List.length_take];omega)
     obtain ⟨s',r1,r2,-⟩:=HTS3.out.put (by have:=HWT.out;rw [List.length_take] at this;simp;omega) (k:=cutK k) (v:=vlB long (cutK k)) HKC.out (by have:=vlB_len long (cutK k);omega)
     have HR1:=Lib.hid r1
     have HR2:=Lib.hid (show TS s' root (laidP long (ks.take (i+1))) [] by rw [HQ.out];exact r2)
     have HMQ:=Lib.hid (ins_put (cutK k) (vlB long (cutK k)) HTS3.out.srt.1)
     have HQ2:=Lib.hid (HMQ.out.trans HQ.out.symm)
     clear r1 r2 HTS3 hsz hg1 hkl HQ HMQ
     generalize cutK k=k' at *
     clear e0 HKX
     have hks:(mkS k').size=k'.length:=mkS_size k'
     have hku:IntKind.u8.wrap (k'.length:Int)=(k'.length:Int):=by have:=HKC.out;rw [IntKind.wrap_u8];omega
     have hkm:(k'.length:Int) % 256=(k'.length:Int):=by have:=HKC.out;omega
     have HBB:=Lib.hid (show Value.int .u8 (k'.length:Int)=.int .u8 ((UInt8.ofNat k'.length).toNat:Int) by have:=HKC.out;rw [UInt8.toNat_ofNat',Nat.mod_eq_of_lt (by omega)])
     have hcv:(convert 46 9 (.slice (some ⟨wc.heap.size,0,none⟩) 1 1)).run Tryz.prog (wc.alloc (.cells #[.int .u8 (k'.length:Int)] 5))=.ok (.string (mkS [UInt8.ofNat k'.length])) (wc.alloc (.cells #[.int .u8 (k'.length:Int)] 5)):=by
      rw [HBB.out]
      exact conv_back _ _ 1 1 [UInt8.ofNat k'.length] rfl (blk_bytes (fz:=(0,0)) (blk_new rfl))
     go_upto_region 11 with fail
     have HB4:=Lib.hid ((Below.refl _ wc).alloc (Nat.le_refl _) (.cells #[.int .u8 (k'.length:Int)] 5))
     clear hcv hku hkm
     generalize wc.alloc (.cells #[.int .u8 (k'.length:Int)] 5)=w4 at *
     cases long
     case false=>
      have HSN:=Lib.hid (HS3.out.ch (S:=fun _=>False) (Ch.of_below HB4.out) id id)
      have HMN:=Lib.hid (HM3.out.ch (S:=fun _=>False) (Ch.of_below HB4.out) (fun _ h=>h.elim))
      go_wp2_with fail
      refine (put_ok HR1.out HSN.out).mono ?_
      rintro e w6 ⟨rfl,hs,hc⟩
      have HS6:=Lib.hid hs
      have HM6:=Lib.hid (HMN.out.ch hc fun k hk=>⟨hk.elim (fun e=>e ▸ HN.out.1) (fun e=>e ▸ HN.out.2.1),HSN.out.no_pr k hk⟩)
      have HB6:=Lib.hid ((HB3.out.trans (HB4.out.mono HB3.out.size)).trans (hc.below (Nat.le_trans HB3.out.size HB4.out.size) (fun k hk=>hk.elim (fun e=>e ▸ HN.out.2.2.1) (fun e=>e ▸ HN.out.2.2.2.1))))
      clear hs hc
      go_wp2_with fail
      refine (mput_any (laidP false (ks.take i)) k' (vlB false k') g base w6 HM6.out (by have:=HWT.out;rw [List.length_take] at this;omega)).mono ?_
      rintro e w7 ⟨⟨rr,rfl⟩,hm,hc⟩
      rw [HQ2.out] at hm
      have HM7:=Lib.hid hm
      have HS7:=Lib.hid (HS6.out.ch hc HN.out.1 HN.out.2.1)
      have HB7:=Lib.hid (HB6.out.trans (hc.below HB6.out.size (fun k hk=>hk ▸ HN.out.2.2.2.2)))
      clear hm hc
      go_wp2_with fail
      go_roundw
      case rel=>exact ⟨i+1,by omega,by omega,by go_num,⟨s',HS7.out,HR2.out⟩,⟨w6.heap.size,HB6.out.size,HM7.out⟩,HN.out,HB7.out⟩
      case measure=>simp [intOf];omega
     case true=>
      obtain ⟨zs,hzs⟩:∃ zs,List.replicate 60 (0:UInt8)=zs:=⟨_,rfl⟩
      have hmk:(Instr.makeSlice 46 (.int .i64 60) (.int .i64 60)).run Tryz.prog w4=.ok (.slice (some ⟨w4.heap.size,0,none⟩) 60 60) (w4.alloc (.cells (zs.flatMap uC).toArray 5)):=by rw [← hzs];exact mk_bytes w4 60 (by omega)
      have hcv:(convert 46 9 (.slice (some ⟨w4.heap.size,0,none⟩) 60 60)).run Tryz.prog (w4.alloc (.cells (zs.flatMap uC).toArray 5))=.ok (.string (mkS zs)) (w4.alloc (.cells (zs.flatMap uC).toArray 5)):=
       conv_back _ _ 60 60 zs (by rw [← hzs,List.length_replicate]) (blk_bytes (fz:=(0,0)) (blk_new rfl))
      have HB5:=Lib.hid (HB4.out.trans (((Below.refl _ w4).alloc (Nat.le_refl _) (.cells (zs.flatMap uC).toArray 5)).mono HB4.out.size))
      have HZS:=Lib.hid hzs
      have hap:=app_mkS (mkS [UInt8.ofNat k'.length]) (mkS zs)
      rw [bs_mkS,bs_mkS] at hap
      clear hzs
      have hz1:(mkS [UInt8.ofNat k'.length]).size=1:=mkS_size _
      have hz2:(mkS zs).size=60:=by rw [mkS_size,← HZS.out,List.length_replicate]
      go_upto_region 13 with fail
      clear hcv hmk hap hz1 hz2
      have HVV:=Lib.hid (show UInt8.ofNat k'.length :: zs=vlB true k' by rw [← HZS.out];rfl)
      rw [HVV.out]
      generalize w4.alloc (.cells (zs.flatMap uC).toArray 5)=w5 at *
      have HSN:=Lib.hid (HS3.out.ch (S:=fun _=>False) (Ch.of_below HB5.out) id id)
      have HMN:=Lib.hid (HM3.out.ch (S:=fun _=>False) (Ch.of_below HB5.out) (fun _ h=>h.elim))
      go_wp2_with fail
      refine (put_ok HR1.out HSN.out).mono ?_
      rintro e w6 ⟨rfl,hs,hc⟩
      have HS6:=Lib.hid hs
      have HM6:=Lib.hid (HMN.out.ch hc fun k hk=>⟨hk.elim (fun e=>e ▸ HN.out.1) (fun e=>e ▸ HN.out.2.1),HSN.out.no_pr k hk⟩)
      have HB6:=Lib.hid ((HB3.out.trans (HB5.out.mono HB3.out.size)).trans (hc.below (Nat.le_trans HB3.out.size HB5.out.size) (fun k hk=>hk.elim (fun e=>e ▸ HN.out.2.2.1) (fun e=>e ▸ HN.out.2.2.2.1))))
      clear hs hc
      go_wp2_with fail
      refine (mput_any (laidP true (ks.take i)) k' (vlB true k') g base w6 HM6.out (by have:=HWT.out;rw [List.length_take] at this;omega)).mono ?_
      rintro e w7 ⟨⟨rr,rfl⟩,hm,hc⟩
      rw [HQ2.out] at hm
      have HM7:=Lib.hid hm
      have HS7:=Lib.hid (HS6.out.ch hc HN.out.1 HN.out.2.1)
      have HB7:=Lib.hid (HB6.out.trans (hc.below HB6.out.size (fun k hk=>hk ▸ HN.out.2.2.2.2)))
      clear hm hc
      go_wp2_with fail
      go_roundw
      case rel=>exact ⟨i+1,by omega,by omega,by go_num,⟨s',HS7.out,HR2.out⟩,⟨w6.heap.size,HB6.out.size,HM7.out⟩,HN.out,HB7.out⟩
      case measure=>simp [intOf];omega
    ·have hg1:((mkS k).size:Int)≤64:=by omega
     have HKX:=Lib.hid (show mkS k=mkS (cutK k) by unfold cutK;rw [List.take_of_length_le (by omega)])
     go_upto_region 10 with fail
     rw [HKX.out]
     have HKC:=Lib.hid (show (cutK k).length≤64 by unfold cutK;rw [List.length_take];omega)
     obtain ⟨s',r1,r2,-⟩:=HTS3.out.put (by have:=HWT.out;rw [List.length_take] at this;simp;omega) (k:=cutK k) (v:=vlB long (cutK k)) HKC.out (by have:=vlB_len long (cutK k);omega)
     have HR1:=Lib.hid r1
     have HR2:=Lib.hid (show TS s' root (laidP long (ks.take (i+1))) [] by rw [HQ.out];exact r2)
     have HMQ:=Lib.hid (ins_put (cutK k) (vlB long (cutK k)) HTS3.out.srt.1)
     have HQ2:=Lib.hid (HMQ.out.trans HQ.out.symm)
     clear r1 r2 HTS3 hsz hg1 hkl HQ HMQ
     generalize cutK k=k' at *
     clear e0 HKX
     have hks:(mkS k').size=k'.length:=mkS_size k'
     have hku:IntKind.u8.wrap (k'.length:Int)=(k'.length:Int):=by have:=HKC.out;rw [IntKind.wrap_u8];omega
     have hkm:(k'.length:Int) % 256=(k'.length:Int):=by have:=HKC.out;omega
     have HBB:=Lib.hid (show Value.int .u8 (k'.length:Int)=.int .u8 ((UInt8.ofNat k'.length).toNat:Int) by have:=HKC.out;rw [UInt8.toNat_ofNat',Nat.mod_eq_of_lt (by omega)])
     have hcv:(convert 46 9 (.slice (some ⟨wc.heap.size,0,none⟩) 1 1)).run Tryz.prog (wc.alloc (.cells #[.int .u8 (k'.length:Int)] 5))=.ok (.string (mkS [UInt8.ofNat k'.length])) (wc.alloc (.cells #[.int .u8 (k'.length:Int)] 5)):=by
      rw [HBB.out]
      exact conv_back _ _ 1 1 [UInt8.ofNat k'.length] rfl (blk_bytes (fz:=(0,0)) (blk_new rfl))
     go_upto_region 11 with fail
     have HB4:=Lib.hid ((Below.refl _ wc).alloc (Nat.le_refl _) (.cells #[.int .u8 (k'.length:Int)] 5))
     clear hcv hku hkm
     generalize wc.alloc (.cells #[.int .u8 (k'.length:Int)] 5)=w4 at *
     cases long
     case false=>
      have HSN:=Lib.hid (HS3.out.ch (S:=fun _=>False) (Ch.of_below HB4.out) id id)
      have HMN:=Lib.hid (HM3.out.ch (S:=fun _=>False) (Ch.of_below HB4.out) (fun _ h=>h.elim))
      go_wp2_with fail
      refine (put_ok HR1.out HSN.out).mono ?_
      rintro e w6 ⟨rfl,hs,hc⟩
      have HS6:=Lib.hid hs
      have HM6:=Lib.hid (HMN.out.ch hc fun k hk=>⟨hk.elim (fun e=>e ▸ HN.out.1) (fun e=>e ▸ HN.out.2.1),HSN.out.no_pr k hk⟩)
      have HB6:=Lib.hid ((HB3.out.trans (HB4.out.mono HB3.out.size)).trans (hc.below (Nat.le_trans HB3.out.size HB4.out.size) (fun k hk=>hk.elim (fun e=>e ▸ HN.out.2.2.1) (fun e=>e ▸ HN.out.2.2.2.1))))
      clear hs hc
      go_wp2_with fail
      refine (mput_any (laidP false (ks.take i)) k' (vlB false k') g base w6 HM6.out (by have:=HWT.out;rw [List.length_take] at this;omega)).mono ?_
      rintro e w7 ⟨⟨rr,rfl⟩,hm,hc⟩
      rw [HQ2.out] at hm
      have HM7:=Lib.hid hm
      have HS7:=Lib.hid (HS6.out.ch hc HN.out.1 HN.out.2.1)
      have HB7:=Lib.hid (HB6.out.trans (hc.below HB6.out.size (fun k hk=>hk ▸ HN.out.2.2.2.2)))
      clear hm hc
      go_wp2_with fail
      go_roundw
      case rel=>exact ⟨i+1,by omega,by omega,by go_num,⟨s',HS7.out,HR2.out⟩,⟨w6.heap.size,HB6.out.size,HM7.out⟩,HN.out,HB7.out⟩
      case measure=>simp [intOf];omega
     case true=>
      obtain ⟨zs,hzs⟩:∃ zs,List.replicate 60 (0:UInt8)=zs:=⟨_,rfl⟩
      have hmk:(Instr.makeSlice 46 (.int .i64 60) (.int .i64 60)).run Tryz.prog w4=.ok (.slice (some ⟨w4.heap.size,0,none⟩) 60 60) (w4.alloc (.cells (zs.flatMap uC).toArray 5)):=by rw [← hzs];exact mk_bytes w4 60 (by omega)
      have hcv:(convert 46 9 (.slice (some ⟨w4.heap.size,0,none⟩) 60 60)).run Tryz.prog (w4.alloc (.cells (zs.flatMap uC).toArray 5))=.ok (.string (mkS zs)) (w4.alloc (.cells (zs.flatMap uC).toArray 5)):=
       conv_back _ _ 60 60 zs (by rw [← hzs,List.length_replicate]) (blk_bytes (fz:=(0,0)) (blk_new rfl))
      have HB5:=Lib.hid (HB4.out.trans (((Below.refl _ w4).alloc (Nat.le_refl _) (.cells (zs.flatMap uC).toArray 5)).mono HB4.out.size))
      have HZS:=Lib.hid hzs
      have hap:=app_mkS (mkS [UInt8.ofNat k'.length]) (mkS zs)
      rw [bs_mkS,bs_mkS] at hap
      clear hzs
      have hz1:(mkS [UInt8.ofNat k'.length]).size=1:=mkS_size _
      have hz2:(mkS zs).size=60:=by rw [mkS_size,← HZS.out,List.length_replicate]
      go_upto_region 13 with fail
      clear hcv hmk hap hz1 hz2
      have HVV:=Lib.hid (show UInt8.ofNat k'.length :: zs=vlB true k' by rw [← HZS.out];rfl)
      rw [HVV.out]
      generalize w4.alloc (.cells (zs.flatMap uC).toArray 5)=w5 at *
      have HSN:=Lib.hid (HS3.out.ch (S:=fun _=>False) (Ch.of_below HB5.out) id id)
      have HMN:=Lib.hid (HM3.out.ch (S:=fun _=>False) (Ch.of_below HB5.out) (fun _ h=>h.elim))
      go_wp2_with fail
      refine (put_ok HR1.out HSN.out).mono ?_
      rintro e w6 ⟨rfl,hs,hc⟩
      have HS6:=Lib.hid hs
      have HM6:=Lib.hid (HMN.out.ch hc fun k hk=>⟨hk.elim (fun e=>e ▸ HN.out.1) (fun e=>e ▸ HN.out.2.1),HSN.out.no_pr k hk⟩)
      have HB6:=Lib.hid ((HB3.out.trans (HB5.out.mono HB3.out.size)).trans (hc.below (Nat.le_trans HB3.out.size HB5.out.size) (fun k hk=>hk.elim (fun e=>e ▸ HN.out.2.2.1) (fun e=>e ▸ HN.out.2.2.2.1))))
      clear hs hc
      go_wp2_with fail
      refine (mput_any (laidP true (ks.take i)) k' (vlB true k') g base w6 HM6.out (by have:=HWT.out;rw [List.length_take] at this;omega)).mono ?_
      rintro e w7 ⟨⟨rr,rfl⟩,hm,hc⟩
      rw [HQ2.out] at hm
      have HM7:=Lib.hid hm
      have HS7:=Lib.hid (HS6.out.ch hc HN.out.1 HN.out.2.1)
      have HB7:=Lib.hid (HB6.out.trans (hc.below HB6.out.size (fun k hk=>hk ▸ HN.out.2.2.2.2)))
      clear hm hc
      go_wp2_with fail
      go_roundw
      case rel=>exact ⟨i+1,by omega,by omega,by go_num,⟨s',HS7.out,HR2.out⟩,⟨w6.heap.size,HB6.out.size,HM7.out⟩,HN.out,HB7.out⟩
      case measure=>simp [intOf];omega
   ·have hdl:=decide_eq_false hlt
    rw [hdl]
    have HE:=Lib.hid (show ks.take i=ks.take 200 by
     rcases Nat.lt_or_ge i ks.length with h | h
     ·have:i=200:=by omega
      rw [this]
     ·rw [List.take_of_length_le h,List.take_of_length_le (by omega)])
    have HI2:=Lib.hid (show LayI w gs gm g root (laidP long (ks.take 200)) wc from ⟨⟨s,HS3.out,by rw [← HE.out];exact HTS3.out⟩,⟨base,HBS.out,by rw [← HE.out];exact HM3.out⟩,HN.out,HB3.out⟩)
    go_wp2_with fail
    exact bodyPost_ret (v:=.tuple #[.pointer (some ⟨gs,0,none⟩),.int .i64 root,.pointer (some ⟨g,0,none⟩)]) (by simp [results,Tryz.results33,go_sem]) rfl ⟨gs,gm,g,root,rfl,HI2.out⟩
end Go.Proofs.YtknioodagnjchaaGreatDoor
