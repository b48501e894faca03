/- Rows of the call's own, turned in place: what slices.Insert, Delete, Clone, Concat want. A region that draws its order, by an invariant: each operation is looked at once. append, with the old slice readable still. A region that draws its order, by an invariant: its last operation, the store of a row; its ways told by values. -/
import Derived.Test.YtdmhbgpejppbkaaGreatXGad
import Derived.Laws.IdiomCopy
import Derived.Lib.SliceRun
import Derived.Deep.RegionHeld3
namespace Go.Proofs.YtdmhbgpejppbkaaGreat
open Go.RowKit
theorem mQ {g:Nat} {e:TypeId}:∀ (vs:List Value) (o:Nat) {w:World} {cs:Array Value},w.heap[g]?=some (.cells cs e (0,0))→o+vs.length≤cs.size→
  (w.setCells g o vs).heap[g]?=some (.cells (cs.toList.take o ++ vs ++ cs.toList.drop (o+vs.length)).toArray e (0,0))
 | [],o,w,cs,h,hs=>by
   simp only [World.setCells,List.length_nil,Nat.add_zero,List.append_nil,List.take_append_drop];exact h
 | v :: r,o,w,cs,h,hs=>by
   rw [List.length_cons] at hs;rw [World.setCells,mQ r (o+1) (ae h o v) (by simp;omega)];congr 2;have hl:o<cs.toList.length:=by simp;omega
   rw [Array.toList_setIfInBounds];have e1:(cs.toList.set o v).take (o+1)=cs.toList.take o ++ [v]:=by rw [List.take_set,List.take_succ_eq_append_getElem hl];rw [List.set_append_right _ _ (by rw [List.length_take];omega),List.length_take,Nat.min_eq_left (by omega),Nat.sub_self];rfl
   have e2:(cs.toList.set o v).drop (o+1+r.length)=cs.toList.drop (o+1+r.length):=List.drop_set_of_lt (by omega);rw [e1,e2,List.length_cons,show o+(r.length+1)=o+1+r.length by omega];simp
section
variable {α:Type} {f:α→List Value} {size:Nat} {e:TypeId} {base:Nat} {w w':World} {v:Value} {xs ys:List α}
theorem jP (hl:∀ x,(f x).length=size):∀ (xs:List α) (i:Nat),(xs.flatMap f).take (i * size)=(xs.take i).flatMap f
 | [],i=>by simp
 | x :: xs,0=>by simp
 | x :: xs,i+1=>by
   rw [List.flatMap_cons,List.take_succ_cons,List.flatMap_cons,Nat.succ_mul,Nat.add_comm,List.take_append,hl,List.take_of_length_le (by rw [hl];omega),show size+i * size - size=i * size by omega,jP hl xs i]
theorem nE (hl:∀ x,(f x).length=size):∀ (xs:List α) (i:Nat),(xs.flatMap f).drop (i * size)=(xs.drop i).flatMap f
 | [],i=>by simp
 | x :: xs,0=>by simp
 | x :: xs,i+1=>by
   rw [List.flatMap_cons,List.drop_succ_cons,Nat.succ_mul,Nat.add_comm,List.drop_append,hl,List.drop_of_length_le (by rw [hl];omega),show size+i * size - size=i * size by omega,nE hl xs i,List.nil_append]
theorem Own.take' {A:Option Addr} {n c:Nat} (h:Own f size e base w (.slice A n c) xs) (hl:∀ x,(f x).length=size) {i:Nat} (hi:i≤xs.length):Own f size e base w (.slice A i c) (xs.take i):=by
 have hlen:(xs.take i).length=i:=by rw [List.length_take];omega
 refine ⟨dw f size hl _,?_⟩;rcases h.2 with ⟨hv,h0⟩ | ⟨g,cap,cur,hv,hb,hg,hn,hm,hc,ht⟩
 ·injection hv with e1 e2 e3
  subst e1 e3;exact .inl ⟨by rw [show i=0 by omega],by omega⟩
 ·injection hv with e1 e2 e3
  subst e1 e3;refine .inr ⟨g,c,cur,by rw [hlen],hb,hg,by omega,hm,hc,?_⟩;rw [hlen,← jP hl,← ht,List.take_take,Nat.min_eq_left (Nat.mul_le_mul_right _ (by omega))]
theorem Own.len3 {A:Option Addr} {n c:Nat} (h:Own f size e base w (.slice A n c) xs):n=xs.length:=by
 rcases h.2 with ⟨hv,h0⟩ | ⟨g,cap,cur,hv,_⟩
 ·injection hv with _ e2 _;omega
 ·injection hv with _ e2 _
theorem Own.turn {g n c o:Nat} (h:Own f size e base w (.slice (some ⟨g,0,none⟩) n c) xs) (hl:∀ x,(f x).length=size) {vs:List Value} (hn:ys.length≤c) (hr:o+vs.length≤c * size)
  (hy:∀ cur:List Value,cur.length=c * size→cur.take (n * size)=xs.flatMap f→(cur.take o ++ vs ++ cur.drop (o+vs.length)).take (ys.length * size)=ys.flatMap f):
  Own f size e base (w.setCells g o vs) (.slice (some ⟨g,0,none⟩) ys.length c) ys:=by
 refine ⟨dw f size hl _,?_⟩;have hln:=h.len3;rcases h.2 with ⟨hv,h0⟩ | ⟨g',cap,cur,hv,hb,hg,hn',hm,hc,ht⟩
 ·cases hv
 ·injection hv with e1 e2 e3
  injection e1 with e1
  injection e1 with e1
  subst e1 e3;have hcl:cur.toList.length=c * size:=by simpa using hc
  have hs:=mQ vs o hg (by rw [hc];exact hr);refine .inr ⟨g,c,_,rfl,hb,hs,hn,hm,?_,?_⟩
  ·simp only [List.size_toArray,List.length_append,List.length_take,List.length_drop,Array.length_toList];rw [hc] at *;omega
  ·exact hy cur.toList hcl (by rw [hln];exact ht)
theorem Own.set {g n c i:Nat} (h:Own f size e base w (.slice (some ⟨g,0,none⟩) n c) xs) (hl:∀ x,(f x).length=size) (hi:i<xs.length) (x:α):Own f size e base (w.setCells g (i * size) (f x)) (.slice (some ⟨g,0,none⟩) n c) (xs.set i x):=by
 have hln:=h.len3;have hnc:n≤c:=by
  rcases h.2 with ⟨hv,h0⟩ | ⟨g',cap,cur,hv,hb,hg,hn',hm,hc,ht⟩
  ·cases hv
  ·injection hv with e1 e2 e3;omega
 have h1:i * size+size≤n * size:=by rw [← Nat.succ_mul];exact Nat.mul_le_mul_right _ (by omega)
 have h2:n * size≤c * size:=Nat.mul_le_mul_right _ hnc
 have:=h.turn (o:=i * size) (vs:=f x) (ys:=xs.set i x) hl (by rw [List.length_set];omega) (by rw [hl];omega) (fun cur hcl ht=>by
  rw [List.length_set,← hln,hl];have e1:cur.take (i * size)=(xs.take i).flatMap f:=by rw [← jP hl,← ht,List.take_take,Nat.min_eq_left (by omega)]
  have e2:(cur.drop (i * size+size)).take (n * size - (i * size+size))=(xs.drop (i+1)).flatMap f:=by rw [← nE hl,← ht,Nat.succ_mul,List.drop_take]
  have e3:xs.set i x=xs.take i ++ x :: xs.drop (i+1):=List.set_eq_take_append_cons_drop .. |>.trans (by rw [if_pos hi]);rw [e3,List.flatMap_append,List.flatMap_cons,← e1,← e2,List.append_assoc,List.take_append,List.length_take,Nat.min_eq_left (by omega),List.take_of_length_le (by rw [List.length_take];omega)];congr 1;rw [List.take_append,hl,List.take_of_length_le (by rw [hl];omega)];congr 2;omega)
 rw [List.length_set,← hln] at this;exact this
theorem Own.drew (h:Own f size e base w v xs):Own f size e base w.drew v xs:=h
end
end Go.Proofs.YtdmhbgpejppbkaaGreat
namespace Go.Proofs.YtdmhbgpejppbkaaGreat
theorem mh {p q:Nat→Bool} (hpq:∀ j,q j=true→p j=true):∀ {F:List Nat} {i:Nat},i ∈ F→p i=true→q i=false→F.countP q<F.countP p
 | [],_,h,_,_=>by cases h
 | x :: F,i,h,hp,hq=>by
   have hle:F.countP q≤F.countP p:=List.countP_mono_left fun j _=>hpq j
   rw [List.countP_cons,List.countP_cons];rcases List.mem_cons.1 h with rfl | h
   ·rw [if_pos hp,if_neg (by rw [hq];decide)];omega
   ·have:=mh hpq h hp hq;by_cases hx:q x=true
    ·rw [if_pos hx,if_pos (hpq x hx)];omega
    ·rw [if_neg hx];omega
section
variable {P:Program} {ops:Array Oper} {Q:Exit→Act→World→Prop} {md:Region.Mode} {S:World→Prop}
def InvSteps (P:Program) (md:Region.Mode) (ops:Array Oper) (Q:Exit→Act→World→Prop) (J:(Nat→Bool)→Act→World→Prop) (F rs:List Nat):Prop:=
 ∀ i ∈ rs,∀ (d:Nat→Bool) (a:Act) (w:World),J d a w→d i=false→(∀ o,ops[i]?=some o→∀ e ∈ o.after,Region.binds md e=true→F.contains e.on=true→d e.on=true)→wpOp P ops Q i (fun a' w'=>J (fun j=>j == i || d j) a' w') a w
theorem InvSteps.nil {J:(Nat→Bool)→Act→World→Prop} {F:List Nat}:InvSteps P md ops Q J F []:=fun _ h=>by cases h
theorem InvSteps.cons {J:(Nat→Bool)→Act→World→Prop} {F:List Nat} {i:Nat} {o:Oper} {rs:List Nat} (ho:ops[i]?=some o) (pre:List Nat)
  (hp:(pre.all fun j=>F.contains j && o.after.any fun e=>Region.binds md e && e.on == j)=true)
  (h:∀ (d:Nat→Bool) (a:Act) (w:World),J d a w→d i=false→(∀ j ∈ pre,d j=true)→∀ K':Act→World→Prop,Shut (∀ a' w',J (fun j=>j == i || d j) a' w'→K' a' w')→if Region.wanted o (yielded ops a.tmps)=true then Oper.wp P o a w K' Q else K' (a.put o.dst undef) w)
  (hs:InvSteps P md ops Q J F rs):InvSteps P md ops Q J F (i :: rs):=fun j hj=>by
 rcases List.mem_cons.1 hj with rfl | hj
 ·intro d a w hJ hd hb;refine wpOp_step ho fun K' hK=>h d a w hJ hd (fun x hx=>?_) K' hK
  have h1:=List.all_eq_true.1 hp x hx;rw [Bool.and_eq_true] at h1;obtain ⟨n,hn,h2⟩:=Array.any_eq_true.1 h1.2;have he:=Array.getElem_mem hn;generalize o.after[n]=e at h2 he;rw [Bool.and_eq_true] at h2;have h3:e.on=x:=by simpa using h2.2
  have:=hb o ho e he h2.1 (by rw [h3];exact h1.1)
  rwa [h3] at this
 ·exact hs j hj
theorem tw {l:Array Bool} {j:Nat} (h:j<l.size) (d d':Bool):l.getD j d=l.getD j d':=by simp [Array.getD,h]
theorem rb {F:List Nat} (J:(Nat→Bool)→Act→World→Prop) (hS:∀ d a w,J d a w→S w)
  (hac:(List.range ops.size).all (fun i=>((ops[i]?).map (·.after.all fun e=>!Region.binds md e || decide (e.on<i))).getD true)=true)
  (hFb:F.all (fun i=>decide (i<ops.size))=true)
  (hst:InvSteps P md ops Q J F F) (hdn:∀ d a w,J d a w→(∀ i ∈ F,d i=true)→Q .normal a w):
  ∀ (fuel:Nat) (l:Array Bool) (d:Nat→Bool) (a:Act) (w:World),l.size=ops.size→(∀ j,j<ops.size→l.getD j true=(!F.contains j || d j))→(F.countP fun j=>!d j)≤fuel→J d a w→wpAnyH P md ops Q S fuel l a w:=by
 have hF:∀ i ∈ F,i<ops.size:=fun i hi=>by simpa using List.all_eq_true.1 hFb i hi
 have hall:∀ (l:Array Bool),l.size=ops.size→Region.ready md ops l=[]→∀ n,∀ j,j<n→j<ops.size→l.getD j true=true:=fun l hsz hr n=>by
  induction n with
  | zero=>intro j h _;omega
  | succ n ih=>
    intro j hj hjs;by_cases hjn:j<n
    ·exact ih j hjn hjs
    ·cases hb:l.getD j true with
     | true=>rfl
     | false=>
       exfalso;have ho:ops[j]?=some ops[j]:=Array.getElem?_eq_getElem hjs
       have hm:j ∈ Region.ready md ops l:=mem_ready.2 ⟨hb,ops[j],ho,fun e he hbi=>by
        have h1:=List.all_eq_true.1 hac j (List.mem_range.2 hjs);rw [ho,Option.map_some,Option.getD_some] at h1;have h2:e.on<j:=by have h3:=Array.all_eq_true_iff_forall_mem.1 h1 e he;rw [hbi] at h3;simpa using h3
        rw [tw (by omega) false true];exact ih e.on (by omega) (by omega)⟩
       rw [hr] at hm;cases hm
 have fin:∀ (l:Array Bool) (d:Nat→Bool),l.size=ops.size→(∀ j,j<ops.size→l.getD j true=(!F.contains j || d j))→Region.ready md ops l=[]→∀ i ∈ F,d i=true:=fun l d hsz hl hr i hi=>by
  have h1:=hall l hsz hr ops.size i (hF i hi) (hF i hi);rw [hl i (hF i hi)] at h1;simpa [hi] using h1
 intro fuel
 induction fuel with
 | zero=>
   intro l d a w hsz hl hc hJ
   have hd:∀ i ∈ F,d i=true:=fun i hi=>by
    have h0:(F.countP fun j=>!d j)=0:=by omega
    have:=List.countP_eq_zero.1 h0 i hi;simpa using this
   refine ⟨?_,hdn d a w hJ hd⟩;rcases hr:Region.ready md ops l with _ | ⟨x,r⟩
   ·rfl
   ·exfalso;have hm:x ∈ Region.ready md ops l:=by rw [hr];exact List.mem_cons_self
    obtain ⟨h0,o,ho,-⟩:=mem_ready.1 hm;have hx:=(Array.getElem?_eq_some_iff.1 ho).1;rw [hl x hx] at h0;by_cases hxF:x ∈ F
    ·rw [hd x hxF] at h0;simp at h0
    ·simp [hxF] at h0
 | succ n ih=>
   intro l d a w hsz hl hc hJ;refine ⟨fun hr=>hdn d a w hJ (fin l d hsz hl hr),fun i hi=>?_⟩;obtain ⟨h0,o,ho,hb⟩:=mem_ready.1 hi;have hx:=(Array.getElem?_eq_some_iff.1 ho).1;rw [hl i hx] at h0;have hiF:i ∈ F:=by
    by_cases hiF:i ∈ F
    ·exact hiF
    ·simp [hiF] at h0
   have hdi:d i=false:=by simpa [hiF] using h0
   refine wpOp_mono (fun a' w' h'=>⟨hS _ _ _ h',ih _ (fun j=>j == i || d j) a' w' (by simpa using hsz) (fun j hj=>?_) ?_ h'⟩) (hst i hiF d a w hJ hdi fun o' ho' e he hbe hc=>?_)
   ·by_cases hji:j=i
    ·subst hji;simp [hsz,hj]
    ·rw [getD_set_ne true (Ne.symm hji),hl j hj];have:(j == i)=false:=by simpa using hji
     rw [this,Bool.false_or]
   ·have:=mh (p:=fun j=>!d j) (q:=fun j=>!(j == i || d j)) (F:=F) (i:=i) (fun j h=>by
     simp only [Bool.not_eq_true',Bool.or_eq_false_iff] at h ⊢;exact h.2) hiF (by simp [hdi]) (by simp)
    omega
   ·rw [ho] at ho';cases ho';have h1:=hb e he hbe;have hes:e.on<l.size:=by
     rcases Nat.lt_or_ge e.on l.size with h' | h'
     ·exact h'
     ·simp [Array.getElem?_eq_none h'] at h1
    rw [tw hes false true,hl e.on (by omega)] at h1;simpa [show e.on ∈ F by simpa using hc] using h1
def Takes (_:List Nat) (P:Program) (md:Region.Mode) (ops:Array Oper) (Q:Exit→Act→World→Prop) (S:World→Prop) (fuel:Nat) (l:Array Bool) (a:Act) (w:World):Prop:=wpAnyH P md ops Q S fuel l a w
theorem Takes.start (T:List Nat) {fuel:Nat} {l:Array Bool} {a:Act} {w:World} (h:Takes T P md ops Q S fuel l a w):wpAnyH P md ops Q S fuel l a w:=h
theorem Takes.nil {fuel:Nat} {l:Array Bool} {a:Act} {w:World} (h:wpAnyH P md ops Q S fuel l a w):Takes [] P md ops Q S fuel l a w:=h
theorem Takes.cons {T:List Nat} {i:Nat} {oi:Oper} {v:Value} {fuel:Nat} {l:Array Bool} {a:Act} {w:World} (hi:ops[i]?=some oi)
  (hs:Region.noSelect ops=true) (hf:Region.free md ops l i=true) (hr:(Region.ready md ops l).contains i=true)
  (hQ:∀ c a w,Q (.panic c) (a.put oi.dst v) w→Q (.panic c) a w) (hS:S w) (hw:Region.wanted oi (yielded ops a.tmps)=true) (hy:∀ w,S w→(execOp a.eval oi).run P w=.ok (.value v) w)
  (h:Takes T P md ops Q S fuel (l.setIfInBounds i true) (a.put oi.dst v) w):Takes (i :: T) P md ops Q S (fuel+1) l a w:=
 wpAnyH_take hi hs hf hr hQ (.inl ⟨hw,hy⟩) hS h
def puts (a0:Act) (ks:List Nat) (v:Nat→Value):Act:=ks.foldl (fun a k=>a.put (some k) (v k)) a0
def upd (v:Nat→Value) (k:Nat) (x:Value):Nat→Value:=fun j=>if j=k then x else v j
def kK (a0:Act) (k:Nat):Value:=a0.tmps[k]?.getD undef
theorem vK (a:Act) (k:Nat):a.put (some k) (kK a k)=a:=by
 unfold Act.put kK;cases a with
 | mk tmps df=>
   simp only;congr 1;refine Array.ext_getElem? fun j=>?_
   rw [Array.getElem?_setIfInBounds]
   split
   ·rename_i h
    subst h
    split
    ·rename_i h;simp [h]
    ·rename_i h;simp [Array.getElem?_eq_none (Nat.le_of_not_lt h)]
   ·rfl
theorem mR (a:Act):∀ ks:List Nat,puts a ks (kK a)=a
 | []=>rfl
 | k :: ks=>by
   unfold puts;rw [List.foldl_cons,vK];exact mR a ks
def ValSteps (P:Program) (md:Region.Mode) (ops:Array Oper) (Q:Exit→Act→World→Prop) (a0:Act) (ks:List Nat) (J:(Nat→Bool)→(Nat→Value)→World→Prop) (F rs:List Nat):Prop:=
 InvSteps P md ops Q (fun d a w=>∃ v,a=puts a0 ks v∧J d v w) F rs
theorem ValSteps.nil {a0:Act} {ks:List Nat} {J:(Nat→Bool)→(Nat→Value)→World→Prop} {F:List Nat}:ValSteps P md ops Q a0 ks J F []:=InvSteps.nil
theorem ValSteps.cons {a0:Act} {ks:List Nat} {J:(Nat→Bool)→(Nat→Value)→World→Prop} {F:List Nat} {i:Nat} {o:Oper} {rs:List Nat} (ho:ops[i]?=some o) (pre:List Nat)
  (hp:(pre.all fun j=>F.contains j && o.after.any fun e=>Region.binds md e && e.on == j)=true)
  (h:∀ (d:Nat→Bool) (v:Nat→Value) (w:World),J d v w→d i=false→(∀ j ∈ pre,d j=true)→∀ K':Act→World→Prop,Shut (∀ a' v' w',a'=puts a0 ks v'→J (fun j=>j == i || d j) v' w'→K' a' w')→if Region.wanted o (yielded ops (puts a0 ks v).tmps)=true then Oper.wp P o (puts a0 ks v) w K' Q else K' ((puts a0 ks v).put o.dst undef) w)
  (hs:ValSteps P md ops Q a0 ks J F rs):ValSteps P md ops Q a0 ks J F (i :: rs):=
 InvSteps.cons ho pre hp (fun d a w hJ hd hpre K' hK=>by
  obtain ⟨v,rfl,hJ⟩:=hJ;exact h d v w hJ hd hpre K' (show Shut _ from fun a' v' w' e hJ'=>hK.out a' w' ⟨v',e,hJ'⟩)) hs
theorem pp {F:List Nat} {a0:Act} {fuel:Nat} {l:Array Bool} {w:World} (ks:List Nat) (J:(Nat→Bool)→(Nat→Value)→World→Prop) (hS:∀ d v w,J d v w→S w)
  (hac:(List.range ops.size).all (fun i=>((ops[i]?).map (·.after.all fun e=>!Region.binds md e || decide (e.on<i))).getD true)=true)
  (hFb:F.all (fun i=>decide (i<ops.size))=true) (hl:(l.size == ops.size && (List.range ops.size).all fun j=>l.getD j true == !F.contains j)=true) (hc:decide (F.length≤fuel)=true)
  (hJ:J (fun _=>false) (kK a0) w) (hst:ValSteps P md ops Q a0 ks J F F) (hdn:∀ d v w,J d v w→(∀ i ∈ F,d i=true)→Q .normal (puts a0 ks v) w):wpAnyH P md ops Q S fuel l a0 w:=by
 rw [Bool.and_eq_true] at hl;refine rb (fun d a w=>∃ v,a=puts a0 ks v∧J d v w) (fun d a w ⟨v,_,h⟩=>hS d v w h) hac hFb hst (fun d a w ⟨v,e,h⟩ hd=>by rw [e];exact hdn d v w h hd) fuel l (fun _=>false) a0 w (by simpa using hl.1) (fun j hj=>?_) ?_ ⟨kK a0,(mR a0 ks).symm,hJ⟩
 ·have:=List.all_eq_true.1 hl.2 j (List.mem_range.2 hj);rw [Bool.or_false];simpa using this
 ·exact Nat.le_trans List.countP_le_length (of_decide_eq_true hc)
end
end Go.Proofs.YtdmhbgpejppbkaaGreat
namespace Go.Proofs.YtdmhbgpejppbkaaGreat
open Go.RowKit
section
variable {α:Type} {f:α→List Value} {size:Nat} {e:TypeId} {base:Nat} {w w':World} {v:Value} {xs ys:List α}
theorem Sl.flatCells {b off c:Nat} (hy:Sl f size w (.slice (some ⟨b,off,none⟩) ys.length c) ys) (hys:ys≠[]) (hl:∀ x,(f x).length=size) (hp:0<size):∀ j u,(ys.flatMap f)[j]?=some u→w.cell? ((⟨b,off,none⟩:Addr).add j)=some u:=by
 obtain ⟨A,c2,he,hx⟩:=hy;injection he with e1 e2 e3
 subst e1;obtain ⟨b2,off2,h6,h7,h8⟩:=hx hys;cases h6;intro j u hu;have hj:j<ys.length * size:=by
  rcases Nat.lt_or_ge j (ys.flatMap f).length with h | h
  ·rwa [dw f size hl] at h
  ·rw [List.getElem?_eq_none h] at hu;cases hu
 have hq:j / size<ys.length:=by rw [Nat.div_lt_iff_lt_mul hp];exact hj
 have hm:=Nat.div_add_mod j size;have hr:=Nat.mod_lt j hp;have hx:=gU f size hl ys (j / size) ys[j / size] (List.getElem?_eq_getElem hq) (j % size) ((f ys[j / size])[j % size]'(by rw [hl];exact hr)) (List.getElem?_eq_getElem _);rw [show j / size * size+j % size=j from by rw [Nat.mul_comm];exact hm] at hx;have hu':=hx.symm.trans hu;injection hu' with hu'
 have:=h8 (j / size) _ (List.getElem?_eq_getElem hq) (j % size) _ (List.getElem?_eq_getElem (by rw [hl];exact hr));rw [hu',show off+j / size * size+j % size=off+j from by rw [Nat.add_assoc,Nat.mul_comm (j / size),hm]] at this;unfold Addr.add
 split
 ·rename_i h0;subst h0;exact this
 ·exact this
end
end Go.Proofs.YtdmhbgpejppbkaaGreat
namespace Go.Proofs.YtdmhbgpejppbkaaGreat
section
variable {P:Program} {ops:Array Oper} {Q:Exit→Act→World→Prop} {md:Region.Mode} {S:World→Prop}
structure Stp (p:Prop):Prop where
 out:p
theorem ValSteps.consH {a0:Act} {ks:List Nat} {J:(Nat→Bool)→(Nat→Value)→World→Prop} {F:List Nat} {i:Nat} {o:Oper} {rs:List Nat} (ho:ops[i]?=some o) (pre:List Nat)
  (hp:(pre.all fun j=>F.contains j && o.after.any fun e=>Region.binds md e && e.on == j)=true)
  (h:∀ (d:Nat→Bool) (v:Nat→Value) (w:World),J d v w→d i=false→(∀ j ∈ pre,d j=true)→∀ K':Act→World→Prop,Shut (∀ a' v' w',a'=puts a0 ks v'→J (fun j=>j == i || d j) v' w'→K' a' w')→Stp (if Region.wanted o (yielded ops (puts a0 ks v).tmps)=true then Oper.wp P o (puts a0 ks v) w K' Q else K' ((puts a0 ks v).put o.dst undef) w))
  (hs:ValSteps P md ops Q a0 ks J F rs):ValSteps P md ops Q a0 ks J F (i :: rs):=
 ValSteps.cons ho pre hp (fun d v w hJ hd hpre K' hK=>(h d v w hJ hd hpre K' hK).out) hs
end
end Go.Proofs.YtdmhbgpejppbkaaGreat
