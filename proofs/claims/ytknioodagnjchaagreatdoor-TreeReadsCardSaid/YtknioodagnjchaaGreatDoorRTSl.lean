/- Rows of the call's own, turned in place: what slices.Insert, Delete, Clone, Concat want. -/
import Derived.Test.YtknioodagnjchaaGreatDoorRBa
import Derived.Laws.IdiomCopy
import Derived.Lib.SliceRun
namespace Go.Proofs.YtknioodagnjchaaGreatDoor
open Go.RowKit
theorem bA {g:Nat} {e:TypeId}:∀ (vs:List Value) (o:Nat) {w:World} {cs:Array Value},w.heap[g]?=some (.cells cs e (0,0))→o+vs.length≤cs.size→
  (w.setCells g o vs).heap[g]?=some (.cells (cs.toList.take o ++ vs ++ cs.toList.drop (o+vs.length)).toArray e (0,0))
 | [],o,w,cs,h,hs=>by
   simp only [World.setCells,List.length_nil,Nat.add_zero,List.append_nil,List.take_append_drop];exact h
 | v :: r,o,w,cs,h,hs=>by
   rw [List.length_cons] at hs;rw [World.setCells,bA r (o+1) (ah h o v) (by simp;omega)];congr 2;have hl:o<cs.toList.length:=by simp;omega
   rw [Array.toList_setIfInBounds];have e1:(cs.toList.set o v).take (o+1)=cs.toList.take o ++ [v]:=by rw [List.take_set,List.take_succ_eq_append_getElem hl];rw [List.set_append_right _ _ (by rw [List.length_take];omega),List.length_take,Nat.min_eq_left (by omega),Nat.sub_self];rfl
   have e2:(cs.toList.set o v).drop (o+1+r.length)=cs.toList.drop (o+1+r.length):=List.drop_set_of_lt (by omega);rw [e1,e2,List.length_cons,show o+(r.length+1)=o+1+r.length by omega];simp
theorem cD {g:Nat}:∀ (vs:List Value) (o:Nat) (w:World),Ch (fun k=>k=g) w (w.setCells g o vs)
 | [],_,w=>Ch.refl _ w
 | v :: r,o,w=>((Ch.refl (fun k=>k=g) w).setCell (p:=⟨g,o,none⟩) rfl v).trans (cD r (o+1) _)
theorem aw {w w':World} {g o:Nat} {row:Option Nat} (h:w.grownBy w' row) (hr:row=some g∨w.heap.size≤g) (vs:List Value):w.grownBy (w'.setCells g o vs) row:=by
 have hc:=cD (g:=g) vs o w';refine ⟨hc.os.trans h.os,hc.tape.trans h.tape,hc.output.trans h.output,Nat.le_trans h.size hc.size,fun k hk hn=>?_⟩
 rw [hc.block k (Nat.lt_of_lt_of_le hk h.size) (fun e=>by
  subst e;rcases hr with hr | hr
  ·exact hn hr.symm
  ·omega)]
 exact h.block k hk hn
theorem bG {w w':World} {row:Option Nat} (h:w.grownBy w' row):w.grownBy w'.drew row:=⟨h.os,h.tape,h.output,h.size,h.block⟩
theorem b7 (w:World) (row:Option Nat):w.grownBy w row:=⟨rfl,rfl,rfl,Nat.le_refl _,fun _ _ _=>rfl⟩
theorem gC {w w':World} {row:Option Nat} (h:w.grownBy w' row) (o:Obj):w.grownBy (w'.alloc o) row:=by refine ⟨h.os,h.tape,h.output,Nat.le_trans h.size (by simp),fun k hk hn=>?_⟩;rw [Below.heap_alloc w' o k (Nat.lt_of_lt_of_le hk h.size)];exact h.block k hk hn
theorem fP {α:Type}:∀ (xs:List α) (i:Nat) (x:α),i≤xs.length→xs.insertIdx i x=xs.take i ++ x :: xs.drop i
 | xs,0,x,_=>by simp
 | [],i+1,x,h=>by simp at h
 | a :: xs,i+1,x,h=>by
   rw [List.insertIdx_succ_cons,fP xs i x (by simpa using h)];rfl
theorem cE (b:Nat):∀ (vs:List Value) (o:Nat) (w:World),w.drew.setCells b o vs=(w.setCells b o vs).drew
 | [],_,_=>rfl
 | v :: r,o,w=>by rw [World.setCells,World.setCells,← cE b r];rfl
section
variable {α:Type} {f:α→List Value} {size:Nat} {e:TypeId} {base:Nat} {w w':World} {v:Value} {xs ys:List α}
theorem cy (hl:∀ x,(f x).length=size):∀ (xs:List α) (i:Nat),(xs.flatMap f).take (i * size)=(xs.take i).flatMap f
 | [],i=>by simp
 | x :: xs,0=>by simp
 | x :: xs,i+1=>by
   rw [List.flatMap_cons,List.take_succ_cons,List.flatMap_cons,Nat.succ_mul,Nat.add_comm,List.take_append,hl,List.take_of_length_le (by rw [hl];omega),show size+i * size - size=i * size by omega,cy hl xs i]
theorem cM (hl:∀ x,(f x).length=size):∀ (xs:List α) (i:Nat),(xs.flatMap f).drop (i * size)=(xs.drop i).flatMap f
 | [],i=>by simp
 | x :: xs,0=>by simp
 | x :: xs,i+1=>by
   rw [List.flatMap_cons,List.drop_succ_cons,Nat.succ_mul,Nat.add_comm,List.drop_append,hl,List.drop_of_length_le (by rw [hl];omega),show size+i * size - size=i * size by omega,cM hl xs i,List.nil_append]
theorem Own.len3 {A:Option Addr} {n c:Nat} (h:Own f size e base w (.slice A n c) xs):n=xs.length:=by
 rcases h.2 with ⟨hv,h0⟩ | ⟨g,cap,cur,hv,_⟩
 ·injection hv with _ e2 _;omega
 ·injection hv with _ e2 _
theorem Own.turn {g n c o:Nat} (h:Own f size e base w (.slice (some ⟨g,0,none⟩) n c) xs) (hl:∀ x,(f x).length=size) {vs:List Value} (hn:ys.length≤c) (hr:o+vs.length≤c * size)
  (hy:∀ cur:List Value,cur.length=c * size→cur.take (n * size)=xs.flatMap f→(cur.take o ++ vs ++ cur.drop (o+vs.length)).take (ys.length * size)=ys.flatMap f):
  Own f size e base (w.setCells g o vs) (.slice (some ⟨g,0,none⟩) ys.length c) ys:=by
 refine ⟨ax f size hl _,?_⟩;have hln:=h.len3;rcases h.2 with ⟨hv,h0⟩ | ⟨g',cap,cur,hv,hb,hg,hn',hm,hc,ht⟩
 ·cases hv
 ·injection hv with e1 e2 e3
  injection e1 with e1
  injection e1 with e1
  subst e1 e3;have hcl:cur.toList.length=c * size:=by simpa using hc
  have hs:=bA vs o hg (by rw [hc];exact hr);refine .inr ⟨g,c,_,rfl,hb,hs,hn,hm,?_,?_⟩
  ·simp only [List.size_toArray,List.length_append,List.length_take,List.length_drop,Array.length_toList];rw [hc] at *;omega
  ·exact hy cur.toList hcl (by rw [hln];exact ht)
theorem Own.set {g n c i:Nat} (h:Own f size e base w (.slice (some ⟨g,0,none⟩) n c) xs) (hl:∀ x,(f x).length=size) (hi:i<xs.length) (x:α):Own f size e base (w.setCells g (i * size) (f x)) (.slice (some ⟨g,0,none⟩) n c) (xs.set i x):=by
 have hln:=h.len3;have hnc:n≤c:=by
  rcases h.2 with ⟨hv,h0⟩ | ⟨g',cap,cur,hv,hb,hg,hn',hm,hc,ht⟩
  ·cases hv
  ·injection hv with e1 e2 e3;omega
 have h1:i * size+size≤n * size:=by rw [← Nat.succ_mul];exact Nat.mul_le_mul_right _ (by omega)
 have h2:n * size≤c * size:=Nat.mul_le_mul_right _ hnc
 have:=h.turn (o:=i * size) (vs:=f x) (ys:=xs.set i x) hl (by rw [List.length_set];omega) (by rw [hl];omega) (fun cur hcl ht=>by
  rw [List.length_set,← hln,hl];have e1:cur.take (i * size)=(xs.take i).flatMap f:=by rw [← cy hl,← ht,List.take_take,Nat.min_eq_left (by omega)]
  have e2:(cur.drop (i * size+size)).take (n * size - (i * size+size))=(xs.drop (i+1)).flatMap f:=by rw [← cM hl,← ht,Nat.succ_mul,List.drop_take]
  have e3:xs.set i x=xs.take i ++ x :: xs.drop (i+1):=List.set_eq_take_append_cons_drop .. |>.trans (by rw [if_pos hi]);rw [e3,List.flatMap_append,List.flatMap_cons,← e1,← e2,List.append_assoc,List.take_append,List.length_take,Nat.min_eq_left (by omega),List.take_of_length_le (by rw [List.length_take];omega)];congr 1;rw [List.take_append,hl,List.take_of_length_le (by rw [hl];omega)];congr 2;omega)
 rw [List.length_set,← hln] at this;exact this
theorem Own.insert {g n c i:Nat} (h:Own f size e base w (.slice (some ⟨g,0,none⟩) n c) xs) (hl:∀ x,(f x).length=size) (hi:i≤xs.length) (hroom:n+1≤c) (x:α):
  Own f size e base ((w.setCells g ((i+1) * size) ((xs.drop i).flatMap f)).setCells g (i * size) (f x)) (.slice (some ⟨g,0,none⟩) (n+1) c) (xs.insertIdx i x):=by
 have hln:=h.len3;have hxy:(xs.insertIdx i x).length=n+1:=by rw [List.length_insertIdx_of_le_length hi];omega
 have e3:xs.insertIdx i x=xs.take i ++ x :: xs.drop i:=fP xs i x hi;have hdl:((xs.drop i).flatMap f).length=(n - i) * size:=by rw [ax f size hl,List.length_drop,hln]
 have hadd:(i+1) * size+(n - i) * size=(n+1) * size:=by rw [← Nat.add_mul];congr 1;omega
 have hcs:(n+1) * size≤c * size:=Nat.mul_le_mul_right _ hroom;have hi1:(i+1) * size=i * size+size:=Nat.succ_mul ..;have hn1:(n+1) * size=n * size+size:=Nat.succ_mul ..;have hin:i * size≤n * size:=Nat.mul_le_mul_right _ (by omega);refine ⟨ax f size hl _,?_⟩;rcases h.2 with ⟨hv,h0⟩ | ⟨g',cap,cur,hv,hb,hg,hn',hm,hc,ht⟩
 ·cases hv
 ·injection hv with e1 e2 e4
  injection e1 with e1
  injection e1 with e1
  subst e1 e4;have hcl:cur.toList.length=c * size:=by simpa using hc
  have hs:=bA ((xs.drop i).flatMap f) ((i+1) * size) hg (by rw [hc,hdl];omega);rw [hdl,hadd] at hs;have hs2:=bA (f x) (i * size) hs (by rw [hl];simp only [List.size_toArray,List.length_append,List.length_take,List.length_drop];omega);rw [hl] at hs2;simp only at hs2;refine .inr ⟨g,c,_,by rw [hxy],hb,hs2,by omega,hm,?_,?_⟩
  ·simp only [List.size_toArray,List.length_append,List.length_take,List.length_drop,hl,hdl,hcl];omega
  ·rw [hxy];simp only;have e1:cur.toList.take (i * size)=(xs.take i).flatMap f:=by rw [← cy hl,← ht,List.take_take,Nat.min_eq_left (by rw [← hln];omega)]
   have e5:(List.take (i * size) (List.take ((i+1) * size) cur.toList ++ List.flatMap f (List.drop i xs) ++ List.drop ((n+1) * size) cur.toList))=(xs.take i).flatMap f:=by rw [List.append_assoc,List.take_append,List.length_take,Nat.min_eq_left (by omega),show i * size - (i+1) * size=0 by omega,List.take_zero,List.append_nil,List.take_take,Nat.min_eq_left (by omega),e1]
   have e6:(List.drop (i * size+size) (List.take ((i+1) * size) cur.toList ++ List.flatMap f (List.drop i xs) ++ List.drop ((n+1) * size) cur.toList))=List.flatMap f (List.drop i xs) ++ List.drop ((n+1) * size) cur.toList:=by rw [List.append_assoc,List.drop_append,List.length_take,Nat.min_eq_left (by omega),List.drop_of_length_le (by rw [List.length_take];omega),List.nil_append,show i * size+size - (i+1) * size=0 by omega,List.drop_zero]
   rw [e5,e6,e3,List.flatMap_append,List.flatMap_cons,← List.append_assoc,← List.append_assoc,List.append_assoc,List.append_assoc];rw [← List.append_assoc,← List.append_assoc];have e7:((xs.take i).flatMap f ++ f x ++ (xs.drop i).flatMap f).length=(n+1) * size:=by simp only [List.length_append,ax f size hl,List.length_take,List.length_drop,hl];rw [← hln,Nat.min_eq_left (by omega)];omega
   rw [← e7,List.take_left]
theorem Own.insert_new {i cap:Nat} (hl:∀ x,(f x).length=size) (hi:i≤xs.length) (x:α) (hb:base≤w.heap.size) (hc:xs.length+1≤cap) (hm:cap≤maxLen)
  {cs:Array Value} (hcs:cs.size=cap * size) (ht:cs.toList.take (i * size)=(xs.take i).flatMap f):
  Own f size e base (((w.alloc (.cells cs e)).setCells w.heap.size (i * size) (f x)).setCells w.heap.size ((i+1) * size) ((xs.drop i).flatMap f)) (.slice (some ⟨w.heap.size,0,none⟩) (xs.length+1) cap) (xs.insertIdx i x):=by
 have hxy:(xs.insertIdx i x).length=xs.length+1:=by rw [List.length_insertIdx_of_le_length hi]
 have e3:xs.insertIdx i x=xs.take i ++ x :: xs.drop i:=fP xs i x hi;have hdl:((xs.drop i).flatMap f).length=(xs.length - i) * size:=by rw [ax f size hl,List.length_drop]
 have hadd:(i+1) * size+(xs.length - i) * size=(xs.length+1) * size:=by rw [← Nat.add_mul];congr 1;omega
 have hcz:(xs.length+1) * size≤cap * size:=Nat.mul_le_mul_right _ hc;have hi1:(i+1) * size=i * size+size:=Nat.succ_mul ..;have hg:(w.alloc (.cells cs e)).heap[w.heap.size]?=some (.cells cs e (0,0)):=heap_alloc_new w _;have hcl:cs.toList.length=cap * size:=by simpa using hcs
 have hs:=bA (f x) (i * size) hg (by rw [hl,hcs];omega);rw [hl] at hs;have hs2:=bA ((xs.drop i).flatMap f) ((i+1) * size) hs (by rw [hdl];simp only [List.size_toArray,List.length_append,List.length_take,List.length_drop,hl,hcl];omega);rw [hdl,hadd] at hs2;refine ⟨ax f size hl _,.inr ⟨w.heap.size,cap,_,by rw [hxy],hb,hs2,by omega,hm,?_,?_⟩⟩
 ·simp only [List.size_toArray,List.length_append,List.length_take,List.length_drop,hl,hdl,hcl];omega
 ·rw [hxy];simp only;have e5:List.take ((i+1) * size) (List.take (i * size) cs.toList ++ f x ++ List.drop (i * size+size) cs.toList)=(xs.take i).flatMap f ++ f x:=by rw [List.take_append,List.take_of_length_le (by simp only [List.length_append,List.length_take,hl];omega),ht];rw [show (i+1) * size - ((xs.take i).flatMap f ++ f x).length=0 by rw [List.length_append,← ht,List.length_take,hl,hcl];omega];simp
  rw [e5,e3,List.flatMap_append,List.flatMap_cons,List.take_append,List.take_of_length_le (by simp only [List.length_append,ax f size hl,List.length_take,hl,List.length_drop];rw [Nat.min_eq_left hi];omega)];rw [show (xs.length+1) * size - ((xs.take i).flatMap f ++ f x ++ (xs.drop i).flatMap f).length=0 by simp only [List.length_append,ax f size hl,List.length_take,hl,List.length_drop];rw [Nat.min_eq_left hi];omega];simp
theorem Own.drew (h:Own f size e base w v xs):Own f size e base w.drew v xs:=h
end
theorem bE {P:Program} (w:World) (dT sT ty elem:TypeId) (b o dLen dCap:Nat) (a:Addr) (sLen sCap:Nat) (cs:List Value) (size:Nat)
  (hu:P.underlying dT=some (.slice elem)) (hs:(P.info? elem).map (·.size)=some size) (hn:cs.length=Nat.min sLen dLen * size)
  (hsrc:∀ j v,cs[j]?=some v→w.cell? (a.add j)=some v) (hc:∀ j,j<cs.length→(w.cell? ⟨b,o+j,none⟩).isSome=true) (hf:∀ j,j<cs.length→w.frozen? ⟨b,o+j,none⟩=false) (h1:∀ v ∈ cs,v.oneCell'=true):
  (Builtin.copy_ #[dT,sT] ty #[.slice (some ⟨b,o,none⟩) dLen dCap,.slice (some a) sLen sCap]).run P w=.ok (goInt (Nat.min sLen dLen)) (w.setCells b o cs):=by
 have hl:=run_loadCells_list (P:=P) w a cs hsrc;have hst:=run_storeCells_cells (P:=P) b o cs 0 w (by simpa using hc) (by simpa using hf) h1;cases hq:P.info? elem with
 | none=>simp [hq] at hs
 | some i=>
   have hi:i.size=size:=by simpa [hq] using hs
   simp [Builtin.copy_,run_underlying hu,Builtin.lenOf,Builtin.firstCells,sizeOf,typeInfo,hq,hi,← hn,hl,hst]
theorem cW {P:Program} (w:World) (t e ty:TypeId) (z:Value) (ht:P.underlying t=some (.slice e)) (hv:∀ w,(zeroValue e).run P w=.ok z w) (b o n c:Nat) (hn:0<n)
  (vs:List Value) (hvs:(Builtin.zeroCells z.cells n).toList=vs) (h1:∀ v ∈ vs,v.oneCell'=true)
  (hc:∀ j,j<vs.length→(w.cell? ⟨b,o+j,none⟩).isSome=true) (hf:∀ j,j<vs.length→w.frozen? ⟨b,o+j,none⟩=false):
  (Builtin.clear_ #[t] ty #[.slice (some ⟨b,o,none⟩) n c]).run P w=.ok (.tuple #[]) (w.setCells b o vs):=by
 have hst:=run_storeCells_cells (P:=P) b o vs 0 w (by simpa using hc) (by simpa using hf) h1;simp only [Nat.add_zero] at hst;obtain ⟨m,rfl⟩:∃ m,n=m+1:=⟨n - 1,by omega⟩;have hvs2:Builtin.zeroCells z.cells (m+1)=vs.toArray:=by rw [← hvs]
 simp [Builtin.clear_,run_underlying ht,hv,hvs2,hst]
end Go.Proofs.YtknioodagnjchaaGreatDoor
