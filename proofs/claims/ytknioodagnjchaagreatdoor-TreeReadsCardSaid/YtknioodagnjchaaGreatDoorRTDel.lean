/- slices.Delete of one element, Clone, Grow, Concat of two, at rows. -/
import Derived.Test.YtknioodagnjchaaGreatDoorRTIns
import Derived.Shelf.Slices.Delete
set_option maxRecDepth 100000
set_option maxHeartbeats 4000000
namespace Go.Proofs.YtknioodagnjchaaGreatDoor
open Go.Lib (hid)
open Go.RowKit
theorem dy {α:Type}:∀ (xs:List α) (i:Nat),xs.eraseIdx i=xs.take i ++ xs.drop (i+1)
 | [],i=>by simp
 | a :: xs,0=>by simp
 | a :: xs,i+1=>by rw [List.eraseIdx_cons_succ,dy xs i];rfl
theorem nq (xs:List By) (i:Nat) (base g c:Nat) (w:World) (h:Own sC 1 9 base w (.slice (some ⟨g,0,none⟩) xs.length c) xs) (hi:i<xs.length) (hn:xs.length≤100000):
  Calls Tryz.prog 74 #[.slice (some ⟨g,0,none⟩) xs.length c,.int .i64 i,.int .i64 ((i:Int)+1)] w fun e w'=>
   e=.returned (.slice (some ⟨g,0,none⟩) (xs.length - 1) c)∧Own sC 1 9 base w' (.slice (some ⟨g,0,none⟩) (xs.length - 1) c) (xs.eraseIdx i)∧w.grownBy w' (some g):=by
 have mixed:Tryz.prog.follows .mixedOrders=true:=by kernel_rfl
 have hu:=Tryz.underlying22;obtain ⟨_,⟨i0,z,hi0,hz0,hsz,hby,hzs⟩,_,_,_⟩:=f8;clear hz0 hby hzs;obtain ⟨cur,hg,hnc,hcm,hcs,htk⟩:∃ cur:Array Value,w.heap[g]?=some (.cells cur 9 (0,0))∧xs.length≤c∧c≤maxLen∧cur.size=c * 1∧cur.toList.take (xs.length * 1)=xs.flatMap sC:=by
  rcases h.2 with ⟨hv,_⟩ | ⟨g',cap,cur,hv,_,hg,hnc,hm,hc,ht⟩
  ·cases hv
  ·injection hv with e1 e2 e3
   injection e1 with e1
   injection e1 with e1
   subst e1 e3;exact ⟨cur,hg,hnc,hm,hc,ht⟩
 unfold maxLen at hcm;have hel:(xs.eraseIdx i).length=xs.length - 1:=by rw [dy,List.length_append,List.length_take,List.length_drop];omega
 have hdl:((xs.drop (i+1)).flatMap sC).length=(xs.length - (i+1)) * 1:=by rw [ax sC 1 (f8).hl,List.length_drop]
 have hread:∀ j v,(xs.flatMap sC)[j]?=some v→w.cell? ⟨g,j,none⟩=some v:=fun j v hj=>by
  rw [← htk,List.getElem?_take] at hj
  split at hj
  ·rw [ac hg];simpa using hj
  ·cases hj
 by_cases hq:c=i+1
 ·subst hq;have hd0:xs.drop (i+1)=[]:=List.drop_eq_nil_of_le (by omega);obtain ⟨W1,hW1⟩:∃ W1,W1=w.drew.setCells g (0+i * 1) ((xs.drop (i+1)).flatMap sC):=⟨_,rfl⟩;have HO1:=hid (show Own sC 1 9 base W1 (.slice (some ⟨g,0,none⟩) (xs.length - 1) (i+1)) (xs.eraseIdx i) by
   have:=Own.turn (Own.drew h) (o:=0+i * 1) (vs:=(xs.drop (i+1)).flatMap sC) (ys:=xs.eraseIdx i) (f8).hl (by rw [hel];omega) (by rw [hdl];omega) (fun cur hcl ht=>by
    rw [hel,hdl,Nat.zero_add,dy,List.flatMap_append];have e1:cur.take (i * 1)=(xs.take i).flatMap sC:=by rw [← cy (f8).hl,← ht,List.take_take,Nat.min_eq_left (by omega)]
    rw [e1,List.take_append,List.take_of_length_le (by rw [List.length_append,ax sC 1 (f8).hl,ax sC 1 (f8).hl,List.length_take,List.length_drop,Nat.min_eq_left (by omega)];omega)];rw [List.length_append,ax sC 1 (f8).hl,ax sC 1 (f8).hl,List.length_take,List.length_drop,Nat.min_eq_left (by omega),show (xs.length - 1) * 1 - (i * 1+(xs.length - (i+1)) * 1)=0 by omega];simp)
   rw [hel] at this;rw [hW1];exact this)
  have hg1:=bA ((xs.drop (i+1)).flatMap sC) (0+i * 1) (w:=w.drew) hg (by rw [hdl,hcs];omega);rw [← hW1] at hg1;have hcl:∀ ty,(Builtin.clear_ #[22] ty #[.slice (some ⟨g,xs.length - 1,none⟩) 1 ((i+1) - (xs.length - 1))]).run Tryz.prog W1=.ok (.tuple #[]) (W1.setCells g (xs.length - 1) [.string ⟨#[]⟩]):=fun ty=>
   cW (P:=Tryz.prog) W1 22 9 ty _ hu (fun _=>rfl) g (xs.length - 1) 1 _ (by omega) [.string ⟨#[]⟩] (by first | rfl | kernel_rfl | simp [Builtin.zeroCells,Value.cells]) (by simp [Value.oneCell']) (fun j hj=>by
    have hj2:j<1:=hj;rw [ac hg1,Array.getElem?_eq_getElem (by simp only [List.size_toArray,List.length_append,List.length_take,List.length_drop,Array.length_toList,hdl];omega)];rfl) (fun j hj=>ab hg1 _)
  have HO2:=hid (show Own sC 1 9 base (W1.setCells g (xs.length - 1) [.string ⟨#[]⟩]) (.slice (some ⟨g,0,none⟩) (xs.length - 1) (i+1)) (xs.eraseIdx i) by
   have:=Own.turn HO1.out (o:=xs.length - 1) (vs:=[.string ⟨#[]⟩]) (ys:=xs.eraseIdx i) (f8).hl (by rw [hel];omega) (by show xs.length - 1+1≤(i+1) * 1;omega) (fun cur hcl ht=>by
    rw [hel,List.append_assoc,List.take_append,List.length_take,Nat.min_eq_left (by omega),show (xs.length - 1) * 1 - (xs.length - 1)=0 by omega,List.take_zero,List.append_nil,List.take_take,Nat.min_eq_left (by omega)];exact ht)
   rw [hel] at this;exact this)
  have HGR:=hid (show w.grownBy (W1.setCells g (xs.length - 1) [.string ⟨#[]⟩]) (some g) by
   rw [hW1];exact aw (aw (bG (b7 w _)) (.inl rfl) _) (.inl rfl) _)
  have s1:Hid (((xs.drop (i+1)).flatMap sC).length=(xs.length - (i+1)) * 1):=hdl
  have s2:Hid (∀ u ∈ (xs.drop (i+1)).flatMap sC,u.oneCell'=true):=fun u hu=>by
   obtain ⟨x,_,hx⟩:=List.mem_flatMap.1 hu;exact (f8).h1 x u hx
  have s3:Hid (∀ t,t<((xs.drop (i+1)).flatMap sC).length→(w.drew.cell? ⟨g,0+i * 1+t,none⟩).isSome=true∧w.drew.frozen? ⟨g,0+i * 1+t,none⟩=false):=fun t ht=>by
   rw [hdl] at ht;refine ⟨?_,ab (w:=w.drew) hg _⟩;rw [ac (w:=w.drew) hg,Array.getElem?_eq_getElem (by omega)];rfl
  have s4:Hid (∀ t u,((xs.drop (i+1)).flatMap sC)[t]?=some u→w.drew.cell? ((⟨g,0,none⟩:Addr).add t)=some u):=fun t u hu=>by
   rw [hd0] at hu;simp at hu
  have HW1:=hid hW1;have hic:i≤(i+1):=by omega
  have hjc:i+1≤(i+1):=by omega
  have hne1:¬ ((i:Int)=(i:Int)+1):=by omega
  have hw1:IntKind.i64.wrap ((i:Int)+1)=(i:Int)+1:=by rw [IntKind.wrap_i64];omega
  have hb1:(0:Int)≤(i:Int)+1:=by omega
  have hb2:(i:Int)+1≤(xs.length:Int):=by omega
  have hb3:(i:Int)≤(i:Int)+1:=by omega
  have htn:((i:Int)+1).toNat=i+1:=by omega
  have hnl:i+(xs.length - (i+1))=xs.length - 1:=by omega
  have hnl2:xs.length - (xs.length - 1)=1:=by omega
  have hnl3:xs.length - 1≤xs.length:=by omega
  have hnl4:((xs.length - 1:Nat):Int)≤(xs.length:Int):=by omega
  have hnl5:¬ ((i+1)=xs.length - 1):=by omega
  have hnl6:xs.length≤(i+1):=by omega
  have hi1:i+1≤xs.length:=by omega
  clear hW1 hg1 hdl hel hcs htk hg h hread;go_enter Tryz.func74,Tryz.ntmps74;go_wp2_with fail;go_region_law_o (refine step_append_room rfl (.tmp 22) (.tmp 25) 22 rfl 9 i0 1 hu hi0 hsz g 0 i (i+1) (by simp [Act.eval,Act.put]) ⟨g,0,none⟩ (xs.length - (i+1)) 0 ((xs.drop (i+1)).flatMap sC) (by simp [Act.eval,Act.put] <;> omega) s1.out s4.out s2.out (by omega) s3.out ?_;rw [← HW1.out,hnl]);go_wp2;go_ret;exact ⟨rfl,HO2.out,HGR.out⟩
 ·skip;obtain ⟨W1,hW1⟩:∃ W1,W1=w.drew.setCells g (0+i * 1) ((xs.drop (i+1)).flatMap sC):=⟨_,rfl⟩;have HO1:=hid (show Own sC 1 9 base W1 (.slice (some ⟨g,0,none⟩) (xs.length - 1) c) (xs.eraseIdx i) by
   have:=Own.turn (Own.drew h) (o:=0+i * 1) (vs:=(xs.drop (i+1)).flatMap sC) (ys:=xs.eraseIdx i) (f8).hl (by rw [hel];omega) (by rw [hdl];omega) (fun cur hcl ht=>by
    rw [hel,hdl,Nat.zero_add,dy,List.flatMap_append];have e1:cur.take (i * 1)=(xs.take i).flatMap sC:=by rw [← cy (f8).hl,← ht,List.take_take,Nat.min_eq_left (by omega)]
    rw [e1,List.take_append,List.take_of_length_le (by rw [List.length_append,ax sC 1 (f8).hl,ax sC 1 (f8).hl,List.length_take,List.length_drop,Nat.min_eq_left (by omega)];omega)];rw [List.length_append,ax sC 1 (f8).hl,ax sC 1 (f8).hl,List.length_take,List.length_drop,Nat.min_eq_left (by omega),show (xs.length - 1) * 1 - (i * 1+(xs.length - (i+1)) * 1)=0 by omega];simp)
   rw [hel] at this;rw [hW1];exact this)
  have hg1:=bA ((xs.drop (i+1)).flatMap sC) (0+i * 1) (w:=w.drew) hg (by rw [hdl,hcs];omega);rw [← hW1] at hg1;have hcl:∀ ty,(Builtin.clear_ #[22] ty #[.slice (some ⟨g,xs.length - 1,none⟩) 1 (c - (xs.length - 1))]).run Tryz.prog W1=.ok (.tuple #[]) (W1.setCells g (xs.length - 1) [.string ⟨#[]⟩]):=fun ty=>
   cW (P:=Tryz.prog) W1 22 9 ty _ hu (fun _=>rfl) g (xs.length - 1) 1 _ (by omega) [.string ⟨#[]⟩] (by first | rfl | kernel_rfl | simp [Builtin.zeroCells,Value.cells]) (by simp [Value.oneCell']) (fun j hj=>by
    have hj2:j<1:=hj;rw [ac hg1,Array.getElem?_eq_getElem (by simp only [List.size_toArray,List.length_append,List.length_take,List.length_drop,Array.length_toList,hdl];omega)];rfl) (fun j hj=>ab hg1 _)
  have HO2:=hid (show Own sC 1 9 base (W1.setCells g (xs.length - 1) [.string ⟨#[]⟩]) (.slice (some ⟨g,0,none⟩) (xs.length - 1) c) (xs.eraseIdx i) by
   have:=Own.turn HO1.out (o:=xs.length - 1) (vs:=[.string ⟨#[]⟩]) (ys:=xs.eraseIdx i) (f8).hl (by rw [hel];omega) (by show xs.length - 1+1≤c * 1;omega) (fun cur hcl ht=>by
    rw [hel,List.append_assoc,List.take_append,List.length_take,Nat.min_eq_left (by omega),show (xs.length - 1) * 1 - (xs.length - 1)=0 by omega,List.take_zero,List.append_nil,List.take_take,Nat.min_eq_left (by omega)];exact ht)
   rw [hel] at this;exact this)
  have HGR:=hid (show w.grownBy (W1.setCells g (xs.length - 1) [.string ⟨#[]⟩]) (some g) by
   rw [hW1];exact aw (aw (bG (b7 w _)) (.inl rfl) _) (.inl rfl) _)
  have s1:Hid (((xs.drop (i+1)).flatMap sC).length=(xs.length - (i+1)) * 1):=hdl
  have s2:Hid (∀ u ∈ (xs.drop (i+1)).flatMap sC,u.oneCell'=true):=fun u hu=>by
   obtain ⟨x,_,hx⟩:=List.mem_flatMap.1 hu;exact (f8).h1 x u hx
  have s3:Hid (∀ t,t<((xs.drop (i+1)).flatMap sC).length→(w.drew.cell? ⟨g,0+i * 1+t,none⟩).isSome=true∧w.drew.frozen? ⟨g,0+i * 1+t,none⟩=false):=fun t ht=>by
   rw [hdl] at ht;refine ⟨?_,ab (w:=w.drew) hg _⟩;rw [ac (w:=w.drew) hg,Array.getElem?_eq_getElem (by omega)];rfl
  have s4:Hid (∀ t u,((xs.drop (i+1)).flatMap sC)[t]?=some u→w.drew.cell? ((⟨g,i+1,none⟩:Addr).add t)=some u):=fun t u hu=>by
   rw [Addr.add_lit];have h9:=hread ((i+1) * 1+t) u (by rw [← cM (f8).hl,List.getElem?_drop] at hu;exact hu);first | exact h9 | simpa using h9
  have HW1:=hid hW1;have hic:i≤c:=by omega
  have hjc:i+1≤c:=by omega
  have hne1:¬ ((i:Int)=(i:Int)+1):=by omega
  have hw1:IntKind.i64.wrap ((i:Int)+1)=(i:Int)+1:=by rw [IntKind.wrap_i64];omega
  have hb1:(0:Int)≤(i:Int)+1:=by omega
  have hb2:(i:Int)+1≤(xs.length:Int):=by omega
  have hb3:(i:Int)≤(i:Int)+1:=by omega
  have htn:((i:Int)+1).toNat=i+1:=by omega
  have hnl:i+(xs.length - (i+1))=xs.length - 1:=by omega
  have hnl2:xs.length - (xs.length - 1)=1:=by omega
  have hnl3:xs.length - 1≤xs.length:=by omega
  have hnl4:((xs.length - 1:Nat):Int)≤(xs.length:Int):=by omega
  have hnl5:¬ (c=xs.length - 1):=by omega
  have hnl6:xs.length≤c:=by omega
  have hi1:i+1≤xs.length:=by omega
  clear hW1 hg1 hdl hel hcs htk hg h hread;go_enter Tryz.func74,Tryz.ntmps74;go_wp2_with fail;go_region_law_o (refine step_append_room rfl (.tmp 22) (.tmp 25) 22 rfl 9 i0 1 hu hi0 hsz g 0 i c (by simp [Act.eval,Act.put]) ⟨g,i+1,none⟩ (xs.length - (i+1)) (c - (i+1)) ((xs.drop (i+1)).flatMap sC) (by simp [Act.eval,Act.put] <;> omega) s1.out s4.out s2.out (by omega) s3.out ?_;rw [← HW1.out,hnl]);go_wp2;go_ret;exact ⟨rfl,HO2.out,HGR.out⟩
theorem rn (xs:List Int) (i:Nat) (base g c:Nat) (w:World) (h:Own iC 1 3 base w (.slice (some ⟨g,0,none⟩) xs.length c) xs) (hi:i<xs.length) (hn:xs.length≤100000):
  Calls Tryz.prog 220 #[.slice (some ⟨g,0,none⟩) xs.length c,.int .i64 i,.int .i64 ((i:Int)+1)] w fun e w'=>
   e=.returned (.slice (some ⟨g,0,none⟩) (xs.length - 1) c)∧Own iC 1 3 base w' (.slice (some ⟨g,0,none⟩) (xs.length - 1) c) (xs.eraseIdx i)∧w.grownBy w' (some g):=by
 have mixed:Tryz.prog.follows .mixedOrders=true:=by kernel_rfl
 have hu:=Tryz.underlying37;obtain ⟨_,⟨i0,z,hi0,hz0,hsz,hby,hzs⟩,_,_,_⟩:=bt;clear hz0 hby hzs;obtain ⟨cur,hg,hnc,hcm,hcs,htk⟩:∃ cur:Array Value,w.heap[g]?=some (.cells cur 3 (0,0))∧xs.length≤c∧c≤maxLen∧cur.size=c * 1∧cur.toList.take (xs.length * 1)=xs.flatMap iC:=by
  rcases h.2 with ⟨hv,_⟩ | ⟨g',cap,cur,hv,_,hg,hnc,hm,hc,ht⟩
  ·cases hv
  ·injection hv with e1 e2 e3
   injection e1 with e1
   injection e1 with e1
   subst e1 e3;exact ⟨cur,hg,hnc,hm,hc,ht⟩
 unfold maxLen at hcm;have hel:(xs.eraseIdx i).length=xs.length - 1:=by rw [dy,List.length_append,List.length_take,List.length_drop];omega
 have hdl:((xs.drop (i+1)).flatMap iC).length=(xs.length - (i+1)) * 1:=by rw [ax iC 1 (bt).hl,List.length_drop]
 have hread:∀ j v,(xs.flatMap iC)[j]?=some v→w.cell? ⟨g,j,none⟩=some v:=fun j v hj=>by
  rw [← htk,List.getElem?_take] at hj
  split at hj
  ·rw [ac hg];simpa using hj
  ·cases hj
 by_cases hq:c=i+1
 ·subst hq;have hd0:xs.drop (i+1)=[]:=List.drop_eq_nil_of_le (by omega);obtain ⟨W1,hW1⟩:∃ W1,W1=w.drew.setCells g (0+i * 1) ((xs.drop (i+1)).flatMap iC):=⟨_,rfl⟩;have HO1:=hid (show Own iC 1 3 base W1 (.slice (some ⟨g,0,none⟩) (xs.length - 1) (i+1)) (xs.eraseIdx i) by
   have:=Own.turn (Own.drew h) (o:=0+i * 1) (vs:=(xs.drop (i+1)).flatMap iC) (ys:=xs.eraseIdx i) (bt).hl (by rw [hel];omega) (by rw [hdl];omega) (fun cur hcl ht=>by
    rw [hel,hdl,Nat.zero_add,dy,List.flatMap_append];have e1:cur.take (i * 1)=(xs.take i).flatMap iC:=by rw [← cy (bt).hl,← ht,List.take_take,Nat.min_eq_left (by omega)]
    rw [e1,List.take_append,List.take_of_length_le (by rw [List.length_append,ax iC 1 (bt).hl,ax iC 1 (bt).hl,List.length_take,List.length_drop,Nat.min_eq_left (by omega)];omega)];rw [List.length_append,ax iC 1 (bt).hl,ax iC 1 (bt).hl,List.length_take,List.length_drop,Nat.min_eq_left (by omega),show (xs.length - 1) * 1 - (i * 1+(xs.length - (i+1)) * 1)=0 by omega];simp)
   rw [hel] at this;rw [hW1];exact this)
  have hg1:=bA ((xs.drop (i+1)).flatMap iC) (0+i * 1) (w:=w.drew) hg (by rw [hdl,hcs];omega);rw [← hW1] at hg1;have hcl:∀ ty,(Builtin.clear_ #[37] ty #[.slice (some ⟨g,xs.length - 1,none⟩) 1 ((i+1) - (xs.length - 1))]).run Tryz.prog W1=.ok (.tuple #[]) (W1.setCells g (xs.length - 1) [.int .i64 0]):=fun ty=>
   cW (P:=Tryz.prog) W1 37 3 ty _ hu (fun _=>rfl) g (xs.length - 1) 1 _ (by omega) [.int .i64 0] (by first | rfl | kernel_rfl | simp [Builtin.zeroCells,Value.cells]) (by simp [Value.oneCell']) (fun j hj=>by
    have hj2:j<1:=hj;rw [ac hg1,Array.getElem?_eq_getElem (by simp only [List.size_toArray,List.length_append,List.length_take,List.length_drop,Array.length_toList,hdl];omega)];rfl) (fun j hj=>ab hg1 _)
  have HO2:=hid (show Own iC 1 3 base (W1.setCells g (xs.length - 1) [.int .i64 0]) (.slice (some ⟨g,0,none⟩) (xs.length - 1) (i+1)) (xs.eraseIdx i) by
   have:=Own.turn HO1.out (o:=xs.length - 1) (vs:=[.int .i64 0]) (ys:=xs.eraseIdx i) (bt).hl (by rw [hel];omega) (by show xs.length - 1+1≤(i+1) * 1;omega) (fun cur hcl ht=>by
    rw [hel,List.append_assoc,List.take_append,List.length_take,Nat.min_eq_left (by omega),show (xs.length - 1) * 1 - (xs.length - 1)=0 by omega,List.take_zero,List.append_nil,List.take_take,Nat.min_eq_left (by omega)];exact ht)
   rw [hel] at this;exact this)
  have HGR:=hid (show w.grownBy (W1.setCells g (xs.length - 1) [.int .i64 0]) (some g) by
   rw [hW1];exact aw (aw (bG (b7 w _)) (.inl rfl) _) (.inl rfl) _)
  have s1:Hid (((xs.drop (i+1)).flatMap iC).length=(xs.length - (i+1)) * 1):=hdl
  have s2:Hid (∀ u ∈ (xs.drop (i+1)).flatMap iC,u.oneCell'=true):=fun u hu=>by
   obtain ⟨x,_,hx⟩:=List.mem_flatMap.1 hu;exact (bt).h1 x u hx
  have s3:Hid (∀ t,t<((xs.drop (i+1)).flatMap iC).length→(w.drew.cell? ⟨g,0+i * 1+t,none⟩).isSome=true∧w.drew.frozen? ⟨g,0+i * 1+t,none⟩=false):=fun t ht=>by
   rw [hdl] at ht;refine ⟨?_,ab (w:=w.drew) hg _⟩;rw [ac (w:=w.drew) hg,Array.getElem?_eq_getElem (by omega)];rfl
  have s4:Hid (∀ t u,((xs.drop (i+1)).flatMap iC)[t]?=some u→w.drew.cell? ((⟨g,0,none⟩:Addr).add t)=some u):=fun t u hu=>by
   rw [hd0] at hu;simp at hu
  have HW1:=hid hW1;have hic:i≤(i+1):=by omega
  have hjc:i+1≤(i+1):=by omega
  have hne1:¬ ((i:Int)=(i:Int)+1):=by omega
  have hw1:IntKind.i64.wrap ((i:Int)+1)=(i:Int)+1:=by rw [IntKind.wrap_i64];omega
  have hb1:(0:Int)≤(i:Int)+1:=by omega
  have hb2:(i:Int)+1≤(xs.length:Int):=by omega
  have hb3:(i:Int)≤(i:Int)+1:=by omega
  have htn:((i:Int)+1).toNat=i+1:=by omega
  have hnl:i+(xs.length - (i+1))=xs.length - 1:=by omega
  have hnl2:xs.length - (xs.length - 1)=1:=by omega
  have hnl3:xs.length - 1≤xs.length:=by omega
  have hnl4:((xs.length - 1:Nat):Int)≤(xs.length:Int):=by omega
  have hnl5:¬ ((i+1)=xs.length - 1):=by omega
  have hnl6:xs.length≤(i+1):=by omega
  have hi1:i+1≤xs.length:=by omega
  clear hW1 hg1 hdl hel hcs htk hg h hread;go_enter Tryz.func220,Tryz.ntmps220;go_wp2_with fail;go_region_law_o (refine step_append_room rfl (.tmp 22) (.tmp 25) 37 rfl 3 i0 1 hu hi0 hsz g 0 i (i+1) (by simp [Act.eval,Act.put]) ⟨g,0,none⟩ (xs.length - (i+1)) 0 ((xs.drop (i+1)).flatMap iC) (by simp [Act.eval,Act.put] <;> omega) s1.out s4.out s2.out (by omega) s3.out ?_;rw [← HW1.out,hnl]);go_wp2;go_ret;exact ⟨rfl,HO2.out,HGR.out⟩
 ·skip;obtain ⟨W1,hW1⟩:∃ W1,W1=w.drew.setCells g (0+i * 1) ((xs.drop (i+1)).flatMap iC):=⟨_,rfl⟩;have HO1:=hid (show Own iC 1 3 base W1 (.slice (some ⟨g,0,none⟩) (xs.length - 1) c) (xs.eraseIdx i) by
   have:=Own.turn (Own.drew h) (o:=0+i * 1) (vs:=(xs.drop (i+1)).flatMap iC) (ys:=xs.eraseIdx i) (bt).hl (by rw [hel];omega) (by rw [hdl];omega) (fun cur hcl ht=>by
    rw [hel,hdl,Nat.zero_add,dy,List.flatMap_append];have e1:cur.take (i * 1)=(xs.take i).flatMap iC:=by rw [← cy (bt).hl,← ht,List.take_take,Nat.min_eq_left (by omega)]
    rw [e1,List.take_append,List.take_of_length_le (by rw [List.length_append,ax iC 1 (bt).hl,ax iC 1 (bt).hl,List.length_take,List.length_drop,Nat.min_eq_left (by omega)];omega)];rw [List.length_append,ax iC 1 (bt).hl,ax iC 1 (bt).hl,List.length_take,List.length_drop,Nat.min_eq_left (by omega),show (xs.length - 1) * 1 - (i * 1+(xs.length - (i+1)) * 1)=0 by omega];simp)
   rw [hel] at this;rw [hW1];exact this)
  have hg1:=bA ((xs.drop (i+1)).flatMap iC) (0+i * 1) (w:=w.drew) hg (by rw [hdl,hcs];omega);rw [← hW1] at hg1;have hcl:∀ ty,(Builtin.clear_ #[37] ty #[.slice (some ⟨g,xs.length - 1,none⟩) 1 (c - (xs.length - 1))]).run Tryz.prog W1=.ok (.tuple #[]) (W1.setCells g (xs.length - 1) [.int .i64 0]):=fun ty=>
   cW (P:=Tryz.prog) W1 37 3 ty _ hu (fun _=>rfl) g (xs.length - 1) 1 _ (by omega) [.int .i64 0] (by first | rfl | kernel_rfl | simp [Builtin.zeroCells,Value.cells]) (by simp [Value.oneCell']) (fun j hj=>by
    have hj2:j<1:=hj;rw [ac hg1,Array.getElem?_eq_getElem (by simp only [List.size_toArray,List.length_append,List.length_take,List.length_drop,Array.length_toList,hdl];omega)];rfl) (fun j hj=>ab hg1 _)
  have HO2:=hid (show Own iC 1 3 base (W1.setCells g (xs.length - 1) [.int .i64 0]) (.slice (some ⟨g,0,none⟩) (xs.length - 1) c) (xs.eraseIdx i) by
   have:=Own.turn HO1.out (o:=xs.length - 1) (vs:=[.int .i64 0]) (ys:=xs.eraseIdx i) (bt).hl (by rw [hel];omega) (by show xs.length - 1+1≤c * 1;omega) (fun cur hcl ht=>by
    rw [hel,List.append_assoc,List.take_append,List.length_take,Nat.min_eq_left (by omega),show (xs.length - 1) * 1 - (xs.length - 1)=0 by omega,List.take_zero,List.append_nil,List.take_take,Nat.min_eq_left (by omega)];exact ht)
   rw [hel] at this;exact this)
  have HGR:=hid (show w.grownBy (W1.setCells g (xs.length - 1) [.int .i64 0]) (some g) by
   rw [hW1];exact aw (aw (bG (b7 w _)) (.inl rfl) _) (.inl rfl) _)
  have s1:Hid (((xs.drop (i+1)).flatMap iC).length=(xs.length - (i+1)) * 1):=hdl
  have s2:Hid (∀ u ∈ (xs.drop (i+1)).flatMap iC,u.oneCell'=true):=fun u hu=>by
   obtain ⟨x,_,hx⟩:=List.mem_flatMap.1 hu;exact (bt).h1 x u hx
  have s3:Hid (∀ t,t<((xs.drop (i+1)).flatMap iC).length→(w.drew.cell? ⟨g,0+i * 1+t,none⟩).isSome=true∧w.drew.frozen? ⟨g,0+i * 1+t,none⟩=false):=fun t ht=>by
   rw [hdl] at ht;refine ⟨?_,ab (w:=w.drew) hg _⟩;rw [ac (w:=w.drew) hg,Array.getElem?_eq_getElem (by omega)];rfl
  have s4:Hid (∀ t u,((xs.drop (i+1)).flatMap iC)[t]?=some u→w.drew.cell? ((⟨g,i+1,none⟩:Addr).add t)=some u):=fun t u hu=>by
   rw [Addr.add_lit];have h9:=hread ((i+1) * 1+t) u (by rw [← cM (bt).hl,List.getElem?_drop] at hu;exact hu);first | exact h9 | simpa using h9
  have HW1:=hid hW1;have hic:i≤c:=by omega
  have hjc:i+1≤c:=by omega
  have hne1:¬ ((i:Int)=(i:Int)+1):=by omega
  have hw1:IntKind.i64.wrap ((i:Int)+1)=(i:Int)+1:=by rw [IntKind.wrap_i64];omega
  have hb1:(0:Int)≤(i:Int)+1:=by omega
  have hb2:(i:Int)+1≤(xs.length:Int):=by omega
  have hb3:(i:Int)≤(i:Int)+1:=by omega
  have htn:((i:Int)+1).toNat=i+1:=by omega
  have hnl:i+(xs.length - (i+1))=xs.length - 1:=by omega
  have hnl2:xs.length - (xs.length - 1)=1:=by omega
  have hnl3:xs.length - 1≤xs.length:=by omega
  have hnl4:((xs.length - 1:Nat):Int)≤(xs.length:Int):=by omega
  have hnl5:¬ (c=xs.length - 1):=by omega
  have hnl6:xs.length≤c:=by omega
  have hi1:i+1≤xs.length:=by omega
  clear hW1 hg1 hdl hel hcs htk hg h hread;go_enter Tryz.func220,Tryz.ntmps220;go_wp2_with fail;go_region_law_o (refine step_append_room rfl (.tmp 22) (.tmp 25) 37 rfl 3 i0 1 hu hi0 hsz g 0 i c (by simp [Act.eval,Act.put]) ⟨g,i+1,none⟩ (xs.length - (i+1)) (c - (i+1)) ((xs.drop (i+1)).flatMap iC) (by simp [Act.eval,Act.put] <;> omega) s1.out s4.out s2.out (by omega) s3.out ?_;rw [← HW1.out,hnl]);go_wp2;go_ret;exact ⟨rfl,HO2.out,HGR.out⟩
theorem ro (xs:List Ce) (i:Nat) (base g c:Nat) (w:World) (h:Own cC 3 119 base w (.slice (some ⟨g,0,none⟩) xs.length c) xs) (hi:i<xs.length) (hn:xs.length≤100000):
  Calls Tryz.prog 75 #[.slice (some ⟨g,0,none⟩) xs.length c,.int .i64 i,.int .i64 ((i:Int)+1)] w fun e w'=>
   e=.returned (.slice (some ⟨g,0,none⟩) (xs.length - 1) c)∧Own cC 3 119 base w' (.slice (some ⟨g,0,none⟩) (xs.length - 1) c) (xs.eraseIdx i)∧w.grownBy w' (some g):=by
 have mixed:Tryz.prog.follows .mixedOrders=true:=by kernel_rfl
 have hu:=Tryz.underlying108;obtain ⟨_,⟨i0,z,hi0,hz0,hsz,hby,hzs⟩,_,_,_⟩:=gE;clear hz0 hby hzs;obtain ⟨cur,hg,hnc,hcm,hcs,htk⟩:∃ cur:Array Value,w.heap[g]?=some (.cells cur 119 (0,0))∧xs.length≤c∧c≤maxLen∧cur.size=c * 3∧cur.toList.take (xs.length * 3)=xs.flatMap cC:=by
  rcases h.2 with ⟨hv,_⟩ | ⟨g',cap,cur,hv,_,hg,hnc,hm,hc,ht⟩
  ·cases hv
  ·injection hv with e1 e2 e3
   injection e1 with e1
   injection e1 with e1
   subst e1 e3;exact ⟨cur,hg,hnc,hm,hc,ht⟩
 unfold maxLen at hcm;have hel:(xs.eraseIdx i).length=xs.length - 1:=by rw [dy,List.length_append,List.length_take,List.length_drop];omega
 have hdl:((xs.drop (i+1)).flatMap cC).length=(xs.length - (i+1)) * 3:=by rw [ax cC 3 (gE).hl,List.length_drop]
 have hread:∀ j v,(xs.flatMap cC)[j]?=some v→w.cell? ⟨g,j,none⟩=some v:=fun j v hj=>by
  rw [← htk,List.getElem?_take] at hj
  split at hj
  ·rw [ac hg];simpa using hj
  ·cases hj
 by_cases hq:c=i+1
 ·subst hq;have hd0:xs.drop (i+1)=[]:=List.drop_eq_nil_of_le (by omega);obtain ⟨W1,hW1⟩:∃ W1,W1=w.drew.setCells g (0+i * 3) ((xs.drop (i+1)).flatMap cC):=⟨_,rfl⟩;have HO1:=hid (show Own cC 3 119 base W1 (.slice (some ⟨g,0,none⟩) (xs.length - 1) (i+1)) (xs.eraseIdx i) by
   have:=Own.turn (Own.drew h) (o:=0+i * 3) (vs:=(xs.drop (i+1)).flatMap cC) (ys:=xs.eraseIdx i) (gE).hl (by rw [hel];omega) (by rw [hdl];omega) (fun cur hcl ht=>by
    rw [hel,hdl,Nat.zero_add,dy,List.flatMap_append];have e1:cur.take (i * 3)=(xs.take i).flatMap cC:=by rw [← cy (gE).hl,← ht,List.take_take,Nat.min_eq_left (by omega)]
    rw [e1,List.take_append,List.take_of_length_le (by rw [List.length_append,ax cC 3 (gE).hl,ax cC 3 (gE).hl,List.length_take,List.length_drop,Nat.min_eq_left (by omega)];omega)];rw [List.length_append,ax cC 3 (gE).hl,ax cC 3 (gE).hl,List.length_take,List.length_drop,Nat.min_eq_left (by omega),show (xs.length - 1) * 3 - (i * 3+(xs.length - (i+1)) * 3)=0 by omega];simp)
   rw [hel] at this;rw [hW1];exact this)
  have hg1:=bA ((xs.drop (i+1)).flatMap cC) (0+i * 3) (w:=w.drew) hg (by rw [hdl,hcs];omega);rw [← hW1] at hg1;have hcl:∀ ty,(Builtin.clear_ #[108] ty #[.slice (some ⟨g,(xs.length - 1) * 3,none⟩) 1 ((i+1) - (xs.length - 1))]).run Tryz.prog W1=.ok (.tuple #[]) (W1.setCells g ((xs.length - 1) * 3) [.int .i64 0,.string ⟨#[]⟩,.int .i64 0]):=fun ty=>
   cW (P:=Tryz.prog) W1 108 119 ty _ hu (fun _=>rfl) g ((xs.length - 1) * 3) 1 _ (by omega) [.int .i64 0,.string ⟨#[]⟩,.int .i64 0] (by first | rfl | kernel_rfl | simp [Builtin.zeroCells,Value.cells]) (by simp [Value.oneCell']) (fun j hj=>by
    have hj2:j<3:=hj;rw [ac hg1,Array.getElem?_eq_getElem (by simp only [List.size_toArray,List.length_append,List.length_take,List.length_drop,Array.length_toList,hdl];omega)];rfl) (fun j hj=>ab hg1 _)
  have HO2:=hid (show Own cC 3 119 base (W1.setCells g ((xs.length - 1) * 3) [.int .i64 0,.string ⟨#[]⟩,.int .i64 0]) (.slice (some ⟨g,0,none⟩) (xs.length - 1) (i+1)) (xs.eraseIdx i) by
   have:=Own.turn HO1.out (o:=(xs.length - 1) * 3) (vs:=[.int .i64 0,.string ⟨#[]⟩,.int .i64 0]) (ys:=xs.eraseIdx i) (gE).hl (by rw [hel];omega) (by show (xs.length - 1) * 3+3≤(i+1) * 3;omega) (fun cur hcl ht=>by
    rw [hel,List.append_assoc,List.take_append,List.length_take,Nat.min_eq_left (by omega),show (xs.length - 1) * 3 - ((xs.length - 1) * 3)=0 by omega,List.take_zero,List.append_nil,List.take_take,Nat.min_eq_left (by omega)];exact ht)
   rw [hel] at this;exact this)
  have HGR:=hid (show w.grownBy (W1.setCells g ((xs.length - 1) * 3) [.int .i64 0,.string ⟨#[]⟩,.int .i64 0]) (some g) by
   rw [hW1];exact aw (aw (bG (b7 w _)) (.inl rfl) _) (.inl rfl) _)
  have s1:Hid (((xs.drop (i+1)).flatMap cC).length=(xs.length - (i+1)) * 3):=hdl
  have s2:Hid (∀ u ∈ (xs.drop (i+1)).flatMap cC,u.oneCell'=true):=fun u hu=>by
   obtain ⟨x,_,hx⟩:=List.mem_flatMap.1 hu;exact (gE).h1 x u hx
  have s3:Hid (∀ t,t<((xs.drop (i+1)).flatMap cC).length→(w.drew.cell? ⟨g,0+i * 3+t,none⟩).isSome=true∧w.drew.frozen? ⟨g,0+i * 3+t,none⟩=false):=fun t ht=>by
   rw [hdl] at ht;refine ⟨?_,ab (w:=w.drew) hg _⟩;rw [ac (w:=w.drew) hg,Array.getElem?_eq_getElem (by omega)];rfl
  have s4:Hid (∀ t u,((xs.drop (i+1)).flatMap cC)[t]?=some u→w.drew.cell? ((⟨g,0,none⟩:Addr).add t)=some u):=fun t u hu=>by
   rw [hd0] at hu;simp at hu
  have HW1:=hid hW1;have hic:i≤(i+1):=by omega
  have hjc:i+1≤(i+1):=by omega
  have hne1:¬ ((i:Int)=(i:Int)+1):=by omega
  have hw1:IntKind.i64.wrap ((i:Int)+1)=(i:Int)+1:=by rw [IntKind.wrap_i64];omega
  have hb1:(0:Int)≤(i:Int)+1:=by omega
  have hb2:(i:Int)+1≤(xs.length:Int):=by omega
  have hb3:(i:Int)≤(i:Int)+1:=by omega
  have htn:((i:Int)+1).toNat=i+1:=by omega
  have hnl:i+(xs.length - (i+1))=xs.length - 1:=by omega
  have hnl2:xs.length - (xs.length - 1)=1:=by omega
  have hnl3:xs.length - 1≤xs.length:=by omega
  have hnl4:((xs.length - 1:Nat):Int)≤(xs.length:Int):=by omega
  have hnl5:¬ ((i+1)=xs.length - 1):=by omega
  have hnl6:xs.length≤(i+1):=by omega
  have hi1:i+1≤xs.length:=by omega
  clear hW1 hg1 hdl hel hcs htk hg h hread;go_enter Tryz.func75,Tryz.ntmps75;go_wp2_with fail;go_region_law_o (refine step_append_room rfl (.tmp 22) (.tmp 25) 108 rfl 119 i0 3 hu hi0 hsz g 0 i (i+1) (by simp [Act.eval,Act.put]) ⟨g,0,none⟩ (xs.length - (i+1)) 0 ((xs.drop (i+1)).flatMap cC) (by simp [Act.eval,Act.put] <;> omega) s1.out s4.out s2.out (by omega) s3.out ?_;rw [← HW1.out,hnl]);go_wp2;go_ret;exact ⟨rfl,HO2.out,HGR.out⟩
 ·skip;obtain ⟨W1,hW1⟩:∃ W1,W1=w.drew.setCells g (0+i * 3) ((xs.drop (i+1)).flatMap cC):=⟨_,rfl⟩;have HO1:=hid (show Own cC 3 119 base W1 (.slice (some ⟨g,0,none⟩) (xs.length - 1) c) (xs.eraseIdx i) by
   have:=Own.turn (Own.drew h) (o:=0+i * 3) (vs:=(xs.drop (i+1)).flatMap cC) (ys:=xs.eraseIdx i) (gE).hl (by rw [hel];omega) (by rw [hdl];omega) (fun cur hcl ht=>by
    rw [hel,hdl,Nat.zero_add,dy,List.flatMap_append];have e1:cur.take (i * 3)=(xs.take i).flatMap cC:=by rw [← cy (gE).hl,← ht,List.take_take,Nat.min_eq_left (by omega)]
    rw [e1,List.take_append,List.take_of_length_le (by rw [List.length_append,ax cC 3 (gE).hl,ax cC 3 (gE).hl,List.length_take,List.length_drop,Nat.min_eq_left (by omega)];omega)];rw [List.length_append,ax cC 3 (gE).hl,ax cC 3 (gE).hl,List.length_take,List.length_drop,Nat.min_eq_left (by omega),show (xs.length - 1) * 3 - (i * 3+(xs.length - (i+1)) * 3)=0 by omega];simp)
   rw [hel] at this;rw [hW1];exact this)
  have hg1:=bA ((xs.drop (i+1)).flatMap cC) (0+i * 3) (w:=w.drew) hg (by rw [hdl,hcs];omega);rw [← hW1] at hg1;have hcl:∀ ty,(Builtin.clear_ #[108] ty #[.slice (some ⟨g,(xs.length - 1) * 3,none⟩) 1 (c - (xs.length - 1))]).run Tryz.prog W1=.ok (.tuple #[]) (W1.setCells g ((xs.length - 1) * 3) [.int .i64 0,.string ⟨#[]⟩,.int .i64 0]):=fun ty=>
   cW (P:=Tryz.prog) W1 108 119 ty _ hu (fun _=>rfl) g ((xs.length - 1) * 3) 1 _ (by omega) [.int .i64 0,.string ⟨#[]⟩,.int .i64 0] (by first | rfl | kernel_rfl | simp [Builtin.zeroCells,Value.cells]) (by simp [Value.oneCell']) (fun j hj=>by
    have hj2:j<3:=hj;rw [ac hg1,Array.getElem?_eq_getElem (by simp only [List.size_toArray,List.length_append,List.length_take,List.length_drop,Array.length_toList,hdl];omega)];rfl) (fun j hj=>ab hg1 _)
  have HO2:=hid (show Own cC 3 119 base (W1.setCells g ((xs.length - 1) * 3) [.int .i64 0,.string ⟨#[]⟩,.int .i64 0]) (.slice (some ⟨g,0,none⟩) (xs.length - 1) c) (xs.eraseIdx i) by
   have:=Own.turn HO1.out (o:=(xs.length - 1) * 3) (vs:=[.int .i64 0,.string ⟨#[]⟩,.int .i64 0]) (ys:=xs.eraseIdx i) (gE).hl (by rw [hel];omega) (by show (xs.length - 1) * 3+3≤c * 3;omega) (fun cur hcl ht=>by
    rw [hel,List.append_assoc,List.take_append,List.length_take,Nat.min_eq_left (by omega),show (xs.length - 1) * 3 - ((xs.length - 1) * 3)=0 by omega,List.take_zero,List.append_nil,List.take_take,Nat.min_eq_left (by omega)];exact ht)
   rw [hel] at this;exact this)
  have HGR:=hid (show w.grownBy (W1.setCells g ((xs.length - 1) * 3) [.int .i64 0,.string ⟨#[]⟩,.int .i64 0]) (some g) by
   rw [hW1];exact aw (aw (bG (b7 w _)) (.inl rfl) _) (.inl rfl) _)
  have s1:Hid (((xs.drop (i+1)).flatMap cC).length=(xs.length - (i+1)) * 3):=hdl
  have s2:Hid (∀ u ∈ (xs.drop (i+1)).flatMap cC,u.oneCell'=true):=fun u hu=>by
   obtain ⟨x,_,hx⟩:=List.mem_flatMap.1 hu;exact (gE).h1 x u hx
  have s3:Hid (∀ t,t<((xs.drop (i+1)).flatMap cC).length→(w.drew.cell? ⟨g,0+i * 3+t,none⟩).isSome=true∧w.drew.frozen? ⟨g,0+i * 3+t,none⟩=false):=fun t ht=>by
   rw [hdl] at ht;refine ⟨?_,ab (w:=w.drew) hg _⟩;rw [ac (w:=w.drew) hg,Array.getElem?_eq_getElem (by omega)];rfl
  have s4:Hid (∀ t u,((xs.drop (i+1)).flatMap cC)[t]?=some u→w.drew.cell? ((⟨g,(i+1) * 3,none⟩:Addr).add t)=some u):=fun t u hu=>by
   rw [Addr.add_lit];have h9:=hread ((i+1) * 3+t) u (by rw [← cM (gE).hl,List.getElem?_drop] at hu;exact hu);first | exact h9 | simpa using h9
  have HW1:=hid hW1;have hic:i≤c:=by omega
  have hjc:i+1≤c:=by omega
  have hne1:¬ ((i:Int)=(i:Int)+1):=by omega
  have hw1:IntKind.i64.wrap ((i:Int)+1)=(i:Int)+1:=by rw [IntKind.wrap_i64];omega
  have hb1:(0:Int)≤(i:Int)+1:=by omega
  have hb2:(i:Int)+1≤(xs.length:Int):=by omega
  have hb3:(i:Int)≤(i:Int)+1:=by omega
  have htn:((i:Int)+1).toNat=i+1:=by omega
  have hnl:i+(xs.length - (i+1))=xs.length - 1:=by omega
  have hnl2:xs.length - (xs.length - 1)=1:=by omega
  have hnl3:xs.length - 1≤xs.length:=by omega
  have hnl4:((xs.length - 1:Nat):Int)≤(xs.length:Int):=by omega
  have hnl5:¬ (c=xs.length - 1):=by omega
  have hnl6:xs.length≤c:=by omega
  have hi1:i+1≤xs.length:=by omega
  clear hW1 hg1 hdl hel hcs htk hg h hread;go_enter Tryz.func75,Tryz.ntmps75;go_wp2_with fail;go_region_law_o (refine step_append_room rfl (.tmp 22) (.tmp 25) 108 rfl 119 i0 3 hu hi0 hsz g 0 i c (by simp [Act.eval,Act.put]) ⟨g,(i+1) * 3,none⟩ (xs.length - (i+1)) (c - (i+1)) ((xs.drop (i+1)).flatMap cC) (by simp [Act.eval,Act.put] <;> omega) s1.out s4.out s2.out (by omega) s3.out ?_;rw [← HW1.out,hnl]);go_wp2;go_ret;exact ⟨rfl,HO2.out,HGR.out⟩
theorem gI (xs:List By) (v:Value) (w:World) (h:Sl sC 1 w v xs) (hn:xs.length≤100000):
  Calls Tryz.prog 137 #[v] w fun e w'=>∃ v',e=.returned v'∧Own sC 1 9 w.heap.size w' v' xs∧Below w.heap.size w w':=by
 have hu:=Tryz.underlying22;have q:∀ (w:World) (a:Option Addr) (n c n' c':Nat),(binOp .eql 22 (.slice a n c) (.slice none n' c')).run Tryz.prog w=.ok (.bool a.isNone) w:=fun w a n c n' c'=>Lib.run_eql_slice_nil w _ _ a n c n' c' hu
 have H:=hid (h.keep ((Below.refl _ w).alloc (Nat.le_refl _) (.cells #[] 9)));have HO:=hid (show Own sC 1 9 w.heap.size (w.alloc (.cells #[] 9)) (.slice (some ⟨w.heap.size,0,none⟩) 0 0) ([]:List By) from World.ownsRow_made w #[] 0 (Nat.le_refl _) (Nat.zero_le _) (by simp));have hsz:w.heap.size≤(w.alloc (.cells #[] 9)).heap.size:=by simp
 obtain ⟨A,c,rfl⟩:=Sl.len' h;rcases A with _ | ⟨b,off,sp⟩
 ·have hx:xs=[]:=by
   obtain ⟨A',c',he,h3⟩:=h;by_cases hne:xs=[]
   ·exact hne
   ·obtain ⟨b,off,rfl,_⟩:=h3 hne;injection he with e1;cases e1
  clear h H HO;go_enter Tryz.func137,Tryz.ntmps137;go_wp2_with fail;go_ret;exact ⟨_,rfl,by rw [hx];exact Own.nil,Below.refl _ _⟩
 ·clear h;go_enter Tryz.func137,Tryz.ntmps137;go_wp2_with (at_builtin;refine hid (am rfl rfl f8 rfl rfl HO.out H.out (by unfold maxLen;simp;omega) (by simp;omega) hsz ?_) |>.out);intro v' w' h1 h2 h3;have HB:=hid (show Below w.heap.size w w' from ((Below.refl _ w).alloc (Nat.le_refl _) _).grown h2 hsz (by intro k hk;simp [Value.ownBlock] at hk;omega));have H1:=hid h1;clear h1 h2 h3;go_wp2_with fail;go_ret;exact ⟨v',rfl,H1.out,HB.out⟩
theorem nz (xs:List Int) (v:Value) (w:World) (h:Sl iC 1 w v xs) (hn:xs.length≤100000):
  Calls Tryz.prog 138 #[v] w fun e w'=>∃ v',e=.returned v'∧Own iC 1 3 w.heap.size w' v' xs∧Below w.heap.size w w':=by
 have hu:=Tryz.underlying37;have q:∀ (w:World) (a:Option Addr) (n c n' c':Nat),(binOp .eql 37 (.slice a n c) (.slice none n' c')).run Tryz.prog w=.ok (.bool a.isNone) w:=fun w a n c n' c'=>Lib.run_eql_slice_nil w _ _ a n c n' c' hu
 have H:=hid (h.keep ((Below.refl _ w).alloc (Nat.le_refl _) (.cells #[] 3)));have HO:=hid (show Own iC 1 3 w.heap.size (w.alloc (.cells #[] 3)) (.slice (some ⟨w.heap.size,0,none⟩) 0 0) ([]:List Int) from World.ownsRow_made w #[] 0 (Nat.le_refl _) (Nat.zero_le _) (by simp));have hsz:w.heap.size≤(w.alloc (.cells #[] 3)).heap.size:=by simp
 obtain ⟨A,c,rfl⟩:=Sl.len' h;rcases A with _ | ⟨b,off,sp⟩
 ·have hx:xs=[]:=by
   obtain ⟨A',c',he,h3⟩:=h;by_cases hne:xs=[]
   ·exact hne
   ·obtain ⟨b,off,rfl,_⟩:=h3 hne;injection he with e1;cases e1
  clear h H HO;go_enter Tryz.func138,Tryz.ntmps138;go_wp2_with fail;go_ret;exact ⟨_,rfl,by rw [hx];exact Own.nil,Below.refl _ _⟩
 ·clear h;go_enter Tryz.func138,Tryz.ntmps138;go_wp2_with (at_builtin;refine hid (am rfl rfl bt rfl rfl HO.out H.out (by unfold maxLen;simp;omega) (by simp;omega) hsz ?_) |>.out);intro v' w' h1 h2 h3;have HB:=hid (show Below w.heap.size w w' from ((Below.refl _ w).alloc (Nat.le_refl _) _).grown h2 hsz (by intro k hk;simp [Value.ownBlock] at hk;omega));have H1:=hid h1;clear h1 h2 h3;go_wp2_with fail;go_ret;exact ⟨v',rfl,H1.out,HB.out⟩
theorem rg (n:Nat) (w:World) (hn:n≤100000):
  Calls Tryz.prog 248 #[.slice none 0 0,.int .i64 n] w fun e w'=>∃ v',e=.returned v'∧Own cC 3 119 w.heap.size w' v' ([]:List Ce)∧Below w.heap.size w w':=by
 have hu:=Tryz.underlying108;have hui:=Tryz.underlying3;obtain ⟨_,⟨i0,z,hi0,hz0,hsz,hby,hzs⟩,_,_,_⟩:=gE;by_cases h0:n=0
 ·subst h0;go_enter Tryz.func248,Tryz.ntmps248;go_wp2_with fail;go_ret;exact ⟨_,rfl,Own.nil,Below.refl _ _⟩
 ·have hrz:∀ ty,(Builtin.append_ #[108,3] ty #[.slice none 0 0,.int .i64 n]).run Tryz.prog w=_:=fun ty=>Lib.run_append_nil_zeros w 108 3 ty 119 i0 _ .i64 .i64 hu hui hi0 hz0 n (by omega) (by omega) (by omega) (by rw [hby];omega)
  have hGn:n≤grownCap w n 0 119:=grownCap_ge w _ _ _;have hGm:grownCap w n 0 119≤maxLen:=grownCap_le_maxLen w n 0 119 (by unfold maxLen;omega);generalize grownCap w n 0 119=G at *;have HO:=hid (show Own cC 3 119 w.heap.size (w.drew.alloc (.cells (Builtin.zeroCells z.cells n ++ Builtin.zeroCells z.cells (G - n)) 119)) (.slice (some ⟨w.heap.size,0,none⟩) 0 G) ([]:List Ce) from
   World.ownsRow_made w.drew _ G (Nat.le_refl _) hGm (by rw [Array.size_append,size_zeroCells,size_zeroCells,hzs,← Nat.add_mul];congr 1;omega))
  have HB:=hid (show Below w.heap.size w (w.drew.alloc (.cells (Builtin.zeroCells z.cells n ++ Builtin.zeroCells z.cells (G - n)) 119)) from ((Below.refl _ w).drew).alloc (Nat.le_refl _) _);generalize w.drew.alloc (.cells (Builtin.zeroCells z.cells n ++ Builtin.zeroCells z.cells (G - n)) 119)=W1 at *;have h1:¬ ((n:Int)<0):=by omega
  have h2:(0:Int)<(n:Int):=by omega
  clear hi0 hz0 hsz hby hzs;go_enter Tryz.func248,Tryz.ntmps248;go_wp2_with (at_builtin;refine Lib.wpList_append_run _ rfl _ _ _ _ rfl _ _ rfl rfl _ _ (hrz _) ?_);go_ret;exact ⟨_,rfl,HO.out,HB.out⟩
theorem rC (xs ys:List Ce) (v1 v2:Value) (vb c:Nat) (tA:TypeId) (w:World) (h1:Sl cC 3 w v1 xs) (h2:Sl cC 3 w v2 ys) (hn:xs.length+ys.length≤100000) (hv:w.heap[vb]?=some (.cells #[v1,v2] tA (0,0))):
  Calls Tryz.prog 230 #[.slice (some ⟨vb,0,none⟩) 2 c] w fun e w'=>∃ v',e=.returned v'∧Own cC 3 119 w.heap.size w' v' (xs ++ ys)∧Below w.heap.size w w':=by
 have H1:=hid h1;have H2:=hid h2;have HV:=hid hv;obtain ⟨A1,c1,rfl⟩:=Sl.len' h1;obtain ⟨A2,c2,rfl⟩:=Sl.len' h2;have a0:=ac hv 0;have a1:=ac hv 1;have a4:=aj hv;have hw1:IntKind.i64.wrap ((xs.length:Int)+(ys.length:Int))=(xs.length:Int)+(ys.length:Int):=by rw [IntKind.wrap_i64];omega
 have hw0:IntKind.i64.wrap ((xs.length:Int))=(xs.length:Int):=by rw [IntKind.wrap_i64];omega
 have hp1:¬ ((xs.length:Int)+(ys.length:Int)<0):=by omega
 have hp0:¬ ((xs.length:Int)<0):=by omega
 clear h1 h2 hv;go_enter Tryz.func230,Tryz.ntmps230;go_wp2_with fail;refine wp_loop_rounds 3 ?_;rw [rounds_succ];go_wp2_with fail;rw [rounds_succ];go_wp2_with fail;rw [rounds_succ];go_wp2_with fail;refine (rg (xs.length+ys.length) w (by omega)).mono ?_;rintro e w2 ⟨v2,rfl,ho,hb⟩;have HO:=hid ho;have HB:=hid hb;have K1:=hid (H1.out.keep hb);have K2:=hid (H2.out.keep hb);have HV2:=hid (ae HV.out hb);have hs2:=hb.size;clear ho hb a0 a1 a4;have a0:=ac HV2.out 0;have a1:=ac HV2.out 1;have a4:=aj HV2.out;go_wp2_with fail;refine wp_loop_rounds 3 ?_;rw [rounds_succ];go_wp2_with (at_builtin;refine hid (am rfl rfl gE rfl rfl HO.out K1.out (by unfold maxLen;simp;omega) (by simp;omega) hs2 ?_) |>.out);intro v3 w3 h1 h2 h3;have HO3:=hid h1;have HG3:=hid h2;have HB3:=hid (HB.out.grown h2 hs2 (fun k hk=>(HO.out.lt k hk).1));have K3:=hid (H2.out.keep HB3.out);have HV3:=hid (ae HV.out HB3.out);have hs3:=HB3.out.size;clear h1 h2 h3 a0 a1 a4;have a0:=ac HV3.out 0;have a1:=ac HV3.out 1;have a4:=aj HV3.out;go_wp2_with fail;rw [rounds_succ];go_wp2_with (at_builtin;refine hid (am rfl rfl gE rfl rfl HO3.out K3.out (by unfold maxLen;omega) (by omega) hs3 ?_) |>.out);intro v4 w4 h1 h2 h3;have HO4:=hid h1;have HB4:=hid (HB3.out.grown h2 hs3 (fun k hk=>(HO3.out.lt k hk).1));clear h1 h2 h3;go_wp2_with fail;rw [rounds_succ];go_wp2_with fail;go_ret;exact ⟨v4,rfl,HO4.out,HB4.out⟩
theorem rf (n:Nat) (w:World) (hn:n≤100000):
  Calls Tryz.prog 249 #[.slice none 0 0,.int .i64 n] w fun e w'=>∃ v',e=.returned v'∧Own iC 1 3 w.heap.size w' v' ([]:List Int)∧Below w.heap.size w w':=by
 have hu:=Tryz.underlying37;have hui:=Tryz.underlying3;obtain ⟨_,⟨i0,z,hi0,hz0,hsz,hby,hzs⟩,_,_,_⟩:=bt;by_cases h0:n=0
 ·subst h0;go_enter Tryz.func249,Tryz.ntmps249;go_wp2_with fail;go_ret;exact ⟨_,rfl,Own.nil,Below.refl _ _⟩
 ·have hrz:∀ ty,(Builtin.append_ #[37,3] ty #[.slice none 0 0,.int .i64 n]).run Tryz.prog w=_:=fun ty=>Lib.run_append_nil_zeros w 37 3 ty 3 i0 _ .i64 .i64 hu hui hi0 hz0 n (by omega) (by omega) (by omega) (by rw [hby];omega)
  have hGn:n≤grownCap w n 0 3:=grownCap_ge w _ _ _;have hGm:grownCap w n 0 3≤maxLen:=grownCap_le_maxLen w n 0 3 (by unfold maxLen;omega);generalize grownCap w n 0 3=G at *;have HO:=hid (show Own iC 1 3 w.heap.size (w.drew.alloc (.cells (Builtin.zeroCells z.cells n ++ Builtin.zeroCells z.cells (G - n)) 3)) (.slice (some ⟨w.heap.size,0,none⟩) 0 G) ([]:List Int) from
   World.ownsRow_made w.drew _ G (Nat.le_refl _) hGm (by rw [Array.size_append,size_zeroCells,size_zeroCells,hzs,← Nat.add_mul];congr 1;omega))
  have HB:=hid (show Below w.heap.size w (w.drew.alloc (.cells (Builtin.zeroCells z.cells n ++ Builtin.zeroCells z.cells (G - n)) 3)) from ((Below.refl _ w).drew).alloc (Nat.le_refl _) _);generalize w.drew.alloc (.cells (Builtin.zeroCells z.cells n ++ Builtin.zeroCells z.cells (G - n)) 3)=W1 at *;have h1:¬ ((n:Int)<0):=by omega
  have h2:(0:Int)<(n:Int):=by omega
  clear hi0 hz0 hsz hby hzs;go_enter Tryz.func249,Tryz.ntmps249;go_wp2_with (at_builtin;refine Lib.wpList_append_run _ rfl _ _ _ _ rfl _ _ rfl rfl _ _ (hrz _) ?_);go_ret;exact ⟨_,rfl,HO.out,HB.out⟩
theorem rB (xs ys:List Int) (v1 v2:Value) (vb c:Nat) (tA:TypeId) (w:World) (h1:Sl iC 1 w v1 xs) (h2:Sl iC 1 w v2 ys) (hn:xs.length+ys.length≤100000) (hv:w.heap[vb]?=some (.cells #[v1,v2] tA (0,0))):
  Calls Tryz.prog 231 #[.slice (some ⟨vb,0,none⟩) 2 c] w fun e w'=>∃ v',e=.returned v'∧Own iC 1 3 w.heap.size w' v' (xs ++ ys)∧Below w.heap.size w w':=by
 have H1:=hid h1;have H2:=hid h2;have HV:=hid hv;obtain ⟨A1,c1,rfl⟩:=Sl.len' h1;obtain ⟨A2,c2,rfl⟩:=Sl.len' h2;have a0:=ac hv 0;have a1:=ac hv 1;have a4:=aj hv;have hw1:IntKind.i64.wrap ((xs.length:Int)+(ys.length:Int))=(xs.length:Int)+(ys.length:Int):=by rw [IntKind.wrap_i64];omega
 have hw0:IntKind.i64.wrap ((xs.length:Int))=(xs.length:Int):=by rw [IntKind.wrap_i64];omega
 have hp1:¬ ((xs.length:Int)+(ys.length:Int)<0):=by omega
 have hp0:¬ ((xs.length:Int)<0):=by omega
 clear h1 h2 hv;go_enter Tryz.func231,Tryz.ntmps231;go_wp2_with fail;refine wp_loop_rounds 3 ?_;rw [rounds_succ];go_wp2_with fail;rw [rounds_succ];go_wp2_with fail;rw [rounds_succ];go_wp2_with fail;refine (rf (xs.length+ys.length) w (by omega)).mono ?_;rintro e w2 ⟨v2,rfl,ho,hb⟩;have HO:=hid ho;have HB:=hid hb;have K1:=hid (H1.out.keep hb);have K2:=hid (H2.out.keep hb);have HV2:=hid (ae HV.out hb);have hs2:=hb.size;clear ho hb a0 a1 a4;have a0:=ac HV2.out 0;have a1:=ac HV2.out 1;have a4:=aj HV2.out;go_wp2_with fail;refine wp_loop_rounds 3 ?_;rw [rounds_succ];go_wp2_with (at_builtin;refine hid (am rfl rfl bt rfl rfl HO.out K1.out (by unfold maxLen;simp;omega) (by simp;omega) hs2 ?_) |>.out);intro v3 w3 h1 h2 h3;have HO3:=hid h1;have HG3:=hid h2;have HB3:=hid (HB.out.grown h2 hs2 (fun k hk=>(HO.out.lt k hk).1));have K3:=hid (H2.out.keep HB3.out);have HV3:=hid (ae HV.out HB3.out);have hs3:=HB3.out.size;clear h1 h2 h3 a0 a1 a4;have a0:=ac HV3.out 0;have a1:=ac HV3.out 1;have a4:=aj HV3.out;go_wp2_with fail;rw [rounds_succ];go_wp2_with (at_builtin;refine hid (am rfl rfl bt rfl rfl HO3.out K3.out (by unfold maxLen;omega) (by omega) hs3 ?_) |>.out);intro v4 w4 h1 h2 h3;have HO4:=hid h1;have HB4:=hid (HB3.out.grown h2 hs3 (fun k hk=>(HO3.out.lt k hk).1));clear h1 h2 h3;go_wp2_with fail;rw [rounds_succ];go_wp2_with fail;go_ret;exact ⟨v4,rfl,HO4.out,HB4.out⟩
end Go.Proofs.YtknioodagnjchaaGreatDoor
