/- cahierref09.Book: place, Get, Put; cahierref10.Shelf: New, begin, is, Get, Put, New (without free pages). cahierref10.Shelf: New, begin, is, Get, Put; New where no page is free. cahierref10.Shelf: New, where no page is free. -/
import Derived.Test.YtknioodagnjchaaGreatDoorRNb
import Derived.Test.YtknioodagnjchaaGreatDoorRTSl
import Derived.Test.YtknioodagnjchaaGreatDoorRPl
import Derived.Test.YtknioodagnjchaaGreatDoorRTShelf3
import Derived.Test.YtknioodagnjchaaGreatDoorRSp
set_option maxRecDepth 100000
set_option maxHeartbeats 4000000
namespace Go.Proofs.YtknioodagnjchaaGreatDoor
open Go.Lib (hid)
open Go.RowKit
structure RbO (b1:Nat) (w:World) (gb:Nat) (ns:List Int) (ds:List By) (vn vd:Value):Prop where
 blk:w.heap[gb]?=some (.cells #[vn,vd] 96 (0,0))
 n:Own iC 1 3 b1 w vn ns
 d:Own sC 1 9 b1 w vd ds
 dis:Dis vn vd
 len:ns.length=ds.length
 lt:gb<b1
theorem RbO.ch {b1:Nat} {w w':World} {gb:Nat} {ns:List Int} {ds:List By} {vn vd:Value} (h:RbO b1 w gb ns ds vn vd) {S:Nat→Prop} (hc:Ch S w w') (h1:¬ S gb) (h2:∀ k,b1≤k→k<w.heap.size→¬ S k):RbO b1 w' gb ns ds vn vd:=
 ⟨hc.keep h.blk h1,h.n.ch hc (fun k hk=>h2 k (h.n.lt k hk).1 (h.n.lt k hk).2),h.d.ch hc (fun k hk=>h2 k (h.d.lt k hk).1 (h.d.lt k hk).2),h.dis,h.len,h.lt⟩
theorem RbO.below {b1:Nat} {w w':World} {gb:Nat} {ns:List Int} {ds:List By} {vn vd:Value} (h:RbO b1 w gb ns ds vn vd) (hb:Below w.heap.size w w'):RbO b1 w' gb ns ds vn vd:=
 h.ch (S:=fun _=>False) (Ch.of_below hb) id fun _ _ _=>id
def pL (ns:List Int) (n:Int):Int:=if ew ns n<ns.length then (ew ns n:Int) else -1
theorem qM {ns:List Int} {n:Int} {k:Nat} (h:k<ns.length) (hp:ew ns n=k+ew (ns.drop k) n):ew ns n=k+if ns[k]=n then 0 else ew (ns.drop (k+1)) n+1:=by rw [hp,List.drop_eq_getElem_cons h,gz]
theorem kC (n:Int) (b1 gb:Nat) (ns:List Int) (ds:List By) (vn vd:Value) (w:World) (h:RbO b1 w gb ns ds vn vd) (hl:ns.length≤1000000):
  Calls Tryz.prog 108 #[.pointer (some ⟨gb,0,none⟩),.int .i64 n] w fun e w'=>e=.returned (.int .i64 (pL ns n))∧w=w':=by
 obtain ⟨A,c,rfl⟩:=Sl.len' (h.n.sl aA);have H:=hid (h.n.sl aA);have m0:w.cell? ⟨gb,0,none⟩=some (.slice A ns.length c):=ac h.blk 0;have m1:=aj h.blk;clear h;go_enter Tryz.func108,Tryz.ntmps108;go_wp2_with fail;go_loopw [5] (fun s5 wr=>∃ i:Nat,s5=.int .i64 i∧i≤ns.length∧ew ns n=i+ew (ns.drop i) n∧wr=w) (fun s5 _=>ns.length - (intOf s5).toNat)
 case atStart=>exact ⟨0,rfl,Nat.zero_le _,by simp,rfl⟩
 case round=>
  obtain ⟨i,rfl,hi,he,rfl⟩:=hrel;have HE:=hid he;clear he;by_cases hlt:i<ns.length
  ·obtain ⟨b,off,c',he,hbl,hsl⟩:=H.out.at1 hlt;injection he with e1 e2 e3
   subst e1 e3;have c0:wr.cell? ⟨b,off+i,none⟩=some (.int .i64 ns[i]):=by simpa [iC] using hsl 0 _ rfl
   have hi1:(i:Int)<(ns.length:Int):=by omega
   have HD:=hid (qM hlt HE.out);clear hsl HE e2;by_cases hq:ns[i]=n
   ·have HV:=hid (show pL ns n=(i:Int) by
     have:=HD.out;rw [if_pos hq] at this;unfold pL;rw [if_pos (by omega)];omega)
    have hq2:(ns[i] == n)=true:=by simpa using hq
    clear hq HD;generalize ns[i]=x at *;go_wp2_with fail;go_ret;exact ⟨by rw [HV.out];rfl,rfl⟩
   ·have HV:=hid (show ew ns n=(i+1)+ew (ns.drop (i+1)) n by
     have:=HD.out;rw [if_neg hq] at this;omega)
    have hq2:(ns[i] == n)=false:=by simpa using hq
    clear hq HD;generalize ns[i]=x at *;go_wp2_with fail;go_roundw
    case rel=>exact ⟨i+1,by go_num,hlt,HV.out,by trivial⟩
    case measure=>simp [intOf];omega
  ·obtain rfl:i=ns.length:=by omega
   have HV:=hid (show pL ns n=-1 by
    have:=HE.out;unfold pL;rw [if_neg (by omega)])
   clear hlt hi HE;go_wp2_with fail;go_ret;exact ⟨by rw [HV.out];rfl,rfl⟩
theorem rE (n:Int) (b1 gb:Nat) (ns:List Int) (ds:List By) (vn vd:Value) (w:World) (h:RbO b1 w gb ns ds vn vd) (hl:ns.length≤1000000):
  Calls Tryz.prog 106 #[.pointer (some ⟨gb,0,none⟩),.int .i64 n] w fun e w'=>e=.returned (.string (al (nH ns ds n)))∧Below w.heap.size w w':=by
 obtain ⟨A,c,rfl⟩:=Sl.len' (h.d.sl aP);have HP:=hid (kC n b1 gb ns ds vn _ w h hl);have H:=hid (h.d.sl aP);have m0:w.cell? ⟨gb,1,none⟩=some (.slice A ds.length c):=ac h.blk 1;have m1:=aj h.blk;have HL:=hid h.len;clear h;go_enter Tryz.func106,Tryz.ntmps106;go_wp2_with fail;refine HP.out.mono ?_;rintro e w1 ⟨rfl,rfl⟩;by_cases hp:ew ns n<ns.length
 ·have hv:pL ns n=(ew ns n:Int):=by unfold pL;rw [if_pos hp]
  have hd:ew ns n<ds.length:=by have:=HL.out;omega
  obtain ⟨b,off,rfl,hbl,-,hc⟩:=H.out.key hd;have HV:=hid (show nH ns ds n=ds[ew ns n] from tv HL.out hp);have hi1:(ew ns n:Int)<(ds.length:Int):=by omega
  rw [hv];clear hv;generalize ds[ew ns n]=x at *;generalize ew ns n=p at *;go_wp2_with fail;go_ret;exact ⟨by rw [HV.out];rfl,Below.refl _ _⟩
 ·have hv:pL ns n=-1:=by unfold pL;rw [if_neg hp]
  have HV:=hid (sF (n:=n) HL.out (by have:=l8 ns n;omega));rw [hv];clear hv hp;go_wp2_with fail;refine (gD ⟨#[]⟩ w).mono ?_;rintro e w2 ⟨rfl,hb⟩;go_wp2_with fail;go_ret;exact ⟨by rw [HV.out];rfl,hb⟩
theorem nG (n:Int) (x:By) (b1 gb:Nat) (ns:List Int) (ds:List By) (vn vd:Value) (w:World) (h:RbO b1 w gb ns ds vn vd) (hl:ns.length≤1000000) (hx:b1≤w.heap.size):
  Calls Tryz.prog 55 #[.pointer (some ⟨gb,0,none⟩),.int .i64 n,.string (al x)] w fun e w'=>(∃ r,e=.returned r)∧(∃ ns' ds' vn' vd',RbO b1 w' gb ns' ds' vn' vd'∧nH ns' ds'=bx (nH ns ds) n x∧ns'.length≤ns.length+1)∧Ch (fun k=>k=gb∨b1≤k) w w':=by
 obtain ⟨A1,c1,rfl⟩:=Sl.len' (h.n.sl aA);obtain ⟨A2,c2,rfl⟩:=Sl.len' (h.d.sl aP);have HP:=hid (kC n b1 gb ns ds _ _ w h hl);have H:=hid h;have hlt:=h.lt;have m0:w.cell? ⟨gb,0,none⟩=some (.slice A1 ns.length c1):=ac h.blk 0;have m1:w.cell? ⟨gb,1,none⟩=some (.slice A2 ds.length c2):=ac h.blk 1;have m2:=aj h.blk;have m3:=ab h.blk 0;have m4:=ab h.blk 1;clear h;go_enter Tryz.func55,Tryz.ntmps55;go_wp2_with fail;refine HP.out.mono ?_;rintro e w1 ⟨rfl,rfl⟩;by_cases hp:ew ns n<ns.length
 ·have hv:pL ns n=(ew ns n:Int):=by unfold pL;rw [if_pos hp]
  have hd:ew ns n<ds.length:=by have:=H.out.len;omega
  have HB:=hid (sE (d:=x) H.out.len hp);have hi1:(ew ns n:Int)<(ds.length:Int):=by omega
  rw [hv];clear hv hp;obtain ⟨b,off,he,hbl,-,hc⟩:=(H.out.d.sl aP).key hd;rcases H.out.d.2 with ⟨hv0,h0⟩ | ⟨g2,cap,cur,hv0,hbs,hg2,hnc,hmx,hcc,htk⟩
  ·rw [he] at hv0;cases hv0
  ·injection hv0 with e1 e2 e3
   rw [e1] at he;injection he with he
   injection he with e4 e5
   subst e1 e4 e5 e3;have hfz:=ab hg2 (ew ns n);rw [Nat.zero_add] at hc;have HOW:=hid (H.out.d.set aP hd x);have HGE:=hid hbs;have HN:=hid (fun k hk=>(H.out.n.lt k hk:b1≤k∧k<w.heap.size));have HCH:=hid ((Ch.refl (fun k=>k=g2) w).setCell (p:=⟨g2,ew ns n,none⟩) rfl (.string (al x)));have hdis:∀ k,(Value.slice A1 ns.length c1).ownBlock=some k→¬ k=g2:=fun k hk e=>H.out.dis k hk (by subst e;rfl)
   have HD:=hid hdis;clear hbs hg2 hnc hmx hcc htk hdis;generalize ew ns n=p at *;go_wp2_with fail;refine bodyPost_end (results_none rfl _ _ _) rfl ?_;refine ⟨⟨_,rfl⟩,⟨ns,ds.set p x,_,_,⟨HCH.out.keep H.out.blk (by have:=HGE.out;omega),H.out.n.ch HCH.out HD.out,?_,H.out.dis,by rw [List.length_set];exact H.out.len,H.out.lt⟩,HB.out,by omega⟩,HCH.out.mono (fun k _ e=>.inr (by have:=HGE.out;omega))⟩;have:=HOW.out;simp only [Nat.mul_one,sC,World.setCells] at this;simpa using this
 ·have hv:pL ns n=-1:=by unfold pL;rw [if_neg hp]
  have HB:=hid (sG (n:=n) (d:=x) H.out.len (by have:=l8 ns n;omega));have hl2:ds.length≤1000000:=by have:=H.out.len;omega
  rw [hv];clear hv hp;have HC0:=hid (Ch.refl (fun k=>k=gb∨b1≤k) w);go_wp2_with (at_builtin;refine Hid.out ?_);refine hid ?_;refine am rfl rfl bt rfl rfl (H.out.n.alloc _) (Sl.one (n:Int) (by simp) aA rfl) (by simp [maxLen];omega) (by simp;omega) (by simp;omega) ?_;intro v4 w4 ho hg hat;have HO4:=hid ho;have HG4:=hid (ba (ai H.out.blk _) hg (fun k hk=>(H.out.n.lt k hk).1) H.out.lt);have HD4:=hid ((H.out.d.alloc _).dis hg H.out.dis.symm);have HX4:=hid (H.out.dis.app hat (H.out.d.alloc _));have HC4:=hid ((HC0.out.alloc _).then (Ch.of_grown (S:=fun k=>k=gb∨b1≤k) hg (fun k hk=>.inr (H.out.n.lt k hk).1)) (fun i e=>.inl e));have hs4:=HC4.out.size;clear ho hg hat m0 m1 m2 m3 m4;have m0:w4.cell? ⟨gb,0,none⟩=some (.slice A1 ns.length c1):=ac HG4.out 0;have m1:w4.cell? ⟨gb,1,none⟩=some (.slice A2 ds.length c2):=ac HG4.out 1;have m2:=aj HG4.out;have m3:=ab HG4.out 0;obtain ⟨A4,c4,e4⟩:=Sl.len' (HO4.out.sl aA);rw [List.length_append,List.length_singleton] at e4;subst e4;have HC5:=hid (HC4.out.setCell (p:=⟨gb,0,none⟩) (.inl rfl) (.slice A4 (ns.length+1) c4));have HG5:=hid (ah HG4.out 0 (.slice A4 (ns.length+1) c4));have HQ5:=hid ((Ch.refl (fun k=>k=gb) w4).setCell (p:=⟨gb,0,none⟩) rfl (.slice A4 (ns.length+1) c4));have HO5:=hid (HO4.out.ch HQ5.out (fun k hk e=>by have:=(HO4.out.lt k hk).1;omega));have HD5:=hid (HD4.out.ch HQ5.out (fun k hk e=>by have:=(HD4.out.lt k hk).1;omega));have hs5:=HQ5.out.size;go_upto_region 3 with fail
  generalize w4.setCell ⟨gb,0,none⟩ (.slice A4 (ns.length+1) c4)=w5 at *;clear m0 m1 m2 m3;have m0:w5.cell? ⟨gb,0,none⟩=some (.slice A4 (ns.length+1) c4):=ac HG5.out 0;have m1:w5.cell? ⟨gb,1,none⟩=some (.slice A2 ds.length c2):=ac HG5.out 1;have m2:=aj HG5.out;have m3:=ab HG5.out 1;go_wp2_with (at_builtin;refine Hid.out ?_);refine hid ?_;refine am (xs:=ds) (ys:=[x]) rfl rfl f8 rfl rfl (HD5.out.alloc _) (Sl.one (x:By) (by simp) aP rfl) (by simp [maxLen];omega) (by simp;omega) (by simp;omega) ?_;intro v6 w6 ho hg hat;have HO6:=hid ho;have HG6:=hid (ba (ai HG5.out _) hg (fun k hk=>(HD5.out.lt k hk).1) H.out.lt);have HN6:=hid ((HO5.out.alloc _).dis hg HX4.out);have HX6:=hid (HX4.out.symm.app hat (HO5.out.alloc _));have HC6:=hid ((HC5.out.alloc _).then (Ch.of_grown (S:=fun k=>k=gb∨b1≤k) hg (fun k hk=>.inr (HD5.out.lt k hk).1)) (fun i e=>.inl e));clear ho hg hat m0 m1 m2 m3;have m0:w6.cell? ⟨gb,0,none⟩=some (.slice A4 (ns.length+1) c4):=ac HG6.out 0;have m1:w6.cell? ⟨gb,1,none⟩=some (.slice A2 ds.length c2):=ac HG6.out 1;have m2:=aj HG6.out;have m3:=ab HG6.out 1;obtain ⟨A6,c6,e6⟩:=Sl.len' (HO6.out.sl aP);rw [List.length_append,List.length_singleton] at e6;subst e6;have HC7:=hid (HC6.out.setCell (p:=⟨gb,1,none⟩) (.inl rfl) (.slice A6 (ds.length+1) c6));have HG7:=hid (ah HG6.out 1 (.slice A6 (ds.length+1) c6));have HQ7:=hid ((Ch.refl (fun k=>k=gb) w6).setCell (p:=⟨gb,1,none⟩) rfl (.slice A6 (ds.length+1) c6));have HO7:=hid (HO6.out.ch HQ7.out (fun k hk e=>by have:=(HO6.out.lt k hk).1;omega));have HN7:=hid (HN6.out.ch HQ7.out (fun k hk e=>by have:=(HN6.out.lt k hk).1;omega));go_wp2_with fail;refine bodyPost_ret (results_none rfl _ _ _) rfl ?_;refine ⟨⟨_,rfl⟩,⟨ns ++ [n],ds ++ [x],_,_,⟨HG7.out,HN7.out,HO7.out,HX6.out.symm,by simp [H.out.len],H.out.lt⟩,HB.out,by simp⟩,HC7.out⟩
end Go.Proofs.YtknioodagnjchaaGreatDoor
namespace Go.Proofs.YtknioodagnjchaaGreatDoor
open Go.Lib (hid)
open Go.RowKit
def sN (s:Sf) (gb:Nat):Obj:=.cells #[.int .i64 s.lim,.int .i64 s.h.mode,.int .i64 s.h.pages,.int .i64 s.h.trunk,.int .i64 s.h.spare,.int .i64 s.h.root,.int .u64 s.h.change,.pointer (some ⟨gb,0,none⟩),.int .i64 s.left] 98 (0,0)
structure RqIs (b0 b1 m:Nat) (w:World) (gu gb:Nat) (s:Sf):Prop where
 blk:w.heap[gu]?=some (sN s gb)
 book:∃ ns ds vn vd,RbO b1 w gb ns ds vn vd∧s.B=nH ns ds∧ns.length≤m
 ne:gb≠gu
 lt:gu<b1
 le:b1≤w.heap.size
 b0u:b0≤gu
 b0b:b0≤gb
 left:s.left=-1
 len:∀ n,(s.B n).length=232
theorem eN {w:World} {g gb:Nat} {s:Sf} (hh:w.heap[g]?=some (sN s gb)):w.cell? ⟨g,0,none⟩=some (.int .i64 s.lim)∧w.cell? ⟨g,1,none⟩=some (.int .i64 s.h.mode)∧w.cell? ⟨g,2,none⟩=some (.int .i64 s.h.pages)∧w.cell? ⟨g,3,none⟩=some (.int .i64 s.h.trunk)∧
  w.cell? ⟨g,4,none⟩=some (.int .i64 s.h.spare)∧w.cell? ⟨g,5,none⟩=some (.int .i64 s.h.root)∧w.cell? ⟨g,6,none⟩=some (.int .u64 s.h.change)∧w.cell? ⟨g,7,none⟩=some (.pointer (some ⟨gb,0,none⟩))∧w.cell? ⟨g,8,none⟩=some (.int .i64 s.left)∧g<w.heap.size:=
 ⟨ac hh 0,ac hh 1,ac hh 2,ac hh 3,ac hh 4,ac hh 5,ac hh 6,ac hh 7,ac hh 8,aj hh⟩
section
variable {b0 b1 m:Nat} {w w':World} {gu gb:Nat} {s:Sf}
theorem RqIs.ch {S:Nat→Prop} (h:RqIs b0 b1 m w gu gb s) (hc:Ch S w w') (h1:∀ k,S k→k<b0) (h2:b0≤b1):RqIs b0 b1 m w' gu gb s:=by obtain ⟨ns,ds,vn,vd,hb,he,hm⟩:=h.book;have hu:=h.b0u;have hbb:=h.b0b;exact ⟨hc.keep h.blk (fun e=>by have:=h1 _ e;omega),⟨ns,ds,vn,vd,hb.ch hc (fun e=>by have:=h1 _ e;omega) (fun k hk _ e=>by have:=h1 _ e;omega),he,hm⟩,h.ne,h.lt,Nat.le_trans h.le hc.size,h.b0u,h.b0b,h.left,h.len⟩
theorem RqIs.below (h:RqIs b0 b1 m w gu gb s) (hb:Below w.heap.size w w'):RqIs b0 b1 m w' gu gb s:=by obtain ⟨ns,ds,vn,vd,hb',he,hm⟩:=h.book;exact ⟨ae h.blk hb,⟨ns,ds,vn,vd,hb'.below hb,he,hm⟩,h.ne,h.lt,Nat.le_trans h.le hb.size,h.b0u,h.b0b,h.left,h.len⟩
theorem RqIs.mono {m':Nat} (h:RqIs b0 b1 m w gu gb s) (hm:m≤m'):RqIs b0 b1 m' w gu gb s:=by obtain ⟨ns,ds,vn,vd,hb',he,hm'⟩:=h.book;exact ⟨h.blk,⟨ns,ds,vn,vd,hb',he,by omega⟩,h.ne,h.lt,h.le,h.b0u,h.b0b,h.left,h.len⟩
theorem RqIs.b01 (h:RqIs b0 b1 m w gu gb s):b0≤b1:=by have:=h.b0u;have:=h.lt;omega
end
theorem gx (b0 b1 m gu gb:Nat) (s:Sf) (w:World) (h:RqIs b0 b1 m w gu gb s):
  Calls Tryz.prog 53 #[.pointer (some ⟨gu,0,none⟩)] w fun e w'=>e=.returned (.int .i64 0)∧w=w':=by
 obtain ⟨a0,a1,a2,a3,a4,a5,a6,a7,a8,a9⟩:=eN h.blk;rw [h.left] at a8;clear h;go_enter Tryz.func53,Tryz.ntmps53;go_wp2_with fail;go_ret;exact ⟨rfl,rfl⟩
theorem mE (n:Int) (b0 b1 m gu gb:Nat) (s:Sf) (w:World) (h:RqIs b0 b1 m w gu gb s):
  Calls Tryz.prog 57 #[.pointer (some ⟨gu,0,none⟩),.int .i64 n] w fun e w'=>e=.returned (.bool (decide (bc s n=0)))∧w=w':=by
 obtain ⟨a0,a1,a2,a3,a4,a5,a6,a7,a8,a9⟩:=eN h.blk;have HL:=hid h.left;clear h;go_enter Tryz.func57,Tryz.ntmps57;by_cases h1:1≤n
 ·have HV:=hid (show decide (bc s n=0)=decide (n<s.h.pages) by
   unfold bc;rw [HL.out,if_neg (by omega)];by_cases h2:n<s.h.pages
   ·rw [if_neg (by omega)];simp [h2]
   ·rw [if_pos (by omega)];simp [h2])
  go_wp2_with fail;go_ret;exact ⟨by rw [HV.out];rfl,rfl⟩
 ·have HV:=hid (show decide (bc s n=0)=false by
   unfold bc;rw [HL.out,if_neg (by omega),if_pos (by omega)];rfl)
  have h2:n<1:=by omega
  go_wp2_with fail;go_ret;exact ⟨by rw [HV.out];rfl,rfl⟩
theorem jl {s:Sf} (h:s.left=-1) (n:Int):bl s=s∧(bc s n=0∨bc s n=21):=by
 unfold bl bc;rw [h,if_neg (by omega),if_neg (by omega)];refine ⟨rfl,?_⟩
 split
 ·exact .inr rfl
 ·exact .inl rfl
theorem kX (n:Int) (b0 b1 m gu gb:Nat) (s:Sf) (w:World) (h:RqIs b0 b1 m w gu gb s) (hm:m≤1000000):
  Calls Tryz.prog 62 #[.pointer (some ⟨gu,0,none⟩),.int .i64 n] w fun e w'=>e=.returned (.tuple #[.string (al (fS s n)),.int .i64 (bc s n)])∧Below w.heap.size w w':=by
 obtain ⟨ns,ds,vn,vd,hbk,he,hns⟩:=h.book;have HBK:=hid hbk;have HE:=hid he;have H:=hid h;obtain ⟨a0,a1,a2,a3,a4,a5,a6,a7,a8,a9⟩:=eN h.blk;have HM:=hid (jl h.left n);clear h he hbk;go_enter Tryz.func62,Tryz.ntmps62;go_wp2_with fail;refine (gx b0 b1 m gu gb s w H.out).mono ?_;rintro e w1 ⟨rfl,rfl⟩;go_wp2_with fail;refine (mE n b0 b1 m gu gb s w H.out).mono ?_;rintro e w1 ⟨rfl,rfl⟩;by_cases hb:bc s n=0
 ·have HV:=hid (show fS s n=nH ns ds n by unfold fS;rw [if_pos hb,HE.out]);have HB0:=hid hb;rw [decide_eq_true hb];clear hb;go_wp2_with fail;refine (rE n b1 gb ns ds vn vd w HBK.out (by omega)).mono ?_;rintro e w1 ⟨rfl,hb⟩;go_wp2_with fail;go_ret2;exact ⟨by rw [HV.out,HB0.out];rfl,hb⟩
 ·have HV:=hid (show fS s n=[]∧bc s n=21 from ⟨by unfold fS;rw [if_neg hb],HM.out.2.resolve_left hb⟩);rw [decide_eq_false hb];clear hb;go_wp2_with fail;go_ret2;exact ⟨by rw [HV.out.1,HV.out.2];rfl,Below.refl _ _⟩
def jW (s:Sf) (n:Int) (x:By):Sf:={ s with B:=bx s.B n x }
theorem RqIs.put {b0 b1 m:Nat} {w w':World} {gu gb:Nat} {s:Sf} {n:Int} {x:By} (h:RqIs b0 b1 m w gu gb s) (hx:x.length=232) (hb:∃ ns' ds' vn' vd',RbO b1 w' gb ns' ds' vn' vd'∧nH ns' ds'=bx s.B n x∧ns'.length≤m+1) (hk:w'.heap[gu]?=some (sN s gb)) (hs:w.heap.size≤w'.heap.size):RqIs b0 b1 (m+1) w' gu gb (jW s n x):=by
 obtain ⟨ns',ds',vn',vd',h1,h2,h3⟩:=hb
 exact ⟨hk,⟨ns',ds',vn',vd',h1,h2.symm,h3⟩,h.ne,h.lt,Nat.le_trans h.le hs,h.b0u,h.b0b,h.left,fun k=>by
  unfold jW bx;simp only
  split
  ·exact hx
  ·exact h.len k⟩
theorem RqIs.far {b0 b1 m:Nat} {w w':World} {gu gb:Nat} {s:Sf} (h:RqIs b0 b1 m w gu gb s) (hc:Ch (fun k=>k=gb∨b1≤k) w w'):w'.heap[gu]?=some (sN s gb):=
 hc.keep h.blk (fun e=>by have:=h.lt;have:=h.ne;omega)
theorem RqIs.low {b0 b1 m:Nat} {w w':World} {gu gb:Nat} {s:Sf} (h:RqIs b0 b1 m w gu gb s) (hc:Ch (fun k=>k=gb∨b1≤k) w w'):Below b0 w w':=
 hc.below (by have:=h.b01;have:=h.le;omega) (fun k e=>by have:=h.b01;have:=h.b0b;omega)
theorem py (n:Int) (x:By) (b0 b1 m gu gb:Nat) (s:Sf) (w:World) (h:RqIs b0 b1 m w gu gb s) (hm:m≤1000000) (hx:x.length=232) (hn:bc s n=0):
  Calls Tryz.prog 21 #[.pointer (some ⟨gu,0,none⟩),.int .i64 n,.string (al x)] w fun e w'=>e=.returned (.int .i64 0)∧RqIs b0 b1 (m+1) w' gu gb (jW s n x)∧Below b0 w w':=by
 obtain ⟨ns,ds,vn,vd,hbk,he,hns⟩:=h.book;have HBK:=hid hbk;have HE:=hid he;have H:=hid h;obtain ⟨a0,a1,a2,a3,a4,a5,a6,a7,a8,a9⟩:=eN h.blk;have hsz:(al x).size=232:=by rw [aq,hx]
 have HX:=hid hx;have HN:=hid (decide_eq_true hn);clear h he hbk hx hn;go_enter Tryz.func21,Tryz.ntmps21;go_wp2_with fail;refine (gx b0 b1 m gu gb s w H.out).mono ?_;rintro e w1 ⟨rfl,rfl⟩;go_wp2_with fail;refine (mE n b0 b1 m gu gb s w H.out).mono ?_;rw [HN.out];rintro e w1 ⟨rfl,rfl⟩;go_wp2_with fail;refine (nG n x b1 gb ns ds vn vd w HBK.out (by omega) H.out.le).mono ?_;rintro e w1 ⟨⟨r,rfl⟩,⟨ns',ds',vn',vd',h1,h2,h3⟩,hc⟩;have HF:=hid (H.out.put (n:=n) HX.out ⟨ns',ds',vn',vd',h1,by rw [h2,HE.out],by omega⟩ (H.out.far hc) hc.size);have HLW:=hid (H.out.low hc);clear h1 h2 h3 hc;go_wp2_with fail;go_ret;exact ⟨rfl,HF.out,HLW.out⟩
theorem nZ (w:World):Calls Tryz.prog 49 #[] w fun e w'=>e=.returned (.agg #[.int .i64 1,.int .i64 1,.int .i64 0,.int .i64 0,.int .i64 0,.int .u64 0])∧Below w.heap.size w w':=by go_enter Tryz.func49,Tryz.ntmps49;go_wp2_with fail;obtain ⟨q0,q1,q2,q3,q4,q5,q6⟩:=au (ag (w0:=w) (g:=w.heap.size) (o:=cQ freshH) rfl);exact bodyPost_ret (v:=.agg #[.int .i64 1,.int .i64 1,.int .i64 0,.int .i64 0,.int .i64 0,.int .u64 0]) (by simp [results,Tryz.results49,go_sem]) rfl ⟨rfl,(Below.refl _ w).alloc (Nat.le_refl _) _⟩
theorem jT (n:Int) (w:World) (h1:1≤n) (h2:n≤4096):
  Calls Tryz.prog 16 #[.int .i64 n] w fun e w'=>∃ gu gb b1,e=.returned (.pointer (some ⟨gu,0,none⟩))∧RqIs w.heap.size b1 0 w' gu gb (ma n)∧Below w.heap.size w w':=by
 have HL:=hid (show tc n=n by unfold tc;omega);go_enter Tryz.func16,Tryz.ntmps16;go_wp2_with fail;refine (nZ w).mono ?_;rintro e w1 ⟨rfl,hb⟩;have HB:=hid hb;have HSZ:=hid hb.size;clear hb;go_wp2_with fail;go_ret;have hs:=HSZ.out;have hb1:Below w.heap.size w (w1.alloc (.cells #[.slice none 0 0,.slice none 0 0] 96 (0,0))):=HB.out.alloc hs _;refine ⟨_,w1.heap.size,w1.heap.size+2,rfl,⟨?_,⟨[],[],.slice none 0 0,.slice none 0 0,⟨ai (ag rfl) _,Own.nil,Own.nil,Dis.nil,rfl,by omega⟩,rfl,Nat.le_refl _⟩,by first | omega | (simp),by first | omega | (simp),by first | omega | (simp),by first | omega | (simp;omega),hs,rfl,fun _=>cG⟩,hb1.alloc (by simp;omega) _⟩;rw [show ma n=⟨n,freshH,fun _=>blankL,-1⟩ by unfold ma;rw [HL.out]];exact ag (by simp)
def fh (s:Sf):Sf:={ s with h:={ s.h with pages:=s.h.pages+1 },B:=bx s.B s.h.pages blankL }
theorem qH {s:Sf} (h0:s.left=-1) (h1:s.h.spare=0) (h2:s.h.pages<s.lim) (h3:s.lim≤4096):bj s=0∧bN s=s.h.pages∧aR s=fh s:=by
 have ht:bm s.h s.B=⟨s.h.pages,{ s.h with pages:=s.h.pages+1 },0,s.B⟩:=by unfold bm;rw [if_pos h1,if_neg (by omega)]
 have he:bj s=0:=by unfold bj;rw [if_neg (by omega),if_neg (by omega),ht]
 refine ⟨he,by unfold bN;rw [if_pos he,ht],?_⟩;unfold aR;rw [if_pos he,ht,(jl h0 0).1];rfl
theorem nY (h:Hd) (v:Value) (w:World) (h0:h.spare=0) (h1:h.pages<4096) (h2:0≤h.pages):
  Calls Tryz.prog 54 #[.agg #[.int .i64 h.mode,.int .i64 h.pages,.int .i64 h.trunk,.int .i64 h.spare,.int .i64 h.root,.int .u64 h.change],v] w
   fun e w'=>e=.returned (.tuple #[.int .i64 h.pages,.agg #[.int .i64 h.mode,.int .i64 (h.pages+1),.int .i64 h.trunk,.int .i64 0,.int .i64 h.root,.int .u64 h.change],.int .i64 0])∧Below w.heap.size w w':=by
 obtain ⟨hm,hp,ht,hs,hr,hc⟩:=h;simp only at h0 h1 h2;subst h0;go_enter Tryz.func54,Tryz.ntmps54;go_upto_region 1 with fail
 have HX1:=hid (ai (ag (w0:=w) (g:=w.heap.size) (o:=cQ ⟨hm,hp,ht,0,hr,hc⟩) rfl) (cQ Hd.zero));have HR1:=hid (ag (w0:=w.alloc (cQ ⟨hm,hp,ht,0,hr,hc⟩)) (g:=w.heap.size+1) (o:=cQ Hd.zero) (by simp));have HW1:=hid (((Below.refl _ w).alloc (Nat.le_refl _) (cQ ⟨hm,hp,ht,0,hr,hc⟩)).alloc (by simp) (cQ Hd.zero));generalize hw1:(w.alloc (.cells #[.int .i64 hm,.int .i64 hp,.int .i64 ht,.int .i64 0,.int .i64 hr,.int .u64 hc] 51)).alloc (.cells #[.int .i64 0,.int .i64 0,.int .i64 0,.int .i64 0,.int .i64 0,.int .u64 0] 51)=w1 at *;have hw2:(w.alloc (cQ ⟨hm,hp,ht,0,hr,hc⟩)).alloc (cQ Hd.zero)=w1:=hw1;rw [hw2] at HX1 HR1 HW1;clear hw1 hw2;obtain ⟨a0,a1,a2,a3,a4,a5,a6⟩:=au HX1.out;obtain ⟨b0,b1,b2,b3,b4,b5⟩:=aN HX1.out;obtain ⟨c0,c1,c2,c3,c4,c5,c6⟩:=au HR1.out;obtain ⟨d0,d1,d2,d3,d4,d5⟩:=aN HR1.out;simp only [Hd.zero] at a0 a1 a2 a3 a4 a5 c0 c1 c2 c3 c4 c5;go_wp2_with fail;go_region
 all_goals
  go_wp2_with fail;have HH:=hid (dL (bY HR1.out (a:=⟨w.heap.size,1,none⟩) (by simp) (.int .i64 (hp+1))) ⟨hm,hp+1,ht,0,hr,hc⟩);have HC:=hid (bR (S:=fun k=>w.heap.size≤k) ((Ch.of_below (S:=fun k=>w.heap.size≤k) HW1.out).setCell (p:=⟨w.heap.size,1,none⟩) (Nat.le_refl _) (.int .i64 (hp+1))) (Nat.le_succ w.heap.size) ⟨hm,hp+1,ht,0,hr,hc⟩);obtain ⟨q0,q1,q2,q3,q4,q5,q6⟩:=au HH.out;generalize hwf:hP (w1.setCell ⟨w.heap.size,1,none⟩ (.int .i64 (hp+1))) (w.heap.size+1) ⟨hm,hp+1,ht,0,hr,hc⟩=wf at *;have hwf2:((((((w1.setCell ⟨w.heap.size,1,none⟩ (.int .i64 (hp+1))).setCell ⟨w.heap.size+1,0,none⟩ (.int .i64 hm)).setCell ⟨w.heap.size+1,1,none⟩ (.int .i64 (hp+1))).setCell ⟨w.heap.size+1,2,none⟩ (.int .i64 ht)).setCell ⟨w.heap.size+1,3,none⟩ (.int .i64 0)).setCell ⟨w.heap.size+1,4,none⟩ (.int .i64 hr)).setCell ⟨w.heap.size+1,5,none⟩ (.int .u64 hc)=wf:=hwf;rw [hwf2];exact bodyPost_ret (v:=.tuple #[.int .i64 hp,.agg #[.int .i64 hm,.int .i64 (hp+1),.int .i64 ht,.int .i64 0,.int .i64 hr,.int .u64 hc],.int .i64 0]) (by simp [results,Tryz.results54,go_sem,q0,q1,q2,q3,q4,q5]) rfl ⟨rfl,HC.out.drew.below (Nat.le_refl _) (fun _ h=>h)⟩
end Go.Proofs.YtknioodagnjchaaGreatDoor
namespace Go.Proofs.YtknioodagnjchaaGreatDoor
open Go.Lib (hid)
open Go.RowKit
theorem gw {w:World} {g gb:Nat} {s:Sf} (hh:w.heap[g]?=some (sN s gb)):w.cell? ⟨g,1,none⟩=some (.int .i64 s.h.mode)∧w.cell? ⟨g,2,none⟩=some (.int .i64 s.h.pages)∧w.cell? ⟨g,3,none⟩=some (.int .i64 s.h.trunk)∧
  w.cell? ⟨g,4,none⟩=some (.int .i64 s.h.spare)∧w.cell? ⟨g,5,none⟩=some (.int .i64 s.h.root)∧w.cell? ⟨g,6,none⟩=some (.int .u64 s.h.change)∧w.cell? ⟨g,7,none⟩=some (.pointer (some ⟨gb,0,none⟩)):=
 ⟨ac hh 1,ac hh 2,ac hh 3,ac hh 4,ac hh 5,ac hh 6,ac hh 7⟩
theorem qC {w:World} {g gb:Nat} {s:Sf} (hh:w.heap[g]?=some (sN s gb)) (h:Hd):(rM w g h).heap[g]?=some (sN { s with h:=h } gb):=ah (ah (ah (ah (ah (ah hh 1 _) 2 _) 3 _) 4 _) 5 _) 6 _
theorem RqIs.head {b0 b1 m:Nat} {w w':World} {gu gb:Nat} {s:Sf} (h:RqIs b0 b1 m w gu gb s) (x:Hd) (hk:w'.heap[gu]?=some (sN { s with h:=x } gb)) (hc:Ch (fun k=>k=gu) w w'):RqIs b0 b1 m w' gu gb { s with h:=x }:=by obtain ⟨ns,ds,vn,vd,hb,he,hm⟩:=h.book;exact ⟨hk,⟨ns,ds,vn,vd,hb.ch hc h.ne (fun k hk _ e=>by have:=h.lt;omega),he,hm⟩,h.ne,h.lt,Nat.le_trans h.le hc.size,h.b0u,h.b0b,h.left,h.len⟩
theorem pz (b0 b1 m gu gb:Nat) (s:Sf) (w:World) (h:RqIs b0 b1 m w gu gb s) (hm:m≤1000000) (h1:s.h.spare=0) (h2:0≤s.h.pages) (h3:s.h.pages<s.lim) (h4:s.lim≤4096):
  Calls Tryz.prog 18 #[.pointer (some ⟨gu,0,none⟩)] w fun e w'=>e=.returned (.tuple #[.int .i64 s.h.pages,.int .i64 0])∧RqIs b0 b1 (m+1) w' gu gb (fh s)∧Below b0 w w':=by
 have H:=hid h;obtain ⟨a0,a1,a2,a3,a4,a5,a6,a7,a8,a9⟩:=eN h.blk;rw [h1] at a4;have hsp:=h1;have h5:s.h.pages<4096:=by omega
 clear h;go_enter Tryz.func18,Tryz.ntmps18;go_wp2_with fail;refine (gx b0 b1 m gu gb s w H.out).mono ?_;rintro e w1 ⟨rfl,rfl⟩;have hp3:decide (s.lim≤s.h.pages)=false:=decide_eq_false (by omega);go_upto_region 4 with fail
 have f0:=aU a0 a9;have f2:=aU a2 a9;have f4:=aU a4 a9;refine aJ (by kernel_rfl) (by kernel_rfl) ?_
 repeat (go_big_quiet_step (fail))
 refine wpQuiet_nil ?_;rintro w1 ⟨⟨w2,hb⟩,rfl⟩;have H2:=hid (H.out.below hb);have HW2:=hid hb;have hs2:=hb.size;clear hb a0 a1 a2 a3 a4 a5 a6 a7 a8 a9 f0 f2 f4;obtain ⟨a0,a1,a2,a3,a4,a5,a6,a7,a8,a9⟩:=eN H2.out.blk;rw [hsp] at a4;go_upto_region 6 with fail
 have HT:=hid (fun (x:World)=>nY s.h (.pointer (some ⟨gb,0,none⟩)) x hsp h5 h2);rw [hsp] at HT
 go_region_held3 (fun wn=>wn.cell? ⟨gu,1,none⟩=some (.int .i64 s.h.mode)∧wn.cell? ⟨gu,2,none⟩=some (.int .i64 s.h.pages)∧wn.cell? ⟨gu,3,none⟩=some (.int .i64 s.h.trunk)∧
   wn.cell? ⟨gu,4,none⟩=some (.int .i64 0)∧wn.cell? ⟨gu,5,none⟩=some (.int .i64 s.h.root)∧wn.cell? ⟨gu,6,none⟩=some (.int .u64 s.h.change)∧wn.cell? ⟨gu,7,none⟩=some (.pointer (some ⟨gb,0,none⟩)))
  ((first | go_keep | exact HXS.out))
  (first
  | (go_at_call 54
     refine (HT.out _).mono ?_;rintro e w4 ⟨rfl,hb⟩;have HB4:=hid (show Below w1.heap.size w1 w4 from (Below.refl _ w1).drew.trans hb);obtain ⟨k1,k2,k3,k4,k5,k6,k7⟩:=gw (H2.out.below HB4.out).blk;rw [hsp] at k4;have hz4:=aj (H2.out.below HB4.out).blk;clear hb)
  | (go_at_call 54
     refine (HT.out _).mono ?_;rintro e w4 ⟨rfl,hb⟩;have HB4:=hid (show Below w1.heap.size w1 w4 from ((Below.refl _ w1).alloc (Nat.le_refl _) (cQ Hd.zero)).drew.trans (hb.mono (by simp)));obtain ⟨k1,k2,k3,k4,k5,k6,k7⟩:=gw (H2.out.below HB4.out).blk;rw [hsp] at k4;have hz4:=aj (H2.out.below HB4.out).blk;have HA4:=hid (show w4.heap[w1.heap.size]?=some (cQ Hd.zero) from ae (w:=(w1.alloc (cQ Hd.zero)).drew) (ag (w0:=w1) rfl) hb);obtain ⟨j0,j1,j2,j3,j4,j5,j6⟩:=au HA4.out;obtain ⟨l0,l1,l2,l3,l4,l5⟩:=aN HA4.out;simp only [Hd.zero] at j0 j1 j2 j3 j4 j5;have HXS:=hid (gw ((bR (Ch.refl (fun j=>j=w1.heap.size) w4) rfl ⟨s.h.mode,s.h.pages+1,s.h.trunk,0,s.h.root,s.h.change⟩).keep (H2.out.below HB4.out).blk (by have:=aj H2.out.blk;omega)));rw [hsp] at HXS;clear hb))
 all_goals
  have H4:=hid (H2.out.below HB4.out);have hgu:=aj H2.out.blk
  first
  | (have HCZ:=hid (bR (Ch.refl (fun j=>j=w1.heap.size) w4) rfl ⟨s.h.mode,s.h.pages+1,s.h.trunk,0,s.h.root,s.h.change⟩)
     have HHZ:=hid (dL HA4.out ⟨s.h.mode,s.h.pages+1,s.h.trunk,0,s.h.root,s.h.change⟩);have HBZ:=hid (HB4.out.trans (HCZ.out.below (B:=w1.heap.size) HB4.out.size (fun _ e=>Nat.le_of_eq e.symm)));clear HXS j0 j1 j2 j3 j4 j5 j6 l0 l1 l2 l3 l4 l5 k1 k2 k3 k4 k5 k6 k7 HA4 a0 a1 a2 a3 a4 a5 a6 a7 a8 a9 HCZ;generalize hwf:hP w4 w1.heap.size ⟨s.h.mode,s.h.pages+1,s.h.trunk,0,s.h.root,s.h.change⟩=wz at *;have hwf2:(((((w4.setCell ⟨w1.heap.size,0,none⟩ (.int .i64 s.h.mode)).setCell ⟨w1.heap.size,1,none⟩ (.int .i64 (s.h.pages+1))).setCell ⟨w1.heap.size,2,none⟩ (.int .i64 s.h.trunk)).setCell ⟨w1.heap.size,3,none⟩ (.int .i64 0)).setCell ⟨w1.heap.size,4,none⟩ (.int .i64 s.h.root)).setCell ⟨w1.heap.size,5,none⟩ (.int .u64 s.h.change)=wz:=hwf;rw [hwf2];have hgr:w1.heap.size≤w1.heap.size:=Nat.le_refl _;generalize hgq:w1.heap.size=gr at hgr HHZ ⊢;rw [← hgq] at hgr;clear hwf hwf2 hgq)
  | (have HHZ:=hid (ag (w0:=w4) (g:=w4.heap.size) (o:=cQ ⟨s.h.mode,s.h.pages+1,s.h.trunk,0,s.h.root,s.h.change⟩) rfl)
     have HBZ:=hid (HB4.out.alloc HB4.out.size (cQ ⟨s.h.mode,s.h.pages+1,s.h.trunk,0,s.h.root,s.h.change⟩));clear k1 k2 k3 k4 k5 k6 k7 a0 a1 a2 a3 a4 a5 a6 a7 a8 a9;generalize hwf:w4.alloc (cQ ⟨s.h.mode,s.h.pages+1,s.h.trunk,0,s.h.root,s.h.change⟩)=wz at *;have hwf2:w4.alloc (.cells #[.int .i64 s.h.mode,.int .i64 (s.h.pages+1),.int .i64 s.h.trunk,.int .i64 0,.int .i64 s.h.root,.int .u64 s.h.change] 51)=wz:=hwf;rw [hwf2];have hgr:=HB4.out.size;generalize w4.heap.size=gr at hgr HHZ ⊢;clear hwf hwf2)
  clear hz4;have HZ:=hid (H2.out.below HBZ.out);obtain ⟨x0,x1,x2,x3,x4,x5,x6,x7,x8,x9⟩:=eN HZ.out.blk;obtain ⟨y0,y1,y2,y3,y4,y5,y6⟩:=au HHZ.out;have f1:=ab HZ.out.blk 1;have f2:=ab HZ.out.blk 2;have f3:=ab HZ.out.blk 3;have f4:=ab HZ.out.blk 4;have f5:=ab HZ.out.blk 5;have f6:=ab HZ.out.blk 6;rw [hsp] at x4;simp only at y0 y1 y2 y3 y4 y5;have HX8:=hid (qC HZ.out.blk ⟨s.h.mode,s.h.pages+1,s.h.trunk,0,s.h.root,s.h.change⟩);have HC8:=hid (eM (Ch.refl (fun j=>j=gu) wz) rfl ⟨s.h.mode,s.h.pages+1,s.h.trunk,0,s.h.root,s.h.change⟩);have HN8:=hid (show (⟨s.h.mode,s.h.pages+1,s.h.trunk,0,s.h.root,s.h.change⟩:Hd)={ s.h with pages:=s.h.pages+1 } by rw [← hsp]);go_upto_region 10 with fail
  generalize hwf:rM wz gu ⟨s.h.mode,s.h.pages+1,s.h.trunk,0,s.h.root,s.h.change⟩=w8 at *;have hwf2:(((((wz.setCell ⟨gu,1,none⟩ (.int .i64 s.h.mode)).setCell ⟨gu,2,none⟩ (.int .i64 (s.h.pages+1))).setCell ⟨gu,3,none⟩ (.int .i64 s.h.trunk)).setCell ⟨gu,4,none⟩ (.int .i64 0)).setCell ⟨gu,5,none⟩ (.int .i64 s.h.root)).setCell ⟨gu,6,none⟩ (.int .u64 s.h.change)=w8:=hwf;rw [hwf2];clear hwf hwf2 x0 x1 x2 x3 x4 x5 x6 x7 x8 x9 y0 y1 y2 y3 y4 y5 y6 f1 f2 f3 f4 f5 f6;have H8:=hid (HZ.out.head ⟨s.h.mode,s.h.pages+1,s.h.trunk,0,s.h.root,s.h.change⟩ HX8.out HC8.out);have HL8:=hid (((HW2.out.trans (HBZ.out.mono HW2.out.size)).mono (show b0≤w.heap.size from by have:=H.out.le;have:=H.out.b01;omega)).trans (HC8.out.below (B:=b0) (by have:=HZ.out.le;have:=HZ.out.b01;omega) (fun k e=>by have:=HZ.out.b0u;omega)));have x7:=(gw HX8.out).2.2.2.2.2.2;have x8:=aj HX8.out;obtain ⟨ns,ds,vn,vd,hbk,hbe,hns⟩:=H8.out.book;have HBK:=hid hbk;have HBE:=hid hbe;clear hbk hbe;go_region_law (first
   | (go_simp
      go_at_call 20;refine (gD ⟨#[]⟩ _).mono ?_;rintro e w9 ⟨rfl,hb⟩;have HB9:=hid (show Below w8.heap.size w8 w9 from (Below.refl _ w8).drew.trans hb);have HBK9:=hid (HBK.out.below HB9.out);have z7:=(gw (ae HX8.out HB9.out)).2.2.2.2.2.2;have z8:=aj (ae HX8.out HB9.out);clear hb)
   | (go_simp
      go_at_call 55;refine (nG s.h.pages blankL b1 gb ns ds vn vd _ HBK9.out (by omega) (by have:=H8.out.le;have:=HB9.out.size;omega)).mono ?_;rintro e w10 ⟨⟨r,rfl⟩,hbk,hc⟩;have HBP:=hid hbk;have HC10:=hid hc;clear hbk hc))
  all_goals
   go_wp2_with fail;go_ret2;have H9:=hid (H8.out.below HB9.out);obtain ⟨ns',ds',vn',vd',q1,q2,q3⟩:=HBP.out;have H10:=H9.out.put (n:=s.h.pages) cG ⟨ns',ds',vn',vd',q1,by rw [q2,HBE.out],by omega⟩ (H9.out.far HC10.out) HC10.out.size;rw [show jW { s with h:=⟨s.h.mode,s.h.pages+1,s.h.trunk,0,s.h.root,s.h.change⟩ } s.h.pages blankL=fh s by unfold jW fh;rw [HN8.out]] at H10;exact ⟨rfl,H10,HL8.out.trans ((HB9.out.mono (by have:=H8.out.le;have:=H8.out.b01;omega)).trans (H9.out.low HC10.out))⟩
end Go.Proofs.YtknioodagnjchaaGreatDoor
