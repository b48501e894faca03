/- The reference's book of pages and its search among keys, plain. cahierref09.Book: place, Get, Put; cahierref10.Shelf: New, begin, is, Get, Put, New (without free pages). cahierref10.Shelf: New, begin, is, Get, Put; New where no page is free. cahierref11: Good, Value. cahierref08: bytes, Encode. cahierref08: number, part, fixed. -/
import Derived.Test.YtknioodagnjchaaGreatDoorBGd
import Derived.Test.YtknioodagnjchaaGreatDoorBGg
import Derived.Test.YtknioodagnjchaaGreatDoorBGi
import Derived.Test.YtknioodagnjchaaGreatDoorBGc
import Derived.Test.YtknioodagnjchaaGreatDoorBGh
import Derived.Test.YtknioodagnjchaaGreatDoorBGo
set_option maxRecDepth 100000
set_option maxHeartbeats 4000000
namespace Go.Proofs.YtknioodagnjchaaGreatDoor
open List renaming getD_eq_getElem?_getD->Bt,getElem?_eq_none->Bv,length_cons->Bw
def fM (ns:List Int) (n:Int):Nat:=(ns.takeWhile fun x=>!decide (x=n)).length
def pZ (ns:List Int) (ds:List By) (n:Int):By:=ds.getD (fM ns n) blankL
theorem pG (ns:List Int) (n:Int):fM ns n<=ns.length:=(List.takeWhile_sublist _).length_le
theorem iY (x:Int) (ns:List Int) (n:Int):fM (x :: ns) n=if x=n then 0 else fM ns n+1:=by unfold fM;rw [List.takeWhile_cons];by_cases h:x=n <;> simp [h]
theorem vT {ns:List Int} {n:Int} (h:fM ns n<ns.length):ns[fM ns n]=n:=by
 induction ns with
 | nil=>simp at h
 | cons x ns ih=>
   have e:=iY x ns n;by_cases hx:x=n
   ·rw [if_pos hx] at e;simp only [e];exact hx
   ·rw [if_neg hx] at e;simp only [e];rw [e] at h;exact ih (by simpa using h)
theorem xL {ns:List Int} {n m:Int}:fM (ns ++ [n]) m=if fM ns m<ns.length then fM ns m else if n=m then ns.length else ns.length+1:=by
 induction ns with
 | nil=>simp [iY];unfold fM;simp
 | cons x ns ih=>
   rw [List.cons_append,iY,iY,ih];by_cases hx:x=m
   ·simp [hx]
   ·rw [if_neg hx,if_neg hx];by_cases h1:fM ns m<ns.length
    ·rw [if_pos h1,if_pos (by simp only [Bw];omega)]
    ·rw [if_neg h1,if_neg (show ¬ (fM ns m+1<(x :: ns).length) by simp only [Bw];omega)];by_cases h2:n=m
     ·rw [if_pos h2,if_pos h2];simp
     ·rw [if_neg h2,if_neg h2];simp
theorem yl {ns:List Int} {ds:List By} {n:Int} {d:By} (hl:ns.length=ds.length) (h:fM ns n=ns.length):pZ (ns ++ [n]) (ds ++ [d])=bN (pZ ns ds) n d:=by
 funext m;unfold pZ bN;show (ds ++ [d]).getD (fM (ns ++ [n]) m) blankL=if m=n then d else ds.getD (fM ns m) blankL
 rw [xL];by_cases hm:m=n
 ·subst hm;rw [if_neg (by omega),if_pos rfl,if_pos rfl,hl];simp
 ·rw [if_neg hm,if_neg (show ¬ n=m from fun e=>hm e.symm)];by_cases h1:fM ns m<ns.length
  ·rw [if_pos h1,Bt,Bt,List.getElem?_append_left (by omega)]
  ·rw [if_neg h1];have h2:=pG ns m;rw [Bt,Bt,Bv (by simp;omega),Bv (by omega)]
theorem yj {ns:List Int} {ds:List By} {n:Int} {d:By} (hl:ns.length=ds.length) (h:fM ns n<ns.length):pZ ns (ds.set (fM ns n) d)=bN (pZ ns ds) n d:=by
 funext m;unfold pZ bN;show (ds.set (fM ns n) d).getD (fM ns m) blankL=if m=n then d else ds.getD (fM ns m) blankL
 by_cases hm:m=n
 ·subst hm;rw [if_pos rfl,Bt,List.getElem?_set_self (by omega)];rfl
 ·rw [if_neg hm,Bt,Bt];by_cases h1:fM ns m<ns.length
  ·have hne:fM ns n≠fM ns m:=fun e=>by
    have a:=vT h;have b:=vT h1;simp only [e] at a;exact hm (b.symm.trans a)
   rw [List.getElem?_set_ne hne]
  ·have h2:=pG ns m;rw [Bv (by simp;omega),Bv (by omega)]
theorem yL {ns:List Int} {ds:List By} {n:Int} (hl:ns.length=ds.length) (h:fM ns n<ns.length):pZ ns ds n=ds[fM ns n]'(by omega):=by unfold pZ;rw [Bt,List.getElem?_eq_getElem (by omega)];rfl
theorem yk {ns:List Int} {ds:List By} {n:Int} (hl:ns.length=ds.length) (h:fM ns n=ns.length):pZ ns ds n=blankL:=by unfold pZ;rw [Bt,Bv (by omega)];rfl
end Go.Proofs.YtknioodagnjchaaGreatDoor
namespace Go.Proofs.YtknioodagnjchaaGreatDoor
open Go.Lib renaming hid->Z
open Go.RowKit
structure RbO (b1:Nat) (w:World) (gb:Nat) (ns:List Int) (ds:List By) (vn vd:Value):Prop where
 blk:w.heap[gb]?=some (.cells #[vn,vd] 96 (0,0))
 n:Own iC 1 3 b1 w vn ns
 d:Own sC 1 9 b1 w vd ds
 dis:Dis vn vd
 len:ns.length=ds.length
 lt:gb<b1
theorem RbO.ch {b1:Nat} {w w':World} {gb:Nat} {ns:List Int} {ds:List By} {vn vd:Value} (h:RbO b1 w gb ns ds vn vd) {S:Nat->Prop} (hc:Ch S w w') (h1:¬ S gb) (h2:∀ k,b1<=k->k<w.heap.size->¬ S k):RbO b1 w' gb ns ds vn vd:=
 ⟨hc.keep h.blk h1,h.n.ch hc (fun k hk=>h2 k (h.n.lt k hk).1 (h.n.lt k hk).2),h.d.ch hc (fun k hk=>h2 k (h.d.lt k hk).1 (h.d.lt k hk).2),h.dis,h.len,h.lt⟩
theorem RbO.below {b1:Nat} {w w':World} {gb:Nat} {ns:List Int} {ds:List By} {vn vd:Value} (h:RbO b1 w gb ns ds vn vd) (hb:Below w.heap.size w w'):RbO b1 w' gb ns ds vn vd:=
 h.ch (S:=fun _=>False) (Ch.zK hb) id fun _ _ _=>id
def ur (ns:List Int) (n:Int):Int:=if fM ns n<ns.length then (fM ns n:Int) else -1
theorem vS {ns:List Int} {n:Int} {k:Nat} (h:k<ns.length) (hp:fM ns n=k+fM (ns.drop k) n):fM ns n=k+if ns[k]=n then 0 else fM (ns.drop (k+1)) n+1:=by rw [hp,List.drop_eq_getElem_cons h,iY]
theorem nD (n:Int) (b1 gb:Nat) (ns:List Int) (ds:List By) (vn vd:Value) (w:World) (h:RbO b1 w gb ns ds vn vd) (hl:ns.length<=1000000):
  Calls Tryz.prog 108 #[.pointer (some ⟨gb,0,none⟩),.int .i64 n] w fun e w'=>e=.returned (.int .i64 (ur ns n))/\w=w':=by
 obtain ⟨A,c,rfl⟩:=Sl.zM (h.n.sl ax);have H:=Z (h.n.sl ax);have m0:w.cell? ⟨gb,0,none⟩=some (.slice A ns.length c):=ae h.blk 0;have m1:=aj h.blk;clear h;go_enter Tryz.func108,Tryz.ntmps108;go_wp2_with fail;go_loopw [5] (fun s5 wr=>∃ i:Nat,s5=.int .i64 i/\i<=ns.length/\fM ns n=i+fM (ns.drop i) n/\wr=w) (fun s5 _=>ns.length - (intOf s5).toNat)
 case atStart=>exact ⟨0,rfl,Nat.zero_le _,by simp,rfl⟩
 case round=>
  obtain ⟨i,rfl,hi,he,rfl⟩:=hrel;have HE:=Z he;clear he;by_cases hlt:i<ns.length
  ·obtain ⟨b,off,c',he,hbl,hsl⟩:=H.out.zQ hlt;injection he with e1 e2 e3
   subst e1 e3;have c0:wr.cell? ⟨b,off+i,none⟩=some (.int .i64 ns[i]):=by simpa [iC] using hsl 0 _ rfl
   have hi1:(i:Int)<(ns.length:Int):=by omega
   have HD:=Z (vS hlt HE.out);clear hsl HE e2;by_cases hq:ns[i]=n
   ·have HV:=Z (show ur ns n=(i:Int) by
     have:=HD.out;rw [if_pos hq] at this;unfold ur;rw [if_pos (by omega)];omega)
    have hq2:(ns[i] == n)=true:=by simpa using hq
    clear hq HD;generalize ns[i]=x at *;go_wp2_with fail;go_ret;exact ⟨by rw [HV.out];rfl,rfl⟩
   ·have HV:=Z (show fM ns n=(i+1)+fM (ns.drop (i+1)) n by
     have:=HD.out;rw [if_neg hq] at this;omega)
    have hq2:(ns[i] == n)=false:=by simpa using hq
    clear hq HD;generalize ns[i]=x at *;go_wp2_with fail;go_roundw
    case rel=>exact ⟨i+1,by go_num,hlt,HV.out,by trivial⟩
    case measure=>simp [intOf];omega
  ·obtain rfl:i=ns.length:=by omega
   have HV:=Z (show ur ns n=-1 by
    have:=HE.out;unfold ur;rw [if_neg (by omega)])
   clear hlt hi HE;go_wp2_with fail;go_ret;exact ⟨by rw [HV.out];rfl,rfl⟩
theorem xh (n:Int) (b1 gb:Nat) (ns:List Int) (ds:List By) (vn vd:Value) (w:World) (h:RbO b1 w gb ns ds vn vd) (hl:ns.length<=1000000):
  Calls Tryz.prog 106 #[.pointer (some ⟨gb,0,none⟩),.int .i64 n] w fun e w'=>e=.returned (.string (ap (pZ ns ds n)))/\Below w.heap.size w w':=by
 obtain ⟨A,c,rfl⟩:=Sl.zM (h.d.sl aG);have HP:=Z (nD n b1 gb ns ds vn _ w h hl);have H:=Z (h.d.sl aG);have m0:w.cell? ⟨gb,1,none⟩=some (.slice A ds.length c):=ae h.blk 1;have m1:=aj h.blk;have HL:=Z h.len;clear h;go_enter Tryz.func106,Tryz.ntmps106;go_wp2_with fail;refine HP.out.mono ?_;rintro e w1 ⟨rfl,rfl⟩;by_cases hp:fM ns n<ns.length
 ·have hv:ur ns n=(fM ns n:Int):=by unfold ur;rw [if_pos hp]
  have hd:fM ns n<ds.length:=by have:=HL.out;omega
  obtain ⟨b,off,rfl,hbl,-,hc⟩:=H.out.key hd;have HV:=Z (show pZ ns ds n=ds[fM ns n] from yL HL.out hp);have hi1:(fM ns n:Int)<(ds.length:Int):=by omega
  rw [hv];clear hv;generalize ds[fM ns n]=x at *;generalize fM ns n=p at *;go_wp2_with fail;go_ret;exact ⟨by rw [HV.out];rfl,Below.refl _ _⟩
 ·have hv:ur ns n=-1:=by unfold ur;rw [if_neg hp]
  have HV:=Z (yk (n:=n) HL.out (by have:=pG ns n;omega));rw [hv];clear hv hp;go_wp2_with fail;refine (rh ⟨#[]⟩ w).mono ?_;rintro e w2 ⟨rfl,hb⟩;go_wp2_with fail;go_ret;exact ⟨by rw [HV.out];rfl,hb⟩
theorem xe (n:Int) (x:By) (b1 gb:Nat) (ns:List Int) (ds:List By) (vn vd:Value) (w:World) (h:RbO b1 w gb ns ds vn vd) (hl:ns.length<=1000000) (hx:b1<=w.heap.size):
  Calls Tryz.prog 55 #[.pointer (some ⟨gb,0,none⟩),.int .i64 n,.string (ap x)] w fun e w'=>(∃ r,e=.returned r)/\(∃ ns' ds' vn' vd',RbO b1 w' gb ns' ds' vn' vd'/\pZ ns' ds'=bN (pZ ns ds) n x/\ns'.length<=ns.length+1)/\Ch (fun k=>k=gb\/b1<=k) w w':=by
 obtain ⟨A1,c1,rfl⟩:=Sl.zM (h.n.sl ax);obtain ⟨A2,c2,rfl⟩:=Sl.zM (h.d.sl aG);have HP:=Z (nD n b1 gb ns ds _ _ w h hl);have H:=Z h;have hlt:=h.lt;have m0:w.cell? ⟨gb,0,none⟩=some (.slice A1 ns.length c1):=ae h.blk 0;have m1:w.cell? ⟨gb,1,none⟩=some (.slice A2 ds.length c2):=ae h.blk 1;have m2:=aj h.blk;have m3:=ab h.blk 0;have m4:=ab h.blk 1;clear h;go_enter Tryz.func55,Tryz.ntmps55;go_wp2_with fail;refine HP.out.mono ?_;rintro e w1 ⟨rfl,rfl⟩;by_cases hp:fM ns n<ns.length
 ·have hv:ur ns n=(fM ns n:Int):=by unfold ur;rw [if_pos hp]
  have hd:fM ns n<ds.length:=by have:=H.out.len;omega
  have HB:=Z (yj (d:=x) H.out.len hp);have hi1:(fM ns n:Int)<(ds.length:Int):=by omega
  rw [hv];clear hv hp;obtain ⟨b,off,he,hbl,-,hc⟩:=(H.out.d.sl aG).key hd;rcases H.out.d.2 with ⟨hv0,h0⟩ | ⟨g2,cap,cur,hv0,hbs,hg2,hnc,hmx,hcc,htk⟩
  ·rw [he] at hv0;cases hv0
  ·injection hv0 with e1 e2 e3
   rw [e1] at he;injection he with he
   injection he with e4 e5
   subst e1 e4 e5 e3;have hfz:=ab hg2 (fM ns n);rw [Nat.zero_add] at hc;have HOW:=Z (H.out.d.set aG hd x);have HGE:=Z hbs;have HN:=Z (fun k hk=>(H.out.n.lt k hk:b1<=k/\k<w.heap.size));have HCH:=Z ((Ch.refl (fun k=>k=g2) w).setCell (p:=⟨g2,fM ns n,none⟩) rfl (.string (ap x)));have hdis:∀ k,(Value.slice A1 ns.length c1).ownBlock=some k->¬ k=g2:=fun k hk e=>H.out.dis k hk (by subst e;rfl)
   have HD:=Z hdis;clear hbs hg2 hnc hmx hcc htk hdis;generalize fM ns n=p at *;go_wp2_with fail;refine bodyPost_end (results_none rfl _ _ _) rfl ?_;refine ⟨⟨_,rfl⟩,⟨ns,ds.set p x,_,_,⟨HCH.out.keep H.out.blk (by have:=HGE.out;omega),H.out.n.ch HCH.out HD.out,?_,H.out.dis,by rw [List.length_set];exact H.out.len,H.out.lt⟩,HB.out,by omega⟩,HCH.out.mono (fun k _ e=>.inr (by have:=HGE.out;omega))⟩;have:=HOW.out;simp only [Nat.mul_one,sC,World.setCells] at this;simpa using this
 ·have hv:ur ns n=-1:=by unfold ur;rw [if_neg hp]
  have HB:=Z (yl (n:=n) (d:=x) H.out.len (by have:=pG ns n;omega));have hl2:ds.length<=1000000:=by have:=H.out.len;omega
  rw [hv];clear hv hp;have HC0:=Z (Ch.refl (fun k=>k=gb\/b1<=k) w);go_wp2_with (at_builtin;refine Hid.out ?_);refine Z ?_;refine al rfl rfl bI rfl rfl (H.out.n.alloc _) (Sl.one (n:Int) (by simp) ax rfl) (by simp [maxLen];omega) (by simp;omega) (by simp;omega) ?_;intro v4 w4 ho hg hat;have HO4:=Z ho;have HG4:=Z (bb (am H.out.blk _) hg (fun k hk=>(H.out.n.lt k hk).1) H.out.lt);have HD4:=Z ((H.out.d.alloc _).dis hg H.out.dis.symm);have HX4:=Z (H.out.dis.app hat (H.out.d.alloc _));have HC4:=Z ((HC0.out.alloc _).then (Ch.zL (S:=fun k=>k=gb\/b1<=k) hg (fun k hk=>.inr (H.out.n.lt k hk).1)) (fun i e=>.inl e));have hs4:=HC4.out.size;clear ho hg hat m0 m1 m2 m3 m4;have m0:w4.cell? ⟨gb,0,none⟩=some (.slice A1 ns.length c1):=ae HG4.out 0;have m1:w4.cell? ⟨gb,1,none⟩=some (.slice A2 ds.length c2):=ae HG4.out 1;have m2:=aj HG4.out;have m3:=ab HG4.out 0;obtain ⟨A4,c4,e4⟩:=Sl.zM (HO4.out.sl ax);rw [List.length_append,List.length_singleton] at e4;subst e4;have HC5:=Z (HC4.out.setCell (p:=⟨gb,0,none⟩) (.inl rfl) (.slice A4 (ns.length+1) c4));have HG5:=Z (ai HG4.out 0 (.slice A4 (ns.length+1) c4));have HQ5:=Z ((Ch.refl (fun k=>k=gb) w4).setCell (p:=⟨gb,0,none⟩) rfl (.slice A4 (ns.length+1) c4));have HO5:=Z (HO4.out.ch HQ5.out (fun k hk e=>by have:=(HO4.out.lt k hk).1;omega));have HD5:=Z (HD4.out.ch HQ5.out (fun k hk e=>by have:=(HD4.out.lt k hk).1;omega));have hs5:=HQ5.out.size;go_upto_region 3 with fail
  generalize w4.setCell ⟨gb,0,none⟩ (.slice A4 (ns.length+1) c4)=w5 at *;clear m0 m1 m2 m3;have m0:w5.cell? ⟨gb,0,none⟩=some (.slice A4 (ns.length+1) c4):=ae HG5.out 0;have m1:w5.cell? ⟨gb,1,none⟩=some (.slice A2 ds.length c2):=ae HG5.out 1;have m2:=aj HG5.out;have m3:=ab HG5.out 1;go_wp2_with (at_builtin;refine Hid.out ?_);refine Z ?_;refine al (xs:=ds) (ys:=[x]) rfl rfl gT rfl rfl (HD5.out.alloc _) (Sl.one (x:By) (by simp) aG rfl) (by simp [maxLen];omega) (by simp;omega) (by simp;omega) ?_;intro v6 w6 ho hg hat;have HO6:=Z ho;have HG6:=Z (bb (am HG5.out _) hg (fun k hk=>(HD5.out.lt k hk).1) H.out.lt);have HN6:=Z ((HO5.out.alloc _).dis hg HX4.out);have HX6:=Z (HX4.out.symm.app hat (HO5.out.alloc _));have HC6:=Z ((HC5.out.alloc _).then (Ch.zL (S:=fun k=>k=gb\/b1<=k) hg (fun k hk=>.inr (HD5.out.lt k hk).1)) (fun i e=>.inl e));clear ho hg hat m0 m1 m2 m3;have m0:w6.cell? ⟨gb,0,none⟩=some (.slice A4 (ns.length+1) c4):=ae HG6.out 0;have m1:w6.cell? ⟨gb,1,none⟩=some (.slice A2 ds.length c2):=ae HG6.out 1;have m2:=aj HG6.out;have m3:=ab HG6.out 1;obtain ⟨A6,c6,e6⟩:=Sl.zM (HO6.out.sl aG);rw [List.length_append,List.length_singleton] at e6;subst e6;have HC7:=Z (HC6.out.setCell (p:=⟨gb,1,none⟩) (.inl rfl) (.slice A6 (ds.length+1) c6));have HG7:=Z (ai HG6.out 1 (.slice A6 (ds.length+1) c6));have HQ7:=Z ((Ch.refl (fun k=>k=gb) w6).setCell (p:=⟨gb,1,none⟩) rfl (.slice A6 (ds.length+1) c6));have HO7:=Z (HO6.out.ch HQ7.out (fun k hk e=>by have:=(HO6.out.lt k hk).1;omega));have HN7:=Z (HN6.out.ch HQ7.out (fun k hk e=>by have:=(HN6.out.lt k hk).1;omega));go_wp2_with fail;refine bodyPost_ret (results_none rfl _ _ _) rfl ?_;refine ⟨⟨_,rfl⟩,⟨ns ++ [n],ds ++ [x],_,_,⟨HG7.out,HN7.out,HO7.out,HX6.out.symm,by simp [H.out.len],H.out.lt⟩,HB.out,by simp⟩,HC7.out⟩
end Go.Proofs.YtknioodagnjchaaGreatDoor
namespace Go.Proofs.YtknioodagnjchaaGreatDoor
open Go.Lib renaming hid->Z
open Go.RowKit
def yB (s:Sf) (gb:Nat):Obj:=.cells #[.int .i64 s.lim,.int .i64 s.h.mode,.int .i64 s.h.pages,.int .i64 s.h.trunk,.int .i64 s.h.spare,.int .i64 s.h.root,.int .u64 s.h.change,.pointer (some ⟨gb,0,none⟩),.int .i64 s.left] 98 (0,0)
structure RqIs (b0 b1 m:Nat) (w:World) (gu gb:Nat) (s:Sf):Prop where
 blk:w.heap[gu]?=some (yB s gb)
 book:∃ ns ds vn vd,RbO b1 w gb ns ds vn vd/\s.B=pZ ns ds/\ns.length<=m
 ne:gb≠gu
 lt:gu<b1
 le:b1<=w.heap.size
 b0u:b0<=gu
 b0b:b0<=gb
 left:s.left=-1
 len:∀ n,(s.B n).length=232
theorem iU {w:World} {g gb:Nat} {s:Sf} (hh:w.heap[g]?=some (yB s gb)):w.cell? ⟨g,0,none⟩=some (.int .i64 s.lim)/\w.cell? ⟨g,1,none⟩=some (.int .i64 s.h.mode)/\w.cell? ⟨g,2,none⟩=some (.int .i64 s.h.pages)/\w.cell? ⟨g,3,none⟩=some (.int .i64 s.h.trunk)/\
  w.cell? ⟨g,4,none⟩=some (.int .i64 s.h.spare)/\w.cell? ⟨g,5,none⟩=some (.int .i64 s.h.root)/\w.cell? ⟨g,6,none⟩=some (.int .u64 s.h.change)/\w.cell? ⟨g,7,none⟩=some (.pointer (some ⟨gb,0,none⟩))/\w.cell? ⟨g,8,none⟩=some (.int .i64 s.left)/\g<w.heap.size:=
 ⟨ae hh 0,ae hh 1,ae hh 2,ae hh 3,ae hh 4,ae hh 5,ae hh 6,ae hh 7,ae hh 8,aj hh⟩
section
variable {b0 b1 m:Nat} {w w':World} {gu gb:Nat} {s:Sf}
theorem RqIs.ch {S:Nat->Prop} (h:RqIs b0 b1 m w gu gb s) (hc:Ch S w w') (h1:∀ k,S k->k<b0) (h2:b0<=b1):RqIs b0 b1 m w' gu gb s:=by obtain ⟨ns,ds,vn,vd,hb,he,hm⟩:=h.book;have hu:=h.b0u;have hbb:=h.b0b;exact ⟨hc.keep h.blk (fun e=>by have:=h1 _ e;omega),⟨ns,ds,vn,vd,hb.ch hc (fun e=>by have:=h1 _ e;omega) (fun k hk _ e=>by have:=h1 _ e;omega),he,hm⟩,h.ne,h.lt,Nat.le_trans h.le hc.size,h.b0u,h.b0b,h.left,h.len⟩
theorem RqIs.below (h:RqIs b0 b1 m w gu gb s) (hb:Below w.heap.size w w'):RqIs b0 b1 m w' gu gb s:=by obtain ⟨ns,ds,vn,vd,hb',he,hm⟩:=h.book;exact ⟨af h.blk hb,⟨ns,ds,vn,vd,hb'.below hb,he,hm⟩,h.ne,h.lt,Nat.le_trans h.le hb.size,h.b0u,h.b0b,h.left,h.len⟩
theorem RqIs.Bq (h:RqIs b0 b1 m w gu gb s):b0<=b1:=by have:=h.b0u;have:=h.lt;omega
end
theorem qn (b0 b1 m gu gb:Nat) (s:Sf) (w:World) (h:RqIs b0 b1 m w gu gb s):
  Calls Tryz.prog 53 #[.pointer (some ⟨gu,0,none⟩)] w fun e w'=>e=.returned (.int .i64 0)/\w=w':=by
 obtain ⟨a0,a1,a2,a3,a4,a5,a6,a7,a8,a9⟩:=iU h.blk;rw [h.left] at a8;clear h;go_enter Tryz.func53,Tryz.ntmps53;go_wp2_with fail;go_ret;exact ⟨rfl,rfl⟩
theorem vH (n:Int) (b0 b1 m gu gb:Nat) (s:Sf) (w:World) (h:RqIs b0 b1 m w gu gb s):
  Calls Tryz.prog 57 #[.pointer (some ⟨gu,0,none⟩),.int .i64 n] w fun e w'=>e=.returned (.bool (decide (bt s n=0)))/\w=w':=by
 obtain ⟨a0,a1,a2,a3,a4,a5,a6,a7,a8,a9⟩:=iU h.blk;have HL:=Z h.left;clear h;go_enter Tryz.func57,Tryz.ntmps57;by_cases h1:1<=n
 ·have HV:=Z (show decide (bt s n=0)=decide (n<s.h.pages) by
   unfold bt;rw [HL.out,if_neg (by omega)];by_cases h2:n<s.h.pages
   ·rw [if_neg (by omega)];simp [h2]
   ·rw [if_pos (by omega)];simp [h2])
  go_wp2_with fail;go_ret;exact ⟨by rw [HV.out];rfl,rfl⟩
 ·have HV:=Z (show decide (bt s n=0)=false by
   unfold bt;rw [HL.out,if_neg (by omega),if_pos (by omega)];rfl)
  have h2:n<1:=by omega
  go_wp2_with fail;go_ret;exact ⟨by rw [HV.out];rfl,rfl⟩
theorem nE {s:Sf} (h:s.left=-1) (n:Int):bF s=s/\(bt s n=0\/bt s n=21):=by
 unfold bF bt;rw [h,if_neg (by omega),if_neg (by omega)];refine ⟨rfl,?_⟩
 split
 ·exact .inr rfl
 ·exact .inl rfl
theorem oc (n:Int) (b0 b1 m gu gb:Nat) (s:Sf) (w:World) (h:RqIs b0 b1 m w gu gb s) (hm:m<=1000000):
  Calls Tryz.prog 62 #[.pointer (some ⟨gu,0,none⟩),.int .i64 n] w fun e w'=>e=.returned (.tuple #[.string (ap (gQ s n)),.int .i64 (bt s n)])/\Below w.heap.size w w':=by
 obtain ⟨ns,ds,vn,vd,hbk,he,hns⟩:=h.book;have HBK:=Z hbk;have HE:=Z he;have H:=Z h;obtain ⟨a0,a1,a2,a3,a4,a5,a6,a7,a8,a9⟩:=iU h.blk;have HM:=Z (nE h.left n);clear h he hbk;go_enter Tryz.func62,Tryz.ntmps62;go_wp2_with fail;refine (qn b0 b1 m gu gb s w H.out).mono ?_;rintro e w1 ⟨rfl,rfl⟩;go_wp2_with fail;refine (vH n b0 b1 m gu gb s w H.out).mono ?_;rintro e w1 ⟨rfl,rfl⟩;by_cases hb:bt s n=0
 ·have HV:=Z (show gQ s n=pZ ns ds n by unfold gQ;rw [if_pos hb,HE.out]);have HB0:=Z hb;rw [decide_eq_true hb];clear hb;go_wp2_with fail;refine (xh n b1 gb ns ds vn vd w HBK.out (by omega)).mono ?_;rintro e w1 ⟨rfl,hb⟩;go_wp2_with fail;go_ret2;exact ⟨by rw [HV.out,HB0.out];rfl,hb⟩
 ·have HV:=Z (show gQ s n=[]/\bt s n=21 from ⟨by unfold gQ;rw [if_neg hb],HM.out.2.resolve_left hb⟩);rw [decide_eq_false hb];clear hb;go_wp2_with fail;go_ret2;exact ⟨by rw [HV.out.1,HV.out.2];rfl,Below.refl _ _⟩
def th (s:Sf) (n:Int) (x:By):Sf:={ s with B:=bN s.B n x }
theorem RqIs.put {b0 b1 m:Nat} {w w':World} {gu gb:Nat} {s:Sf} {n:Int} {x:By} (h:RqIs b0 b1 m w gu gb s) (hx:x.length=232) (hb:∃ ns' ds' vn' vd',RbO b1 w' gb ns' ds' vn' vd'/\pZ ns' ds'=bN s.B n x/\ns'.length<=m+1) (hk:w'.heap[gu]?=some (yB s gb)) (hs:w.heap.size<=w'.heap.size):RqIs b0 b1 (m+1) w' gu gb (th s n x):=by
 obtain ⟨ns',ds',vn',vd',h1,h2,h3⟩:=hb
 exact ⟨hk,⟨ns',ds',vn',vd',h1,h2.symm,h3⟩,h.ne,h.lt,Nat.le_trans h.le hs,h.b0u,h.b0b,h.left,fun k=>by
  unfold th bN;simp only
  split
  ·exact hx
  ·exact h.len k⟩
theorem RqIs.far {b0 b1 m:Nat} {w w':World} {gu gb:Nat} {s:Sf} (h:RqIs b0 b1 m w gu gb s) (hc:Ch (fun k=>k=gb\/b1<=k) w w'):w'.heap[gu]?=some (yB s gb):=
 hc.keep h.blk (fun e=>by have:=h.lt;have:=h.ne;omega)
theorem rV (w:World):Calls Tryz.prog 49 #[] w fun e w'=>e=.returned (.agg #[.int .i64 1,.int .i64 1,.int .i64 0,.int .i64 0,.int .i64 0,.int .u64 0])/\Below w.heap.size w w':=by go_enter Tryz.func49,Tryz.ntmps49;go_wp2_with fail;obtain ⟨q0,q1,q2,q3,q4,q5,q6⟩:=aA (ag (w0:=w) (g:=w.heap.size) (o:=eo freshH) rfl);exact bodyPost_ret (v:=.agg #[.int .i64 1,.int .i64 1,.int .i64 0,.int .i64 0,.int .i64 0,.int .u64 0]) (by simp [results,Tryz.results49,go_sem]) rfl ⟨rfl,(Below.refl _ w).alloc (Nat.le_refl _) _⟩
def zb (s:Sf):Sf:={ s with h:={ s.h with pages:=s.h.pages+1 },B:=bN s.B s.h.pages blankL }
theorem vL {s:Sf} (h0:s.left=-1) (h1:s.h.spare=0) (h2:s.h.pages<s.lim) (h3:s.lim<=4096):br s=0/\bR s=s.h.pages/\aJ s=zb s:=by
 have ht:bH s.h s.B=⟨s.h.pages,{ s.h with pages:=s.h.pages+1 },0,s.B⟩:=by unfold bH;rw [if_pos h1,if_neg (by omega)]
 have he:br s=0:=by unfold br;rw [if_neg (by omega),if_neg (by omega),ht]
 refine ⟨he,by unfold bR;rw [if_pos he,ht],?_⟩;unfold aJ;rw [if_pos he,ht,(nE h0 0).1];rfl
end Go.Proofs.YtknioodagnjchaaGreatDoor
namespace Go.Proofs.YtknioodagnjchaaGreatDoor
open List renaming length_drop->Bt,getElem_mem->Bv,length_append->Bx,getElem?_eq_getElem->Bz,drop_of_length_le->BA,take_of_length_le->BB,getD_eq_getElem?_getD->BE,length_take->BG
open Go.IntWalk renaming i64_in->Bw
open Bool renaming and_eq_true->BC
open Go.Proofs.Tryz renaming prog->BD
open Nat renaming le_refl->BF,add_sub_cancel_left->BH,mod_eq_of_lt->BI
open Go.Lib renaming hid->Z
open Go.RowKit
theorem uh (c:Ce) (w:World):Calls BD 118 #[.agg #[.int .i64 c.size,.string (ap c.data),.int .i64 c.page]] w fun e w'=>e=.returned (.bool (aI c))/\Below w.heap.size w w':=by
 obtain ⟨sz,da,pg⟩:=c;have HB:=Z ((Below.refl _ w).alloc (BF _) (dj ⟨sz,da,pg⟩));have HG:=Z (ag (w0:=w) (g:=w.heap.size) (o:=dj ⟨sz,da,pg⟩) rfl);have hsz2:((ap da).size:Int)=(da.length:Int):=by rw [au]
 go_enter Tryz.func118,Tryz.ntmps118;go_upto_region 1 with fail
 generalize hw1:w.alloc (.cells #[.int .i64 sz,.string (ap da),.int .i64 pg] 119)=w1 at *;have hw2:w.alloc (dj ⟨sz,da,pg⟩)=w1:=hw1;rw [hw2] at HB HG;clear hw1 hw2;have a0:w1.cell? ⟨w.heap.size,0,none⟩=some (.int .i64 sz):=ae HG.out 0;have a1:w1.cell? ⟨w.heap.size,1,none⟩=some (.string (ap da)):=ae HG.out 1;have a2:w1.cell? ⟨w.heap.size,2,none⟩=some (.int .i64 pg):=ae HG.out 2;have a3:=aj HG.out;by_cases h1:sz<0
 ·have HV:=Z (show aI ⟨sz,da,pg⟩=false by simp [aI,h1]);go_wp2_with fail;go_ret;exact ⟨by rw [HV.out];rfl,HB.out⟩
 ·have h2:(0:Int)<=sz:=by omega
  by_cases h3:5000<sz
  ·have HV:=Z (show aI ⟨sz,da,pg⟩=false by simp [aI,h3]);go_wp2_with fail;go_ret;exact ⟨by rw [HV.out];rfl,HB.out⟩
  ·have h4:sz<=5000:=by omega
   by_cases h5:sz<=40
   ·by_cases h6:(da.length:Int)=sz
    ·have h7:(((ap da).size:Int) == sz)=true:=by rw [hsz2,h6];simp
     have HV:=Z (show aI ⟨sz,da,pg⟩=(pg == 0) by
      unfold aI;rw [if_neg (by simp only;omega),if_pos h5];simp [h6];rfl)
     clear hsz2 h6;go_wp2_with fail;go_ret;exact ⟨by rw [HV.out];rfl,HB.out⟩
    ·have h7:(((ap da).size:Int) == sz)=false:=by rw [hsz2];simpa using h6
     have HV:=Z (show aI ⟨sz,da,pg⟩=false by
      unfold aI;rw [if_neg (by simp only;omega),if_pos h5];simp [h6])
     clear hsz2 h6;go_wp2_with fail;go_ret;exact ⟨by rw [HV.out];rfl,HB.out⟩
   ·have h5b:(40:Int)<sz:=by omega
    by_cases h6:da=[]
    ·subst h6;have h8:(ap ([]:List UInt8)).toList.isEmpty=true:=by rw [ay];rfl
     clear hsz2;by_cases hp:1<=pg
     ·have HV:=Z (show aI ⟨sz,[],pg⟩=decide (pg<=4095) by
       unfold aI cI;rw [if_neg (by simp only;omega),if_neg (by simp only;omega)];simp [hp];omega)
      go_wp2_with fail;go_ret;exact ⟨by rw [HV.out];rfl,HB.out⟩
     ·have HV:=Z (show aI ⟨sz,[],pg⟩=false by
       unfold aI cI;rw [if_neg (by simp only;omega),if_neg (by simp only;omega)];simp [hp])
      go_wp2_with fail;go_ret;exact ⟨by rw [HV.out];rfl,HB.out⟩
    ·have h8:(ap da).toList.isEmpty=false:=by rw [ay];simpa using h6
     have HV:=Z (show aI ⟨sz,da,pg⟩=false by
      unfold aI;rw [if_neg (by simp only;omega),if_neg (by simp only;omega)];simp [h6])
     clear hsz2 h6;go_wp2_with fail;go_ret;exact ⟨by rw [HV.out];rfl,HB.out⟩
theorem tS {l:By} {i:Nat} (h:i<(ap l).size):(ap l)[i]=l.getD i 0:=by rw [BE,Bz h,Option.getD_some];rfl
theorem tP (b:UInt8) (n:Nat) (hn:n<256):((b.toNat:Int) == (n:Int))=decide (b=UInt8.ofNat n):=by
 by_cases h:b=UInt8.ofNat n
 ·rw [decide_eq_true h,h];simp [BI hn]
 ·rw [decide_eq_false h];refine beq_eq_false_iff_ne.2 fun e=>h ?_
  apply UInt8.toNat_inj.1;simp [BI hn];omega
theorem rH {l:By} {i:Nat} (h:i<l.length):cV (l.drop i)=(decide (l[i]=0) && cV (l.drop (i+1))):=by rw [List.drop_eq_getElem_cons h];unfold cV;rw [List.all_cons];rfl
theorem rX (c:Ce) (b0 b1 m gu gb:Nat) (s:Sf) (w:World) (h:RqIs b0 b1 m w gu gb s) (hm:m<=1000000):
  Calls BD 65 #[.pointer (some ⟨gu,0,none⟩),.agg #[.int .i64 c.size,.string (ap c.data),.int .i64 c.page]] w fun e w'=>yq w.heap.size w' e ((bB c).run s).2/\Below w.heap.size w w':=by
 have HX:=Z (ag (w0:=w) (g:=w.heap.size) (o:=dj c) rfl);have HW:=Z ((Below.refl _ w).alloc (BF _) (dj c));have H0:=Z h;have HLF:=Z h.left;clear h;go_enter Tryz.func65,Tryz.ntmps65;go_upto_region 1 with fail
 generalize hw1:w.alloc (.cells #[.int .i64 c.size,.string (ap c.data),.int .i64 c.page] 119)=w1 at *;have hw2:w.alloc (dj c)=w1:=hw1;rw [hw2] at HX HW;clear hw1 hw2;obtain ⟨d0,d1,d2,d3,d4,d5,d6⟩:=aN HX.out;go_wp2_with fail;refine (uh c w1).mono ?_;rintro e w2 ⟨rfl,hb⟩;have HX2:=Z (af HX.out hb);have HW2:=Z (HW.out.trans (hb.mono HW.out.size));clear hb d0 d1 d2 d3 d4 d5 d6;obtain ⟨d0,d1,d2,d3,d4,d5,d6⟩:=aN HX2.out;cases hg:aI c
 ·have HV:=Z (show (bB c).run s=(s,.err 1) by unfold bB;rw [if_pos hg];rfl);go_wp2_with fail;go_ret3;rw [HV.out];exact ⟨rfl,HW2.out⟩
 ·have hcs:(c.size<=40->c.page=0)/\(40<c.size->¬ c.page=0/\c.size<=5000):=by
   unfold aI at hg
   split at hg
   ·cases hg
   ·split at hg
    ·rename_i h40
     simp only [BC,decide_eq_true_eq] at hg;exact ⟨fun _=>hg.2,fun h=>by omega⟩
    ·rename_i h0 h40
     simp only [BC,decide_eq_true_eq,cI] at hg;exact ⟨fun h=>absurd h h40,fun h=>⟨by omega,by omega⟩⟩
  by_cases hp:c.size<=40
  ·have HV:=Z (show (bB c).run s=(s,.ok (c.data,[])) by unfold bB;rw [if_neg (by rw [hg];simp),if_pos (hcs.1 hp)];rfl);go_wp2_with fail;go_ret3;rw [HV.out];exact ⟨⟨_,rfl,Own.nil⟩,HW2.out⟩
  ·have h40:40<c.size:=by omega
   obtain ⟨hp0,h50⟩:=hcs.2 h40;have HV0:=Z (show bB c=ma 23 c.size.toNat c.page by unfold bB;rw [if_neg (by rw [hg];simp),if_neg hp0]);clear hcs hp0 hp;have HNW:=Z (show Own iC 1 3 w.heap.size (w2.alloc (.cells #[] 3)) (.slice (some ⟨w2.heap.size,0,none⟩) 0 0) ([]:List Int) from World.ownsRow_lit w2 #[] 0 HW2.out.size (by simp [maxLen]) (by simp));have HX3:=Z (am HX2.out (.cells #[] 3));have HW3:=Z (HW2.out.alloc HW2.out.size (.cells #[] 3));go_upto_region 7 with fail
   generalize w2.alloc (.cells #[] 3)=w3 at *;generalize w2.heap.size=g2 at *;clear d0 d1 d2 d3 d4 d5 d6;obtain ⟨d0,d1,d2,d3,d4,d5,d6⟩:=aN HX3.out;go_wp2_with fail
   go_loopw [7,8,9,10] (fun sv lv av iv wr=>∃ (f:Nat) (li at_:Int) (acc:By) (ps:List Int),sv=.string (ap acc)/\iv=.int .i64 li/\ -227<=li/\li<=5000/\av=.int .i64 at_/\f<=23/\li<=(f:Int) * 227/\acc.length+f * 227<=5221/\ps.length+f<=23/\
    (bB c).run s=((ma f li.toNat at_).bind fun x=>.pure (acc ++ x.1,ps ++ x.2)).run s/\Own iC 1 3 w.heap.size wr lv ps/\Below w.heap.size w wr) (fun _ _ _ iv _=>(intOf iv).toNat)
   case atStart=>exact ⟨23,c.size,c.page,[],[],rfl,rfl,by omega,by omega,rfl,by omega,by omega,by simp,by simp,by rw [HV0.out];exact (ki _ _).symm,HNW.out,HW3.out⟩
   case round=>
    obtain ⟨f,li,at_,acc,ps,rfl,rfl,hl0,hl1,rfl,hf,hlf,hac,hps,hrun,ho,hb⟩:=hrel;have HRUN:=Z hrun;have HO:=Z ho;have HB:=Z hb;have HSZ:=Z hb.size;have HR:=Z (H0.out.ch (S:=fun _=>False) ⟨hb.os,hb.tape,hb.output,hb.size,fun k hk _=>hb.block k hk⟩ (fun _ h=>h.elim) H0.out.Bq);obtain ⟨A8,c8,rfl⟩:=Sl.zM (ho.sl ax);clear hrun ho hb d0 d1 d2 d3 d4 d5 d6;have sa:=au acc;by_cases hz:0<li
    ·cases f with
     | zero=>omega
     | succ f=>
       have hl232:=HR.out.len at_
       have HR1:=Z (show ma (f+1) li.toNat at_=.get at_ fun l=>match gx l li.toNat with
         | none=>.fail 30
         | some (next,part)=>(ma f (li.toNat - 227) next).bind fun r=>.pure (part ++ r.1,at_ :: r.2) by
        show (if li.toNat=0 then _ else _)=_;rw [if_neg (by omega)];rfl)
       have HBS:=Z (nE HLF.out at_).1;go_wp2_with fail;refine (oc at_ b0 b1 m gu gb s wr HR.out hm).mono ?_;rintro e w5 ⟨rfl,hb5⟩;have HB5:=Z (HB.out.trans (hb5.mono HSZ.out));have HO5:=Z (HO.out.below hb5);clear hb5;by_cases hbe:bt s at_=0
       ·have HGV:=Z (show gQ s at_=s.B at_ by unfold gQ;rw [if_pos hbe]);rw [HGV.out,hbe];obtain ⟨l,hbl⟩:∃ l,s.B at_=l:=⟨_,rfl⟩;rw [hbl] at hl232 ⊢;have HBL:=Z hbl;clear hbl;have s9:=au l;rw [hl232] at s9;have hs9:((ap l).size:Int)=232:=by rw [s9];rfl
        have HE15:=Z (show (ap l).extract 1 5=ap ((l.drop 1).take 4) by rw [dM,bA]);have hL4:((l.drop 1).take 4).length=4:=by rw [BG,Bt];omega
        have HUL:=Z (show cw ((l.drop 1).take 4)<4294967296 from by have:=il ((l.drop 1).take 4);rw [hL4] at this;exact this);go_wp2_with fail;rw [HE15.out];refine (jZ (ap ((l.drop 1).take 4)) w5 (by rw [au,hL4];decide) (by rw [au,hL4];decide)).mono ?_;rw [bA];rintro e w6 ⟨rfl,rfl⟩;clear hL4;have HLK:=Z (show gx l li.toNat=if l.getD 0 0=3/\((cw ((l.drop 1).take 4)=0)↔li.toNat<=227)/\cV ((l.drop 5).drop li.toNat)=true then some ((cw ((l.drop 1).take 4):Int),(l.drop 5).take li.toNat) else none from rfl);have hnx:=HUL.out;generalize cw ((l.drop 1).take 4)=nx at *
        have HRB:=Z (show gx l li.toNat=none->(bB c).run s=(s,.err 30) from fun hn=>by
         rw [HRUN.out];refine aq ?_;rw [HR1.out];show (if bt s at_=0 then _ else _)=_;rw [if_pos hbe,HBL.out,HBS.out];simp only [hn];rfl)
        have HRG:=Z (show gx l li.toNat=some ((nx:Int),(l.drop 5).take li.toNat)->(bB c).run s=((ma f (li.toNat - 227) nx).bind fun x=>.pure ((acc ++ (l.drop 5).take li.toNat) ++ x.1,(ps ++ [at_]) ++ x.2)).run s from fun hn=>by
         rw [HRUN.out,HR1.out];show (if bt s at_=0 then _ else _)=_;rw [if_pos hbe,HBL.out,HBS.out];simp only [hn];exact lC _ _ _ _ _ _)
        have hb0:(ap l)[0]'(by rw [s9];decide)=l.getD 0 0:=tS _;have HG0:=Z (fun i (h:i<(ap l).size)=>(tS h:(ap l)[i]=l.getD i 0));have HZD:=Z (fun i (h:i<l.length)=>rH h);obtain ⟨ok,hok⟩:∃ ok:Bool,ok=decide (l.getD 0 0=3/\(nx=0↔li.toNat<=227)):=⟨_,rfl⟩;have HOK:=Z hok;clear hok;go_upto_region 15 with fail
        go_cut [58] from 49 to 58 (fun v wc=>v=.bool (!ok)/\w5=wc)
        case first=>
         by_cases h3:l.getD 0 0=3
         ·have h31:(((l.getD 0 0).toNat:Int) == 3)=true:=by rw [h3];rfl
          have h32:(((l.getD 0 0).toNat:Int) != 3)=false:=by rw [bne,h31];rfl
          by_cases hn:nx=0 <;> by_cases hle:li<=227
          ·have HV:ok=true:=by rw [HOK.out];exact decide_eq_true ⟨h3,fun _=>by omega,fun _=>hn⟩
           have HV:=Z HV;clear h3;generalize l.getD 0 0=y0 at *;subst hn;go_wp2_with fail;go_meet
           case rel=>exact ⟨by rw [HV.out];rfl,rfl⟩
          ·have HV:ok=false:=by rw [HOK.out];exact decide_eq_false fun h=>by have:=h.2.1 hn;omega
           have HV:=Z HV;clear h3;generalize l.getD 0 0=y0 at *;subst hn;have hle2:(227:Int)<li:=by omega
           go_wp2_with fail;go_meet
           case rel=>exact ⟨by rw [HV.out];rfl,rfl⟩
          ·have HV:ok=false:=by rw [HOK.out];exact decide_eq_false fun h=>hn (h.2.2 (by omega))
           have HV:=Z HV;have hn1:((nx:Int) == 0)=false:=by simpa using hn
           clear h3;generalize l.getD 0 0=y0 at *;go_wp2_with fail;go_meet
           case rel=>exact ⟨by rw [HV.out];rfl,rfl⟩
          ·have HV:ok=true:=by rw [HOK.out];exact decide_eq_true ⟨h3,fun h=>absurd h hn,fun h=>by omega⟩
           have HV:=Z HV;have hn1:((nx:Int) == 0)=false:=by simpa using hn
           have hle2:(227:Int)<li:=by omega
           clear h3;generalize l.getD 0 0=y0 at *;go_wp2_with fail;go_meet
           case rel=>exact ⟨by rw [HV.out];rfl,rfl⟩
         ·have h31:(((l.getD 0 0).toNat:Int) == 3)=false:=(tP (l.getD 0 0) 3 (by decide)).trans (decide_eq_false h3);have h32:(((l.getD 0 0).toNat:Int) != 3)=true:=by rw [bne,h31];rfl
          have HV:ok=false:=by rw [HOK.out];exact decide_eq_false fun h=>h3 h.1
          have HV:=Z HV;clear h3;generalize l.getD 0 0=y0 at *;go_wp2_with fail;go_meet
          case rel=>exact ⟨by rw [HV.out];rfl,rfl⟩
        case rest=>
         obtain ⟨rfl,rfl⟩:=hcut;cases ok
         ·have HX3:=Z (of_decide_eq_false HOK.out.symm);have HV:=Z (HRB.out (by rw [HLK.out,if_neg (fun h=>HX3.out ⟨h.1,h.2.1⟩)]));go_wp2_with fail;go_ret3;rw [HV.out];exact ⟨rfl,HB5.out⟩
         ·have HX3:=Z (of_decide_eq_true HOK.out.symm);go_upto_if 61 with fail
          go_cut [15] from 62 to 62 (fun v wc=>v=.int .i64 (min li 227)/\w5=wc)
          case first=>
           by_cases hl7:li<227
           ·have hmn:min li 227=li:=by omega
            go_wp2_with fail;go_meet
            case rel=>exact ⟨by rw [hmn],rfl⟩
           ·have hmn:min li 227=227:=by omega
            have hl8:227<=li:=by omega
            go_wp2_with fail;go_meet
            case rel=>exact ⟨by rw [hmn],rfl⟩
          case rest=>
           obtain ⟨rfl,rfl⟩:=hcut;obtain ⟨sz,hsz⟩:∃ sz:Nat,min li 227=(sz:Int):=⟨(min li 227).toNat,by omega⟩;have hsz1:sz<=227:=by omega
           have hsz2:1<=sz:=by omega
           have HZZ:=Z (show cV ((l.drop 5).drop li.toNat)=cV (l.drop (5+sz)) by
            rw [List.drop_drop];by_cases h:li<=227
            ·rw [show 5+li.toNat=5+sz by omega]
            ·rw [BA (by omega),BA (by omega)])
           have HTK:=Z (show (l.drop 5).take li.toNat=(l.drop 5).take sz by
            by_cases h:li<=227
            ·rw [show li.toNat=sz by omega]
            ·rw [BB (by rw [Bt];omega),BB (by rw [Bt];omega)])
           have HSZ2:=Z (show (sz:Int)=min li 227 from hsz.symm);rw [hsz];clear hsz;have hw5:IntKind.i64.wrap (5+(sz:Int))=((5+sz:Nat):Int):=by rw [Bw _ (by omega)];omega
           have HW5:=Z hw5;go_wp2_with fail;go_loopw [16] (fun iv wq=>∃ k:Nat,k<=232/\iv=.int .i64 k/\cV (l.drop k)=cV ((l.drop 5).drop li.toNat)/\wq=w5) (fun iv _=>232 - (intOf iv).toNat)
           case atStart=>exact ⟨5+sz,by omega,by first | rfl | rw [HW5.out] | go_num,HZZ.out.symm,rfl⟩
           case round=>
            obtain ⟨k,hk,rfl,hzz,rfl⟩:=hrel;have HZK:=Z hzz;clear hzz HZZ;by_cases hkl:k<232
            ·have hks:k<(ap l).size:=by omega
             have hk1:(k:Int)<((ap l).size:Int):=by omega
             have hk2:(k:Int)<232:=by omega
             have hk0:(0:Int)<=(k:Int):=by omega
             have hix:(ap l)[k]=l.getD k 0:=HG0.out k hks;have HZN:=Z (show cV (l.drop k)=(decide (l.getD k 0=0) && cV (l.drop (k+1))) by
              rw [HZD.out k (by omega),BE,Bz (by omega)];rfl)
             by_cases hy:l.getD k 0=0
             ·have hy1:(((l.getD k 0).toNat:Int) == 0)=true:=by rw [hy];rfl
              have hy2:(((l.getD k 0).toNat:Int) != 0)=false:=by rw [bne,hy1];rfl
              have HZ2:=Z (show cV (l.drop (k+1))=cV ((l.drop 5).drop li.toNat) by rw [<- HZK.out,HZN.out,decide_eq_true hy,Bool.true_and]);clear hy hb0 HZN;generalize l.getD k 0=y at *;go_wp2_with fail;go_roundw
              case rel=>exact ⟨k+1,by omega,by go_num,HZ2.out,by trivial⟩
              case measure=>simp [intOf];omega
             ·have hy1:(((l.getD k 0).toNat:Int) == 0)=false:=(tP (l.getD k 0) 0 (by decide)).trans (decide_eq_false hy);have hy2:(((l.getD k 0).toNat:Int) != 0)=true:=by rw [bne,hy1];rfl
              have HV:=Z (HRB.out (by
               rw [HLK.out,if_neg (fun h=>?_)];have:=h.2.2;rw [<- HZK.out,HZN.out,decide_eq_false hy] at this;cases this))
              clear hy hb0 HZN;generalize l.getD k 0=y at *;go_wp2_with fail;go_ret3;rw [HV.out];exact ⟨rfl,HB5.out⟩
            ·obtain rfl:k=232:=by omega
             have HRX:=Z (HRG.out (by rw [HLK.out,if_pos ⟨HX3.out.1,HX3.out.2,HZK.out.symm.trans (by rw [BA (by omega)];rfl)⟩]));rw [HTK.out] at HRX;have HEX:=Z (show (ap l).extract 5 (5+sz)=ap ((l.drop 5).take sz) by rw [dM,bA,BH]);have HPL:=Z (show ((l.drop 5).take sz).length=sz by rw [BG,Bt];omega);have hw6:IntKind.i64.wrap (nx:Int)=(nx:Int):=Bw _ (by omega);have sp:=au ((l.drop 5).take sz);rw [HPL.out] at sp;have HAP:=Z (show ap acc ++ ap ((l.drop 5).take sz)=ap (acc ++ (l.drop 5).take sz) by rw [cE];rfl);have h5z:((5+sz:Nat):Int)<=((ap l).size:Int):=by omega
             clear hkl hk hb0 HZK;generalize hpt:(l.drop 5).take sz=pt at *;go_wp2_with (at_builtin;refine Hid.out ?_);refine Z ?_;refine al (xs:=ps) (ys:=[at_]) rfl rfl bI rfl rfl (HO5.out.alloc _) (Sl.one at_ (by simp) ax rfl) (by simp [maxLen];omega) (by simp;omega) (by have:=HB5.out.size;simp;omega) ?_;intro v' w10 ho hg hat;have HO10:=Z ho;have HB10:=Z (ca (HB5.out.alloc HB5.out.size _) hg (by have:=HB5.out.size;simp;omega) (fun k hk=>(HO5.out.lt k hk).1));clear ho hg hat;go_wp2_with fail;go_roundw
             case rel=> exact ⟨f,li - 227,nx,acc ++ pt,ps ++ [at_],by first | rw [HEX.out,HAP.out] | (rw [<- HAP.out];rfl),by go_num,by omega,by omega,by go_num,by omega,by omega,by rw [Bx,HPL.out];omega,by rw [Bx,List.length_singleton];omega,by rw [show (li - 227).toNat=li.toNat - 227 by omega];exact HRX.out,HO10.out,HB10.out⟩
             case measure=>simp [intOf];omega
       ·have HV:=Z (show (bB c).run s=(s,.err (bt s at_)) by
         rw [HRUN.out];refine aq ?_;rw [HR1.out];show (if bt s at_=0 then _ else _)=_;rw [if_neg hbe,HBS.out])
        generalize bt s at_=be at *;have hbe2:(be == 0)=false:=by simpa using hbe
        have hbe3:(be != 0)=true:=by simpa using hbe
        go_wp2_with fail;go_ret3;rw [HV.out];exact ⟨rfl,HB5.out⟩
    ·have HV:=Z (show (bB c).run s=(s,.ok (acc,ps)) by
      rw [HRUN.out];have h0:ma f li.toNat at_=.pure ([],[]):=by
       cases f with
       | zero=>rfl
       | succ f=>show (if li.toNat=0 then _ else _)=_;rw [if_pos (by omega)]
      rw [h0];simp [Pro.bind,Pro.run])
     go_wp2_with fail;go_ret3;rw [HV.out];exact ⟨⟨_,rfl,HO.out⟩,HB.out⟩
theorem uH {c:Ce} (h:aI c=true):∃ s p:Nat,c.size=(s:Int)/\c.page=(p:Int)/\s<=5000/\p<4096/\c.data.length<=40/\(40<s->c.data=[]):=by
 unfold aI at h
 split at h
 ·cases h
 ·rename_i h0
  split at h
  ·rename_i h1
   simp only [BC,decide_eq_true_eq] at h;exact ⟨c.size.toNat,0,by omega,h.2,by omega,by omega,by omega,fun h=>by omega⟩
  ·rename_i h1
   simp only [BC,decide_eq_true_eq,cI] at h;exact ⟨c.size.toNat,c.page.toNat,by omega,by omega,by omega,by omega,by rw [h.1];decide,fun _=>h.1⟩
theorem rZ (n:Nd) (v:Value) (w:World) (h:NdV w v n) (hb:n.Bd) (hg:aD n=true):Calls BD 164 #[v] w fun e w'=>e=.returned (.string (ap (aw n)))/\Below w.heap.size w w':=by
 obtain ⟨vk,vc,vd,rfl,hs⟩:=h;obtain ⟨A1,c1,rfl⟩:=Sl.zM hs.k;obtain ⟨A2,c2,rfl⟩:=Sl.zM hs.c;obtain ⟨A3,c3,rfl⟩:=Sl.zM hs.d;have HW1:=Z ((Below.refl _ w).alloc (BF _) (ar n (.slice A1 n.keys.length c1) (.slice A2 n.cells.length c2) (.slice A3 n.kids.length c3)));have HG1:=Z (ag (w0:=w) (g:=w.heap.size) (o:=ar n (.slice A1 n.keys.length c1) (.slice A2 n.cells.length c2) (.slice A3 n.kids.length c3)) rfl);have HS1:=Z (hs.keep HW1.out);have HG:=Z hg;have HE:=Z (nH hg);have hk2:=hb.k;have hc2:=hb.c;have hd2:=hb.d;obtain ⟨nl,nk,nc,nd⟩:=n;simp only at hk2 hc2 hd2 HS1 HG1 HW1 HE;clear hs hb hg;go_enter Tryz.func164,Tryz.ntmps164;go_upto_region 1 with fail
 generalize hw1:w.alloc (.cells #[.bool nl,.slice A1 nk.length c1,.slice A2 nc.length c2,.slice A3 nd.length c3] 110)=w1 at *;have hw2:w.alloc (ar ⟨nl,nk,nc,nd⟩ (.slice A1 nk.length c1) (.slice A2 nc.length c2) (.slice A3 nd.length c3))=w1:=hw1;rw [hw2] at HW1 HG1 HS1;clear hw1 hw2;obtain ⟨a0,a1,a2,a3,a4⟩:=aa HG1.out;simp only at a0 a1 a2 a3;have s1:=au (aR 2 nk.length);rw [aF] at s1;cases nl
 ·obtain ⟨hr,hk0,hdl,-,-,hpg⟩:=aQ HG.out rfl;have HR:=Z (bQ hr);have HPG:=Z hpg;simp only at hdl HR HPG;clear hr hk0 hpg;have hd0:0<nd.length:=by omega
  have hd1:(0:Int)<(nd.length:Int):=by omega
  go_wp2_with fail;refine (gB nk.length 2 w1 (by omega) (by omega) (by omega)).mono ?_;rintro e w2 ⟨rfl,hb⟩;have HG2:=Z (af HG1.out hb);have HW2:=Z (HW1.out.trans (hb.mono HW1.out.size));have HS2:=Z (HS1.out.keep hb);clear hb a0 a1 a2 a3 a4;obtain ⟨a0,a1,a2,a3,a4⟩:=aa HG2.out;simp only at a0 a1 a2 a3;obtain ⟨b,off,rfl,hbl,hc⟩:=HS2.out.d.int hd0;obtain ⟨m0,hm0⟩:∃ m:Nat,nd[0]=(m:Int):=⟨nd[0].toNat,by
   have:=HPG.out _ (Bv hd0);simp [cI] at this;omega⟩
  have hm0b:m0<4096:=by have:=HPG.out _ (Bv hd0);simp [cI] at this;omega
  have HM0:=Z hm0;rw [hm0] at hc;simp only [Nat.add_zero] at hc;clear hm0;have s2:=au (aR 4 m0);rw [aF] at s2;go_wp2_with fail;refine (gB m0 4 w2 (by omega) (by omega) (by omega)).mono ?_;rintro e w3 ⟨rfl,hb⟩;clear hc hbl;have HG3:=Z (af HG2.out hb);have HW3:=Z (HW2.out.trans (hb.mono HW2.out.size));have HS3:=Z (HS2.out.keep hb);clear hb a0 a1 a2 a3 a4;obtain ⟨a0,a1,a2,a3,a4⟩:=aa HG3.out;simp only at a0 a1 a2 a3;have HS0:({ data:=#[2] }:ByteArray) ++ ap (aR 2 nk.length) ++ ap (aR 4 m0)=ap (cH ⟨false,nk,nc,nd⟩ 0):=by rw [cE,cE];show ap (([2] ++ aR 2 nk.length) ++ aR 4 m0)=_;simp [cH,eX,Bz hd0,HM0.out]
  go_upto_region 7 with fail
  try simp only [HS0]
  clear s1 s2 a0 a1 a2 a3 a4;have HX0:=Z HS0;clear HS0;go_wp2_with fail;go_loopw [3,4] (fun sv iv wr=>∃ k:Nat,k<=nk.length/\iv=.int .i64 k/\sv=.string (ap (cH ⟨false,nk,nc,nd⟩ k))/\Below w3.heap.size w3 wr) (fun _ iv _=>nk.length - (intOf iv).toNat)
  case atStart=>exact ⟨0,Nat.zero_le _,rfl,by first | rfl | rw [HX0.out],Below.refl _ _⟩
  case round=>
   obtain ⟨k,hk,rfl,rfl,hb⟩:=hrel;have HBR:=Z hb;have HG4:=Z (af HG3.out hb);have HW4:=Z (HW3.out.trans (hb.mono HW3.out.size));have HS4:=Z (HS3.out.keep hb);clear hb;obtain ⟨a0,a1,a2,a3,a4⟩:=aa HG4.out;simp only at a0 a1 a2 a3;by_cases hlt:k<nk.length
   ·obtain ⟨b1,off1,rfl,hbl1,-,hc⟩:=HS4.out.k.key hlt;have hlt2:(k:Int)<(nk.length:Int):=by omega
    obtain ⟨m,hm⟩:∃ m:Nat,nd[k+1]=(m:Int):=⟨nd[k+1].toNat,by
     have:=HPG.out _ (Bv (show k+1<nd.length by omega));simp [cI] at this;omega⟩
    have hmb:m<4096:=by have:=HPG.out _ (Bv (show k+1<nd.length by omega));simp [cI] at this;omega
    have h64:nk[k].length<=64:=HR.out _ (Bv hlt);have hsz:(ap nk[k]).size=nk[k].length:=au _;have HNX:=Z (show cH ⟨false,nk,nc,nd⟩ (k+1)=cH ⟨false,nk,nc,nd⟩ k ++ bD (ap nk[k]).size ++ nk[k] ++ aR 4 m by
     rw [nG (n:=⟨false,nk,nc,nd⟩) rfl hlt (show k+1<nd.length by omega),hsz];simp only [hm,Int.toNat_natCast])
    have hlen:=jl HG.out k;have HM:=Z hm;have hszb:(ap nk[k]).size<=64:=by omega
    clear hsz hm;have s1:=au (cH ⟨false,nk,nc,nd⟩ k);have HBP:=Z (show cH ⟨false,nk,nc,nd⟩ k=cH ⟨false,nk,nc,nd⟩ k from rfl);generalize cH ⟨false,nk,nc,nd⟩ k=acc at *;generalize nk[k]=key at *;have s2:=au (bD (ap key).size);have s3:(bD (ap key).size).length<=2:=by rw [dC];split <;> omega
    have g0:=nV (n:=(ap key).size) (by omega);have HF1:=Z (fun (y:Up wr)=>mn (ap key).size y.w (by omega));go_upto_region 10 with fail
    have f1:=bj a1 a4;have fc:=bj hc hbl1;refine aM (by kernel_rfl) (by kernel_rfl) ?_
    repeat (go_big_quiet_step (first
     | (go_at_call 199;(with_reducible exact eF (HF1.out _)))))
    refine wpQuiet_nil ?_;rintro w5 ⟨⟨w6,hb⟩,rfl⟩;have HB5:=Z (HBR.out.trans (hb.mono HBR.out.size));have HG5:=Z (af HG4.out hb);have HW5:=Z (HW4.out.trans (hb.mono HW4.out.size));have HS5:=Z (HS4.out.keep hb);clear hb a0 a1 a2 a3 a4;obtain ⟨a0,a1,a2,a3,a4⟩:=aa HG5.out;simp only at a0 a1 a2 a3;clear f1 fc hc hbl1 g0 HF1;have HA1:=Z (show ap acc ++ ap (bD (ap key).size) ++ ap key=ap (acc ++ bD (ap key).size ++ key) by rw [cE,cE];rfl);have s4:=au (acc ++ bD (ap key).size ++ key);have s5:(acc ++ bD (ap key).size ++ key).length<=1000000:=by simp only [Bx];have:=au key;omega
    rw [HA1.out];clear s1 s2 s3;generalize hacc:acc ++ bD (ap key).size ++ key=acc2 at *;obtain ⟨b2,off2,he,hbl2,hc2'⟩:=HS5.out.d.int (show k+1<nd.length by omega);injection he with he
    injection he with e1 e2
    subst e1 e2;rw [HM.out] at hc2';have hk3:(k:Int)+1<(nd.length:Int):=by omega
    have s6:=au (aR 4 m);rw [aF] at s6;have HA2:=Z (show ap acc2 ++ ap (aR 4 m)=ap (cH ⟨false,nk,nc,nd⟩ (k+1)) by rw [cE,HNX.out];rfl);clear hacc;go_wp2_with fail;refine (gB m 4 w5 (by omega) (by omega) (by omega)).mono ?_;rintro e w6 ⟨rfl,hb⟩;have HB6:=Z (HB5.out.trans (hb.mono HB5.out.size));clear hb hc2' hbl2;go_wp2_with fail;go_roundw
    case rel=>exact ⟨k+1,by omega,by go_num,by rw [HA2.out],HB6.out⟩
    case measure=>simp [intOf];omega
   ·obtain rfl:k=nk.length:=by omega
    have HE2:=Z (show cH ⟨false,nk,nc,nd⟩ nk.length=aw ⟨false,nk,nc,nd⟩ from HE.out);rw [HE2.out];clear hlt hk;go_wp2_with fail;go_ret;exact ⟨rfl,HW4.out⟩
 ·obtain ⟨hr,hcl,-,hgc⟩:=cD HG.out rfl;have HR:=Z (bQ hr);have HGC:=Z hgc;simp only at hcl HR HGC;clear hr hgc;have hcl1:nc.length<=nk.length:=by omega
  have hcl2:nk.length<=nc.length:=by omega
  clear hcl;go_wp2_with fail;refine (gB nk.length 2 w1 (by omega) (by omega) (by omega)).mono ?_;rintro e w3 ⟨rfl,hb⟩;have HG3:=Z (af HG1.out hb);have HW3:=Z (HW1.out.trans (hb.mono HW1.out.size));have HS3:=Z (HS1.out.keep hb);clear hb a0 a1 a2 a3 a4;obtain ⟨a0,a1,a2,a3,a4⟩:=aa HG3.out;simp only at a0 a1 a2 a3;have HS0:({ data:=#[1] }:ByteArray) ++ ap (aR 2 nk.length)=ap (cH ⟨true,nk,nc,nd⟩ 0):=by rw [cE];show ap ([1] ++ aR 2 nk.length)=_;simp [cH,bC]
  go_upto_region 7 with fail
  try simp only [HS0]
  clear s1 a0 a1 a2 a3 a4;have HX0:=Z HS0;clear HS0;go_wp2_with fail;go_loopw [3,4,5] (fun sv iv _ wr=>∃ k:Nat,k<=nk.length/\iv=.int .i64 k/\sv=.string (ap (cH ⟨true,nk,nc,nd⟩ k))/\Below w3.heap.size w3 wr) (fun _ iv _ _=>nk.length - (intOf iv).toNat)
  case atStart=>exact ⟨0,Nat.zero_le _,rfl,by first | rfl | rw [HX0.out],Below.refl _ _⟩
  case round=>
   obtain ⟨k,hk,rfl,rfl,hb⟩:=hrel;have HBR:=Z hb;have HG4:=Z (af HG3.out hb);have HW4:=Z (HW3.out.trans (hb.mono HW3.out.size));have HS4:=Z (HS3.out.keep hb);clear hb;obtain ⟨a0,a1,a2,a3,a4⟩:=aa HG4.out;simp only at a0 a1 a2 a3;by_cases hlt:k<nk.length
   ·obtain ⟨b1,off1,rfl,hbl1,-,hc⟩:=HS4.out.k.key hlt;have hlt2:(k:Int)<(nk.length:Int):=by omega
    have h64:nk[k].length<=64:=HR.out _ (Bv hlt);have hsz:(ap nk[k]).size=nk[k].length:=au _;have hck:k<nc.length:=by omega
    have HNX:=Z (show cH ⟨true,nk,nc,nd⟩ (k+1)=cH ⟨true,nk,nc,nd⟩ k ++ bD (ap nk[k]).size ++ nk[k] ++ gR nc[k] by
     rw [pf (n:=⟨true,nk,nc,nd⟩) rfl hlt hck,hsz])
    have hlen:=jl HG.out k;have hszb:(ap nk[k]).size<=64:=by omega
    clear hsz;have s1:=au (cH ⟨true,nk,nc,nd⟩ k);generalize cH ⟨true,nk,nc,nd⟩ k=acc at *;generalize nk[k]=key at *;have s2:=au (bD (ap key).size);have s3:(bD (ap key).size).length<=2:=by rw [dC];split <;> omega
    have g0:=nV (n:=(ap key).size) (by omega);have HF1:=Z (fun (y:Up wr)=>mn (ap key).size y.w (by omega));go_upto_region 10 with fail
    have f1:=bj a1 a4;have fc:=bj hc hbl1;refine aM (by kernel_rfl) (by kernel_rfl) ?_
    repeat (go_big_quiet_step (first
     | (go_at_call 199;(with_reducible exact eF (HF1.out _)))))
    refine wpQuiet_nil ?_;rintro w5 ⟨⟨w6,hb⟩,rfl⟩;have HB5:=Z (HBR.out.trans (hb.mono HBR.out.size));have HG5:=Z (af HG4.out hb);have HW5:=Z (HW4.out.trans (hb.mono HW4.out.size));have HS5:=Z (HS4.out.keep hb);clear hb a0 a1 a2 a3 a4;obtain ⟨a0,a1,a2,a3,a4⟩:=aa HG5.out;simp only at a0 a1 a2 a3;clear f1 fc hc hbl1 g0 HF1;have HA1:=Z (show ap acc ++ ap (bD (ap key).size) ++ ap key=ap (acc ++ bD (ap key).size ++ key) by rw [cE,cE];rfl);have s4:=au (acc ++ bD (ap key).size ++ key);have s5:(acc ++ bD (ap key).size ++ key).length<=1000000:=by simp only [Bx];have:=au key;omega
    rw [HA1.out];clear s1 s2 s3;generalize acc ++ bD (ap key).size ++ key=acc2 at *;obtain ⟨b2,off2,he,hbl2,-,e0,e1,e2⟩:=HS5.out.c.zT hck;subst he;obtain ⟨sn,pn,q1,q2,q3,q4,q5,q6⟩:=uH (HGC.out _ (Bv hck));have HCB:=Z (show gR nc[k]=bD sn ++ if 40<sn then aR 4 pn else nc[k].data by
     unfold gR;rw [q1,q2,Int.toNat_natCast,Int.toNat_natCast];by_cases h:40<sn
     ·rw [if_pos h,if_pos (by omega)]
     ·rw [if_neg h,if_neg (by omega)])
    have HQ6:=Z q6;rw [q1] at e0;rw [q2] at e2;have hk3:(k:Int)<(nc.length:Int):=by omega
    clear q1 q2 q6;generalize hda:nc[k].data=da at *;clear hda;have HX6:=Z (ag (w0:=w5) (g:=w5.heap.size) (o:=dj ⟨sn,da,pn⟩) rfl);have HN6:=Z ((Below.refl _ w5).alloc (BF _) (dj ⟨sn,da,pn⟩));go_upto_region 14 with fail
    generalize hw1:w5.alloc (.cells #[.int .i64 sn,.string (ap da),.int .i64 pn] 119)=w6 at *;have hw2:w5.alloc (dj ⟨sn,da,pn⟩)=w6:=hw1;rw [hw2] at HX6 HN6;clear hw1 hw2 e0 e1 e2 hbl2 a0 a1 a2 a3 a4;have c0:w6.cell? ⟨w5.heap.size,0,none⟩=some (.int .i64 sn):=ae HX6.out 0;have c1':w6.cell? ⟨w5.heap.size,1,none⟩=some (.string (ap da)):=ae HX6.out 1;have c2':w6.cell? ⟨w5.heap.size,2,none⟩=some (.int .i64 pn):=ae HX6.out 2;have c3':=aj HX6.out;have HB6:=Z (HB5.out.trans (HN6.out.mono HB5.out.size));generalize w5.heap.size=gc at *;have s6:=au (bD sn);have s7:(bD sn).length<=2:=by rw [dC];split <;> omega
    have s8:=au da;have g0:=nV (n:=sn) (by omega);have HF1:=Z (fun (y:Up w6)=>mn sn y.w (by omega));have f1:=bj c0 c3';have fc:=bj c1' c3';refine aM (by kernel_rfl) (by kernel_rfl) ?_
    repeat (go_big_quiet_step (first
     | (go_at_call 199;(with_reducible exact eF (HF1.out _)))))
    refine wpQuiet_nil ?_;rintro w7 ⟨⟨w8,hb⟩,rfl⟩;have HB7:=Z (HB6.out.trans (hb.mono HB6.out.size));have HX7:=Z (af HX6.out hb);clear hb c0 c1' c2' c3' f1 fc g0 HF1;have c0:w7.cell? ⟨gc,0,none⟩=some (.int .i64 sn):=ae HX7.out 0;have c2':w7.cell? ⟨gc,2,none⟩=some (.int .i64 pn):=ae HX7.out 2;have c3':=aj HX7.out;have HA3:=Z (show ap acc2 ++ ap (bD sn) ++ ap da=ap (acc2 ++ bD sn ++ da) by rw [cE,cE];rfl);rw [HA3.out];by_cases h40:40<sn
    ·have HD0:=HQ6.out h40;subst HD0;have h41:(40:Int)<(sn:Int):=by omega
     have s9:=au (acc2 ++ bD sn ++ []);have s10:(acc2 ++ bD sn ++ []).length<=1000010:=by simp only [Bx,List.length_nil];omega
     have s11:=au (aR 4 pn);rw [aF] at s11;have HA2:=Z (show ap (acc2 ++ bD sn ++ []) ++ ap (aR 4 pn)=ap (cH ⟨true,nk,nc,nd⟩ (k+1)) by rw [cE,HNX.out,HCB.out,if_pos h40];simp [bA]);generalize acc2 ++ bD sn ++ []=acc3 at *;go_wp2_with fail;refine (gB pn 4 w7 (by omega) (by omega) (by omega)).mono ?_;rintro e w8 ⟨rfl,hb⟩;have HB8:=Z (HB7.out.trans (hb.mono HB7.out.size));clear hb c0 c2' c3';go_wp2_with fail;go_roundw
     case rel=>exact ⟨k+1,by omega,by go_num,by rw [HA2.out],HB8.out⟩
     case measure=>simp [intOf];omega
    ·have h41:¬ (40:Int)<(sn:Int):=by omega
     have h42:(sn:Int)<=40:=by omega
     have HA2:=Z (show ap (acc2 ++ bD sn ++ da)=ap (cH ⟨true,nk,nc,nd⟩ (k+1)) by rw [HNX.out,HCB.out,if_neg h40];simp);rw [HA2.out];go_wp2_with fail;go_roundw
     case rel=>exact ⟨k+1,by omega,by go_num,rfl,HB7.out⟩
     case measure=>simp [intOf];omega
   ·obtain rfl:k=nk.length:=by omega
    have HE2:=Z (show cH ⟨true,nk,nc,nd⟩ nk.length=aw ⟨true,nk,nc,nd⟩ from HE.out);rw [HE2.out];clear hlt hk;go_wp2_with fail;go_ret;exact ⟨rfl,HW4.out⟩
theorem iV (n:Nd) (v:Value) (w:World) (h:NdV w v n) (hb:n.Bd):Calls BD 116 #[v] w fun e w'=>e=.returned (.tuple #[.string (ap (eI n)),.int .i64 (dX n)])/\Below w.heap.size w w':=by
 obtain ⟨vk,vc,vd,rfl,hs⟩:=h;have HW1:=Z ((Below.refl _ w).alloc (BF _) (ar n vk vc vd));have HG1:=Z (ag (w0:=w) (g:=w.heap.size) (o:=ar n vk vc vd) rfl);have HS1:=Z (hs.keep HW1.out);have HB:=Z hb;clear hs hb;go_enter Tryz.func116,Tryz.ntmps116;go_upto_region 1 with fail
 generalize hw1:w.alloc (.cells #[.bool n.leaf,vk,vc,vd] 110)=w1 at *;have hw2:w.alloc (ar n vk vc vd)=w1:=hw1;rw [hw2] at HW1 HG1 HS1;clear hw1 hw2;obtain ⟨a0,a1,a2,a3,a4⟩:=aa HG1.out;go_wp2_with fail;refine (uk n _ w1 ⟨vk,vc,vd,rfl,HS1.out⟩ HB.out).mono ?_;rintro e w2 ⟨rfl,hb⟩;have HG2:=Z (af HG1.out hb);have HW2:=Z (HW1.out.trans (hb.mono HW1.out.size));have HS2:=Z (HS1.out.keep hb);clear hb a0 a1 a2 a3 a4;obtain ⟨a0,a1,a2,a3,a4⟩:=aa HG2.out;cases hg:aD n
 ·have HV:=Z (show eI n=[]/\dX n=1 by unfold eI dX;rw [hg];simp);go_wp2_with fail;go_ret2;exact ⟨by rw [HV.out.1,HV.out.2];rfl,HW2.out⟩
 ·go_wp2_with fail;refine (rZ n _ w2 ⟨vk,vc,vd,rfl,HS2.out⟩ HB.out hg).mono ?_;rintro e w3 ⟨rfl,hb⟩;have HW3:=Z (HW2.out.trans (hb.mono HW2.out.size));clear hb a0 a1 a2 a3 a4;have s1:=au (aw n);by_cases hl:232<(aw n).length
  ·have HV:=Z (show eI n=[]/\dX n=47 by unfold eI dX;rw [hg];simp [hl]);have s2:(232:Int)<((ap (aw n)).size:Int):=by omega
   clear s1;go_wp2_with fail;go_ret2;exact ⟨by rw [HV.out.1,HV.out.2];rfl,HW3.out⟩
  ·have HV:=Z (show eI n=aK (aw n)/\dX n=0 by unfold eI dX;rw [hg];simp [hl]);have s2:((ap (aw n)).size:Int)<=232:=by omega
   clear s1;go_wp2_with fail;refine (rh (ap (aw n)) w3).mono ?_;rw [bA];rintro e w4 ⟨rfl,hb⟩;have HW4:=Z (HW3.out.trans (hb.mono HW3.out.size));clear hb;go_wp2_with fail;go_ret2;exact ⟨by rw [HV.out.1,HV.out.2];rfl,HW4.out⟩
def mG (x:Nat × Option Nat):Value:=.tuple #[.int .i64 x.1,.int .i64 (eW x.2)]
def mF (x:By × Option Nat):Value:=.tuple #[.string (ap x.1),.int .i64 (eW x.2)]
theorem sX:∀ (l:List UInt8) (i n:Nat),(ik i n l).2.1<=i+l.length+1
 | [],i,n=>by simp [iM]
 | b :: r,i,n=>by
   by_cases h1:(i=9/\1<b.toNat)\/(0<i/\b.toNat=0)
   ·rw [iN h1];simp
   ·by_cases h2:b.toNat<128
    ·rw [gi h1 h2];simp
    ·rw [jo h1 h2];have:=sX r (i+1) (n+(b.toNat - 128) * 128 ^ i);simp only [List.length_cons];omega
theorem lD (l:By) (p:Option Nat) (w:World) (hl:l.length<=1000000):
  Calls BD 114 #[.string (ap l),.int .i64 (eW p)] w fun e w'=>e=.returned (mG (cZ l p))/\w=w':=by
 have hsz:((ap l).size:Int)=(l.length:Int):=by rw [au]
 have hsn:(ap l).size=l.length:=au l;go_enter Tryz.func114,Tryz.ntmps114;cases p with
 | none=> have HV:=Z (show cZ l none=(0,none) from rfl);simp only [eW];go_wp2_with fail;go_ret2;exact ⟨by rw [HV.out];rfl,rfl⟩
 | some a=>
   simp only [eW];have h0:¬ ((a:Int)<0):=by omega
   have h0b:(0:Int)<=(a:Int):=by omega
   by_cases h1:l.length<a
   ·have HV:=Z (show cZ l (some a)=(0,none) by unfold cZ;simp only;rw [if_pos h1]);have h2:((ap l).size:Int)<(a:Int):=by omega
    clear hsz hsn h1;go_wp2_with fail;go_ret2;exact ⟨by rw [HV.out];rfl,rfl⟩
   ·have HV0:=Z (show cZ l (some a)=if (iE (l.drop a)).2.2≠0\/5000<(iE (l.drop a)).1 then (0,none) else ((iE (l.drop a)).1,some (a+(iE (l.drop a)).2.1)) by unfold cZ;simp only;rw [if_neg h1]);have h2:(a:Int)<=((ap l).size:Int):=by omega
    have HX:=Z (show (ap l).extract a (ap l).size=ap (l.drop a) by rw [dM,bA,BB (by rw [Bt];omega)]);have hle:=sX (l.drop a) 0 0;have HLE:=Z (show (iE (l.drop a)).2.1<=1000001 from by
     have:(iE (l.drop a)).2.1<=0+(l.drop a).length+1:=hle;rw [Bt] at this;omega)
    have ha:a<=1000000:=by omega
    clear hle h1 hsn;go_wp2_with fail
    try rw [HX.out]
    refine (rL (ap (l.drop a)) w).mono ?_;rw [bA];rintro e w1 ⟨rfl,rfl⟩;obtain ⟨⟨n,k,c⟩,hu⟩:∃ x,iE (l.drop a)=x:=⟨_,rfl⟩;rw [hu] at HV0 HLE;rw [hu];clear hu;simp only at HV0 HLE;unfold zu;by_cases hc:c=0
    ·subst hc;by_cases hn:5000<n
     ·have HV:=Z (show cZ l (some a)=(0,none) by rw [HV0.out,if_pos (.inr hn)]);have hn2:(5000:Int)<(n:Int):=by omega
      go_wp2_with fail;go_ret2;exact ⟨by rw [HV.out];rfl,rfl⟩
     ·have HV:=Z (show cZ l (some a)=(n,some (a+k)) by rw [HV0.out,if_neg (by omega)]);have hn2:(n:Int)<=5000:=by omega
      have hk:=HLE.out;have hw1:IntKind.i64.wrap (n:Int)=(n:Int):=Bw _ (by omega);have hw2:IntKind.i64.wrap ((a:Int)+(k:Int))=((a+k:Nat):Int):=by rw [Bw _ (by omega)];rfl
      go_wp2_with fail;go_ret2;exact ⟨by rw [HV.out];rfl,rfl⟩
    ·have HV:=Z (show cZ l (some a)=(0,none) by rw [HV0.out,if_pos (.inl hc)]);have hc2:(c == 0)=false:=by simpa using hc
     have hc3:(c != 0)=true:=by simpa using hc
     go_wp2_with fail;go_ret2;exact ⟨by rw [HV.out];rfl,rfl⟩
theorem kR (l:By) (p:Option Nat) (n:Nat) (w:World) (hl:l.length<=1000000) (hn:n<=1000000):
  Calls BD 115 #[.string (ap l),.int .i64 (eW p),.int .i64 n] w fun e w'=>e=.returned (mF (ci l p n))/\w=w':=by
 have hsz:((ap l).size:Int)=(l.length:Int):=by rw [au]
 have hsn:(ap l).size=l.length:=au l;go_enter Tryz.func115,Tryz.ntmps115;cases p with
 | none=> have HV:=Z (show ci l none n=([],none) from rfl);simp only [eW];go_wp2_with fail;go_ret2;exact ⟨by rw [HV.out];rfl,rfl⟩
 | some a=>
   simp only [eW];have h0:¬ ((a:Int)<0):=by omega
   have h0b:(0:Int)<=(a:Int):=by omega
   by_cases h1:l.length<a
   ·have HV:=Z (show ci l (some a) n=([],none) by unfold ci;simp only;rw [if_pos (by omega)]);have h2:((ap l).size:Int)<(a:Int):=by omega
    clear hsz hsn h1;go_wp2_with fail;go_ret2;exact ⟨by rw [HV.out];rfl,rfl⟩
   ·have h2:(a:Int)<=((ap l).size:Int):=by omega
    have hw1:IntKind.i64.wrap (((ap l).size:Int) - (a:Int))=((ap l).size:Int) - (a:Int):=Bw _ (by omega);have hw2:IntKind.i64.wrap ((a:Int)+(n:Int))=((a+n:Nat):Int):=by rw [Bw _ (by omega)];rfl
    by_cases h3:l.length<a+n
    ·have HV:=Z (show ci l (some a) n=([],none) by unfold ci;simp only;rw [if_pos h3]);have h4:((ap l).size:Int) - (a:Int)<(n:Int):=by omega
     clear hsz hsn h1 h3;go_wp2_with fail;go_ret2;exact ⟨by rw [HV.out];rfl,rfl⟩
    ·have HV:=Z (show ci l (some a) n=((l.drop a).take n,some (a+n)) by unfold ci;simp only;rw [if_neg h3]);have h4:(n:Int)<=((ap l).size:Int) - (a:Int):=by omega
     have h5:((a+n:Nat):Int)<=((ap l).size:Int):=by omega
     have h6:(a:Int)<=((a+n:Nat):Int):=by omega
     have HX:=Z (show (ap l).extract a (a+n)=ap ((l.drop a).take n) by rw [dM,bA,BH]);clear hsz hsn h1 h3;go_wp2_with fail;go_ret2;exact ⟨by rw [HV.out];simp only [mF,eW];rw [<- HX.out];rfl,rfl⟩
theorem jH (l:By) (p:Option Nat) (w:World) (hl:l.length<=1000000):
  Calls BD 113 #[.string (ap l),.int .i64 (eW p)] w fun e w'=>e=.returned (mG (fG l p))/\w=w':=by
 have HP:=Z (kR l p 4 w hl (by omega));have HF:=Z (show fG l p=((ci l p 4).2.elim 0 fun _=>cw (ci l p 4).1,(ci l p 4).2) from rfl)
 have HL:=Z (show ∀ b,(ci l p 4).2=some b->(ci l p 4).1.length=4/\b<=l.length from fun b=>by
  cases p with
  | none=>intro h;cases h
  | some a=>
    unfold ci;simp only
    split
    ·intro h;cases h
    ·intro h;injection h with h
     refine ⟨by rw [BG,Bt];omega,by omega⟩)
 generalize eW p=pv at *;go_enter Tryz.func113,Tryz.ntmps113;go_wp2_with fail;refine HP.out.mono ?_;generalize ci l p 4=x at *;obtain ⟨t,q⟩:=x;rintro e w1 ⟨rfl,rfl⟩;unfold mF;simp only at HF HL;cases q with
 | none=> have HV:=Z (show fG l p=(0,none) from HF.out);simp only [eW];go_wp2_with fail;go_ret2;exact ⟨by rw [HV.out];rfl,rfl⟩
 | some b=>
   obtain ⟨h4,hb⟩:=HL.out b rfl;have HV:=Z (show fG l p=(cw t,some b) from HF.out);have hs4:(ap t).size=4:=by rw [au,h4]
   have HU:=Z (show cw t<4294967296 from by have:=il t;rw [h4] at this;exact this);simp only [eW];have h0:(0:Int)<=(b:Int):=by omega
   go_wp2_with fail;refine (jZ (ap t) w (by omega) (by omega)).mono ?_;rw [bA];rintro e w1 ⟨rfl,rfl⟩;have hu:=HU.out;generalize cw t=u at *;have hw1:IntKind.i64.wrap (u:Int)=(u:Int):=Bw _ (by omega);go_wp2_with fail;go_ret2;exact ⟨by rw [HV.out];rfl,rfl⟩
end Go.Proofs.YtknioodagnjchaaGreatDoor
