/- seal: isShort, Close, number, Sum, Open. seal.Open of what was closed. head: isFit, Fresh. -/
import Derived.Test.YtdmhbgpejppbkaaGreatXGao
import Derived.Test.YtdmhbgpejppbkaaGreatXGaj
import Derived.Deep.RegionHeld3
import Derived.Deep.QuietTactic
import Derived.BigQuiet
set_option maxRecDepth 100000
set_option maxHeartbeats 4000000
namespace Go.Proofs.YtdmhbgpejppbkaaGreat
open Go.Lib (hid)
open Go.RowKit
def lM (n:Int):Bool:=decide (0≤n∧n<4294967296)
theorem kh (n:Int) (w:World):Calls Tryz.prog 250 #[.int .i64 n] w fun e w'=>e=.returned (.bool (lM n))∧w=w':=by
 go_enter Tryz.func250,Tryz.ntmps250;by_cases h0:0≤n
 ·by_cases h1:n<4294967296
  ·have HE:=hid (show lM n=true from decide_eq_true ⟨h0,h1⟩);go_wp2_with fail;go_ret;exact ⟨by rw [HE.out];rfl,rfl⟩
  ·have HE:=hid (show lM n=false from decide_eq_false fun h=>h1 h.2);go_wp2_with fail;go_ret;exact ⟨by rw [HE.out];rfl,rfl⟩
 ·have HE:=hid (show lM n=false from decide_eq_false fun h=>h0 h.1);go_wp2_with fail;go_ret;exact ⟨by rw [HE.out];rfl,rfl⟩
theorem kZ (s:ByteArray) (w:World) (h0:1≤s.size) (h8:s.size≤8):Calls Tryz.prog 213 #[.string s] w fun e w'=>e=.returned (.int .u64 (eE (bs s)))∧Below w.heap.size w w':=by go_enter Tryz.func213,Tryz.ntmps213;go_wp2_with fail;refine (eF s w h0 h8).mono ?_;rintro e w1 ⟨rfl,hb⟩;have HB:=hid hb;clear hb;go_wp2_with fail;go_ret;exact ⟨rfl,HB.out⟩
def cb (s:List UInt8):Nat:=if s.length=256 then eE (s.drop 248) else 0
theorem fY (s:List UInt8) (w:World):Calls Tryz.prog 211 #[.string (aj s)] w fun e w'=>e=.returned (.int .u64 (cb s))∧Below w.heap.size w w':=by
 have hsz:(aj s).size=s.length:=aw s;go_enter Tryz.func211,Tryz.ntmps211;by_cases h:s.length=256
 ·have hx:(aj s).extract 248 256=aj (s.drop 248):=by rw [cV,aR,List.take_of_length_le (by simp;omega)]
  have HE:=hid (show cb s=eE (s.drop 248) from if_pos h);rw [h] at hsz;go_wp2_with fail;refine (kZ _ _ (by rw [aw];simp;omega) (by rw [aw];simp;omega)).mono ?_;rintro e w1 ⟨rfl,hb⟩;have HB:=hid hb;clear hb;go_wp2_with fail;go_ret;exact ⟨by rw [HE.out];rfl,HB.out⟩
 ·have HE:=hid (show cb s=0 from if_neg h);have hc:((s.length:Int) != 256)=true:=by
   have:¬ (s.length:Int)=256:=by omega
   simp [this]
  clear h;go_wp2_with fail;go_ret;exact ⟨by rw [HE.out];rfl,Below.refl _ _⟩
def di (k n m:Nat) (b:List UInt8):List UInt8:=b ++ aG 4 k ++ aG 4 n ++ aG 8 m
def aI (k n m:Nat) (b:List UInt8):List UInt8:=di k n m b ++ aG 8 (fQ 1 (di k n m b)).toNat
def cN (k n m:Nat) (s:ByteArray):Value:=.agg #[.int .i64 k,.int .i64 n,.int .u64 m,.string s]
theorem lL {n:Nat} (h:n<4294967296):lM n=true:=decide_eq_true ⟨by omega,by omega⟩
def bq (k n m:Nat) (s:ByteArray):Obj:=.cells #[.int .i64 k,.int .i64 n,.int .u64 m,.string s] 181 (0,0)
theorem gH {w:World} {g k n m:Nat} {s:ByteArray} (h:w.heap[g]?=some (bq k n m s)):w.cell? ⟨g,0,none⟩=some (.int .i64 k)∧w.cell? ⟨g,1,none⟩=some (.int .i64 n)∧w.cell? ⟨g,2,none⟩=some (.int .u64 m)∧w.cell? ⟨g,3,none⟩=some (.string s)∧g<w.heap.size:=
 ⟨aa h 0,aa h 1,aa h 2,aa h 3,ab h⟩
theorem lV (n k:Nat) (w:World) {g:Nat} {o:Obj} (hn:n<18446744073709551616) (h1:1≤k) (h8:k≤8) (hg:w.heap[g]?=some o):Calls Tryz.prog 165 #[.int .u64 n,.int .i64 k] w fun e w'=>e=.returned (.string (aj (aG k n)))∧w'.heap[g]?=some o∧Below w.heap.size w w':=by refine (eZ n k w hn h1 h8).mono ?_;rintro e w1 ⟨rfl,hb⟩;exact ⟨rfl,(hb.block g (ab hg)).trans hg,hb⟩
theorem fh (k n m:Nat) (b:List UInt8) (w:World) (hk:k<4294967296) (hn:n<4294967296) (hm:m<18446744073709551616) (hb:b.length=232):
  Calls Tryz.prog 209 #[cN k n m (aj b)] w fun e w'=>e=.returned (.tuple #[.string (aj (aI k n m b)),.int .i64 0])∧Below w.heap.size w w':=by
 have hsz:(aj b).size=232:=by rw [aw,hb]
 have hk1:IntKind.u64.wrap (k:Int)=k:=by rw [IntKind.wrap_u64];omega
 have hn1:IntKind.u64.wrap (n:Int)=n:=by rw [IntKind.wrap_u64];omega
 have H4k:=hid (lL hk);have H4n:=hid (lL hn);have hs1:(aj (aG 4 k)).size=4:=by rw [aw,aq]
 have hs2:(aj (aG 4 n)).size=4:=by rw [aw,aq]
 have hs3:(aj (aG 8 m)).size=8:=by rw [aw,aq]
 have HS:=hid (show aj b ++ aj (aG 4 k) ++ aj (aG 4 n) ++ aj (aG 8 m)=aj (di k n m b) by
  apply ix;simp only [fo,aR,di])
 have F1:=fun (s:ByteArray) (w':World) (h:w'.heap[w.heap.size]?=some (bq k n m s))=>lV k 4 w' (g:=w.heap.size) (by omega) (by decide) (by decide) h
 have F2:=fun (s:ByteArray) (w':World) (h:w'.heap[w.heap.size]?=some (bq k n m s))=>lV n 4 w' (g:=w.heap.size) (by omega) (by decide) (by decide) h
 have F3:=fun (s:ByteArray) (w':World) (h:w'.heap[w.heap.size]?=some (bq k n m s))=>lV m 8 w' (g:=w.heap.size) hm (by decide) (by decide) h
 generalize aj b=s0 at *;generalize aj (aG 4 k)=s1 at *;generalize aj (aG 4 n)=s2 at *;generalize aj (aG 8 m)=s3 at *
 have HF:=hid (show (∀ (w':World),w'.heap[w.heap.size]?=some (bq k n m s0)→Calls Tryz.prog 165 #[.int .u64 k,.int .i64 4] w' fun e w''=>e=.returned (.string s1)∧w''.heap[w.heap.size]?=some (bq k n m s0)∧Below w'.heap.size w' w'')∧
   (∀ (w':World),w'.heap[w.heap.size]?=some (bq k n m s0)→Calls Tryz.prog 165 #[.int .u64 n,.int .i64 4] w' fun e w''=>e=.returned (.string s2)∧w''.heap[w.heap.size]?=some (bq k n m s0)∧Below w'.heap.size w' w'')∧
   (∀ (w':World),w'.heap[w.heap.size]?=some (bq k n m s0)→Calls Tryz.prog 165 #[.int .u64 m,.int .i64 8] w' fun e w''=>e=.returned (.string s3)∧w''.heap[w.heap.size]?=some (bq k n m s0)∧Below w'.heap.size w' w'') from
  ⟨F1 s0,F2 s0,F3 s0⟩)
 clear F1 F2 F3;unfold cN;go_enter Tryz.func209,Tryz.ntmps209;go_wp2_with fail;refine (kh _ _).mono ?_;rintro e w1 ⟨rfl,rfl⟩;rw [H4k.out];go_wp2_with fail;refine (kh _ _).mono ?_;rintro e w1 ⟨rfl,rfl⟩;rw [H4n.out];go_wp2_with fail;have HB0:=hid (((Below.refl w.heap.size w).alloc (Nat.le_refl _) (bq k n m s0)).drew);have hg0:((w.alloc (bq k n m s0)).drew).heap[w.heap.size]?=some (bq k n m s0):=af rfl;have HG0:=hid hg0;obtain ⟨z0,z1,z2,z3,z4⟩:=gH hg0;clear hk hn hm hg0
 go_region_held3 (fun w'=>w'.cell? ⟨w.heap.size,0,none⟩=some (.int .i64 k)∧w'.cell? ⟨w.heap.size,1,none⟩=some (.int .i64 n)∧w'.cell? ⟨w.heap.size,2,none⟩=some (.int .u64 m)∧w'.cell? ⟨w.heap.size,3,none⟩=some (.string s0)) (first | exact ⟨q0,q1,q2,q3⟩ | exact ⟨f0,f1,f2,f3⟩ | exact ⟨d0,d1,d2,d3⟩ | exact ⟨z0,z1,z2,z3⟩)
  (first
   | (go_at_call 165;(with_reducible refine (HF.out.1 _ ?ba).mono ?_);(case ba=>exact HG0.out);rintro e w1 ⟨rfl,hg1,hb1⟩;have HB1:=hid hb1;clear hb1;have HG1:=hid hg1;obtain ⟨d0,d1,d2,d3,d4⟩:=gH hg1;clear hg1)
   | (go_at_call 165;(with_reducible refine (HF.out.2.1 _ ?ba).mono ?_);(case ba=>exact HG1.out);rintro e w2 ⟨rfl,hg2,hb2⟩;have HB2:=hid hb2;clear hb2;have HG2:=hid hg2;obtain ⟨f0,f1,f2,f3,f4⟩:=gH hg2;clear hg2)
   | (go_at_call 165;(with_reducible refine (HF.out.2.2 _ ?ba).mono ?_);(case ba=>exact HG2.out);rintro e w3 ⟨rfl,hg3,hb3⟩;have HB3:=hid hb3;clear hb3;have HG3:=hid hg3;obtain ⟨q0,q1,q2,q3,q4⟩:=gH hg3;clear hg3))
 have HB:=hid (((HB0.out.trans (HB1.out.mono HB0.out.size)).trans (HB2.out.mono (Nat.le_trans HB0.out.size HB1.out.size))).trans (HB3.out.mono (Nat.le_trans (Nat.le_trans HB0.out.size HB1.out.size) HB2.out.size)));clear z0 z1 z2 z3 z4 d0 d1 d2 d3 d4 f0 f1 f2 f3 f4 q0 q1 q2 q3 q4;rw [HS.out];have hl:(di k n m b).length=248:=by simp [di,aq,hb]
 have HL:=hid (show (aj (di k n m b)).size=248 from by rw [aw,hl]);have hsz4:=HL.out;have HSB:=hid (kH 1 (di k n m b));have HN:=hid (show fQ 1 (di k n m b)=((fQ 1 (di k n m b)).toNat:Int) by have:=HSB.out;omega);obtain ⟨q,hq⟩:∃ q:Nat,q=(fQ 1 (di k n m b)).toNat:=⟨_,rfl⟩;have HQ:=hid hq;have HX:=hid (fun (w':World)=>show Calls Tryz.prog 165 #[.int .u64 q,.int .i64 8] w' fun e w''=>e=.returned (.string (aj (aG 8 q)))∧Below w'.heap.size w' w'' from eZ q 8 w' (by rw [hq];have:=HSB.out;omega) (by decide) (by decide));have HT:=hid (show aj (di k n m b) ++ aj (aG 8 q)=aj (aI k n m b) by
  apply ix;simp only [fo,aR,aI,hq])
 have hs8:(aj (aG 8 q)).size=8:=by rw [aw,aq]
 generalize hx8:aj (aG 8 q)=s8 at *;clear hq hx8;go_wp2_with fail;refine (sW 1 (di k n m b) w3 (by decide) (by decide) (by omega)).mono ?_;rintro e w4 ⟨rfl,hb4⟩;have HB4:=hid hb4;clear hb4;rw [HN.out,← HQ.out];go_wp2_with fail;refine (HX.out w4).mono ?_;rintro e w5 ⟨rfl,hb5⟩;have HB5:=hid hb5;clear hb5;go_wp2_with fail;go_ret2;have hw3:=HB.out.size;have hw4:=HB4.out.size;exact ⟨by rw [← HT.out];rfl,(HB.out.trans (HB4.out.mono hw3)).trans (HB5.out.mono (Nat.le_trans hw3 hw4))⟩
theorem eP:∀ k n,n<256 ^ k→eE (aG k n)=n
 | 0,n,h=>by have:n=0:=by simpa using h
             subst this;rfl
 | k+1,n,h=>by
   have h1:n / 256<256 ^ k:=by rw [Nat.pow_succ] at h;omega
   rw [aG,jj,eP k _ h1,UInt8.toNat_ofNat',Nat.mod_mod_of_dvd n (show 2 ^ 8 ∣ 256 by decide)];omega
theorem rm {k n m:Nat} {b:List UInt8} (hb:b.length=232):
  (aI k n m b).length=256∧(aI k n m b).take 248=di k n m b∧(aI k n m b).take 232=b∧((aI k n m b).drop 232).take 4=aG 4 k∧((aI k n m b).drop 236).take 4=aG 4 n∧((aI k n m b).drop 240).take 8=aG 8 m∧(aI k n m b).drop 248=aG 8 (fQ 1 (di k n m b)).toNat:=by
 have l1:=aq 4 k;have l2:=aq 4 n;have l3:=aq 8 m;have l4:=aq 8 (fQ 1 (di k n m b)).toNat;unfold aI;generalize aG 8 (fQ 1 (di k n m b)).toNat=x4 at *;unfold di;generalize aG 4 k=x1 at *;generalize aG 4 n=x2 at *;generalize aG 8 m=x3 at *;refine ⟨by simp [*],?_,?_,?_,?_,?_,?_⟩
 ·rw [List.take_left' (by simp [*])]
 ·simp only [List.append_assoc];rw [List.take_left' hb]
 ·simp only [List.append_assoc];rw [List.drop_left' hb,List.take_left' l1]
 ·rw [show b ++ x1 ++ x2 ++ x3 ++ x4=(b ++ x1) ++ (x2 ++ (x3 ++ x4)) by simp only [List.append_assoc],List.drop_left' (by simp [*]),List.take_left' l2]
 ·rw [show b ++ x1 ++ x2 ++ x3 ++ x4=(b ++ x1 ++ x2) ++ (x3 ++ x4) by simp only [List.append_assoc],List.drop_left' (by simp [*]),List.take_left' l3]
 ·rw [List.drop_left' (by simp [*])]
theorem yH {f:Nat} {args:Array Value} {w:World} {v:Value} {g:Nat} {o:Obj} (h:Calls Tryz.prog f args w fun e w'=>e=.returned v∧Below w.heap.size w w') (hg:w.heap[g]?=some o):
  Calls Tryz.prog f args w fun e w'=>e=.returned v∧w'.heap[g]?=some o∧Below w.heap.size w w':=by
 refine h.mono ?_;rintro e w1 ⟨rfl,hb⟩;exact ⟨rfl,(hb.block _ (ab hg)).trans hg,hb⟩
theorem sc (j v:Nat) (w:World) (h1:1≤j) (h8:j≤8) (hv:v<256 ^ j):Calls Tryz.prog 213 #[.string (aj (aG j v))] w fun e w'=>e=.returned (.int .u64 (v:Nat))∧Below w.heap.size w w':=by refine (kZ (aj (aG j v)) w (by rw [aw,aq];exact h1) (by rw [aw,aq];exact h8)).mono ?_;rintro e w1 ⟨rfl,hb⟩;exact ⟨by rw [aR,eP _ _ hv],hb⟩
theorem kY (k n m:Nat) (b:List UInt8) (w:World) (hk:k<4294967296) (hn:n<4294967296) (hm:m<18446744073709551616) (hb:b.length=232):
  Calls Tryz.prog 154 #[.string (aj (aI k n m b))] w fun e w'=>e=.returned (.tuple #[cN k n m (aj b),.int .i64 0])∧Below w.heap.size w w':=by
 obtain ⟨p0,p1,p2,p3,p4,p5,p6⟩:=rm (k:=k) (n:=n) (m:=m) hb;have HSB:=hid (kH 1 (di k n m b));generalize aI k n m b=s at *;have hsz:(aj s).size=256:=by rw [aw,p0]
 have x1:(aj s).extract 0 248=aj (di k n m b):=by rw [cV,aR];exact congrArg aj p1
 have x2:(aj s).extract 0 232=aj b:=by rw [cV,aR];exact congrArg aj p2
 have x3:(aj s).extract 232 236=aj (aG 4 k):=by rw [cV,aR];exact congrArg aj p3
 have x4:(aj s).extract 236 240=aj (aG 4 n):=by rw [cV,aR];exact congrArg aj p4
 have x5:(aj s).extract 240 248=aj (aG 8 m):=by rw [cV,aR];exact congrArg aj p5
 have HSS:=hid (show ((cb s:Nat):Int)=fQ 1 (di k n m b) by
  have h1:=HSB.out;rw [cb,if_pos p0,p6,eP 8 _ (by have:(256:Nat) ^ 8=18446744073709551616:=(by decide);omega)];omega)
 have hl:(di k n m b).length=248:=by simp [di,aq,hb]
 have hz:∃ o,o=Obj.cells #[.int .i64 0,.int .i64 0,.int .u64 0,.string { data:=#[] }] 181 (0,0):=⟨_,rfl⟩;obtain ⟨o,ho⟩:=hz;have HO:=hid ho;clear ho;have K1:=fun (w':World) (h:w'.heap[w.heap.size]?=some o)=>yH (fY s w') h
 have K2:=fun (w':World) (h:w'.heap[w.heap.size]?=some o)=>yH (sW 1 (di k n m b) w' (by decide) (by decide) (by omega)) h
 have KN:=fun (j v:Nat) (hj1:1≤j) (hj8:j≤8) (hv:v<256 ^ j) (w':World) (h:w'.heap[w.heap.size]?=some o)=>yH (sc j v w' hj1 hj8 hv) h
 have KA:=KN 4 k (by decide) (by decide) (by have:(256:Nat) ^ 4=4294967296:=(by decide);omega);have KB:=KN 4 n (by decide) (by decide) (by have:(256:Nat) ^ 4=4294967296:=(by decide);omega);have KC:=KN 8 m (by decide) (by decide) (by have:(256:Nat) ^ 8=18446744073709551616:=(by decide);omega);clear KN;have H1:=hid K1;have H2:=hid K2;have HA:=hid KA;have HB:=hid KB;have HC:=hid KC;clear K1 K2 KA KB KC;have hk1:IntKind.i64.wrap (k:Int)=k:=by rw [IntKind.wrap_i64] <;> omega
 have hn1:IntKind.i64.wrap (n:Int)=n:=by rw [IntKind.wrap_i64] <;> omega
 have hne:((cb s:Int) != fQ 1 (di k n m b))=false:=by rw [HSS.out];simp
 clear p0 p1 p2 p3 p4 p5 p6 hk hn hm hb hl;generalize fQ 1 (di k n m b)=sv at *;generalize cb s=su at *;generalize aj (di k n m b)=t0 at *;generalize aj b=t1 at *;generalize aj (aG 4 k)=t2 at *;generalize aj (aG 4 n)=t3 at *;generalize aj (aG 8 m)=t4 at *;generalize aj s=t5 at *;have HW:=hid (((Below.refl w.heap.size w).alloc (Nat.le_refl _) (Obj.cells #[.int .i64 0,.int .i64 0,.int .u64 0,.string { data:=#[] }] 181 (0,0))).drew);have HG0':=hid (show ((w.alloc (Obj.cells #[.int .i64 0,.int .i64 0,.int .u64 0,.string { data:=#[] }] 181 (0,0))).drew).heap[w.heap.size]?=some o by rw [HO.out];exact af rfl);go_enter Tryz.func154,Tryz.ntmps154;go_wp2_with fail
 go_region_held3 (fun _=>True) (trivial)
  (first
   | (go_at_call 211;(with_reducible refine (H1.out _ ?ba).mono ?_);(case ba=>exact HG0'.out);rintro e w1 ⟨rfl,hg1,hb1⟩;have HB1:=hid hb1;have HG1:=hid hg1;clear hb1 hg1)
   | (go_at_call 212;(with_reducible refine (H2.out _ ?ba).mono ?_);(case ba=>exact HG1.out);rintro e w2 ⟨rfl,hg2,hb2⟩;have HB2:=hid hb2;have HG2:=hid hg2;clear hb2 hg2))
 clear hne;go_wp2_with fail
 go_region_held3 (fun _=>True) (trivial)
  (first
   | (go_at_call 213;(with_reducible refine (HA.out _ ?ba).mono ?_);(case ba=>exact HG2.out);rintro e w3 ⟨rfl,hg3,hb3⟩;have HB3:=hid hb3;have HG3:=hid hg3;clear hb3 hg3)
   | (go_at_call 213;(with_reducible refine (HB.out _ ?ba).mono ?_);(case ba=>exact HG3.out);rintro e w4 ⟨rfl,hg4,hb4⟩;have HB4:=hid hb4;have HG4:=hid hg4;clear hb4 hg4)
   | (go_at_call 213;(with_reducible refine (HC.out _ ?ba).mono ?_);(case ba=>exact HG4.out);rintro e w5 ⟨rfl,hg5,hb5⟩;have HB5:=hid hb5;have HG5:=hid hg5;have lt5:=ab hg5;rw [HO.out] at hg5;have fz5:=ah hg5;have fz0:=fz5 0;have fz1:=fz5 1;have fz2:=fz5 2;have fz3:=fz5 3;have c0:=aa hg5 0;have c1:=aa hg5 1;have c2:=aa hg5 2;have c3:=aa hg5 3;clear hb5 hg5 fz5))
 have hg6:((((w5.setCell ⟨w.heap.size,0,none⟩ (.int .i64 k)).setCell ⟨w.heap.size,1,none⟩ (.int .i64 n)).setCell ⟨w.heap.size,2,none⟩ (.int .u64 m)).setCell ⟨w.heap.size,3,none⟩ (.string t1)).heap[w.heap.size]?=some (bq k n m t1):=by have h:=HG5.out;rw [HO.out] at h;exact ae (ae (ae (ae h 0 (.int .i64 k)) 1 (.int .i64 n)) 2 (.int .u64 m)) 3 (.string t1)
 have hz0:=HW.out.size;have hz1:=HB1.out.size;have hz2:=HB2.out.size;have hz3:=HB3.out.size;have hz4:=HB4.out.size;have hz5:=HB5.out.size;have HB6:=hid (show Below w.heap.size w ((((w5.setCell ⟨w.heap.size,0,none⟩ (.int .i64 k)).setCell ⟨w.heap.size,1,none⟩ (.int .i64 n)).setCell ⟨w.heap.size,2,none⟩ (.int .u64 m)).setCell ⟨w.heap.size,3,none⟩ (.string t1)) from by
  have z1:=HW.out.trans (HB1.out.mono hz0);have z2:=z1.trans (HB2.out.mono z1.size);have z3:=z2.drew.trans (HB3.out.mono z2.size);have z4:=z3.trans (HB4.out.mono z3.size);have z5:=z4.trans (HB5.out.mono z4.size);exact (((z5.setCell (Nat.le_refl _) _).setCell (Nat.le_refl _) _).setCell (Nat.le_refl _) _).setCell (Nat.le_refl _) _)
 generalize ((((w5.setCell ⟨w.heap.size,0,none⟩ (.int .i64 k)).setCell ⟨w.heap.size,1,none⟩ (.int .i64 n)).setCell ⟨w.heap.size,2,none⟩ (.int .u64 m)).setCell ⟨w.heap.size,3,none⟩ (.string t1))=w6 at *;obtain ⟨q0,q1,q2,q3,hlt⟩:=gH hg6;clear hg6 hz0 hz1 hz2 hz3 hz4 hz5 c0 c1 c2 c3 fz0 fz1 fz2 fz3 lt5;go_wp2_with fail;exact bodyPost_ret (v:=.tuple #[cN k n m t1,.int .i64 0]) (by simp [results,Tryz.results154,cN,go_sem,q0,q1,q2,q3]) rfl ⟨rfl,HB6.out⟩
structure He where
 mode:Nat
 pages:Nat
 trunk:Nat
 spare:Nat
 root:Nat
 change:Nat
structure He.Good (h:He):Prop where
 mode:h.mode=1∨h.mode=2
 pages:h.pages≤4096
 trunk:h.trunk<h.pages
 spare:h.spare<h.pages
 root:h.root<h.pages
 both:h.spare=0↔h.trunk=0
 change:h.change<18446744073709551616
def lN (h:He):Array Value:=#[.int .i64 h.mode,.int .i64 h.pages,.int .i64 h.trunk,.int .i64 h.spare,.int .i64 h.root,.int .u64 h.change]
def fJ (h:He):Value:=.agg (lN h)
def dP (h:He):Obj:=.cells (lN h) 38 (0,0)
theorem fw (n p:Nat) (g:Nat) (w:World) (hp:w.cell? ⟨g,1,none⟩=some (.int .i64 p)) (hn:n<p):
  Calls Tryz.prog 218 #[.int .i64 n,.pointer (some ⟨g,0,none⟩)] w fun e w'=>e=.returned (.bool true)∧w=w':=by
 have h0:(0:Int)≤(n:Int):=by omega
 have h1:(n:Int)<(p:Int):=by omega
 go_enter Tryz.func218,Tryz.ntmps218;go_wp2_with fail;go_ret;exact ⟨rfl,rfl⟩
theorem nD (w:World):Calls Tryz.prog 84 #[] w fun e w'=>e=.returned (fJ ⟨1,1,0,0,0,0⟩)∧Below w.heap.size w w':=by go_enter Tryz.func84,Tryz.ntmps84;go_wp2_with fail;have hg:(w.alloc (dP ⟨1,1,0,0,0,0⟩)).heap[w.heap.size]?=some (dP ⟨1,1,0,0,0,0⟩):=af rfl;have hb:=(Below.refl w.heap.size w).alloc (Nat.le_refl _) (dP ⟨1,1,0,0,0,0⟩);change bodyPost _ _ _ _ _ (w.alloc (dP ⟨1,1,0,0,0,0⟩));generalize w.alloc (dP ⟨1,1,0,0,0,0⟩)=w1 at *;have q0:=aa hg 0;have q1:=aa hg 1;have q2:=aa hg 2;have q3:=aa hg 3;have q4:=aa hg 4;have q5:=aa hg 5;simp only [lN] at q0 q1 q2 q3 q4 q5;exact bodyPost_ret (v:=fJ ⟨1,1,0,0,0,0⟩) (by simp [results,Tryz.results84,fJ,lN,go_sem,q0,q1,q2,q3,q4,q5]) rfl ⟨rfl,hb⟩
theorem uH (h:He) (w:World) (hg:h.Good):Calls Tryz.prog 164 #[fJ h] w fun e w'=>e=.returned (.bool true)∧Below w.heap.size w w':=by
 obtain ⟨g1,g2,g3,g4,g5,g6,g7⟩:=hg;obtain ⟨m,p,t,s,r,c⟩:=h;simp only at *;unfold fJ lN;have hm:(m:Int)=1∨(m:Int)=2:=by omega
 have hp:(p:Int)≤4096:=by omega
 have hb:(((s:Int) == 0) == ((t:Int) == 0))=true:=by
  by_cases h:s=0
  ·have:=g6.1 h;subst h this;rfl
  ·have h2:¬ t=0:=fun h2=>h (g6.2 h2)
   have e1:((s:Int) == 0)=false:=by simp;omega
   have e2:((t:Int) == 0)=false:=by simp;omega
   rw [e1,e2];rfl
 go_enter Tryz.func164,Tryz.ntmps164;rcases g1 with rfl | rfl
 ·have HW:=hid (fun (n:Nat) (hn:n<p)=>fw n p w.heap.size (w.alloc (.cells #[.int .i64 1,.int .i64 p,.int .i64 t,.int .i64 s,.int .i64 r,.int .u64 c] 38 (0,0))) (aa (af rfl) 1) hn);have HT:=hid g3;have HS:=hid g4;have HR:=hid g5;have HB:=hid ((Below.refl w.heap.size w).alloc (Nat.le_refl _) (dP ⟨1,p,t,s,r,c⟩));clear g2 g3 g4 g5 g6 g7;go_wp2_with fail;refine (HW.out t HT.out).mono ?_;rintro e w1 ⟨rfl,rfl⟩;go_wp2_with fail;refine (HW.out r HR.out).mono ?_;rintro e w1 ⟨rfl,rfl⟩;go_wp2_with fail;refine (HW.out s HS.out).mono ?_;rintro e w1 ⟨rfl,rfl⟩;go_wp2_with fail;go_ret;exact ⟨rfl,HB.out⟩
 ·have HW:=hid (fun (n:Nat) (hn:n<p)=>fw n p w.heap.size (w.alloc (.cells #[.int .i64 2,.int .i64 p,.int .i64 t,.int .i64 s,.int .i64 r,.int .u64 c] 38 (0,0))) (aa (af rfl) 1) hn);have HT:=hid g3;have HS:=hid g4;have HR:=hid g5;have HB:=hid ((Below.refl w.heap.size w).alloc (Nat.le_refl _) (dP ⟨2,p,t,s,r,c⟩));clear g2 g3 g4 g5 g6 g7;go_wp2_with fail;refine (HW.out t HT.out).mono ?_;rintro e w1 ⟨rfl,rfl⟩;go_wp2_with fail;refine (HW.out r HR.out).mono ?_;rintro e w1 ⟨rfl,rfl⟩;go_wp2_with fail;refine (HW.out s HS.out).mono ?_;rintro e w1 ⟨rfl,rfl⟩;go_wp2_with fail;go_ret;exact ⟨rfl,HB.out⟩
end Go.Proofs.YtdmhbgpejppbkaaGreat
