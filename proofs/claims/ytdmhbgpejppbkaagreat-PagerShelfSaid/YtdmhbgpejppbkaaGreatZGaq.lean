/- mix.Sum: some function of the number and the bytes. seal: isShort, Close, number, Sum, Open. seal.Open of what was closed. head: isFit, Fresh. -/
import Derived.Test.YtdmhbgpejppbkaaGreatZGad
import Derived.Test.YtdmhbgpejppbkaaGreatZGae
import Derived.Test.YtdmhbgpejppbkaaGreatZGaj
import Derived.WalkArith
import Derived.IntWalk
import Derived.Laws.BitsAllLaws
import Derived.BigRegion
import Derived.Deep.RegionHeld3
import Derived.Deep.QuietTactic
import Derived.BigQuiet
set_option maxRecDepth 100000
set_option maxHeartbeats 4000000
namespace Go.Proofs.YtdmhbgpejppbkaaGreat
open Go.Lib (hid)
open Go.RowKit
def ul (x:Int):Int:=bits .or .u32 (x * 128 % 4294967296) (x / 33554432)
theorem rr (x:Int) (w:World):Calls Tryz.prog 253 #[.int .u32 x,.int .i64 7] w fun e w'=>e=.returned (.int .u32 (ul x))∧w=w':=by
 have h7:bits BinOp.and IntKind.u64 7 31=7:=by kernel_rfl
 have h8:IntKind.u64.wrap (32 - 7)=25:=by kernel_rfl
 go_enter Tryz.func253,Tryz.ntmps253;go_wp2_with fail;go_ret;exact ⟨rfl,rfl⟩
def dZ (x:Int):Obj:=.cells #[.int .u32 x] 223 (0,0)
def qY (a b g:Int):Int:=(a+(g+b)) % 4294967296
def qX (a b g:Int):Int:=ul ((b+g+(a+(g+b))) % 4294967296)
theorem dY {w:World} {g:Nat} {x:Int} (h:w.heap[g]?=some (dZ x)):w.cell? ⟨g,0,none⟩=some (.int .u32 x)∧w.frozen? ⟨g,0,none⟩=false∧g<w.heap.size:=⟨aa h 0,ab h 0,af h⟩
theorem dK {w:World} {g:Nat} {x:Int} (h:w.heap[g]?=some (dZ x)) (y:Int):(w.setCell ⟨g,0,none⟩ (.int .u32 y)).heap[g]?=some (dZ y):=ae h 0 _
theorem bF {w:World} {g k:Nat} {x:Int} (h:w.heap[g]?=some (dZ x)) (hk:g≠k) (v:Value):(w.setCell ⟨k,0,none⟩ v).heap[g]?=some (dZ x):=(Below.heap_setCell _ _ _ _ hk).trans h
theorem nn (pa pg pb:Nat) (a b g:Int) (w:World) (ha:w.heap[pa]?=some (dZ a)) (hb:w.heap[pb]?=some (dZ b)) (hg:w.heap[pg]?=some (dZ g)) (h1:pa≠pb) (h2:pa≠pg) (h3:pb≠pg):
  Calls Tryz.prog 252 #[.pointer (some ⟨pa,0,none⟩),.pointer (some ⟨pg,0,none⟩),.pointer (some ⟨pb,0,none⟩)] w fun e w'=>e=.returned (.tuple #[])∧w'.heap[pa]?=some (dZ (qY a b g))∧w'.heap[pb]?=some (dZ (qX a b g))∧w'.heap[pg]?=some (dZ 0)∧Ch (fun k=>k=pa∨k=pb∨k=pg) w w':=by
 obtain ⟨a0,a1,a2⟩:=dY ha;obtain ⟨b0,b1,b2⟩:=dY hb;obtain ⟨g0,g1,g2⟩:=dY hg;have HF:=hid (show (((w.setCell ⟨pa,0,none⟩ (.int .u32 (qY a b g))).setCell ⟨pb,0,none⟩ (.int .u32 (qX a b g))).setCell ⟨pg,0,none⟩ (.int .u32 0)).heap[pa]?=some (dZ (qY a b g))∧(((w.setCell ⟨pa,0,none⟩ (.int .u32 (qY a b g))).setCell ⟨pb,0,none⟩ (.int .u32 (qX a b g))).setCell ⟨pg,0,none⟩ (.int .u32 0)).heap[pb]?=some (dZ (qX a b g))∧(((w.setCell ⟨pa,0,none⟩ (.int .u32 (qY a b g))).setCell ⟨pb,0,none⟩ (.int .u32 (qX a b g))).setCell ⟨pg,0,none⟩ (.int .u32 0)).heap[pg]?=some (dZ 0)∧
   Ch (fun k=>k=pa∨k=pb∨k=pg) w (((w.setCell ⟨pa,0,none⟩ (.int .u32 (qY a b g))).setCell ⟨pb,0,none⟩ (.int .u32 (qX a b g))).setCell ⟨pg,0,none⟩ (.int .u32 0)) from
  ⟨bF (bF (dK ha _) h1 _) h2 _,bF (dK (bF hb h1.symm _) _) h3 _,dK (bF (bF hg h2.symm _) h3.symm _) _,
    (((Ch.refl (fun k=>k=pa∨k=pb∨k=pg) w).setCell (p:=⟨pa,0,none⟩) (.inl rfl) _).setCell (p:=⟨pb,0,none⟩) (.inr (.inl rfl)) _).setCell (p:=⟨pg,0,none⟩) (.inr (.inr rfl)) _⟩)
 clear ha hb hg;have h1':=h1.symm;have h2':=h2.symm;have h3':=h3.symm;go_enter Tryz.func252,Tryz.ntmps252;go_wp2_with fail;refine (rr _ _).mono ?_;rintro e w1 ⟨rfl,rfl⟩;go_wp2_with fail;exact bodyPost_end (results_none rfl _ _ _) rfl ⟨rfl,HF.out⟩
def oZ (g x:Int):Nat→Int
 | 0=>bits .or .u32 g (x % 4294967296 * 16777216 % 4294967296)
 | 1=>bits .or .u32 g (x % 4294967296 * 65536 % 4294967296)
 | 2=>bits .or .u32 g (x % 4294967296 * 256 % 4294967296)
 | _=>bits .or .u32 g (x % 4294967296)
theorem mO {i r:Nat} (h:i % 4=r):Int.tmod (i:Int) 4=(r:Int):=by have:=Int.ofNat_tmod i 4;rw [h] at this;exact this.symm
def cS (s:List UInt8) (a b:Int):Nat→Int × Int × Int
 | 0=>(a,b,0)
 | i+1=>if i % 4=3 then (qY (cS s a b i).1 (cS s a b i).2.1 (oZ (cS s a b i).2.2 ((s.getD i 0).toNat) (i % 4)),qX (cS s a b i).1 (cS s a b i).2.1 (oZ (cS s a b i).2.2 ((s.getD i 0).toNat) (i % 4)),0)
   else ((cS s a b i).1,(cS s a b i).2.1,oZ (cS s a b i).2.2 ((s.getD i 0).toNat) (i % 4))
def sq (w:World) (s:List UInt8) (a b:Int) (i:Nat) (wr:World):Prop:=
 wr.heap[w.heap.size]?=some (dZ (cS s a b i).1)∧wr.heap[w.heap.size+1]?=some (dZ (cS s a b i).2.1)∧wr.heap[w.heap.size+1+1]?=some (dZ (cS s a b i).2.2)∧Below w.heap.size w wr
def tb (a b:Int):Int:=bits .or .u64 (IntKind.u64.wrap (IntKind.u64.wrap a * 4294967296)) (IntKind.u64.wrap b)
theorem oh (a b:Int):0≤tb a b∧tb a b<18446744073709551616:=by
 have h1:0≤IntKind.u64.wrap (IntKind.u64.wrap a * 4294967296)∧IntKind.u64.wrap (IntKind.u64.wrap a * 4294967296)<18446744073709551616:=by rw [IntKind.wrap_u64];omega
 have h2:0≤IntKind.u64.wrap b∧IntKind.u64.wrap b<18446744073709551616:=by rw [IntKind.wrap_u64];omega
 unfold tb;rw [u64_or _ _ h1.1 h1.2 h2.1 h2.2];have h3:=Nat.or_lt_two_pow (n:=64) (x:=(IntKind.u64.wrap (IntKind.u64.wrap a * 4294967296)).toNat) (y:=(IntKind.u64.wrap b).toNat) (by omega) (by omega);refine ⟨Int.natCast_nonneg _,?_⟩;have h4:(2:Nat) ^ 64=18446744073709551616:=by decide
 omega
def dU (n:Int) (s:List UInt8):Int:=
 let m:=cS s (n / 4294967296) (n % 4294967296) s.length
 if s.length % 4=0 then tb m.1 m.2.1 else tb (qY m.1 m.2.1 m.2.2) (qX m.1 m.2.1 m.2.2)
theorem hZ (n:Int) (s:List UInt8):0≤dU n s∧dU n s<18446744073709551616:=by
 unfold dU;simp only
 split <;> exact oh _ _
theorem mP (n:Int) (s:List UInt8) (w:World) (h0:0≤n) (h1:n<18446744073709551616) (hs:s.length≤1000000):Calls Tryz.prog 212 #[.int .u64 n,.string (ak s)] w fun e w'=>e=.returned (.int .u64 (dU n s))∧Below w.heap.size w w':=by
 have hsz:(ak s).size=s.length:=ay s;go_enter Tryz.func212,Tryz.ntmps212;go_wp2_with fail;go_loopw [9,18] (fun _ iv wr=>∃ i:Nat,iv=.int .i64 i∧i≤s.length∧sq w s (n / 4294967296) (n % 4294967296) i wr) (fun _ iv _=>s.length - (intOf iv).toNat)
 case atStart=>
  refine ⟨0,rfl,Nat.zero_le _,?_,?_,?_,?_⟩
  ·exact aj (aj (ah rfl) _) _
  ·exact aj (ah (by simp)) _
  ·exact ah (by simp)
  ·exact (((Below.refl _ w).alloc (Nat.le_refl _) _).alloc (by simp) _).alloc (by simp;omega) _
 case round=>
  obtain ⟨i,rfl,hi,hI⟩:=hrel;obtain ⟨ia,ib,ig,hb⟩:=hI;have HB:=hid hb;have HA:=hid ia;have HBB:=hid ib;have HG:=hid ig;have hsz2:=hb.size;obtain ⟨a0,a1,a2⟩:=dY ia;obtain ⟨b0,b1,b2⟩:=dY ib;obtain ⟨g0,g1,g2⟩:=dY ig;clear ia ib ig hb;by_cases hlt:i<s.length
  ·have hlt1:(i:Int)<(s.length:Int):=by omega
   have hi0:(0:Int)≤(i:Int):=by omega
   have hr:i % 4=0∨i % 4=1∨i % 4=2∨i % 4=3:=by omega
   rcases hr with hr | hr | hr | hr
   ·have ht:Int.tmod (i:Int) 4=0:=mO hr;have HS:=hid (show cS s (n / 4294967296) (n % 4294967296) (i+1)=((cS s (n / 4294967296) (n % 4294967296) i).1,(cS s (n / 4294967296) (n % 4294967296) i).2.1,oZ (cS s (n / 4294967296) (n % 4294967296) i).2.2 ((s.getD i 0).toNat) 0) by
     rw [cS,hr,if_neg (by decide)])
    go_wp2_with fail;go_region;have hw1:IntKind.i64.wrap ((i:Int)+1)=(i:Int)+1:=by rw [IntKind.wrap_i64] <;> omega
    generalize hy:(ak s)[i].toNat=y at *;have hys:(s.getD i 0).toNat=y:=by rw [← hy];simp [List.getD_eq_getElem?_getD,List.getElem?_eq_getElem hlt];rfl
    have HI:=hid (show sq w s (n / 4294967296) (n % 4294967296) (i+1) (wr.setCell ⟨w.heap.size+1+1,0,none⟩ (.int .u32 (oZ (cS s (n / 4294967296) (n % 4294967296) i).2.2 y 0))) from by
     unfold sq;rw [HS.out,hys];exact ⟨bF HA.out (by omega) _,bF HBB.out (by omega) _,dK HG.out _,HB.out.setCell (by simp only;omega) _⟩)
    clear hy hys a0 a1 b0 b1 g0 g1 hr;go_wp2_with fail;go_roundw
    case rel=>exact ⟨i+1,by go_num,by omega,HI.out.1,HI.out.2.1,HI.out.2.2.1,HI.out.2.2.2.drew⟩
    case measure=>simp [intOf];omega
   ·have ht:Int.tmod (i:Int) 4=1:=mO hr;have HS:=hid (show cS s (n / 4294967296) (n % 4294967296) (i+1)=((cS s (n / 4294967296) (n % 4294967296) i).1,(cS s (n / 4294967296) (n % 4294967296) i).2.1,oZ (cS s (n / 4294967296) (n % 4294967296) i).2.2 ((s.getD i 0).toNat) 1) by
     rw [cS,hr,if_neg (by decide)])
    go_wp2_with fail;go_region;have hw1:IntKind.i64.wrap ((i:Int)+1)=(i:Int)+1:=by rw [IntKind.wrap_i64] <;> omega
    generalize hy:(ak s)[i].toNat=y at *;have hys:(s.getD i 0).toNat=y:=by rw [← hy];simp [List.getD_eq_getElem?_getD,List.getElem?_eq_getElem hlt];rfl
    have HI:=hid (show sq w s (n / 4294967296) (n % 4294967296) (i+1) (wr.setCell ⟨w.heap.size+1+1,0,none⟩ (.int .u32 (oZ (cS s (n / 4294967296) (n % 4294967296) i).2.2 y 1))) from by
     unfold sq;rw [HS.out,hys];exact ⟨bF HA.out (by omega) _,bF HBB.out (by omega) _,dK HG.out _,HB.out.setCell (by simp only;omega) _⟩)
    clear hy hys a0 a1 b0 b1 g0 g1 hr;go_wp2_with fail;go_roundw
    case rel=>exact ⟨i+1,by go_num,by omega,HI.out.1,HI.out.2.1,HI.out.2.2.1,HI.out.2.2.2.drew⟩
    case measure=>simp [intOf];omega
   ·have ht:Int.tmod (i:Int) 4=2:=mO hr;have HS:=hid (show cS s (n / 4294967296) (n % 4294967296) (i+1)=((cS s (n / 4294967296) (n % 4294967296) i).1,(cS s (n / 4294967296) (n % 4294967296) i).2.1,oZ (cS s (n / 4294967296) (n % 4294967296) i).2.2 ((s.getD i 0).toNat) 2) by
     rw [cS,hr,if_neg (by decide)])
    go_wp2_with fail;go_region;have hw1:IntKind.i64.wrap ((i:Int)+1)=(i:Int)+1:=by rw [IntKind.wrap_i64] <;> omega
    generalize hy:(ak s)[i].toNat=y at *;have hys:(s.getD i 0).toNat=y:=by rw [← hy];simp [List.getD_eq_getElem?_getD,List.getElem?_eq_getElem hlt];rfl
    have HI:=hid (show sq w s (n / 4294967296) (n % 4294967296) (i+1) (wr.setCell ⟨w.heap.size+1+1,0,none⟩ (.int .u32 (oZ (cS s (n / 4294967296) (n % 4294967296) i).2.2 y 2))) from by
     unfold sq;rw [HS.out,hys];exact ⟨bF HA.out (by omega) _,bF HBB.out (by omega) _,dK HG.out _,HB.out.setCell (by simp only;omega) _⟩)
    clear hy hys a0 a1 b0 b1 g0 g1 hr;go_wp2_with fail;go_roundw
    case rel=>exact ⟨i+1,by go_num,by omega,HI.out.1,HI.out.2.1,HI.out.2.2.1,HI.out.2.2.2.drew⟩
    case measure=>simp [intOf];omega
   ·have ht:Int.tmod (i:Int) 4=3:=mO hr;have HS:=hid (show cS s (n / 4294967296) (n % 4294967296) (i+1)=(qY (cS s (n / 4294967296) (n % 4294967296) i).1 (cS s (n / 4294967296) (n % 4294967296) i).2.1 (oZ (cS s (n / 4294967296) (n % 4294967296) i).2.2 ((s.getD i 0).toNat) 3),qX (cS s (n / 4294967296) (n % 4294967296) i).1 (cS s (n / 4294967296) (n % 4294967296) i).2.1 (oZ (cS s (n / 4294967296) (n % 4294967296) i).2.2 ((s.getD i 0).toNat) 3),0) by
     rw [cS,hr,if_pos rfl])
    go_wp2_with fail;go_region;have hw1:IntKind.i64.wrap ((i:Int)+1)=(i:Int)+1:=by rw [IntKind.wrap_i64] <;> omega
    generalize hy:(ak s)[i].toNat=y at *;have hys:(s.getD i 0).toNat=y:=by rw [← hy];simp [List.getD_eq_getElem?_getD,List.getElem?_eq_getElem hlt];rfl
    rw [hys] at HS;clear hy hys a0 a1 b0 b1 g0 g1 hr;go_wp2_with fail;refine (nn _ _ _ (cS s (n / 4294967296) (n % 4294967296) i).1 (cS s (n / 4294967296) (n % 4294967296) i).2.1 (oZ (cS s (n / 4294967296) (n % 4294967296) i).2.2 y 3) _ (by exact bF HA.out (by omega) _) (by exact bF HBB.out (by omega) _) (by exact dK HG.out _) (by omega) (by omega) (by omega)).mono ?_;rintro e w2 ⟨rfl,q0,q1,q2,qc⟩;have HI:=hid (show sq w s (n / 4294967296) (n % 4294967296) (i+1) w2 from by
     unfold sq;rw [HS.out];refine ⟨q0,q1,q2,?_⟩;have hbz:=(HB.out.setCell (p:=⟨w.heap.size+1+1,0,none⟩) (by simp only;omega) (.int .u32 (bits BinOp.or IntKind.u32 (cS s (n / 4294967296) (n % 4294967296) i).snd.snd (↑y % 4294967296)))).drew;exact hbz.trans (qc.below (B:=w.heap.size) hbz.size (by rintro k (rfl | rfl | rfl) <;> omega)))
    clear q0 q1 q2 qc;go_wp2_with fail;go_roundw
    case rel=>exact ⟨i+1,by go_num,by omega,HI.out.1,HI.out.2.1,HI.out.2.2.1,HI.out.2.2.2⟩
    case measure=>simp [intOf];omega
  ·have hie:i=s.length:=by omega
   subst hie;have hn0:(0:Int)≤(s.length:Int):=by omega
   by_cases h4:s.length % 4=0
   ·have hc:((s.length:Int) % 4 != 0)=false:=by
     have:(s.length:Int) % 4=0:=by omega
     simp [this]
    have HR:=hid (show dU n s=tb (cS s (n / 4294967296) (n % 4294967296) s.length).1 (cS s (n / 4294967296) (n % 4294967296) s.length).2.1 from by simp only [dU,h4,if_true]);clear h4;go_wp2_with fail;go_ret;exact ⟨by rw [HR.out];rfl,HB.out⟩
   ·have hc:((s.length:Int) % 4 != 0)=true:=by
     have:¬ (s.length:Int) % 4=0:=by omega
     simp [this]
    have HR:=hid (show dU n s=tb (qY (cS s (n / 4294967296) (n % 4294967296) s.length).1 (cS s (n / 4294967296) (n % 4294967296) s.length).2.1 (cS s (n / 4294967296) (n % 4294967296) s.length).2.2) (qX (cS s (n / 4294967296) (n % 4294967296) s.length).1 (cS s (n / 4294967296) (n % 4294967296) s.length).2.1 (cS s (n / 4294967296) (n % 4294967296) s.length).2.2) from by simp only [dU,h4,if_false]);clear h4;go_wp2_with fail;refine (nn _ _ _ _ _ _ _ HA.out HBB.out HG.out (by omega) (by omega) (by omega)).mono ?_;rintro e w2 ⟨rfl,q0,q1,q2,qc⟩;have HC:=hid (qc.below (B:=w.heap.size) (by omega) (by rintro k (rfl | rfl | rfl) <;> omega));obtain ⟨qa0,qa1,qa2⟩:=dY q0;obtain ⟨qb0,qb1,qb2⟩:=dY q1;clear q0 q1 q2 qc;go_wp2_with fail;go_ret;exact ⟨by rw [HR.out];rfl,HB.out.trans HC.out⟩
def iG (n:Int):Bool:=decide (0≤n∧n<4294967296)
theorem gF (n:Int) (w:World):Calls Tryz.prog 250 #[.int .i64 n] w fun e w'=>e=.returned (.bool (iG n))∧w=w':=by
 go_enter Tryz.func250,Tryz.ntmps250;by_cases h0:0≤n
 ·by_cases h1:n<4294967296
  ·have HE:=hid (show iG n=true from decide_eq_true ⟨h0,h1⟩);go_wp2_with fail;go_ret;exact ⟨by rw [HE.out];rfl,rfl⟩
  ·have HE:=hid (show iG n=false from decide_eq_false fun h=>h1 h.2);go_wp2_with fail;go_ret;exact ⟨by rw [HE.out];rfl,rfl⟩
 ·have HE:=hid (show iG n=false from decide_eq_false fun h=>h0 h.1);go_wp2_with fail;go_ret;exact ⟨by rw [HE.out];rfl,rfl⟩
theorem ix (s:ByteArray) (w:World) (h0:1≤s.size) (h8:s.size≤8):Calls Tryz.prog 213 #[.string s] w fun e w'=>e=.returned (.int .u64 (dp (bs s)))∧Below w.heap.size w w':=by go_enter Tryz.func213,Tryz.ntmps213;go_wp2_with fail;refine (dX s w h0 h8).mono ?_;rintro e w1 ⟨rfl,hb⟩;have HB:=hid hb;clear hb;go_wp2_with fail;go_ret;exact ⟨rfl,HB.out⟩
def ic (s:List UInt8):Nat:=if s.length=256 then dp (s.drop 248) else 0
theorem kO (s:List UInt8) (w:World):Calls Tryz.prog 211 #[.string (ak s)] w fun e w'=>e=.returned (.int .u64 (ic s))∧Below w.heap.size w w':=by
 have hsz:(ak s).size=s.length:=ay s;go_enter Tryz.func211,Tryz.ntmps211;by_cases h:s.length=256
 ·have hx:(ak s).extract 248 256=ak (s.drop 248):=by rw [cJ,aP,List.take_of_length_le (by simp;omega)]
  have HE:=hid (show ic s=dp (s.drop 248) from if_pos h);rw [h] at hsz;go_wp2_with fail;refine (ix _ _ (by rw [ay];simp;omega) (by rw [ay];simp;omega)).mono ?_;rintro e w1 ⟨rfl,hb⟩;have HB:=hid hb;clear hb;go_wp2_with fail;go_ret;exact ⟨by rw [HE.out];rfl,HB.out⟩
 ·have HE:=hid (show ic s=0 from if_neg h);have hc:((s.length:Int) != 256)=true:=by
   have:¬ (s.length:Int)=256:=by omega
   simp [this]
  clear h;go_wp2_with fail;go_ret;exact ⟨by rw [HE.out];rfl,Below.refl _ _⟩
def cz (k n m:Nat) (b:List UInt8):List UInt8:=b ++ az 4 k ++ az 4 n ++ az 8 m
def aF (k n m:Nat) (b:List UInt8):List UInt8:=cz k n m b ++ az 8 (dU 1 (cz k n m b)).toNat
def gC (k n m:Nat) (s:ByteArray):Value:=.agg #[.int .i64 k,.int .i64 n,.int .u64 m,.string s]
theorem iF {n:Nat} (h:n<4294967296):iG n=true:=decide_eq_true ⟨by omega,by omega⟩
def bW (k n m:Nat) (s:ByteArray):Obj:=.cells #[.int .i64 k,.int .i64 n,.int .u64 m,.string s] 181 (0,0)
theorem ez {w:World} {g k n m:Nat} {s:ByteArray} (h:w.heap[g]?=some (bW k n m s)):w.cell? ⟨g,0,none⟩=some (.int .i64 k)∧w.cell? ⟨g,1,none⟩=some (.int .i64 n)∧w.cell? ⟨g,2,none⟩=some (.int .u64 m)∧w.cell? ⟨g,3,none⟩=some (.string s)∧g<w.heap.size:=
 ⟨aa h 0,aa h 1,aa h 2,aa h 3,af h⟩
theorem iM (n k:Nat) (w:World) {g:Nat} {o:Obj} (hn:n<18446744073709551616) (h1:1≤k) (h8:k≤8) (hg:w.heap[g]?=some o):Calls Tryz.prog 165 #[.int .u64 n,.int .i64 k] w fun e w'=>e=.returned (.string (ak (az k n)))∧w'.heap[g]?=some o∧Below w.heap.size w w':=by refine (dD n k w hn h1 h8).mono ?_;rintro e w1 ⟨rfl,hb⟩;exact ⟨rfl,(hb.block g (af hg)).trans hg,hb⟩
theorem jG (k n m:Nat) (b:List UInt8) (w:World) (hk:k<4294967296) (hn:n<4294967296) (hm:m<18446744073709551616) (hb:b.length=232):
  Calls Tryz.prog 209 #[gC k n m (ak b)] w fun e w'=>e=.returned (.tuple #[.string (ak (aF k n m b)),.int .i64 0])∧Below w.heap.size w w':=by
 have hsz:(ak b).size=232:=by rw [ay,hb]
 have hk1:IntKind.u64.wrap (k:Int)=k:=by rw [IntKind.wrap_u64];omega
 have hn1:IntKind.u64.wrap (n:Int)=n:=by rw [IntKind.wrap_u64];omega
 have H4k:=hid (iF hk);have H4n:=hid (iF hn);have hs1:(ak (az 4 k)).size=4:=by rw [ay,aq]
 have hs2:(ak (az 4 n)).size=4:=by rw [ay,aq]
 have hs3:(ak (az 8 m)).size=8:=by rw [ay,aq]
 have HS:=hid (show ak b ++ ak (az 4 k) ++ ak (az 4 n) ++ ak (az 8 m)=ak (cz k n m b) by
  apply eT;simp only [dG,aP,cz])
 have F1:=fun (s:ByteArray) (w':World) (h:w'.heap[w.heap.size]?=some (bW k n m s))=>iM k 4 w' (g:=w.heap.size) (by omega) (by decide) (by decide) h
 have F2:=fun (s:ByteArray) (w':World) (h:w'.heap[w.heap.size]?=some (bW k n m s))=>iM n 4 w' (g:=w.heap.size) (by omega) (by decide) (by decide) h
 have F3:=fun (s:ByteArray) (w':World) (h:w'.heap[w.heap.size]?=some (bW k n m s))=>iM m 8 w' (g:=w.heap.size) hm (by decide) (by decide) h
 generalize ak b=s0 at *;generalize ak (az 4 k)=s1 at *;generalize ak (az 4 n)=s2 at *;generalize ak (az 8 m)=s3 at *
 have HF:=hid (show (∀ (w':World),w'.heap[w.heap.size]?=some (bW k n m s0)→Calls Tryz.prog 165 #[.int .u64 k,.int .i64 4] w' fun e w''=>e=.returned (.string s1)∧w''.heap[w.heap.size]?=some (bW k n m s0)∧Below w'.heap.size w' w'')∧
   (∀ (w':World),w'.heap[w.heap.size]?=some (bW k n m s0)→Calls Tryz.prog 165 #[.int .u64 n,.int .i64 4] w' fun e w''=>e=.returned (.string s2)∧w''.heap[w.heap.size]?=some (bW k n m s0)∧Below w'.heap.size w' w'')∧
   (∀ (w':World),w'.heap[w.heap.size]?=some (bW k n m s0)→Calls Tryz.prog 165 #[.int .u64 m,.int .i64 8] w' fun e w''=>e=.returned (.string s3)∧w''.heap[w.heap.size]?=some (bW k n m s0)∧Below w'.heap.size w' w'') from
  ⟨F1 s0,F2 s0,F3 s0⟩)
 clear F1 F2 F3;unfold gC;go_enter Tryz.func209,Tryz.ntmps209;go_wp2_with fail;refine (gF _ _).mono ?_;rintro e w1 ⟨rfl,rfl⟩;rw [H4k.out];go_wp2_with fail;refine (gF _ _).mono ?_;rintro e w1 ⟨rfl,rfl⟩;rw [H4n.out];go_wp2_with fail;have HB0:=hid (((Below.refl w.heap.size w).alloc (Nat.le_refl _) (bW k n m s0)).drew);have hg0:((w.alloc (bW k n m s0)).drew).heap[w.heap.size]?=some (bW k n m s0):=ah rfl;have HG0:=hid hg0;obtain ⟨z0,z1,z2,z3,z4⟩:=ez hg0;clear hk hn hm hg0
 go_region_held3 (fun w'=>w'.cell? ⟨w.heap.size,0,none⟩=some (.int .i64 k)∧w'.cell? ⟨w.heap.size,1,none⟩=some (.int .i64 n)∧w'.cell? ⟨w.heap.size,2,none⟩=some (.int .u64 m)∧w'.cell? ⟨w.heap.size,3,none⟩=some (.string s0)) (first | exact ⟨q0,q1,q2,q3⟩ | exact ⟨f0,f1,f2,f3⟩ | exact ⟨d0,d1,d2,d3⟩ | exact ⟨z0,z1,z2,z3⟩)
  (first
   | (go_at_call 165;(with_reducible refine (HF.out.1 _ ?ba).mono ?_);(case ba=>exact HG0.out);rintro e w1 ⟨rfl,hg1,hb1⟩;have HB1:=hid hb1;clear hb1;have HG1:=hid hg1;obtain ⟨d0,d1,d2,d3,d4⟩:=ez hg1;clear hg1)
   | (go_at_call 165;(with_reducible refine (HF.out.2.1 _ ?ba).mono ?_);(case ba=>exact HG1.out);rintro e w2 ⟨rfl,hg2,hb2⟩;have HB2:=hid hb2;clear hb2;have HG2:=hid hg2;obtain ⟨f0,f1,f2,f3,f4⟩:=ez hg2;clear hg2)
   | (go_at_call 165;(with_reducible refine (HF.out.2.2 _ ?ba).mono ?_);(case ba=>exact HG2.out);rintro e w3 ⟨rfl,hg3,hb3⟩;have HB3:=hid hb3;clear hb3;have HG3:=hid hg3;obtain ⟨q0,q1,q2,q3,q4⟩:=ez hg3;clear hg3))
 have HB:=hid (((HB0.out.trans (HB1.out.mono HB0.out.size)).trans (HB2.out.mono (Nat.le_trans HB0.out.size HB1.out.size))).trans (HB3.out.mono (Nat.le_trans (Nat.le_trans HB0.out.size HB1.out.size) HB2.out.size)));clear z0 z1 z2 z3 z4 d0 d1 d2 d3 d4 f0 f1 f2 f3 f4 q0 q1 q2 q3 q4;rw [HS.out];have hl:(cz k n m b).length=248:=by simp [cz,aq,hb]
 have HL:=hid (show (ak (cz k n m b)).size=248 from by rw [ay,hl]);have hsz4:=HL.out;have HSB:=hid (hZ 1 (cz k n m b));have HN:=hid (show dU 1 (cz k n m b)=((dU 1 (cz k n m b)).toNat:Int) by have:=HSB.out;omega);obtain ⟨q,hq⟩:∃ q:Nat,q=(dU 1 (cz k n m b)).toNat:=⟨_,rfl⟩;have HQ:=hid hq;have HX:=hid (fun (w':World)=>show Calls Tryz.prog 165 #[.int .u64 q,.int .i64 8] w' fun e w''=>e=.returned (.string (ak (az 8 q)))∧Below w'.heap.size w' w'' from dD q 8 w' (by rw [hq];have:=HSB.out;omega) (by decide) (by decide));have HT:=hid (show ak (cz k n m b) ++ ak (az 8 q)=ak (aF k n m b) by
  apply eT;simp only [dG,aP,aF,hq])
 have hs8:(ak (az 8 q)).size=8:=by rw [ay,aq]
 generalize hx8:ak (az 8 q)=s8 at *;clear hq hx8;go_wp2_with fail;refine (mP 1 (cz k n m b) w3 (by decide) (by decide) (by omega)).mono ?_;rintro e w4 ⟨rfl,hb4⟩;have HB4:=hid hb4;clear hb4;rw [HN.out,← HQ.out];go_wp2_with fail;refine (HX.out w4).mono ?_;rintro e w5 ⟨rfl,hb5⟩;have HB5:=hid hb5;clear hb5;go_wp2_with fail;go_ret2;have hw3:=HB.out.size;have hw4:=HB4.out.size;exact ⟨by rw [← HT.out];rfl,(HB.out.trans (HB4.out.mono hw3)).trans (HB5.out.mono (Nat.le_trans hw3 hw4))⟩
theorem dz:∀ k n,n<256 ^ k→dp (az k n)=n
 | 0,n,h=>by have:n=0:=by simpa using h
             subst this;rfl
 | k+1,n,h=>by
   have h1:n / 256<256 ^ k:=by rw [Nat.pow_succ] at h;omega
   rw [az,fN,dz k _ h1,UInt8.toNat_ofNat',Nat.mod_mod_of_dvd n (show 2 ^ 8 ∣ 256 by decide)];omega
theorem lW {k n m:Nat} {b:List UInt8} (hb:b.length=232):
  (aF k n m b).length=256∧(aF k n m b).take 248=cz k n m b∧(aF k n m b).take 232=b∧((aF k n m b).drop 232).take 4=az 4 k∧((aF k n m b).drop 236).take 4=az 4 n∧((aF k n m b).drop 240).take 8=az 8 m∧(aF k n m b).drop 248=az 8 (dU 1 (cz k n m b)).toNat:=by
 have l1:=aq 4 k;have l2:=aq 4 n;have l3:=aq 8 m;have l4:=aq 8 (dU 1 (cz k n m b)).toNat;unfold aF;generalize az 8 (dU 1 (cz k n m b)).toNat=x4 at *;unfold cz;generalize az 4 k=x1 at *;generalize az 4 n=x2 at *;generalize az 8 m=x3 at *;refine ⟨by simp [*],?_,?_,?_,?_,?_,?_⟩
 ·rw [List.take_left' (by simp [*])]
 ·simp only [List.append_assoc];rw [List.take_left' hb]
 ·simp only [List.append_assoc];rw [List.drop_left' hb,List.take_left' l1]
 ·rw [show b ++ x1 ++ x2 ++ x3 ++ x4=(b ++ x1) ++ (x2 ++ (x3 ++ x4)) by simp only [List.append_assoc],List.drop_left' (by simp [*]),List.take_left' l2]
 ·rw [show b ++ x1 ++ x2 ++ x3 ++ x4=(b ++ x1 ++ x2) ++ (x3 ++ x4) by simp only [List.append_assoc],List.drop_left' (by simp [*]),List.take_left' l3]
 ·rw [List.drop_left' (by simp [*])]
theorem rK {f:Nat} {args:Array Value} {w:World} {v:Value} {g:Nat} {o:Obj} (h:Calls Tryz.prog f args w fun e w'=>e=.returned v∧Below w.heap.size w w') (hg:w.heap[g]?=some o):
  Calls Tryz.prog f args w fun e w'=>e=.returned v∧w'.heap[g]?=some o∧Below w.heap.size w w':=by
 refine h.mono ?_;rintro e w1 ⟨rfl,hb⟩;exact ⟨rfl,(hb.block _ (af hg)).trans hg,hb⟩
theorem mp (j v:Nat) (w:World) (h1:1≤j) (h8:j≤8) (hv:v<256 ^ j):Calls Tryz.prog 213 #[.string (ak (az j v))] w fun e w'=>e=.returned (.int .u64 (v:Nat))∧Below w.heap.size w w':=by refine (ix (ak (az j v)) w (by rw [ay,aq];exact h1) (by rw [ay,aq];exact h8)).mono ?_;rintro e w1 ⟨rfl,hb⟩;exact ⟨by rw [aP,dz _ _ hv],hb⟩
theorem pS (k n m:Nat) (b:List UInt8) (w:World) (hk:k<4294967296) (hn:n<4294967296) (hm:m<18446744073709551616) (hb:b.length=232):
  Calls Tryz.prog 154 #[.string (ak (aF k n m b))] w fun e w'=>e=.returned (.tuple #[gC k n m (ak b),.int .i64 0])∧Below w.heap.size w w':=by
 obtain ⟨p0,p1,p2,p3,p4,p5,p6⟩:=lW (k:=k) (n:=n) (m:=m) hb;have HSB:=hid (hZ 1 (cz k n m b));generalize aF k n m b=s at *;have hsz:(ak s).size=256:=by rw [ay,p0]
 have x1:(ak s).extract 0 248=ak (cz k n m b):=by rw [cJ,aP];exact congrArg ak p1
 have x2:(ak s).extract 0 232=ak b:=by rw [cJ,aP];exact congrArg ak p2
 have x3:(ak s).extract 232 236=ak (az 4 k):=by rw [cJ,aP];exact congrArg ak p3
 have x4:(ak s).extract 236 240=ak (az 4 n):=by rw [cJ,aP];exact congrArg ak p4
 have x5:(ak s).extract 240 248=ak (az 8 m):=by rw [cJ,aP];exact congrArg ak p5
 have HSS:=hid (show ((ic s:Nat):Int)=dU 1 (cz k n m b) by
  have h1:=HSB.out;rw [ic,if_pos p0,p6,dz 8 _ (by have:(256:Nat) ^ 8=18446744073709551616:=(by decide);omega)];omega)
 have hl:(cz k n m b).length=248:=by simp [cz,aq,hb]
 have hz:∃ o,o=Obj.cells #[.int .i64 0,.int .i64 0,.int .u64 0,.string { data:=#[] }] 181 (0,0):=⟨_,rfl⟩;obtain ⟨o,ho⟩:=hz;have HO:=hid ho;clear ho;have K1:=fun (w':World) (h:w'.heap[w.heap.size]?=some o)=>rK (kO s w') h
 have K2:=fun (w':World) (h:w'.heap[w.heap.size]?=some o)=>rK (mP 1 (cz k n m b) w' (by decide) (by decide) (by omega)) h
 have KN:=fun (j v:Nat) (hj1:1≤j) (hj8:j≤8) (hv:v<256 ^ j) (w':World) (h:w'.heap[w.heap.size]?=some o)=>rK (mp j v w' hj1 hj8 hv) h
 have KA:=KN 4 k (by decide) (by decide) (by have:(256:Nat) ^ 4=4294967296:=(by decide);omega);have KB:=KN 4 n (by decide) (by decide) (by have:(256:Nat) ^ 4=4294967296:=(by decide);omega);have KC:=KN 8 m (by decide) (by decide) (by have:(256:Nat) ^ 8=18446744073709551616:=(by decide);omega);clear KN;have H1:=hid K1;have H2:=hid K2;have HA:=hid KA;have HB:=hid KB;have HC:=hid KC;clear K1 K2 KA KB KC;have hk1:IntKind.i64.wrap (k:Int)=k:=by rw [IntKind.wrap_i64] <;> omega
 have hn1:IntKind.i64.wrap (n:Int)=n:=by rw [IntKind.wrap_i64] <;> omega
 have hne:((ic s:Int) != dU 1 (cz k n m b))=false:=by rw [HSS.out];simp
 clear p0 p1 p2 p3 p4 p5 p6 hk hn hm hb hl;generalize dU 1 (cz k n m b)=sv at *;generalize ic s=su at *;generalize ak (cz k n m b)=t0 at *;generalize ak b=t1 at *;generalize ak (az 4 k)=t2 at *;generalize ak (az 4 n)=t3 at *;generalize ak (az 8 m)=t4 at *;generalize ak s=t5 at *;have HW:=hid (((Below.refl w.heap.size w).alloc (Nat.le_refl _) (Obj.cells #[.int .i64 0,.int .i64 0,.int .u64 0,.string { data:=#[] }] 181 (0,0))).drew);have HG0':=hid (show ((w.alloc (Obj.cells #[.int .i64 0,.int .i64 0,.int .u64 0,.string { data:=#[] }] 181 (0,0))).drew).heap[w.heap.size]?=some o by rw [HO.out];exact ah rfl);go_enter Tryz.func154,Tryz.ntmps154;go_wp2_with fail
 go_region_held3 (fun _=>True) (trivial)
  (first
   | (go_at_call 211;(with_reducible refine (H1.out _ ?ba).mono ?_);(case ba=>exact HG0'.out);rintro e w1 ⟨rfl,hg1,hb1⟩;have HB1:=hid hb1;have HG1:=hid hg1;clear hb1 hg1)
   | (go_at_call 212;(with_reducible refine (H2.out _ ?ba).mono ?_);(case ba=>exact HG1.out);rintro e w2 ⟨rfl,hg2,hb2⟩;have HB2:=hid hb2;have HG2:=hid hg2;clear hb2 hg2))
 clear hne;go_wp2_with fail
 go_region_held3 (fun _=>True) (trivial)
  (first
   | (go_at_call 213;(with_reducible refine (HA.out _ ?ba).mono ?_);(case ba=>exact HG2.out);rintro e w3 ⟨rfl,hg3,hb3⟩;have HB3:=hid hb3;have HG3:=hid hg3;clear hb3 hg3)
   | (go_at_call 213;(with_reducible refine (HB.out _ ?ba).mono ?_);(case ba=>exact HG3.out);rintro e w4 ⟨rfl,hg4,hb4⟩;have HB4:=hid hb4;have HG4:=hid hg4;clear hb4 hg4)
   | (go_at_call 213;(with_reducible refine (HC.out _ ?ba).mono ?_);(case ba=>exact HG4.out);rintro e w5 ⟨rfl,hg5,hb5⟩;have HB5:=hid hb5;have HG5:=hid hg5;have lt5:=af hg5;rw [HO.out] at hg5;have fz5:=ab hg5;have fz0:=fz5 0;have fz1:=fz5 1;have fz2:=fz5 2;have fz3:=fz5 3;have c0:=aa hg5 0;have c1:=aa hg5 1;have c2:=aa hg5 2;have c3:=aa hg5 3;clear hb5 hg5 fz5))
 have hg6:((((w5.setCell ⟨w.heap.size,0,none⟩ (.int .i64 k)).setCell ⟨w.heap.size,1,none⟩ (.int .i64 n)).setCell ⟨w.heap.size,2,none⟩ (.int .u64 m)).setCell ⟨w.heap.size,3,none⟩ (.string t1)).heap[w.heap.size]?=some (bW k n m t1):=by have h:=HG5.out;rw [HO.out] at h;exact ae (ae (ae (ae h 0 (.int .i64 k)) 1 (.int .i64 n)) 2 (.int .u64 m)) 3 (.string t1)
 have hz0:=HW.out.size;have hz1:=HB1.out.size;have hz2:=HB2.out.size;have hz3:=HB3.out.size;have hz4:=HB4.out.size;have hz5:=HB5.out.size;have HB6:=hid (show Below w.heap.size w ((((w5.setCell ⟨w.heap.size,0,none⟩ (.int .i64 k)).setCell ⟨w.heap.size,1,none⟩ (.int .i64 n)).setCell ⟨w.heap.size,2,none⟩ (.int .u64 m)).setCell ⟨w.heap.size,3,none⟩ (.string t1)) from by
  have z1:=HW.out.trans (HB1.out.mono hz0);have z2:=z1.trans (HB2.out.mono z1.size);have z3:=z2.drew.trans (HB3.out.mono z2.size);have z4:=z3.trans (HB4.out.mono z3.size);have z5:=z4.trans (HB5.out.mono z4.size);exact (((z5.setCell (Nat.le_refl _) _).setCell (Nat.le_refl _) _).setCell (Nat.le_refl _) _).setCell (Nat.le_refl _) _)
 generalize ((((w5.setCell ⟨w.heap.size,0,none⟩ (.int .i64 k)).setCell ⟨w.heap.size,1,none⟩ (.int .i64 n)).setCell ⟨w.heap.size,2,none⟩ (.int .u64 m)).setCell ⟨w.heap.size,3,none⟩ (.string t1))=w6 at *;obtain ⟨q0,q1,q2,q3,hlt⟩:=ez hg6;clear hg6 hz0 hz1 hz2 hz3 hz4 hz5 c0 c1 c2 c3 fz0 fz1 fz2 fz3 lt5;go_wp2_with fail;exact bodyPost_ret (v:=.tuple #[gC k n m t1,.int .i64 0]) (by simp [results,Tryz.results154,gC,go_sem,q0,q1,q2,q3]) rfl ⟨rfl,HB6.out⟩
structure He where
 mode:Nat
 pages:Nat
 trunk:Nat
 spare:Nat
 root:Nat
 change:Nat
structure He.Good (h:He):Prop where
 mode:h.mode=1∨h.mode=2
 pages:h.pages≤4096
 trunk:h.trunk<h.pages
 spare:h.spare<h.pages
 root:h.root<h.pages
 both:h.spare=0↔h.trunk=0
 change:h.change<18446744073709551616
def ko (h:He):Array Value:=#[.int .i64 h.mode,.int .i64 h.pages,.int .i64 h.trunk,.int .i64 h.spare,.int .i64 h.root,.int .u64 h.change]
def eH (h:He):Value:=.agg (ko h)
def cX (h:He):Obj:=.cells (ko h) 38 (0,0)
theorem gV (n p:Nat) (g:Nat) (w:World) (hp:w.cell? ⟨g,1,none⟩=some (.int .i64 p)) (hn:n<p):
  Calls Tryz.prog 218 #[.int .i64 n,.pointer (some ⟨g,0,none⟩)] w fun e w'=>e=.returned (.bool true)∧w=w':=by
 have h0:(0:Int)≤(n:Int):=by omega
 have h1:(n:Int)<(p:Int):=by omega
 go_enter Tryz.func218,Tryz.ntmps218;go_wp2_with fail;go_ret;exact ⟨rfl,rfl⟩
theorem jx (w:World):Calls Tryz.prog 84 #[] w fun e w'=>e=.returned (eH ⟨1,1,0,0,0,0⟩)∧Below w.heap.size w w':=by go_enter Tryz.func84,Tryz.ntmps84;go_wp2_with fail;have hg:(w.alloc (cX ⟨1,1,0,0,0,0⟩)).heap[w.heap.size]?=some (cX ⟨1,1,0,0,0,0⟩):=ah rfl;have hb:=(Below.refl w.heap.size w).alloc (Nat.le_refl _) (cX ⟨1,1,0,0,0,0⟩);change bodyPost _ _ _ _ _ (w.alloc (cX ⟨1,1,0,0,0,0⟩));generalize w.alloc (cX ⟨1,1,0,0,0,0⟩)=w1 at *;have q0:=aa hg 0;have q1:=aa hg 1;have q2:=aa hg 2;have q3:=aa hg 3;have q4:=aa hg 4;have q5:=aa hg 5;simp only [ko] at q0 q1 q2 q3 q4 q5;exact bodyPost_ret (v:=eH ⟨1,1,0,0,0,0⟩) (by simp [results,Tryz.results84,eH,ko,go_sem,q0,q1,q2,q3,q4,q5]) rfl ⟨rfl,hb⟩
theorem oq (h:He) (w:World) (hg:h.Good):Calls Tryz.prog 164 #[eH h] w fun e w'=>e=.returned (.bool true)∧Below w.heap.size w w':=by
 obtain ⟨g1,g2,g3,g4,g5,g6,g7⟩:=hg;obtain ⟨m,p,t,s,r,c⟩:=h;simp only at *;unfold eH ko;have hm:(m:Int)=1∨(m:Int)=2:=by omega
 have hp:(p:Int)≤4096:=by omega
 have hb:(((s:Int) == 0) == ((t:Int) == 0))=true:=by
  by_cases h:s=0
  ·have:=g6.1 h;subst h this;rfl
  ·have h2:¬ t=0:=fun h2=>h (g6.2 h2)
   have e1:((s:Int) == 0)=false:=by simp;omega
   have e2:((t:Int) == 0)=false:=by simp;omega
   rw [e1,e2];rfl
 go_enter Tryz.func164,Tryz.ntmps164;rcases g1 with rfl | rfl
 ·have HW:=hid (fun (n:Nat) (hn:n<p)=>gV n p w.heap.size (w.alloc (.cells #[.int .i64 1,.int .i64 p,.int .i64 t,.int .i64 s,.int .i64 r,.int .u64 c] 38 (0,0))) (aa (ah rfl) 1) hn);have HT:=hid g3;have HS:=hid g4;have HR:=hid g5;have HB:=hid ((Below.refl w.heap.size w).alloc (Nat.le_refl _) (cX ⟨1,p,t,s,r,c⟩));clear g2 g3 g4 g5 g6 g7;go_wp2_with fail;refine (HW.out t HT.out).mono ?_;rintro e w1 ⟨rfl,rfl⟩;go_wp2_with fail;refine (HW.out r HR.out).mono ?_;rintro e w1 ⟨rfl,rfl⟩;go_wp2_with fail;refine (HW.out s HS.out).mono ?_;rintro e w1 ⟨rfl,rfl⟩;go_wp2_with fail;go_ret;exact ⟨rfl,HB.out⟩
 ·have HW:=hid (fun (n:Nat) (hn:n<p)=>gV n p w.heap.size (w.alloc (.cells #[.int .i64 2,.int .i64 p,.int .i64 t,.int .i64 s,.int .i64 r,.int .u64 c] 38 (0,0))) (aa (ah rfl) 1) hn);have HT:=hid g3;have HS:=hid g4;have HR:=hid g5;have HB:=hid ((Below.refl w.heap.size w).alloc (Nat.le_refl _) (cX ⟨2,p,t,s,r,c⟩));clear g2 g3 g4 g5 g6 g7;go_wp2_with fail;refine (HW.out t HT.out).mono ?_;rintro e w1 ⟨rfl,rfl⟩;go_wp2_with fail;refine (HW.out r HR.out).mono ?_;rintro e w1 ⟨rfl,rfl⟩;go_wp2_with fail;refine (HW.out s HS.out).mono ?_;rintro e w1 ⟨rfl,rfl⟩;go_wp2_with fail;go_ret;exact ⟨rfl,HB.out⟩
end Go.Proofs.YtdmhbgpejppbkaaGreat
