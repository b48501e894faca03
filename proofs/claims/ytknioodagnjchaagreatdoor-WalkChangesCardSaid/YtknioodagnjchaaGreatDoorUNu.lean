/- num.Fixed, num.Unfixed; the reference's. cahierref01.Fixed, cahierref04.Full; strings as lists of bytes. num.Var, num.Unvar; the reference's. num.Var, the reference's; reading what Var writes. -/
import Derived.Test.YtknioodagnjchaaGreatDoorUBa
import Derived.Laws.BytesArg
import Derived.Lib.ConvBytes
import Derived.WalkArith
import Derived.IntWalk
import Derived.Laws.BitsAllLaws
import Derived.Laws.OwnMore
set_option maxRecDepth 100000
namespace Go.Proofs.YtknioodagnjchaaGreatDoor
open Go.Lib (hid)
open Go.RowKit
def uC (b:UInt8):List Value:=[.int .u8 b.toNat]
theorem gw (b:UInt8):(uC b).length=1:=rfl
def bs (s:ByteArray):List UInt8:=s.data.toList
theorem hO (s:ByteArray):(bs s).length=s.size:=rfl
theorem pd (w:World) (e:TypeId) (s:ByteArray):Below w.heap.size w (Lib.bytesWorld w e s):=
 ⟨rfl,rfl,rfl,by rw [Lib.bytesWorld_size];omega,fun k hk=>Lib.bytesWorld_at_old w e s k hk⟩
theorem lD (w:World) (s:ByteArray):∃ c w1,(convert 9 46 (.string s)).run Tryz.prog w=.ok (.slice (some ⟨w.heap.size,0,none⟩) s.size c) w1∧Below w.heap.size w w1∧w.heap.size<w1.heap.size∧
  ∀ j (hj:j<(bs s).length),w1.cell? ⟨w.heap.size,j,none⟩=some (.int .u8 (bs s)[j].toNat):=
 ⟨_,_,Lib.run_convert_string_bytes w 9 46 5 s Tryz.underlying9 Tryz.underlying46 Tryz.underlying5,pd w _ s,by rw [Lib.bytesWorld_size];omega,fun j hj=>by
   rw [Lib.bytesWorld_cell w _ s j (by rw [← hO];exact hj)];unfold bs at hj ⊢;simp only [List.getD,List.getElem?_eq_getElem hj,Option.getD_some]⟩
def dU (l:List UInt8):Nat:=l.foldl (fun n b=>n * 256+b.toNat) 0
theorem js (l:List UInt8) (b:UInt8):dU (l ++ [b])=dU l * 256+b.toNat:=by simp [dU]
theorem iT (l:List UInt8):dU l<256 ^ l.length:=by
 obtain ⟨m,rfl⟩:∃ m,l=m.reverse:=⟨l.reverse,by simp⟩
 induction m with
 | nil=>decide
 | cons b m ih=> rw [List.reverse_cons,js,List.length_append,List.length_singleton,Nat.pow_succ];have:=b.toNat_lt;omega
theorem uW (l:List UInt8) (h:l.length≤8):dU l<18446744073709551616:=
 Nat.lt_of_lt_of_le (iT l) (Nat.le_trans (Nat.pow_le_pow_right (by omega) h) (by decide))
theorem se {l:List UInt8} {b:UInt8} {n:Nat} (h:n=dU (l ++ [b])) (hl:l.length≤7):
  IntKind.u64.wrap (IntKind.u64.wrap ((dU l:Int) * 256)+IntKind.u64.wrap (b.toNat:Int))=(n:Int):=by
 have h1:dU (l ++ [b])<18446744073709551616:=uW _ (by simp;omega);rw [js] at h1 h;have hb:=b.toNat_lt;rw [IntWalk.u64_in ((dU l:Int) * 256) (by omega),IntWalk.u64_in (b.toNat:Int) (by omega),IntWalk.u64_in _ (by omega),h];omega
theorem fF (s:ByteArray) (w:World) (h0:1≤s.size) (h8:s.size≤8):
  Calls Tryz.prog 150 #[.string s] w fun e w'=>e=.returned (.tuple #[.int .u64 (dU (bs s)),.int .i64 0])∧Below w.heap.size w w':=by
 obtain ⟨c,w1,hcv,hb,hlt,hcs⟩:=lD w s;have HB:=hid hb;have HCS:=hid hcs;have hbs:=hO s;clear hb hcs;go_enter Tryz.func150,Tryz.ntmps150;have h1:(1:Int)≤(s.size:Int):=by omega
 have h2:(s.size:Int)≤8:=by omega
 go_wp2_with fail;go_loop [4,18] (fun nv iv=>∃ k:Nat,k≤s.size∧iv=.int .i64 k∧nv=.int .u64 (dU ((bs s).take k))) (fun _ iv=>s.size - (intOf iv).toNat)
 case atStart=>exact ⟨0,Nat.zero_le _,rfl,rfl⟩
 case round=>
  obtain ⟨k,hk,rfl,rfl⟩:=hrel;by_cases hk2:k<s.size
  ·have e0:=HCS.out k (by omega);have HT:=hid (List.take_succ_eq_append_getElem (show k<(bs s).length by omega));have hk0:(0:Int)≤(k:Int):=by omega
   have hk1:(k:Int)<(s.size:Int):=by omega
   generalize (bs s)[k]=b at *;go_wp2_with fail;refine ⟨⟨k+1,by omega,rfl,by rw [se (n:=dU ((bs s).take (k+1))) (by rw [HT.out]) (by rw [List.length_take];omega)]⟩,?_⟩;simp [intOf];omega
  ·have HT:=hid (show (bs s).take k=bs s from List.take_of_length_le (by omega));go_wp2_with fail;go_ret2;rw [HT.out];exact ⟨rfl,HB.out⟩
theorem m6 (s:ByteArray) (w:World) (h0:s.size<1∨8<s.size):
  Calls Tryz.prog 150 #[.string s] w fun e w'=>e=.returned (.tuple #[.int .u64 0,.int .i64 1])∧w=w':=by
 go_enter Tryz.func150,Tryz.ntmps150;by_cases h1:s.size<1
 ·have h2:(s.size:Int)<1:=by omega
  clear h0;go_wp2_with fail;go_ret2;exact ⟨rfl,rfl⟩
 ·have h2:(1:Int)≤(s.size:Int):=by omega
  have h3:(8:Int)<(s.size:Int):=by omega
  clear h0;go_wp2_with fail;go_ret2;exact ⟨rfl,rfl⟩
def aZ:Nat→Nat→List UInt8
 | 0,_=>[]
 | k+1,n=>aZ k (n / 256) ++ [UInt8.ofNat (n % 256)]
theorem aE:∀ k n,(aZ k n).length=k
 | 0,_=>rfl
 | k+1,n=>by simp [aZ,aE k]
theorem lu:∀ (k n i:Nat) (h:i<(aZ k n).length),(aZ k n)[i]=UInt8.ofNat (n / 256 ^ (k - 1 - i) % 256)
 | 0,_,_,h=>by simp [aZ] at h
 | k+1,n,i,h=>by
   have hl:=aE (k+1) n;have hk:=aE k (n / 256);simp only [aZ];rcases Nat.lt_or_ge i k with hi | hi
   ·rw [List.getElem_append_left (by omega),lu k (n / 256) i (by omega),Nat.div_div_eq_div_mul,show k+1 - 1 - i=(k - 1 - i)+1 by omega,Nat.pow_succ,Nat.mul_comm 256]
   ·rw [List.getElem_append_right (by omega)];have:i=k:=by omega
    subst this;simp
theorem iY (w:World) (n:Nat) (h:n≤1000000):(Instr.makeSlice 46 (.int .i64 n) (.int .i64 n)).run Tryz.prog w=.ok (.slice (some ⟨w.heap.size,0,none⟩) n n) (w.alloc (.cells ((List.replicate n (0:UInt8)).flatMap uC).toArray 5)):=by
 obtain ⟨i,hi,hz,hsz,hby⟩:∃ i,Tryz.prog.info? 5=some i∧i.zero=some (.int .u8 0)∧i.size=1∧i.bytes=1:=by
  have h:=(show (Tryz.prog.info? 5).map (fun i=>(i.zero,i.size,i.bytes))=some (some (.int .u8 0),1,1) by kernel_rfl);cases hi:Tryz.prog.info? 5 with
  | none=>rw [hi] at h;cases h
  | some i=> rw [hi] at h;simp only [Option.map_some,Option.some.injEq,Prod.mk.injEq] at h;exact ⟨i,rfl,h.1,h.2.1,h.2.2⟩
 have e:madeCells (Value.cells (.int .u8 0)) n=((List.replicate n (0:UInt8)).flatMap uC).toArray:=by
  rw [← Array.toList_inj,show Value.cells (.int .u8 0)=#[.int .u8 0] from rfl,toList_madeCells_one];clear h
  induction n with
  | zero=>rfl
  | succ n ih=> rw [List.replicate_succ,List.replicate_succ,List.flatMap_cons,ih];rfl
 rw [run_make w 46 5 i _ Tryz.underlying46 hi hz .i64 .i64 n n (by omega) (Int.le_refl _) (by rw [hby];omega) (by omega),hsz,Nat.mul_one,Int.toNat_natCast,e]
theorem nC (l:List UInt8):l.flatMap uC=l.map fun b=>Value.int .u8 b.toNat:=by
 induction l with
 | nil=>rfl
 | cons b l ih=>simp [uC,ih]
theorem eD (w:World) (g n c:Nat) (l:List UInt8) (hn:l.length=n) (hc:∀ j (hj:j<l.length),w.cell? ⟨g,j,none⟩=some (.int .u8 l[j].toNat)):
  (convert 46 9 (.slice (some ⟨g,0,none⟩) n c)).run Tryz.prog w=.ok (.string ⟨l.toArray⟩) w:=by
 subst hn;refine run_convert_bytes_back w 46 9 5 ⟨g,0,none⟩ c l Tryz.underlying46 Tryz.underlying5 Tryz.underlying9 (fun j hj=>?_);have:=hc j hj;rw [show (⟨g,0,none⟩:Addr).add j=⟨g,0+j,none⟩ from by unfold Addr.add;split <;> simp_all,Nat.zero_add];exact this
theorem eE {w:World} {g:Nat} {l:List UInt8} {fz:Nat × Nat} (h:w.heap[g]?=some (.cells (l.flatMap uC).toArray 5 fz)) (j:Nat) (hj:j<l.length):w.cell? ⟨g,j,none⟩=some (.int .u8 l[j].toNat):=by rw [nC] at h;simp [World.cell?,h,hj]
theorem tG {w:World} {g:Nat} {l:List UInt8} (h:w.heap[g]?=some (.cells (l.flatMap uC).toArray 5 (0,0))) (j:Nat) (b:UInt8):(w.setCell ⟨g,j,none⟩ (.int .u8 b.toNat)).heap[g]?=some (.cells ((l.set j b).flatMap uC).toArray 5 (0,0)):=by rw [nC] at h;simp only [World.setCell,Array.getElem?_modify,h,if_true,Option.map_some,nC];simp [List.map_set]
theorem ij (n:Nat) (k:Nat) (w:World) (_hn:n<18446744073709551616) (h1:1≤k) (h8:k≤8):
  Calls Tryz.prog 170 #[.int .u64 n,.int .i64 k] w fun e w'=>e=.returned (.string ⟨(aZ k n).toArray⟩)∧Below w.heap.size w w':=by
 have hmk:=iY w k (by omega);have HB0:=hid (ag (w0:=w) (g:=w.heap.size) (o:=.cells ((List.replicate k (0:UInt8)).flatMap uC).toArray 5) rfl);have HL:=hid (aE k n);have HW0:=hid (Below.alloc (Below.refl _ w) (Nat.le_refl _) (.cells ((List.replicate k (0:UInt8)).flatMap uC).toArray 5));generalize w.alloc (.cells ((List.replicate k (0:UInt8)).flatMap uC).toArray 5)=w1 at *;go_enter Tryz.func170,Tryz.ntmps170;have h1:(1:Int)≤(k:Int):=by omega
 have h2:(k:Int)≤8:=by omega
 go_wp2_with fail;go_loopw [0,6] (fun nv iv wr=>∃ j:Nat,j≤k∧nv=.int .u64 ((n / 256 ^ (k - j):Nat):Int)∧iv=.int .i64 ((j:Int) - 1)∧wr.heap[w.heap.size]?=some (.cells ((List.replicate j 0 ++ (aZ k n).drop j).flatMap uC).toArray 5 (0,0))∧Below w.heap.size w wr) (fun _ iv _=>(intOf iv+1).toNat)
 case atStart=>exact ⟨k,Nat.le_refl _,by simp,rfl,by rw [List.drop_of_length_le (by rw [HL.out];omega),List.append_nil];exact HB0.out,HW0.out⟩
 case round=>
  obtain ⟨j,hj,rfl,rfl,hb,hw⟩:=hrel;have HB:=hid hb;have HW:=hid hw;have hl:=aj hb;have hfz:=ac hb;clear hb hw;by_cases hj0:j=0
  ·subst hj0;have hcv:=eD wr w.heap.size k k (aZ k n) HL.out (eE (by simpa using HB.out));clear hfz;go_wp2_with fail;go_ret;exact ⟨rfl,HW.out⟩
  ·obtain ⟨i,rfl⟩:∃ i,j=i+1:=⟨j - 1,by omega⟩;have c0:=eE HB.out i (by simp;omega);have f0:=hfz i;clear hfz;obtain ⟨m,hm⟩:∃ m,m=n / 256 ^ (k - (i+1)):=⟨_,rfl⟩;have HM:=hid hm;rw [← hm];clear hm;have HS:=hid (show (List.replicate (i+1) 0 ++ (aZ k n).drop (i+1)).set i (UInt8.ofNat (m % 256))=List.replicate i 0 ++ (aZ k n).drop i by
    have hl:=HL.out;rw [List.set_append_left _ _ (by simp),List.replicate_succ',List.set_append_right _ _ (by simp),List.length_replicate,Nat.sub_self,List.set_cons_zero,List.append_assoc,List.drop_eq_getElem_cons (i:=i) (by omega),lu k n i (by omega),HM.out,show k - (i+1)=k - 1 - i by omega];rfl)
   have HV:=hid (show ((m:Int) % 256)=((UInt8.ofNat (m % 256)).toNat:Int) by rw [UInt8.toNat_ofNat'];omega);have HD:=hid (show (m:Int) / 256=((n / 256 ^ (k - i):Nat):Int) by rw [HM.out,show k - i=(k - (i+1))+1 by omega,Nat.pow_succ,← Nat.div_div_eq_div_mul];rfl);go_wp2_with fail;refine ⟨⟨i,by omega,by rw [HD.out],rfl,?_,HW.out.setCell (by simp) _⟩,?_⟩
   ·have:=tG HB.out i (UInt8.ofNat (m % 256));rw [HS.out,← HV.out] at this;exact this
   ·simp [intOf]
def ap (l:List UInt8):ByteArray:=⟨l.toArray⟩
theorem bG (l:List UInt8):bs (ap l)=l:=rfl
theorem nt (s:ByteArray):ap (bs s)=s:=rfl
theorem aC (l:List UInt8):(ap l).size=l.length:=rfl
theorem nH {a b:ByteArray} (h:bs a=bs b):a=b:=by rw [← nt a,← nt b,h]
theorem iO (s:ByteArray) (a b:Nat):bs (s.extract a b)=((bs s).drop a).take (b - a):=by unfold bs;rw [ByteArray.data_extract,Array.toList_extract,List.extract_eq_take_drop]
theorem rT (a b:ByteArray):bs (a ++ b)=bs a ++ bs b:=by unfold bs;rw [ByteArray.data_append,Array.toList_append]
theorem dR (s:ByteArray) (a b:Nat):s.extract a b=ap (((bs s).drop a).take (b - a)):=nH (by rw [iO,bG])
theorem en (a b:ByteArray):a ++ b=ap (bs a ++ bs b):=nH (by rw [rT,bG])
theorem uE (n i:Nat):(n:Int) / 2 ^ (8 * i) % 256=((UInt8.ofNat (n / 256 ^ i % 256)).toNat:Int):=by rw [UInt8.toNat_ofNat',Nat.mod_mod,show (256:Nat) ^ i=2 ^ (8 * i) from by rw [Nat.pow_mul]];simp
theorem rG (k n j:Nat) (h:j<k):(aZ k n).take (k - j)=(aZ k n).take (k - (j+1)) ++ [UInt8.ofNat (n / 256 ^ j % 256)]:=by have hl:=aE k n;rw [show k - j=(k - (j+1))+1 by omega,List.take_succ_eq_append_getElem (by omega),lu];congr 6;omega
theorem qN:(Tryz.prog.info? 5).map (fun i=>(i.zero,i.size,i.bytes))=some (some (.int .u8 0),1,1):=by kernel_rfl
theorem wi (x:UInt8) (u:Value) (hu:u ∈ uC x):u.oneCell'=true:=by rw [uC,List.mem_singleton] at hu;rw [hu];rfl
theorem wk:ElemT Tryz.prog 46 5 uC 1 1:=ElemT.mk' (z:=.int .u8 0) Tryz.underlying46 qN rfl (by decide) gw wi
theorem oW {base:Nat} {w:World} {g n c:Nat} {l:List UInt8} (h:Own uC 1 5 base w (.slice (some ⟨g,0,none⟩) n c) l):
  (convert 46 9 (.slice (some ⟨g,0,none⟩) n c)).run Tryz.prog w=.ok (.string (ap l)) w:=by
 have hn:l.length=n:=by
  obtain ⟨A,c',he⟩:=Sl.len' (h.sl gw);injection he with h1 h2 h3
  exact h2.symm
 have hc:∀ j (hj:j<l.length),w.cell? ⟨g,j,none⟩=some (.int .u8 l[j].toNat):=fun j hj=>by
  obtain ⟨b,off,c2,he,-,hbl,hs⟩:=((h.sl gw).cases).resolve_left (fun ⟨_,_,_,h⟩=>by rw [h] at hj;simp at hj);injection he with e1 e2 e3
  injection e1 with e1
  injection e1 with e4 e5 e6
  subst e4 e5;have:=(hs.cells (k:=j) hj).2 0 _ rfl;simpa using this
 have h3:=eD w g n c l hn hc;exact h3
theorem vq (n:Nat) (k:Nat) (w:World) (_hn:n<18446744073709551616) (h1:1≤k) (h8:k≤8):
  Calls Tryz.prog 148 #[.int .u64 n,.int .i64 k] w fun e w'=>e=.returned (.string (ap (aZ k n)))∧Below w.heap.size w w':=by
 have HL:=hid (aE k n);go_enter Tryz.func148,Tryz.ntmps148;have h1:(1:Int)≤(k:Int):=by omega
 have h2:(k:Int)≤8:=by omega
 go_wp2_with fail;go_loopw [5,6] (fun bv iv wr=>∃ j:Nat,j≤k∧iv=.int .i64 ((j:Int) - 1)∧Own uC 1 5 w.heap.size wr bv ((aZ k n).take (k - j))∧Below w.heap.size w wr) (fun _ iv _=>(intOf iv+1).toNat)
 case atStart=>exact ⟨k,Nat.le_refl _,rfl,by rw [Nat.sub_self];exact World.ownsRow_lit w #[] 0 (Nat.le_refl _) (by simp [maxLen]) (by simp),(Below.refl _ _).alloc (Nat.le_refl _) _⟩
 case round=>
  obtain ⟨j,hj,rfl,ho,hw⟩:=hrel;have HO:=hid ho;have HW:=hid hw;clear ho hw;obtain ⟨A,c,hv⟩:=Sl.len' (HO.out.sl gw);subst hv;by_cases hj0:j=0
  ·subst hj0;have hg:∃ g,A=some ⟨g,0,none⟩:=by
    rcases HO.out.2 with ⟨hv,h0⟩ | ⟨g,cap,cur,hv,_⟩
    ·have:=HL.out;rw [List.length_take] at h0;omega
    ·injection hv with hv;exact ⟨g,hv⟩
   obtain ⟨g,rfl⟩:=hg;have hcv:=oW HO.out;rw [Nat.sub_zero,List.take_of_length_le (by rw [HL.out];omega)] at hcv;rw [Nat.sub_zero,List.take_of_length_le (by rw [HL.out];omega)];go_wp2_with fail;go_ret;exact ⟨rfl,HW.out⟩
  ·obtain ⟨i,rfl⟩:∃ i,j=i+1:=⟨j - 1,by omega⟩;have h3:(0:Int)≤8 * (i:Int):=by omega
   have h4:(i:Int)<8:=by omega
   go_wp2_with (at_builtin;refine Hid.out ?_);refine hid ?_;refine aw rfl rfl wk rfl rfl (HO.out.alloc _) (Sl.one (UInt8.ofNat (n / 256 ^ i % 256)) (by simp) gw (by rw [uE];rfl)) (by have:=HL.out;simp [maxLen];omega) (by have:=HL.out;simp;omega) (by have:=HW.out.size;simp;omega) ?_;intro v' w6 ho hg hat;have HO6:=hid ho;have HB6:=hid (cI (HW.out.alloc HW.out.size _) hg (by have:=HW.out.size;simp;omega) (fun k hk=>(HO.out.lt k hk).1));clear ho hg hat;go_wp2_with fail;refine ⟨⟨i,by omega,by simp,by rw [rG k n i (by omega)];exact HO6.out,HB6.out⟩,?_⟩;simp [intOf]
def aH (l:List UInt8):List UInt8:=l.take 232 ++ List.replicate (232 - l.length) 0
theorem dH (l:List UInt8):(aH l).length=232:=by simp [aH];omega
theorem vQ (s:ByteArray) (w:World):
  Calls Tryz.prog 20 #[.string s] w fun e w'=>e=.returned (.string (ap (aH (bs s))))∧Below w.heap.size w w':=by
 have hbs:=hO s;go_enter Tryz.func20,Tryz.ntmps20;by_cases h1:232≤s.size
 ·have h2:(232:Int)≤(s.size:Int):=by omega
  go_wp2_with fail;go_ret;refine ⟨?_,Below.refl _ _⟩;rw [dR,List.drop_zero,aH,show 232 - (bs s).length=0 by omega,List.replicate_zero,List.append_nil];rfl
 ·have h2:(s.size:Int)<232:=by omega
  obtain ⟨m,hm⟩:∃ m:Nat,m=232 - s.size:=⟨_,rfl⟩;have hmk:=iY w m (by omega);rw [show ((m:Nat):Int)=232 - (s.size:Int) by omega] at hmk;have HB0:=hid (ag (w0:=w) (g:=w.heap.size) (o:=.cells ((List.replicate m (0:UInt8)).flatMap uC).toArray 5) rfl);have HW0:=hid (Below.alloc (Below.refl _ w) (Nat.le_refl _) (.cells ((List.replicate m (0:UInt8)).flatMap uC).toArray 5));generalize w.alloc (.cells ((List.replicate m (0:UInt8)).flatMap uC).toArray 5)=w1 at *;have hcv:=eD w1 w.heap.size m m (List.replicate m 0) (by simp) (eE HB0.out);have HM:=hid hm
  have HL:=hid (show s ++ { data:=Array.replicate m 0 }=ap (aH (bs s)) by
   rw [en,aH,List.take_of_length_le (by omega),hbs,← hm];simp [bs])
  clear hm;have hlim:s.size+m=232:=by have:=HM.out;omega
  go_wp2_with fail;go_ret;rw [HL.out];exact ⟨rfl,HW0.out⟩
def iq:Nat→Nat→List UInt8→Nat × Nat × Int
 | _,_,[]=>(0,0,3)
 | i,n,b :: r=>if (i=9∧1<b.toNat)∨(0<i∧b.toNat=0) then (0,0,4) else if b.toNat<128 then (n+b.toNat * 128 ^ i,i+1,0) else iq (i+1) (n+(b.toNat - 128) * 128 ^ i) r
def nM (l:List UInt8):Nat × Nat × Int:=iq 0 0 l
def uvV (x:Nat × Nat × Int):Value:=.tuple #[.int .u64 x.1,.int .i64 x.2.1,.int .i64 x.2.2]
theorem wg (i:Nat):(2:Int) ^ (7 * i)=((128 ^ i:Nat):Int):=by rw [show (128:Nat) ^ i=2 ^ (7 * i) from by rw [Nat.pow_mul]];simp
theorem mg {i j:Nat} (h:i≤j):128 ^ i≤128 ^ j:=Nat.pow_le_pow_right (by decide) h
theorem uM {i n b m:Nat} (hi:i≤9) (hn:n<128 ^ i) (hb:b<128) (h9:i=9→b≤1) (hm:m=n+b * 128 ^ i):
  bits .or .u64 (n:Int) (IntKind.u64.wrap ((b:Int) * 2 ^ (7 * i)))=(m:Int)∧m<128 ^ (i+1):=by
 have h1:b * 128 ^ i<18446744073709551616:=by
  by_cases hh:i=9
  ·subst hh;refine Nat.lt_of_le_of_lt (Nat.mul_le_mul_right _ (h9 rfl)) (by decide)
  ·refine Nat.lt_of_lt_of_le (Nat.mul_lt_mul_of_pos_right hb (Nat.pow_pos (by decide))) ?_;rw [← Nat.pow_succ'];exact Nat.le_trans (mg (show i+1≤9 by omega)) (by decide)
 have h2:n<18446744073709551616:=Nat.lt_of_lt_of_le hn (Nat.le_trans (mg hi) (by decide));have h3:(b * 128 ^ i) % 2 ^ (7 * i)=0:=by rw [show (2:Nat) ^ (7 * i)=128 ^ i from by rw [Nat.pow_mul]];exact Nat.mul_mod_left _ _
 have h4:n<2 ^ (7 * i):=by rw [show (2:Nat) ^ (7 * i)=128 ^ i from by rw [Nat.pow_mul]];exact hn
 refine ⟨?_,?_⟩
 ·rw [wg,show (b:Int) * ((128 ^ i:Nat):Int)=((b * 128 ^ i:Nat):Int) by simp,IntWalk.u64_in _ ⟨by omega,by omega⟩,u64_or_nat _ _ h2 h1,Nat.or_comm,nat_join (7 * i) _ _ h3 h4,hm,Nat.add_comm]
 ·rw [hm,Nat.pow_succ,Nat.mul_comm (128 ^ i)];have:=Nat.mul_le_mul_right (128 ^ i) (show b≤127 by omega);omega
theorem kM (k n:Nat):iq k n []=(0,0,3):=rfl
theorem kN {k n:Nat} {b:UInt8} {r:List UInt8} (h:(k=9∧1<b.toNat)∨(0<k∧b.toNat=0)):iq k n (b :: r)=(0,0,4):=by rw [iq,if_pos h]
theorem gK {k n:Nat} {b:UInt8} {r:List UInt8} (h:¬ ((k=9∧1<b.toNat)∨(0<k∧b.toNat=0))) (h2:b.toNat<128):iq k n (b :: r)=(n+b.toNat * 128 ^ k,k+1,0):=by rw [iq,if_neg h,if_pos h2]
theorem kC {k n:Nat} {b:UInt8} {r:List UInt8} (h:¬ ((k=9∧1<b.toNat)∨(0<k∧b.toNat=0))) (h2:¬ b.toNat<128):iq k n (b :: r)=iq (k+1) (n+(b.toNat - 128) * 128 ^ k) r:=by rw [iq,if_neg h,if_neg h2]
theorem sd {k b:Nat} (h:¬ ((k=9∧1<b)∨(0<k∧b=0))):
  ((((k:Int) == 9)=false)∨(((k:Int) == 9)=true∧decide ((1:Int)<(b:Int))=false))∧((decide (0<k)=false)∨(decide (0<k)=true∧((b:Int) == 0)=false)):=by
 simp only [beq_eq_false_iff_ne,beq_iff_eq,decide_eq_false_iff_not,decide_eq_true_eq,ne_eq];omega
theorem m5 {k b:Nat} (h:(k=9∧1<b)∨(0<k∧b=0)):
  (((k:Int) == 9)=true∧decide ((1:Int)<(b:Int))=true)∨(((((k:Int) == 9)=false)∨(((k:Int) == 9)=true∧decide ((1:Int)<(b:Int))=false))∧decide (0<k)=true∧((b:Int) == 0)=true):=by
 simp only [beq_eq_false_iff_ne,beq_iff_eq,decide_eq_false_iff_not,decide_eq_true_eq,ne_eq];omega
theorem qX (s:ByteArray) (w:World):
  Calls Tryz.prog 184 #[.string s] w fun e w'=>e=.returned (uvV (nM (bs s)))∧Below w.heap.size w w':=by
 obtain ⟨c,w1,hcv,hb,hlt,hcs⟩:=lD w s;have HB:=hid hb;have HCS:=hid hcs;have hbs:=hO s;clear hb hcs;go_enter Tryz.func184,Tryz.ntmps184;go_wp2_with fail;go_loop [5,11] (fun nv iv=>∃ k n:Nat,k≤s.size∧k≤10∧iv=.int .i64 k∧nv=.int .u64 n∧n<128 ^ k∧nM (bs s)=iq k n ((bs s).drop k)∧(k=10→False)) (fun _ iv=>s.size - (intOf iv).toNat)
 case atStart=>exact ⟨0,0,Nat.zero_le _,by omega,rfl,rfl,by simp,by rw [List.drop_zero];rfl,by omega⟩
 case round=>
  obtain ⟨k,n,hk,hk10,rfl,rfl,hn,hu,h10⟩:=hrel;have HU:=hid hu;have HN:=hid hn;have hk9:k≤9:=by rcases Nat.lt_or_ge k 10 with h | h;omega;exact (h10 (by omega)).elim
  clear hu hn h10 hk10;by_cases hk2:k<s.size
  ·have e0:=HCS.out k (by omega);have HD:=hid (List.drop_eq_getElem_cons (show k<(bs s).length by omega));have hk0:(0:Int)≤(k:Int):=by omega
   have hk1:(k:Int)<(s.size:Int):=by omega
   have hk7:(k:Int)≤9:=by omega
   generalize (bs s)[k]=b at *;have hb0:=b.toNat_lt;by_cases hf:(k=9∧1<b.toNat)∨(0<k∧b.toNat=0)
   ·have HR:=hid (show nM (bs s)=(0,0,4) by rw [HU.out,HD.out,kN hf]);have ht:=m5 hf;clear hf;rcases ht with ⟨g1,g2⟩ | ⟨g1 | ⟨g1,g2⟩,g3,g4⟩
    all_goals
     go_wp2_with fail;go_ret3;rw [HR.out];exact ⟨rfl,HB.out⟩
   ·have ht:=sd hf;by_cases hb:b.toNat<128
    ·have HR:=hid (show nM (bs s)=(n+b.toNat * 128 ^ k,k+1,0) by rw [HU.out,HD.out,gK hf hb]);have HUV:=hid (uM (i:=k) (n:=n) (b:=b.toNat) (by omega) HN.out hb (by omega) rfl);clear hf;have hbb:(b.toNat:Int)<128:=by omega
     obtain ⟨h1,h2⟩:=ht;rcases h1 with g1 | ⟨g1,g2⟩ <;> rcases h2 with g3 | ⟨g3,g4⟩
     all_goals
      go_wp2_with fail;go_ret3;rw [HR.out,HUV.out.1];exact ⟨rfl,HB.out⟩
    ·have HR:=hid (show nM (bs s)=iq (k+1) (n+(b.toNat - 128) * 128 ^ k) ((bs s).drop (k+1)) by rw [HU.out,HD.out,kC hf hb]);have hne:k≠9:=by omega
     have HUV:=hid (uM (i:=k) (n:=n) (b:=b.toNat - 128) (by omega) HN.out (by omega) (by omega) rfl);clear hf;have hbb:(128:Int)≤(b.toNat:Int):=by omega
     have hsub:((b.toNat:Int) - 128)=((b.toNat - 128:Nat):Int):=by omega
     obtain ⟨h1,h2⟩:=ht;rcases h1 with g1 | ⟨g1,g2⟩ <;> rcases h2 with g3 | ⟨g3,g4⟩
     all_goals
      go_wp2_with fail;refine ⟨⟨k+1,_,by omega,by omega,rfl,by rw [HUV.out.1],HUV.out.2,HR.out,by omega⟩,?_⟩;simp [intOf];omega
  ·have HR:=hid (show nM (bs s)=(0,0,3) by rw [HU.out,List.drop_of_length_le (by omega),kM]);go_wp2_with fail;go_ret3;rw [HR.out];exact ⟨rfl,HB.out⟩
def cP (n:Nat):List UInt8:=if n<128 then [UInt8.ofNat n] else [UInt8.ofNat (n % 128+128),UInt8.ofNat (n / 128)]
theorem dJ (n:Nat):(cP n).length=if n<128 then 1 else 2:=by unfold cP;split <;> rfl
theorem vL (m:Nat):bits .or .u8 ((m:Int) % 256) 128=((UInt8.ofNat (m % 128+128)).toNat:Int):=by
 have h:∀ x,x<256→x ||| 128=x % 128+128:=by decide
 rw [show (m:Int) % 256=((m % 256:Nat):Int) by omega,show (128:Int)=((128:Nat):Int) from rfl,u8_or_nat _ _ (by omega) (by omega),h _ (by omega),UInt8.toNat_ofNat'];congr 1;omega
theorem sG (m:Nat) (h:m<256):[Value.int .u8 (m:Int)]=uC (UInt8.ofNat m):=by show _=[Value.int .u8 ((UInt8.ofNat m).toNat:Int)];rw [UInt8.toNat_ofNat',Nat.mod_eq_of_lt h]
theorem kB (n:Nat) (w:World) (hn:n<16384):
  Calls Tryz.prog 201 #[.int .u64 n] w fun e w'=>e=.returned (.string (ap (cP n)))∧Below w.heap.size w w':=by
 go_enter Tryz.func201,Tryz.ntmps201;go_wp2_with fail;go_loopw [0,3] (fun nv bv wr=>∃ (m:Nat) (l:List UInt8),nv=.int .u64 m∧m≤n∧l.length≤1∧(m<128∨l=[])∧cP n=l ++ cP m∧Own uC 1 5 w.heap.size wr bv l∧Below w.heap.size w wr) (fun nv _ _=>(intOf nv).toNat)
 case atStart=>exact ⟨n,[],rfl,Nat.le_refl _,by simp,.inr rfl,rfl,Own.nil,Below.refl _ _⟩
 case round=>
  obtain ⟨m,l,rfl,hm,hl,hlm,hv,ho,hb⟩:=hrel;have HV:=hid hv;have HO:=hid ho;have HB:=hid hb;have HM:=hid hlm;obtain ⟨A,c,hvv⟩:=Sl.len' (ho.sl gw);subst hvv;clear hv ho hb hlm;by_cases hlt:m<128
  ·have h1:(m:Int)<128:=by omega
   go_wp2_with (at_builtin;refine Hid.out ?_);refine hid ?_;refine aw rfl rfl wk rfl rfl (HO.out.alloc _) (Sl.one (UInt8.ofNat m) (by simp) gw (sG m (by omega))) (by simp [maxLen];omega) (by simp;omega) (by have:=HB.out.size;simp;omega) ?_;intro v' w6 ho hg hat;have HO6:=hid ho;have HB6:=hid (cI (HB.out.alloc HB.out.size _) hg (by have:=HB.out.size;simp;omega) (fun k hk=>(HO.out.lt k hk).1));clear ho hg hat;obtain ⟨A6,c6,hv6⟩:=Sl.len' (HO6.out.sl gw);simp only [List.length_append,List.length_cons,List.length_nil,Nat.zero_add] at hv6;have hg:∃ g,A6=some ⟨g,0,none⟩:=by
    rcases HO6.out.2 with ⟨hv,h0⟩ | ⟨g,cap,cur,hv,_⟩
    ·simp at h0
    ·rw [hv] at hv6;injection hv6 with hv6;exact ⟨g,hv6.symm⟩
   obtain ⟨g,rfl⟩:=hg;subst hv6;have hcv:=oW HO6.out;have HR:=hid (show cP n=l ++ [UInt8.ofNat m] by rw [HV.out,show cP m=[UInt8.ofNat m] from if_pos hlt]);go_wp2_with fail;go_ret;rw [HR.out];exact ⟨rfl,HB6.out⟩
  ·have h1:(128:Int)≤(m:Int):=by omega
   have hl0:l=[]:=by rcases HM.out with h | h;exact absurd h hlt;exact h
   subst hl0;go_wp2_with (at_builtin;refine Hid.out ?_);refine hid ?_;refine aw rfl rfl wk rfl rfl (HO.out.alloc _) (Sl.one (UInt8.ofNat (m % 128+128)) (by simp) gw (by rw [vL];rfl)) (by simp [maxLen]) (by simp) (by have:=HB.out.size;simp;omega) ?_;intro v' w6 ho hg hat;have HO6:=hid ho;have HB6:=hid (cI (HB.out.alloc HB.out.size _) hg (by have:=HB.out.size;simp;omega) (fun k hk=>(HO.out.lt k hk).1));clear ho hg hat;go_wp2_with fail;refine ⟨⟨m / 128,_,rfl,by omega,by simp,.inl (by omega),?_,HO6.out,HB6.out⟩,?_⟩
   ·rw [HV.out,show cP m=[UInt8.ofNat (m % 128+128),UInt8.ofNat (m / 128)] from if_neg hlt,show cP (m / 128)=[UInt8.ofNat (m / 128)] from if_pos (by omega)];rfl
   ·simp [intOf];omega
theorem cJ {m:Nat} (h:m<256):(UInt8.ofNat m).toNat=m:=by rw [UInt8.toNat_ofNat',Nat.mod_eq_of_lt h]
theorem uR {n:Nat} (hn:n<16384) (r:List UInt8):nM (cP n ++ r)=(n,(cP n).length,0):=by
 unfold nM;rw [dJ];by_cases h:n<128
 ·rw [show cP n=[UInt8.ofNat n] from if_pos h,if_pos h,List.cons_append,gK (by omega) (by rw [cJ (by omega)];exact h),cJ (by omega)];simp
 ·rw [show cP n=[UInt8.ofNat (n % 128+128),UInt8.ofNat (n / 128)] from if_neg h,if_neg h,List.cons_append,kC (by omega) (by rw [cJ (by omega)];omega),List.cons_append,
   gK (by rw [cJ (by omega)];omega) (by rw [cJ (by omega)];omega),cJ (by omega),cJ (by omega)]
  simp;omega
theorem fV:∀ (k n:Nat),n<256 ^ k→dU (aZ k n)=n
 | 0,n,h=>by simp at h;subst h;rfl
 | k+1,n,h=>by
   rw [aZ,js,fV k (n / 256) (by rw [Nat.div_lt_iff_lt_mul (by decide)];rw [Nat.pow_succ] at h;exact h),cJ (by omega)];omega
end Go.Proofs.YtknioodagnjchaaGreatDoor
