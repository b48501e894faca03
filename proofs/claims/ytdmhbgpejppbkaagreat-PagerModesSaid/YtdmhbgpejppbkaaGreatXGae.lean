/- num.Fixed, num.Unfixed; the reference's. cahierref01.Fixed, cahierref04.Full; strings as lists of bytes. num.Var, num.Unvar; the reference's. num.Var, the reference's; reading what Var writes. -/
import Derived.Test.YtdmhbgpejppbkaaGreatXGad
import Derived.Laws.BytesArg
import Derived.Lib.ConvBytes
import Derived.WalkArith
import Derived.IntWalk
import Derived.Laws.BitsAllLaws
import Derived.Laws.OwnMore
set_option maxRecDepth 100000
namespace Go.Proofs.YtdmhbgpejppbkaaGreat
open Go.Lib (hid)
open Go.RowKit
def uC (b:UInt8):List Value:=[.int .u8 b.toNat]
def bs (s:ByteArray):List UInt8:=s.data.toList
theorem jS (s:ByteArray):(bs s).length=s.size:=rfl
theorem qR (w:World) (e:TypeId) (s:ByteArray):Below w.heap.size w (Lib.bytesWorld w e s):=
 ⟨rfl,rfl,rfl,by rw [Lib.bytesWorld_size];omega,fun k hk=>Lib.bytesWorld_at_old w e s k hk⟩
theorem sF (w:World) (s:ByteArray):∃ c w1,(convert 9 112 (.string s)).run Tryz.prog w=.ok (.slice (some ⟨w.heap.size,0,none⟩) s.size c) w1∧Below w.heap.size w w1∧w.heap.size<w1.heap.size∧
  ∀ j (hj:j<(bs s).length),w1.cell? ⟨w.heap.size,j,none⟩=some (.int .u8 (bs s)[j].toNat):=
 ⟨_,_,Lib.run_convert_string_bytes w 9 112 5 s Tryz.underlying9 Tryz.underlying112 Tryz.underlying5,qR w _ s,by rw [Lib.bytesWorld_size];omega,fun j hj=>by
   rw [Lib.bytesWorld_cell w _ s j (by rw [← jS];exact hj)];unfold bs at hj ⊢;simp only [List.getD,List.getElem?_eq_getElem hj,Option.getD_some]⟩
def eE (l:List UInt8):Nat:=l.foldl (fun n b=>n * 256+b.toNat) 0
theorem jj (l:List UInt8) (b:UInt8):eE (l ++ [b])=eE l * 256+b.toNat:=by simp [eE]
theorem sS (l:List UInt8):eE l<256 ^ l.length:=by
 obtain ⟨m,rfl⟩:∃ m,l=m.reverse:=⟨l.reverse,by simp⟩
 induction m with
 | nil=>decide
 | cons b m ih=> rw [List.reverse_cons,jj,List.length_append,List.length_singleton,Nat.pow_succ];have:=b.toNat_lt;omega
theorem vA (l:List UInt8) (h:l.length≤8):eE l<18446744073709551616:=
 Nat.lt_of_lt_of_le (sS l) (Nat.le_trans (Nat.pow_le_pow_right (by omega) h) (by decide))
theorem vz {l:List UInt8} {b:UInt8} {n:Nat} (h:n=eE (l ++ [b])) (hl:l.length≤7):
  IntKind.u64.wrap (IntKind.u64.wrap ((eE l:Int) * 256)+IntKind.u64.wrap (b.toNat:Int))=(n:Int):=by
 have h1:eE (l ++ [b])<18446744073709551616:=vA _ (by simp;omega);rw [jj] at h1 h;have hb:=b.toNat_lt;rw [IntWalk.u64_in ((eE l:Int) * 256) (by omega),IntWalk.u64_in (b.toNat:Int) (by omega),IntWalk.u64_in _ (by omega),h];omega
theorem eF (s:ByteArray) (w:World) (h0:1≤s.size) (h8:s.size≤8):
  Calls Tryz.prog 156 #[.string s] w fun e w'=>e=.returned (.tuple #[.int .u64 (eE (bs s)),.int .i64 0])∧Below w.heap.size w w':=by
 obtain ⟨c,w1,hcv,hb,hlt,hcs⟩:=sF w s;have HB:=hid hb;have HCS:=hid hcs;have hbs:=jS s;clear hb hcs;go_enter Tryz.func156,Tryz.ntmps156;have h1:(1:Int)≤(s.size:Int):=by omega
 have h2:(s.size:Int)≤8:=by omega
 go_wp2_with fail;go_loop [4,18] (fun nv iv=>∃ k:Nat,k≤s.size∧iv=.int .i64 k∧nv=.int .u64 (eE ((bs s).take k))) (fun _ iv=>s.size - (intOf iv).toNat)
 case atStart=>exact ⟨0,Nat.zero_le _,rfl,rfl⟩
 case round=>
  obtain ⟨k,hk,rfl,rfl⟩:=hrel;by_cases hk2:k<s.size
  ·have e0:=HCS.out k (by omega);have HT:=hid (List.take_succ_eq_append_getElem (show k<(bs s).length by omega));have hk0:(0:Int)≤(k:Int):=by omega
   have hk1:(k:Int)<(s.size:Int):=by omega
   generalize (bs s)[k]=b at *;go_wp2_with fail;refine ⟨⟨k+1,by omega,rfl,by rw [vz (n:=eE ((bs s).take (k+1))) (by rw [HT.out]) (by rw [List.length_take];omega)]⟩,?_⟩;simp [intOf];omega
  ·have HT:=hid (show (bs s).take k=bs s from List.take_of_length_le (by omega));go_wp2_with fail;go_ret2;rw [HT.out];exact ⟨rfl,HB.out⟩
def aG:Nat→Nat→List UInt8
 | 0,_=>[]
 | k+1,n=>aG k (n / 256) ++ [UInt8.ofNat (n % 256)]
theorem aq:∀ k n,(aG k n).length=k
 | 0,_=>rfl
 | k+1,n=>by simp [aG,aq k]
theorem qH:∀ (k n i:Nat) (h:i<(aG k n).length),(aG k n)[i]=UInt8.ofNat (n / 256 ^ (k - 1 - i) % 256)
 | 0,_,_,h=>by simp [aG] at h
 | k+1,n,i,h=>by
   have hl:=aq (k+1) n;have hk:=aq k (n / 256);simp only [aG];rcases Nat.lt_or_ge i k with hi | hi
   ·rw [List.getElem_append_left (by omega),qH k (n / 256) i (by omega),Nat.div_div_eq_div_mul,show k+1 - 1 - i=(k - 1 - i)+1 by omega,Nat.pow_succ,Nat.mul_comm 256]
   ·rw [List.getElem_append_right (by omega)];have:i=k:=by omega
    subst this;simp
theorem qj (w:World) (n:Nat) (h:n≤1000000):(Instr.makeSlice 112 (.int .i64 n) (.int .i64 n)).run Tryz.prog w=.ok (.slice (some ⟨w.heap.size,0,none⟩) n n) (w.alloc (.cells ((List.replicate n (0:UInt8)).flatMap uC).toArray 5)):=by
 obtain ⟨i,hi,hz,hsz,hby⟩:∃ i,Tryz.prog.info? 5=some i∧i.zero=some (.int .u8 0)∧i.size=1∧i.bytes=1:=by
  have h:=(show (Tryz.prog.info? 5).map (fun i=>(i.zero,i.size,i.bytes))=some (some (.int .u8 0),1,1) by kernel_rfl);cases hi:Tryz.prog.info? 5 with
  | none=>rw [hi] at h;cases h
  | some i=> rw [hi] at h;simp only [Option.map_some,Option.some.injEq,Prod.mk.injEq] at h;exact ⟨i,rfl,h.1,h.2.1,h.2.2⟩
 have e:madeCells (Value.cells (.int .u8 0)) n=((List.replicate n (0:UInt8)).flatMap uC).toArray:=by
  rw [← Array.toList_inj,show Value.cells (.int .u8 0)=#[.int .u8 0] from rfl,toList_madeCells_one];clear h
  induction n with
  | zero=>rfl
  | succ n ih=> rw [List.replicate_succ,List.replicate_succ,List.flatMap_cons,ih];rfl
 rw [run_make w 112 5 i _ Tryz.underlying112 hi hz .i64 .i64 n n (by omega) (Int.le_refl _) (by rw [hby];omega) (by omega),hsz,Nat.mul_one,Int.toNat_natCast,e]
theorem oW (l:List UInt8):l.flatMap uC=l.map fun b=>Value.int .u8 b.toNat:=by
 induction l with
 | nil=>rfl
 | cons b l ih=>simp [uC,ih]
theorem nU (w:World) (g n c:Nat) (l:List UInt8) (hn:l.length=n) (hc:∀ j (hj:j<l.length),w.cell? ⟨g,j,none⟩=some (.int .u8 l[j].toNat)):
  (convert 112 9 (.slice (some ⟨g,0,none⟩) n c)).run Tryz.prog w=.ok (.string ⟨l.toArray⟩) w:=by
 subst hn;refine run_convert_bytes_back w 112 9 5 ⟨g,0,none⟩ c l Tryz.underlying112 Tryz.underlying5 Tryz.underlying9 (fun j hj=>?_);have:=hc j hj;rw [show (⟨g,0,none⟩:Addr).add j=⟨g,0+j,none⟩ from by unfold Addr.add;split <;> simp_all,Nat.zero_add];exact this
theorem jT {w:World} {g:Nat} {l:List UInt8} {fz:Nat × Nat} (h:w.heap[g]?=some (.cells (l.flatMap uC).toArray 5 fz)) (j:Nat) (hj:j<l.length):w.cell? ⟨g,j,none⟩=some (.int .u8 l[j].toNat):=by rw [oW] at h;simp [World.cell?,h,hj]
theorem xv {w:World} {g:Nat} {l:List UInt8} (h:w.heap[g]?=some (.cells (l.flatMap uC).toArray 5 (0,0))) (j:Nat) (b:UInt8):(w.setCell ⟨g,j,none⟩ (.int .u8 b.toNat)).heap[g]?=some (.cells ((l.set j b).flatMap uC).toArray 5 (0,0)):=by rw [oW] at h;simp only [World.setCell,Array.getElem?_modify,h,if_true,Option.map_some,oW];simp [List.map_set]
theorem eZ (n:Nat) (k:Nat) (w:World) (_hn:n<18446744073709551616) (h1:1≤k) (h8:k≤8):
  Calls Tryz.prog 165 #[.int .u64 n,.int .i64 k] w fun e w'=>e=.returned (.string ⟨(aG k n).toArray⟩)∧Below w.heap.size w w':=by
 have hmk:=qj w k (by omega);have HB0:=hid (af (w0:=w) (g:=w.heap.size) (o:=.cells ((List.replicate k (0:UInt8)).flatMap uC).toArray 5) rfl);have HL:=hid (aq k n);have HW0:=hid (Below.alloc (Below.refl _ w) (Nat.le_refl _) (.cells ((List.replicate k (0:UInt8)).flatMap uC).toArray 5));generalize w.alloc (.cells ((List.replicate k (0:UInt8)).flatMap uC).toArray 5)=w1 at *;go_enter Tryz.func165,Tryz.ntmps165;have h1:(1:Int)≤(k:Int):=by omega
 have h2:(k:Int)≤8:=by omega
 go_wp2_with fail;go_loopw [0,6] (fun nv iv wr=>∃ j:Nat,j≤k∧nv=.int .u64 ((n / 256 ^ (k - j):Nat):Int)∧iv=.int .i64 ((j:Int) - 1)∧wr.heap[w.heap.size]?=some (.cells ((List.replicate j 0 ++ (aG k n).drop j).flatMap uC).toArray 5 (0,0))∧Below w.heap.size w wr) (fun _ iv _=>(intOf iv+1).toNat)
 case atStart=>exact ⟨k,Nat.le_refl _,by simp,rfl,by rw [List.drop_of_length_le (by rw [HL.out];omega),List.append_nil];exact HB0.out,HW0.out⟩
 case round=>
  obtain ⟨j,hj,rfl,rfl,hb,hw⟩:=hrel;have HB:=hid hb;have HW:=hid hw;have hl:=ab hb;have hfz:=ah hb;clear hb hw;by_cases hj0:j=0
  ·subst hj0;have hcv:=nU wr w.heap.size k k (aG k n) HL.out (jT (by simpa using HB.out));clear hfz;go_wp2_with fail;go_ret;exact ⟨rfl,HW.out⟩
  ·obtain ⟨i,rfl⟩:∃ i,j=i+1:=⟨j - 1,by omega⟩;have c0:=jT HB.out i (by simp;omega);have f0:=hfz i;clear hfz;obtain ⟨m,hm⟩:∃ m,m=n / 256 ^ (k - (i+1)):=⟨_,rfl⟩;have HM:=hid hm;rw [← hm];clear hm;have HS:=hid (show (List.replicate (i+1) 0 ++ (aG k n).drop (i+1)).set i (UInt8.ofNat (m % 256))=List.replicate i 0 ++ (aG k n).drop i by
    have hl:=HL.out;rw [List.set_append_left _ _ (by simp),List.replicate_succ',List.set_append_right _ _ (by simp),List.length_replicate,Nat.sub_self,List.set_cons_zero,List.append_assoc,List.drop_eq_getElem_cons (i:=i) (by omega),qH k n i (by omega),HM.out,show k - (i+1)=k - 1 - i by omega];rfl)
   have HV:=hid (show ((m:Int) % 256)=((UInt8.ofNat (m % 256)).toNat:Int) by rw [UInt8.toNat_ofNat'];omega);have HD:=hid (show (m:Int) / 256=((n / 256 ^ (k - i):Nat):Int) by rw [HM.out,show k - i=(k - (i+1))+1 by omega,Nat.pow_succ,← Nat.div_div_eq_div_mul];rfl);go_wp2_with fail;refine ⟨⟨i,by omega,by rw [HD.out],rfl,?_,HW.out.setCell (by simp) _⟩,?_⟩
   ·have:=xv HB.out i (UInt8.ofNat (m % 256));rw [HS.out,← HV.out] at this;exact this
   ·simp [intOf]
def aj (l:List UInt8):ByteArray:=⟨l.toArray⟩
theorem aR (l:List UInt8):bs (aj l)=l:=rfl
theorem eL (s:ByteArray):aj (bs s)=s:=rfl
theorem aw (l:List UInt8):(aj l).size=l.length:=rfl
theorem ix {a b:ByteArray} (h:bs a=bs b):a=b:=by rw [← eL a,← eL b,h]
theorem iy (s:ByteArray) (a b:Nat):bs (s.extract a b)=((bs s).drop a).take (b - a):=by unfold bs;rw [ByteArray.data_extract,Array.toList_extract,List.extract_eq_take_drop]
theorem fo (a b:ByteArray):bs (a ++ b)=bs a ++ bs b:=by unfold bs;rw [ByteArray.data_append,Array.toList_append]
theorem cV (s:ByteArray) (a b:Nat):s.extract a b=aj (((bs s).drop a).take (b - a)):=ix (by rw [iy,aR])
theorem jf (a b:ByteArray):a ++ b=aj (bs a ++ bs b):=ix (by rw [fo,aR])
def aT (l:List UInt8):List UInt8:=l.take 232 ++ List.replicate (232 - l.length) 0
theorem gT (l:List UInt8):(aT l).length=232:=by simp [aT];omega
theorem qE (s:ByteArray) (w:World):
  Calls Tryz.prog 39 #[.string s] w fun e w'=>e=.returned (.string (aj (aT (bs s))))∧Below w.heap.size w w':=by
 have hbs:=jS s;go_enter Tryz.func39,Tryz.ntmps39;by_cases h1:232≤s.size
 ·have h2:(232:Int)≤(s.size:Int):=by omega
  go_wp2_with fail;go_ret;refine ⟨?_,Below.refl _ _⟩;rw [cV,List.drop_zero,aT,show 232 - (bs s).length=0 by omega,List.replicate_zero,List.append_nil];rfl
 ·have h2:(s.size:Int)<232:=by omega
  obtain ⟨m,hm⟩:∃ m:Nat,m=232 - s.size:=⟨_,rfl⟩;have hmk:=qj w m (by omega);rw [show ((m:Nat):Int)=232 - (s.size:Int) by omega] at hmk;have HB0:=hid (af (w0:=w) (g:=w.heap.size) (o:=.cells ((List.replicate m (0:UInt8)).flatMap uC).toArray 5) rfl);have HW0:=hid (Below.alloc (Below.refl _ w) (Nat.le_refl _) (.cells ((List.replicate m (0:UInt8)).flatMap uC).toArray 5));generalize w.alloc (.cells ((List.replicate m (0:UInt8)).flatMap uC).toArray 5)=w1 at *;have hcv:=nU w1 w.heap.size m m (List.replicate m 0) (by simp) (jT HB0.out);have HM:=hid hm
  have HL:=hid (show s ++ { data:=Array.replicate m 0 }=aj (aT (bs s)) by
   rw [jf,aT,List.take_of_length_le (by omega),hbs,← hm];simp [bs])
  clear hm;have hlim:s.size+m=232:=by have:=HM.out;omega
  go_wp2_with fail;go_ret;rw [HL.out];exact ⟨rfl,HW0.out⟩
end Go.Proofs.YtdmhbgpejppbkaaGreat
