/- num.Fixed, num.Unfixed; the reference's. cahierref01.Fixed, cahierref04.Full; strings as lists of bytes. num.Var, num.Unvar; the reference's. num.Var, the reference's; reading what Var writes. -/
import Derived.Test.YtknioodagnjchaaGreatDoorRBa
import Derived.Laws.BytesArg
import Derived.Lib.ConvBytes
import Derived.WalkArith
import Derived.IntWalk
import Derived.Laws.BitsAllLaws
import Derived.Laws.OwnMore
set_option maxRecDepth 100000
namespace Go.Proofs.YtknioodagnjchaaGreatDoor
open Go.Lib (hid)
open Go.RowKit
def uC (b:UInt8):List Value:=[.int .u8 b.toNat]
theorem dW (b:UInt8):(uC b).length=1:=rfl
def bs (s:ByteArray):List UInt8:=s.data.toList
theorem ff (s:ByteArray):(bs s).length=s.size:=rfl
theorem nJ (w:World) (e:TypeId) (s:ByteArray):Below w.heap.size w (Lib.bytesWorld w e s):=
 ⟨rfl,rfl,rfl,by rw [Lib.bytesWorld_size];omega,fun k hk=>Lib.bytesWorld_at_old w e s k hk⟩
theorem kA (w:World) (s:ByteArray):∃ c w1,(convert 9 46 (.string s)).run Tryz.prog w=.ok (.slice (some ⟨w.heap.size,0,none⟩) s.size c) w1∧Below w.heap.size w w1∧w.heap.size<w1.heap.size∧
  ∀ j (hj:j<(bs s).length),w1.cell? ⟨w.heap.size,j,none⟩=some (.int .u8 (bs s)[j].toNat):=
 ⟨_,_,Lib.run_convert_string_bytes w 9 46 5 s Tryz.underlying9 Tryz.underlying46 Tryz.underlying5,nJ w _ s,by rw [Lib.bytesWorld_size];omega,fun j hj=>by
   rw [Lib.bytesWorld_cell w _ s j (by rw [← ff];exact hj)];unfold bs at hj ⊢;simp only [List.getD,List.getElem?_eq_getElem hj,Option.getD_some]⟩
def bM (l:List UInt8):Nat:=l.foldl (fun n b=>n * 256+b.toNat) 0
theorem gM (l:List UInt8) (b:UInt8):bM (l ++ [b])=bM l * 256+b.toNat:=by simp [bM]
theorem fH (l:List UInt8):bM l<256 ^ l.length:=by
 obtain ⟨m,rfl⟩:∃ m,l=m.reverse:=⟨l.reverse,by simp⟩
 induction m with
 | nil=>decide
 | cons b m ih=> rw [List.reverse_cons,gM,List.length_append,List.length_singleton,Nat.pow_succ];have:=b.toNat_lt;omega
theorem qw (l:List UInt8) (h:l.length≤8):bM l<18446744073709551616:=
 Nat.lt_of_lt_of_le (fH l) (Nat.le_trans (Nat.pow_le_pow_right (by omega) h) (by decide))
theorem qv {l:List UInt8} {b:UInt8} {n:Nat} (h:n=bM (l ++ [b])) (hl:l.length≤7):
  IntKind.u64.wrap (IntKind.u64.wrap ((bM l:Int) * 256)+IntKind.u64.wrap (b.toNat:Int))=(n:Int):=by
 have h1:bM (l ++ [b])<18446744073709551616:=qw _ (by simp;omega);rw [gM] at h1 h;have hb:=b.toNat_lt;rw [IntWalk.u64_in ((bM l:Int) * 256) (by omega),IntWalk.u64_in (b.toNat:Int) (by omega),IntWalk.u64_in _ (by omega),h];omega
theorem sV {l:List UInt8} {b:UInt8} {n:Nat} (h:n=bM (l ++ [b])) (hl:l.length≤7):
  bits .or .u64 (IntKind.u64.wrap ((bM l:Int) * 256)) (IntKind.u64.wrap (b.toNat:Int))=(n:Int):=by
 have h1:bM (l ++ [b])<18446744073709551616:=qw _ (by simp;omega);rw [gM] at h1 h;have hb:=b.toNat_lt;have h2:bM l * 256<18446744073709551616:=Nat.lt_of_le_of_lt (Nat.le_add_right _ _) h1;have h3:b.toNat<18446744073709551616:=Nat.lt_of_lt_of_le hb (by decide);have h4:bM l * 256 % 2 ^ 8=0:=Nat.mul_mod_left _ _;rw [IntWalk.u64_in ((bM l:Int) * 256) (by omega),IntWalk.u64_in (b.toNat:Int) (by omega),show (bM l:Int) * 256=((bM l * 256:Nat):Int) by omega,u64_or_nat _ _ h2 h3,nat_join 8 _ _ h4 hb,h]
theorem eW (s:ByteArray) (w:World) (h0:1≤s.size) (h8:s.size≤8):
  Calls Tryz.prog 150 #[.string s] w fun e w'=>e=.returned (.tuple #[.int .u64 (bM (bs s)),.int .i64 0])∧Below w.heap.size w w':=by
 obtain ⟨c,w1,hcv,hb,hlt,hcs⟩:=kA w s;have HB:=hid hb;have HCS:=hid hcs;have hbs:=ff s;clear hb hcs;go_enter Tryz.func150,Tryz.ntmps150;have h1:(1:Int)≤(s.size:Int):=by omega
 have h2:(s.size:Int)≤8:=by omega
 go_wp2_with fail;go_loop [4,18] (fun nv iv=>∃ k:Nat,k≤s.size∧iv=.int .i64 k∧nv=.int .u64 (bM ((bs s).take k))) (fun _ iv=>s.size - (intOf iv).toNat)
 case atStart=>exact ⟨0,Nat.zero_le _,rfl,rfl⟩
 case round=>
  obtain ⟨k,hk,rfl,rfl⟩:=hrel;by_cases hk2:k<s.size
  ·have e0:=HCS.out k (by omega);have HT:=hid (List.take_succ_eq_append_getElem (show k<(bs s).length by omega));have hk0:(0:Int)≤(k:Int):=by omega
   have hk1:(k:Int)<(s.size:Int):=by omega
   generalize (bs s)[k]=b at *;go_wp2_with fail;refine ⟨⟨k+1,by omega,rfl,by rw [qv (n:=bM ((bs s).take (k+1))) (by rw [HT.out]) (by rw [List.length_take];omega)]⟩,?_⟩;simp [intOf];omega
  ·have HT:=hid (show (bs s).take k=bs s from List.take_of_length_le (by omega));go_wp2_with fail;go_ret2;rw [HT.out];exact ⟨rfl,HB.out⟩
theorem lQ (s:ByteArray) (w:World) (h0:s.size<1∨8<s.size):
  Calls Tryz.prog 150 #[.string s] w fun e w'=>e=.returned (.tuple #[.int .u64 0,.int .i64 1])∧w=w':=by
 go_enter Tryz.func150,Tryz.ntmps150;by_cases h1:s.size<1
 ·have h2:(s.size:Int)<1:=by omega
  clear h0;go_wp2_with fail;go_ret2;exact ⟨rfl,rfl⟩
 ·have h2:(1:Int)≤(s.size:Int):=by omega
  have h3:(8:Int)<(s.size:Int):=by omega
  clear h0;go_wp2_with fail;go_ret2;exact ⟨rfl,rfl⟩
theorem ip (s:ByteArray) (w:World) (h0:1≤s.size) (h8:s.size≤8):
  Calls Tryz.prog 119 #[.string s] w fun e w'=>e=.returned (.tuple #[.int .u64 (bM (bs s)),.int .i64 0])∧w=w':=by
 have hbs:=ff s;go_enter Tryz.func119,Tryz.ntmps119;have h1:(1:Int)≤(s.size:Int):=by omega
 have h2:(s.size:Int)≤8:=by omega
 go_wp2_with fail;go_loop [4,5] (fun nv iv=>∃ k:Nat,k≤s.size∧iv=.int .i64 k∧nv=.int .u64 (bM ((bs s).take k))) (fun _ iv=>s.size - (intOf iv).toNat)
 case atStart=>exact ⟨0,Nat.zero_le _,rfl,rfl⟩
 case round=>
  obtain ⟨k,hk,rfl,rfl⟩:=hrel;by_cases hk2:k<s.size
  ·have HT:=hid (List.take_succ_eq_append_getElem (show k<(bs s).length by omega));have hk0:(0:Int)≤(k:Int):=by omega
   have hk1:(k:Int)<(s.size:Int):=by omega
   have HG:=hid (show s[k]=(bs s)[k] from rfl);go_wp2_with fail;refine ⟨⟨k+1,by omega,rfl,by rw [HG.out,sV (n:=bM ((bs s).take (k+1))) (by rw [HT.out];rfl) (by rw [List.length_take];omega)]⟩,?_⟩;simp [intOf];omega
  ·have HT:=hid (show (bs s).take k=bs s from List.take_of_length_le (by omega));go_wp2_with fail;go_ret2;rw [HT.out];exact ⟨rfl,rfl⟩
def aK:Nat→Nat→List UInt8
 | 0,_=>[]
 | k+1,n=>aK k (n / 256) ++ [UInt8.ofNat (n % 256)]
theorem ay:∀ k n,(aK k n).length=k
 | 0,_=>rfl
 | k+1,n=>by simp [aK,ay k]
theorem kt:∀ (k n i:Nat) (h:i<(aK k n).length),(aK k n)[i]=UInt8.ofNat (n / 256 ^ (k - 1 - i) % 256)
 | 0,_,_,h=>by simp [aK] at h
 | k+1,n,i,h=>by
   have hl:=ay (k+1) n;have hk:=ay k (n / 256);simp only [aK];rcases Nat.lt_or_ge i k with hi | hi
   ·rw [List.getElem_append_left (by omega),kt k (n / 256) i (by omega),Nat.div_div_eq_div_mul,show k+1 - 1 - i=(k - 1 - i)+1 by omega,Nat.pow_succ,Nat.mul_comm 256]
   ·rw [List.getElem_append_right (by omega)];have:i=k:=by omega
    subst this;simp
theorem ki (w:World) (n:Nat) (h:n≤1000000):(Instr.makeSlice 46 (.int .i64 n) (.int .i64 n)).run Tryz.prog w=.ok (.slice (some ⟨w.heap.size,0,none⟩) n n) (w.alloc (.cells ((List.replicate n (0:UInt8)).flatMap uC).toArray 5)):=by
 obtain ⟨i,hi,hz,hsz,hby⟩:∃ i,Tryz.prog.info? 5=some i∧i.zero=some (.int .u8 0)∧i.size=1∧i.bytes=1:=by
  have h:=(show (Tryz.prog.info? 5).map (fun i=>(i.zero,i.size,i.bytes))=some (some (.int .u8 0),1,1) by kernel_rfl);cases hi:Tryz.prog.info? 5 with
  | none=>rw [hi] at h;cases h
  | some i=> rw [hi] at h;simp only [Option.map_some,Option.some.injEq,Prod.mk.injEq] at h;exact ⟨i,rfl,h.1,h.2.1,h.2.2⟩
 have e:madeCells (Value.cells (.int .u8 0)) n=((List.replicate n (0:UInt8)).flatMap uC).toArray:=by
  rw [← Array.toList_inj,show Value.cells (.int .u8 0)=#[.int .u8 0] from rfl,toList_madeCells_one];clear h
  induction n with
  | zero=>rfl
  | succ n ih=> rw [List.replicate_succ,List.replicate_succ,List.flatMap_cons,ih];rfl
 rw [run_make w 46 5 i _ Tryz.underlying46 hi hz .i64 .i64 n n (by omega) (Int.le_refl _) (by rw [hby];omega) (by omega),hsz,Nat.mul_one,Int.toNat_natCast,e]
theorem ml (l:List UInt8):l.flatMap uC=l.map fun b=>Value.int .u8 b.toNat:=by
 induction l with
 | nil=>rfl
 | cons b l ih=>simp [uC,ih]
theorem gV (w:World) (g n c:Nat) (l:List UInt8) (hn:l.length=n) (hc:∀ j (hj:j<l.length),w.cell? ⟨g,j,none⟩=some (.int .u8 l[j].toNat)):
  (convert 46 9 (.slice (some ⟨g,0,none⟩) n c)).run Tryz.prog w=.ok (.string ⟨l.toArray⟩) w:=by
 subst hn;refine run_convert_bytes_back w 46 9 5 ⟨g,0,none⟩ c l Tryz.underlying46 Tryz.underlying5 Tryz.underlying9 (fun j hj=>?_);have:=hc j hj;rw [show (⟨g,0,none⟩:Addr).add j=⟨g,0+j,none⟩ from by unfold Addr.add;split <;> simp_all,Nat.zero_add];exact this
theorem gX {w:World} {g:Nat} {l:List UInt8} {fz:Nat × Nat} (h:w.heap[g]?=some (.cells (l.flatMap uC).toArray 5 fz)) (j:Nat) (hj:j<l.length):w.cell? ⟨g,j,none⟩=some (.int .u8 l[j].toNat):=by rw [ml] at h;simp [World.cell?,h,hj]
theorem rD {w:World} {g:Nat} {l:List UInt8} (h:w.heap[g]?=some (.cells (l.flatMap uC).toArray 5 (0,0))) (j:Nat) (b:UInt8):(w.setCell ⟨g,j,none⟩ (.int .u8 b.toNat)).heap[g]?=some (.cells ((l.set j b).flatMap uC).toArray 5 (0,0)):=by rw [ml] at h;simp only [World.setCell,Array.getElem?_modify,h,if_true,Option.map_some,ml];simp [List.map_set]
theorem gS (n:Nat) (k:Nat) (w:World) (_hn:n<18446744073709551616) (h1:1≤k) (h8:k≤8):
  Calls Tryz.prog 170 #[.int .u64 n,.int .i64 k] w fun e w'=>e=.returned (.string ⟨(aK k n).toArray⟩)∧Below w.heap.size w w':=by
 have hmk:=ki w k (by omega);have HB0:=hid (ag (w0:=w) (g:=w.heap.size) (o:=.cells ((List.replicate k (0:UInt8)).flatMap uC).toArray 5) rfl);have HL:=hid (ay k n);have HW0:=hid (Below.alloc (Below.refl _ w) (Nat.le_refl _) (.cells ((List.replicate k (0:UInt8)).flatMap uC).toArray 5));generalize w.alloc (.cells ((List.replicate k (0:UInt8)).flatMap uC).toArray 5)=w1 at *;go_enter Tryz.func170,Tryz.ntmps170;have h1:(1:Int)≤(k:Int):=by omega
 have h2:(k:Int)≤8:=by omega
 go_wp2_with fail;go_loopw [0,6] (fun nv iv wr=>∃ j:Nat,j≤k∧nv=.int .u64 ((n / 256 ^ (k - j):Nat):Int)∧iv=.int .i64 ((j:Int) - 1)∧wr.heap[w.heap.size]?=some (.cells ((List.replicate j 0 ++ (aK k n).drop j).flatMap uC).toArray 5 (0,0))∧Below w.heap.size w wr) (fun _ iv _=>(intOf iv+1).toNat)
 case atStart=>exact ⟨k,Nat.le_refl _,by simp,rfl,by rw [List.drop_of_length_le (by rw [HL.out];omega),List.append_nil];exact HB0.out,HW0.out⟩
 case round=>
  obtain ⟨j,hj,rfl,rfl,hb,hw⟩:=hrel;have HB:=hid hb;have HW:=hid hw;have hl:=aj hb;have hfz:=ab hb;clear hb hw;by_cases hj0:j=0
  ·subst hj0;have hcv:=gV wr w.heap.size k k (aK k n) HL.out (gX (by simpa using HB.out));clear hfz;go_wp2_with fail;go_ret;exact ⟨rfl,HW.out⟩
  ·obtain ⟨i,rfl⟩:∃ i,j=i+1:=⟨j - 1,by omega⟩;have c0:=gX HB.out i (by simp;omega);have f0:=hfz i;clear hfz;obtain ⟨m,hm⟩:∃ m,m=n / 256 ^ (k - (i+1)):=⟨_,rfl⟩;have HM:=hid hm;rw [← hm];clear hm;have HS:=hid (show (List.replicate (i+1) 0 ++ (aK k n).drop (i+1)).set i (UInt8.ofNat (m % 256))=List.replicate i 0 ++ (aK k n).drop i by
    have hl:=HL.out;rw [List.set_append_left _ _ (by simp),List.replicate_succ',List.set_append_right _ _ (by simp),List.length_replicate,Nat.sub_self,List.set_cons_zero,List.append_assoc,List.drop_eq_getElem_cons (i:=i) (by omega),kt k n i (by omega),HM.out,show k - (i+1)=k - 1 - i by omega];rfl)
   have HV:=hid (show ((m:Int) % 256)=((UInt8.ofNat (m % 256)).toNat:Int) by rw [UInt8.toNat_ofNat'];omega);have HD:=hid (show (m:Int) / 256=((n / 256 ^ (k - i):Nat):Int) by rw [HM.out,show k - i=(k - (i+1))+1 by omega,Nat.pow_succ,← Nat.div_div_eq_div_mul];rfl);go_wp2_with fail;refine ⟨⟨i,by omega,by rw [HD.out],rfl,?_,HW.out.setCell (by simp) _⟩,?_⟩
   ·have:=rD HB.out i (UInt8.ofNat (m % 256));rw [HS.out,← HV.out] at this;exact this
   ·simp [intOf]
def al (l:List UInt8):ByteArray:=⟨l.toArray⟩
theorem aW (l:List UInt8):bs (al l)=l:=rfl
theorem mb (s:ByteArray):al (bs s)=s:=rfl
theorem aq (l:List UInt8):(al l).size=l.length:=rfl
theorem mn {a b:ByteArray} (h:bs a=bs b):a=b:=by rw [← mb a,← mb b,h]
theorem ik (s:ByteArray) (a b:Nat):bs (s.extract a b)=((bs s).drop a).take (b - a):=by unfold bs;rw [ByteArray.data_extract,Array.toList_extract,List.extract_eq_take_drop]
theorem qj (a b:ByteArray):bs (a ++ b)=bs a ++ bs b:=by unfold bs;rw [ByteArray.data_append,Array.toList_append]
theorem cR (s:ByteArray) (a b:Nat):s.extract a b=al (((bs s).drop a).take (b - a)):=mn (by rw [ik,aW])
theorem bU (a b:ByteArray):a ++ b=al (bs a ++ bs b):=mn (by rw [qj,aW])
theorem sB (n i:Nat):(n:Int) / 2 ^ (8 * i) % 256=((UInt8.ofNat (n / 256 ^ i % 256)).toNat:Int):=by rw [UInt8.toNat_ofNat',Nat.mod_mod,show (256:Nat) ^ i=2 ^ (8 * i) from by rw [Nat.pow_mul]];simp
theorem p9 (k n j:Nat) (h:j<k):(aK k n).take (k - j)=(aK k n).take (k - (j+1)) ++ [UInt8.ofNat (n / 256 ^ j % 256)]:=by have hl:=ay k n;rw [show k - j=(k - (j+1))+1 by omega,List.take_succ_eq_append_getElem (by omega),kt];congr 6;omega
theorem o5:(Tryz.prog.info? 5).map (fun i=>(i.zero,i.size,i.bytes))=some (some (.int .u8 0),1,1):=by kernel_rfl
theorem t7 (x:UInt8) (u:Value) (hu:u ∈ uC x):u.oneCell'=true:=by rw [uC,List.mem_singleton] at hu;rw [hu];rfl
theorem tQ:ElemT Tryz.prog 46 5 uC 1 1:=ElemT.mk' (z:=.int .u8 0) Tryz.underlying46 o5 rfl (by decide) dW t7
theorem kz {base:Nat} {w:World} {g n c:Nat} {l:List UInt8} (h:Own uC 1 5 base w (.slice (some ⟨g,0,none⟩) n c) l):
  (convert 46 9 (.slice (some ⟨g,0,none⟩) n c)).run Tryz.prog w=.ok (.string (al l)) w:=by
 have hn:l.length=n:=by
  obtain ⟨A,c',he⟩:=Sl.len' (h.sl dW);injection he with h1 h2 h3
  exact h2.symm
 have hc:∀ j (hj:j<l.length),w.cell? ⟨g,j,none⟩=some (.int .u8 l[j].toNat):=fun j hj=>by
  obtain ⟨b,off,c2,he,-,hbl,hs⟩:=((h.sl dW).cases).resolve_left (fun ⟨_,_,_,h⟩=>by rw [h] at hj;simp at hj);injection he with e1 e2 e3
  injection e1 with e1
  injection e1 with e4 e5 e6
  subst e4 e5;have:=(hs.cells (k:=j) hj).2 0 _ rfl;simpa using this
 have h3:=gV w g n c l hn hc;exact h3
theorem eT (n:Nat) (k:Nat) (w:World) (_hn:n<18446744073709551616) (h1:1≤k) (h8:k≤8):
  Calls Tryz.prog 148 #[.int .u64 n,.int .i64 k] w fun e w'=>e=.returned (.string (al (aK k n)))∧Below w.heap.size w w':=by
 have HL:=hid (ay k n);go_enter Tryz.func148,Tryz.ntmps148;have h1:(1:Int)≤(k:Int):=by omega
 have h2:(k:Int)≤8:=by omega
 go_wp2_with fail;go_loopw [5,6] (fun bv iv wr=>∃ j:Nat,j≤k∧iv=.int .i64 ((j:Int) - 1)∧Own uC 1 5 w.heap.size wr bv ((aK k n).take (k - j))∧Below w.heap.size w wr) (fun _ iv _=>(intOf iv+1).toNat)
 case atStart=>exact ⟨k,Nat.le_refl _,rfl,by rw [Nat.sub_self];exact World.ownsRow_lit w #[] 0 (Nat.le_refl _) (by simp [maxLen]) (by simp),(Below.refl _ _).alloc (Nat.le_refl _) _⟩
 case round=>
  obtain ⟨j,hj,rfl,ho,hw⟩:=hrel;have HO:=hid ho;have HW:=hid hw;clear ho hw;obtain ⟨A,c,hv⟩:=Sl.len' (HO.out.sl dW);subst hv;by_cases hj0:j=0
  ·subst hj0;have hg:∃ g,A=some ⟨g,0,none⟩:=by
    rcases HO.out.2 with ⟨hv,h0⟩ | ⟨g,cap,cur,hv,_⟩
    ·have:=HL.out;rw [List.length_take] at h0;omega
    ·injection hv with hv;exact ⟨g,hv⟩
   obtain ⟨g,rfl⟩:=hg;have hcv:=kz HO.out;rw [Nat.sub_zero,List.take_of_length_le (by rw [HL.out];omega)] at hcv;rw [Nat.sub_zero,List.take_of_length_le (by rw [HL.out];omega)];go_wp2_with fail;go_ret;exact ⟨rfl,HW.out⟩
  ·obtain ⟨i,rfl⟩:∃ i,j=i+1:=⟨j - 1,by omega⟩;have h3:(0:Int)≤8 * (i:Int):=by omega
   have h4:(i:Int)<8:=by omega
   go_wp2_with (at_builtin;refine Hid.out ?_);refine hid ?_;refine am rfl rfl tQ rfl rfl (HO.out.alloc _) (Sl.one (UInt8.ofNat (n / 256 ^ i % 256)) (by simp) dW (by rw [sB];rfl)) (by have:=HL.out;simp [maxLen];omega) (by have:=HL.out;simp;omega) (by have:=HW.out.size;simp;omega) ?_;intro v' w6 ho hg hat;have HO6:=hid ho;have HB6:=hid (ef (HW.out.alloc HW.out.size _) hg (by have:=HW.out.size;simp;omega) (fun k hk=>(HO.out.lt k hk).1));clear ho hg hat;go_wp2_with fail;refine ⟨⟨i,by omega,by simp,by rw [p9 k n i (by omega)];exact HO6.out,HB6.out⟩,?_⟩;simp [intOf]
def aD (l:List UInt8):List UInt8:=l.take 232 ++ List.replicate (232 - l.length) 0
theorem cY (l:List UInt8):(aD l).length=232:=by simp [aD];omega
theorem gD (s:ByteArray) (w:World):
  Calls Tryz.prog 20 #[.string s] w fun e w'=>e=.returned (.string (al (aD (bs s))))∧Below w.heap.size w w':=by
 have hbs:=ff s;go_enter Tryz.func20,Tryz.ntmps20;by_cases h1:232≤s.size
 ·have h2:(232:Int)≤(s.size:Int):=by omega
  go_wp2_with fail;go_ret;refine ⟨?_,Below.refl _ _⟩;rw [cR,List.drop_zero,aD,show 232 - (bs s).length=0 by omega,List.replicate_zero,List.append_nil];rfl
 ·have h2:(s.size:Int)<232:=by omega
  obtain ⟨m,hm⟩:∃ m:Nat,m=232 - s.size:=⟨_,rfl⟩;have hmk:=ki w m (by omega);rw [show ((m:Nat):Int)=232 - (s.size:Int) by omega] at hmk;have HB0:=hid (ag (w0:=w) (g:=w.heap.size) (o:=.cells ((List.replicate m (0:UInt8)).flatMap uC).toArray 5) rfl);have HW0:=hid (Below.alloc (Below.refl _ w) (Nat.le_refl _) (.cells ((List.replicate m (0:UInt8)).flatMap uC).toArray 5));generalize w.alloc (.cells ((List.replicate m (0:UInt8)).flatMap uC).toArray 5)=w1 at *;have hcv:=gV w1 w.heap.size m m (List.replicate m 0) (by simp) (gX HB0.out);have HM:=hid hm
  have HL:=hid (show s ++ { data:=Array.replicate m 0 }=al (aD (bs s)) by
   rw [bU,aD,List.take_of_length_le (by omega),hbs,← hm];simp [bs])
  clear hm;have hlim:s.size+m=232:=by have:=HM.out;omega
  go_wp2_with fail;go_ret;rw [HL.out];exact ⟨rfl,HW0.out⟩
def fG:Nat→Nat→List UInt8→Nat × Nat × Int
 | _,_,[]=>(0,0,3)
 | i,n,b :: r=>if (i=9∧1<b.toNat)∨(0<i∧b.toNat=0) then (0,0,4) else if b.toNat<128 then (n+b.toNat * 128 ^ i,i+1,0) else fG (i+1) (n+(b.toNat - 128) * 128 ^ i) r
def fU (l:List UInt8):Nat × Nat × Int:=fG 0 0 l
def tX (x:Nat × Nat × Int):Value:=.tuple #[.int .u64 x.1,.int .i64 x.2.1,.int .i64 x.2.2]
theorem tZ (i:Nat):(2:Int) ^ (7 * i)=((128 ^ i:Nat):Int):=by rw [show (128:Nat) ^ i=2 ^ (7 * i) from by rw [Nat.pow_mul]];simp
theorem ln {i j:Nat} (h:i≤j):128 ^ i≤128 ^ j:=Nat.pow_le_pow_right (by decide) h
theorem oE {i n b m:Nat} (hi:i≤9) (hn:n<128 ^ i) (hb:b<128) (h9:i=9→b≤1) (hm:m=n+b * 128 ^ i):
  bits .or .u64 (n:Int) (IntKind.u64.wrap ((b:Int) * 2 ^ (7 * i)))=(m:Int)∧m<128 ^ (i+1):=by
 have h1:b * 128 ^ i<18446744073709551616:=by
  by_cases hh:i=9
  ·subst hh;refine Nat.lt_of_le_of_lt (Nat.mul_le_mul_right _ (h9 rfl)) (by decide)
  ·refine Nat.lt_of_lt_of_le (Nat.mul_lt_mul_of_pos_right hb (Nat.pow_pos (by decide))) ?_;rw [← Nat.pow_succ'];exact Nat.le_trans (ln (show i+1≤9 by omega)) (by decide)
 have h2:n<18446744073709551616:=Nat.lt_of_lt_of_le hn (Nat.le_trans (ln hi) (by decide));have h3:(b * 128 ^ i) % 2 ^ (7 * i)=0:=by rw [show (2:Nat) ^ (7 * i)=128 ^ i from by rw [Nat.pow_mul]];exact Nat.mul_mod_left _ _
 have h4:n<2 ^ (7 * i):=by rw [show (2:Nat) ^ (7 * i)=128 ^ i from by rw [Nat.pow_mul]];exact hn
 refine ⟨?_,?_⟩
 ·rw [tZ,show (b:Int) * ((128 ^ i:Nat):Int)=((b * 128 ^ i:Nat):Int) by simp,IntWalk.u64_in _ ⟨by omega,by omega⟩,u64_or_nat _ _ h2 h1,Nat.or_comm,nat_join (7 * i) _ _ h3 h4,hm,Nat.add_comm]
 ·rw [hm,Nat.pow_succ,Nat.mul_comm (128 ^ i)];have:=Nat.mul_le_mul_right (128 ^ i) (show b≤127 by omega);omega
theorem f9 (k n:Nat):fG k n []=(0,0,3):=rfl
theorem ge {k n:Nat} {b:UInt8} {r:List UInt8} (h:(k=9∧1<b.toNat)∨(0<k∧b.toNat=0)):fG k n (b :: r)=(0,0,4):=by rw [fG,if_pos h]
theorem eL {k n:Nat} {b:UInt8} {r:List UInt8} (h:¬ ((k=9∧1<b.toNat)∨(0<k∧b.toNat=0))) (h2:b.toNat<128):fG k n (b :: r)=(n+b.toNat * 128 ^ k,k+1,0):=by rw [fG,if_neg h,if_pos h2]
theorem gL {k n:Nat} {b:UInt8} {r:List UInt8} (h:¬ ((k=9∧1<b.toNat)∨(0<k∧b.toNat=0))) (h2:¬ b.toNat<128):fG k n (b :: r)=fG (k+1) (n+(b.toNat - 128) * 128 ^ k) r:=by rw [fG,if_neg h,if_neg h2]
theorem mt {k b:Nat} (h:¬ ((k=9∧1<b)∨(0<k∧b=0))):
  ((((k:Int) == 9)=false)∨(((k:Int) == 9)=true∧decide ((1:Int)<(b:Int))=false))∧((decide (0<k)=false)∨(decide (0<k)=true∧((b:Int) == 0)=false)):=by
 simp only [beq_eq_false_iff_ne,beq_iff_eq,decide_eq_false_iff_not,decide_eq_true_eq,ne_eq];omega
theorem io {k b:Nat} (h:(k=9∧1<b)∨(0<k∧b=0)):
  (((k:Int) == 9)=true∧decide ((1:Int)<(b:Int))=true)∨(((((k:Int) == 9)=false)∨(((k:Int) == 9)=true∧decide ((1:Int)<(b:Int))=false))∧decide (0<k)=true∧((b:Int) == 0)=true):=by
 simp only [beq_eq_false_iff_ne,beq_iff_eq,decide_eq_false_iff_not,decide_eq_true_eq,ne_eq];omega
theorem po (s:ByteArray) (w:World):
  Calls Tryz.prog 184 #[.string s] w fun e w'=>e=.returned (tX (fU (bs s)))∧Below w.heap.size w w':=by
 obtain ⟨c,w1,hcv,hb,hlt,hcs⟩:=kA w s;have HB:=hid hb;have HCS:=hid hcs;have hbs:=ff s;clear hb hcs;go_enter Tryz.func184,Tryz.ntmps184;go_wp2_with fail;go_loop [5,11] (fun nv iv=>∃ k n:Nat,k≤s.size∧k≤10∧iv=.int .i64 k∧nv=.int .u64 n∧n<128 ^ k∧fU (bs s)=fG k n ((bs s).drop k)∧(k=10→False)) (fun _ iv=>s.size - (intOf iv).toNat)
 case atStart=>exact ⟨0,0,Nat.zero_le _,by omega,rfl,rfl,by simp,by rw [List.drop_zero];rfl,by omega⟩
 case round=>
  obtain ⟨k,n,hk,hk10,rfl,rfl,hn,hu,h10⟩:=hrel;have HU:=hid hu;have HN:=hid hn;have hk9:k≤9:=by rcases Nat.lt_or_ge k 10 with h | h;omega;exact (h10 (by omega)).elim
  clear hu hn h10 hk10;by_cases hk2:k<s.size
  ·have e0:=HCS.out k (by omega);have HD:=hid (List.drop_eq_getElem_cons (show k<(bs s).length by omega));have hk0:(0:Int)≤(k:Int):=by omega
   have hk1:(k:Int)<(s.size:Int):=by omega
   have hk7:(k:Int)≤9:=by omega
   generalize (bs s)[k]=b at *;have hb0:=b.toNat_lt;by_cases hf:(k=9∧1<b.toNat)∨(0<k∧b.toNat=0)
   ·have HR:=hid (show fU (bs s)=(0,0,4) by rw [HU.out,HD.out,ge hf]);have ht:=io hf;clear hf;rcases ht with ⟨g1,g2⟩ | ⟨g1 | ⟨g1,g2⟩,g3,g4⟩
    all_goals
     go_wp2_with fail;go_ret3;rw [HR.out];exact ⟨rfl,HB.out⟩
   ·have ht:=mt hf;by_cases hb:b.toNat<128
    ·have HR:=hid (show fU (bs s)=(n+b.toNat * 128 ^ k,k+1,0) by rw [HU.out,HD.out,eL hf hb]);have HUV:=hid (oE (i:=k) (n:=n) (b:=b.toNat) (by omega) HN.out hb (by omega) rfl);clear hf;have hbb:(b.toNat:Int)<128:=by omega
     obtain ⟨h1,h2⟩:=ht;rcases h1 with g1 | ⟨g1,g2⟩ <;> rcases h2 with g3 | ⟨g3,g4⟩
     all_goals
      go_wp2_with fail;go_ret3;rw [HR.out,HUV.out.1];exact ⟨rfl,HB.out⟩
    ·have HR:=hid (show fU (bs s)=fG (k+1) (n+(b.toNat - 128) * 128 ^ k) ((bs s).drop (k+1)) by rw [HU.out,HD.out,gL hf hb]);have hne:k≠9:=by omega
     have HUV:=hid (oE (i:=k) (n:=n) (b:=b.toNat - 128) (by omega) HN.out (by omega) (by omega) rfl);clear hf;have hbb:(128:Int)≤(b.toNat:Int):=by omega
     have hsub:((b.toNat:Int) - 128)=((b.toNat - 128:Nat):Int):=by omega
     obtain ⟨h1,h2⟩:=ht;rcases h1 with g1 | ⟨g1,g2⟩ <;> rcases h2 with g3 | ⟨g3,g4⟩
     all_goals
      go_wp2_with fail;refine ⟨⟨k+1,_,by omega,by omega,rfl,by rw [HUV.out.1],HUV.out.2,HR.out,by omega⟩,?_⟩;simp [intOf];omega
  ·have HR:=hid (show fU (bs s)=(0,0,3) by rw [HU.out,List.drop_of_length_le (by omega),f9]);go_wp2_with fail;go_ret3;rw [HR.out];exact ⟨rfl,HB.out⟩
theorem nR (s:ByteArray) (w:World):
  Calls Tryz.prog 163 #[.string s] w fun e w'=>e=.returned (tX (fU (bs s)))∧w=w':=by
 have hbs:=ff s;go_enter Tryz.func163,Tryz.ntmps163;go_wp2_with fail;go_loop [5,6] (fun nv iv=>∃ k n:Nat,k≤s.size∧k≤10∧iv=.int .i64 k∧nv=.int .u64 n∧n<128 ^ k∧fU (bs s)=fG k n ((bs s).drop k)∧(k=10→False)) (fun _ iv=>s.size - (intOf iv).toNat)
 case atStart=>exact ⟨0,0,Nat.zero_le _,by omega,rfl,rfl,by simp,by rw [List.drop_zero];rfl,by omega⟩
 case round=>
  obtain ⟨k,n,hk,hk10,rfl,rfl,hn,hu,h10⟩:=hrel;have HU:=hid hu;have HN:=hid hn;have hk9:k≤9:=by rcases Nat.lt_or_ge k 10 with h | h;omega;exact (h10 (by omega)).elim
  clear hu hn h10 hk10;by_cases hk2:k<s.size
  ·have HD:=hid (List.drop_eq_getElem_cons (show k<(bs s).length by omega));have hk0:(0:Int)≤(k:Int):=by omega
   have hk1:(k:Int)<(s.size:Int):=by omega
   have hk7:(k:Int)≤9:=by omega
   have hsk:s[k]=(bs s)[k]:=rfl;generalize (bs s)[k]=b at *;have hb0:=b.toNat_lt;have hwr:IntKind.u64.wrap (b.toNat:Int)=(b.toNat:Int):=IntWalk.u64_in _ (by omega);by_cases hf:(k=9∧1<b.toNat)∨(0<k∧b.toNat=0)
   ·have HR:=hid (show fU (bs s)=(0,0,4) by rw [HU.out,HD.out,ge hf]);have ht:=io hf;clear hf;rcases ht with ⟨g1,g2⟩ | ⟨g1 | ⟨g1,g2⟩,g3,g4⟩
    all_goals
     go_wp2_with fail;go_ret3;rw [HR.out];exact ⟨rfl,rfl⟩
   ·have ht:=mt hf;by_cases hb:b.toNat<128
    ·have HR:=hid (show fU (bs s)=(n+b.toNat * 128 ^ k,k+1,0) by rw [HU.out,HD.out,eL hf hb]);have HUV:=hid (oE (i:=k) (n:=n) (b:=b.toNat) (by omega) HN.out hb (by omega) rfl);clear hf;have hbb:(b.toNat:Int)<128:=by omega
     have hmd:(b.toNat:Int) % 128=(b.toNat:Int):=by omega
     obtain ⟨h1,h2⟩:=ht;rcases h1 with g1 | ⟨g1,g2⟩ <;> rcases h2 with g3 | ⟨g3,g4⟩
     all_goals
      go_wp2_with fail;go_ret3;rw [HR.out,HUV.out.1];exact ⟨rfl,rfl⟩
    ·have HR:=hid (show fU (bs s)=fG (k+1) (n+(b.toNat - 128) * 128 ^ k) ((bs s).drop (k+1)) by rw [HU.out,HD.out,gL hf hb]);have hne:k≠9:=by omega
     have HUV:=hid (oE (i:=k) (n:=n) (b:=b.toNat - 128) (by omega) HN.out (by omega) (by omega) rfl);clear hf;have hbb:(128:Int)≤(b.toNat:Int):=by omega
     have hmd:(b.toNat:Int) % 128=((b.toNat - 128:Nat):Int):=by omega
     obtain ⟨h1,h2⟩:=ht;rcases h1 with g1 | ⟨g1,g2⟩ <;> rcases h2 with g3 | ⟨g3,g4⟩
     all_goals
      go_wp2_with fail;refine ⟨⟨k+1,_,by omega,by omega,rfl,by rw [HUV.out.1],HUV.out.2,HR.out,by omega⟩,?_⟩;simp [intOf];omega
  ·have HR:=hid (show fU (bs s)=(0,0,3) by rw [HU.out,List.drop_of_length_le (by omega),f9]);go_wp2_with fail;go_ret3;rw [HR.out];exact ⟨rfl,rfl⟩
def bh (n:Nat):List UInt8:=if n<128 then [UInt8.ofNat n] else [UInt8.ofNat (n % 128+128),UInt8.ofNat (n / 128)]
theorem cJ (n:Nat):(bh n).length=if n<128 then 1 else 2:=by unfold bh;split <;> rfl
theorem tL (m:Nat):bits .or .u8 ((m:Int) % 256) 128=((UInt8.ofNat (m % 128+128)).toNat:Int):=by
 have h:∀ x,x<256→x ||| 128=x % 128+128:=by decide
 rw [show (m:Int) % 256=((m % 256:Nat):Int) by omega,show (128:Int)=((128:Nat):Int) from rfl,u8_or_nat _ _ (by omega) (by omega),h _ (by omega),UInt8.toNat_ofNat'];congr 1;omega
theorem kf (m:Nat) (h:m<256):[Value.int .u8 (m:Int)]=uC (UInt8.ofNat m):=by show _=[Value.int .u8 ((UInt8.ofNat m).toNat:Int)];rw [UInt8.toNat_ofNat',Nat.mod_eq_of_lt h]
theorem jz (n:Nat) (w:World) (hn:n<16384):
  Calls Tryz.prog 201 #[.int .u64 n] w fun e w'=>e=.returned (.string (al (bh n)))∧Below w.heap.size w w':=by
 go_enter Tryz.func201,Tryz.ntmps201;go_wp2_with fail;go_loopw [0,3] (fun nv bv wr=>∃ (m:Nat) (l:List UInt8),nv=.int .u64 m∧m≤n∧l.length≤1∧(m<128∨l=[])∧bh n=l ++ bh m∧Own uC 1 5 w.heap.size wr bv l∧Below w.heap.size w wr) (fun nv _ _=>(intOf nv).toNat)
 case atStart=>exact ⟨n,[],rfl,Nat.le_refl _,by simp,.inr rfl,rfl,Own.nil,Below.refl _ _⟩
 case round=>
  obtain ⟨m,l,rfl,hm,hl,hlm,hv,ho,hb⟩:=hrel;have HV:=hid hv;have HO:=hid ho;have HB:=hid hb;have HM:=hid hlm;obtain ⟨A,c,hvv⟩:=Sl.len' (ho.sl dW);subst hvv;clear hv ho hb hlm;by_cases hlt:m<128
  ·have h1:(m:Int)<128:=by omega
   go_wp2_with (at_builtin;refine Hid.out ?_);refine hid ?_;refine am rfl rfl tQ rfl rfl (HO.out.alloc _) (Sl.one (UInt8.ofNat m) (by simp) dW (kf m (by omega))) (by simp [maxLen];omega) (by simp;omega) (by have:=HB.out.size;simp;omega) ?_;intro v' w6 ho hg hat;have HO6:=hid ho;have HB6:=hid (ef (HB.out.alloc HB.out.size _) hg (by have:=HB.out.size;simp;omega) (fun k hk=>(HO.out.lt k hk).1));clear ho hg hat;obtain ⟨A6,c6,hv6⟩:=Sl.len' (HO6.out.sl dW);simp only [List.length_append,List.length_cons,List.length_nil,Nat.zero_add] at hv6;have hg:∃ g,A6=some ⟨g,0,none⟩:=by
    rcases HO6.out.2 with ⟨hv,h0⟩ | ⟨g,cap,cur,hv,_⟩
    ·simp at h0
    ·rw [hv] at hv6;injection hv6 with hv6;exact ⟨g,hv6.symm⟩
   obtain ⟨g,rfl⟩:=hg;subst hv6;have hcv:=kz HO6.out;have HR:=hid (show bh n=l ++ [UInt8.ofNat m] by rw [HV.out,show bh m=[UInt8.ofNat m] from if_pos hlt]);go_wp2_with fail;go_ret;rw [HR.out];exact ⟨rfl,HB6.out⟩
  ·have h1:(128:Int)≤(m:Int):=by omega
   have hl0:l=[]:=by rcases HM.out with h | h;exact absurd h hlt;exact h
   subst hl0;go_wp2_with (at_builtin;refine Hid.out ?_);refine hid ?_;refine am rfl rfl tQ rfl rfl (HO.out.alloc _) (Sl.one (UInt8.ofNat (m % 128+128)) (by simp) dW (by rw [tL];rfl)) (by simp [maxLen]) (by simp) (by have:=HB.out.size;simp;omega) ?_;intro v' w6 ho hg hat;have HO6:=hid ho;have HB6:=hid (ef (HB.out.alloc HB.out.size _) hg (by have:=HB.out.size;simp;omega) (fun k hk=>(HO.out.lt k hk).1));clear ho hg hat;go_wp2_with fail;refine ⟨⟨m / 128,_,rfl,by omega,by simp,.inl (by omega),?_,HO6.out,HB6.out⟩,?_⟩
   ·rw [HV.out,show bh m=[UInt8.ofNat (m % 128+128),UInt8.ofNat (m / 128)] from if_neg hlt,show bh (m / 128)=[UInt8.ofNat (m / 128)] from if_pos (by omega)];rfl
   ·simp [intOf];omega
theorem jL (n:Nat) (w:World) (hn:n<16384):
  Calls Tryz.prog 199 #[.int .u64 n] w fun e w'=>e=.returned (.string (al (bh n)))∧Below w.heap.size w w':=by
 go_enter Tryz.func199,Tryz.ntmps199;go_wp2_with fail;go_loopw [0,3] (fun nv bv wr=>∃ (m:Nat) (l:List UInt8),nv=.int .u64 m∧m≤n∧l.length≤1∧(m<128∨l=[])∧bh n=l ++ bh m∧Own uC 1 5 w.heap.size wr bv l∧Below w.heap.size w wr) (fun nv _ _=>(intOf nv).toNat)
 case atStart=>exact ⟨n,[],rfl,Nat.le_refl _,by simp,.inr rfl,rfl,World.ownsRow_lit w #[] 0 (Nat.le_refl _) (by simp [maxLen]) (by simp),(Below.refl _ _).alloc (Nat.le_refl _) _⟩
 case round=>
  obtain ⟨m,l,rfl,hm,hl,hlm,hv,ho,hb⟩:=hrel;have HV:=hid hv;have HO:=hid ho;have HB:=hid hb;have HM:=hid hlm;obtain ⟨A,c,hvv⟩:=Sl.len' (ho.sl dW);subst hvv;clear hv ho hb hlm;by_cases hlt:m<128
  ·have h1:(m:Int)≤127:=by omega
   go_wp2_with (at_builtin;refine Hid.out ?_);refine hid ?_;refine am rfl rfl tQ rfl rfl (HO.out.alloc _) (Sl.one (UInt8.ofNat m) (by simp) dW (kf m (by omega))) (by simp [maxLen];omega) (by simp;omega) (by have:=HB.out.size;simp;omega) ?_;intro v' w6 ho hg hat;have HO6:=hid ho;have HB6:=hid (ef (HB.out.alloc HB.out.size _) hg (by have:=HB.out.size;simp;omega) (fun k hk=>(HO.out.lt k hk).1));clear ho hg hat;obtain ⟨A6,c6,hv6⟩:=Sl.len' (HO6.out.sl dW);simp only [List.length_append,List.length_cons,List.length_nil,Nat.zero_add] at hv6;have hg:∃ g,A6=some ⟨g,0,none⟩:=by
    rcases HO6.out.2 with ⟨hv,h0⟩ | ⟨g,cap,cur,hv,_⟩
    ·simp at h0
    ·rw [hv] at hv6;injection hv6 with hv6;exact ⟨g,hv6.symm⟩
   obtain ⟨g,rfl⟩:=hg;subst hv6;have hcv:=kz HO6.out;have HR:=hid (show bh n=l ++ [UInt8.ofNat m] by rw [HV.out,show bh m=[UInt8.ofNat m] from if_pos hlt]);go_wp2_with fail;go_ret;rw [HR.out];exact ⟨rfl,HB6.out⟩
  ·have h1:(127:Int)<(m:Int):=by omega
   have hl0:l=[]:=by rcases HM.out with h | h;exact absurd h hlt;exact h
   subst hl0;go_wp2_with (at_builtin;refine Hid.out ?_);refine hid ?_;refine am rfl rfl tQ rfl rfl (HO.out.alloc _) (Sl.one (UInt8.ofNat (m % 128+128)) (by simp) dW (by rw [show UInt8.ofNat (m % 128+128)=UInt8.ofNat (m % 128+128) from rfl,← kf _ (by omega)];simp)) (by simp [maxLen]) (by simp) (by have:=HB.out.size;simp;omega) ?_;intro v' w6 ho hg hat;have HO6:=hid ho;have HB6:=hid (ef (HB.out.alloc HB.out.size _) hg (by have:=HB.out.size;simp;omega) (fun k hk=>(HO.out.lt k hk).1));clear ho hg hat;go_wp2_with fail;refine ⟨⟨m / 128,_,by simp,by omega,by simp,.inl (by omega),?_,HO6.out,HB6.out⟩,?_⟩
   ·rw [HV.out,show bh m=[UInt8.ofNat (m % 128+128),UInt8.ofNat (m / 128)] from if_neg hlt,show bh (m / 128)=[UInt8.ofNat (m / 128)] from if_pos (by omega)];rfl
   ·simp [intOf];omega
theorem cA {m:Nat} (h:m<256):(UInt8.ofNat m).toNat=m:=by rw [UInt8.toNat_ofNat',Nat.mod_eq_of_lt h]
theorem sS {n:Nat} (hn:n<16384) (r:List UInt8):fU (bh n ++ r)=(n,(bh n).length,0):=by
 unfold fU;rw [cJ];by_cases h:n<128
 ·rw [show bh n=[UInt8.ofNat n] from if_pos h,if_pos h,List.cons_append,eL (by omega) (by rw [cA (by omega)];exact h),cA (by omega)];simp
 ·rw [show bh n=[UInt8.ofNat (n % 128+128),UInt8.ofNat (n / 128)] from if_neg h,if_neg h,List.cons_append,gL (by omega) (by rw [cA (by omega)];omega),List.cons_append,
   eL (by rw [cA (by omega)];omega) (by rw [cA (by omega)];omega),cA (by omega),cA (by omega)]
  simp;omega
theorem fg:∀ (k n:Nat),n<256 ^ k→bM (aK k n)=n
 | 0,n,h=>by simp at h;subst h;rfl
 | k+1,n,h=>by
   rw [aK,gM,fg k (n / 256) (by rw [Nat.div_lt_iff_lt_mul (by decide)];rw [Nat.pow_succ] at h;exact h),cA (by omega)];omega
end Go.Proofs.YtknioodagnjchaaGreatDoor
