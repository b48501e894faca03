/- num.Var, num.Unvar; the reference's. num.Var, the reference's; reading what Var writes. spare.Encode: trunks as pages. spare.Decode: the trunk of a page. A shelf's book: numbers to pages. spare.trunk, spare.lay over a shelf's book. -/
import Derived.Test.YtknioodagnjchaaGreatDoorBGa
import Derived.Test.YtknioodagnjchaaGreatDoorBShelf
import Derived.Deep.Cut
import Derived.Deep.RegionHeld3
import Derived.Maps.OwnOps
import Derived.Maps.Views
import Derived.Maps.OwnSet
set_option maxRecDepth 100000
set_option maxHeartbeats 1000000
namespace Go.Proofs.YtknioodagnjchaaGreatDoor
open UInt8 renaming ofNat->Bt,toNat_ofNat'->BJ
open List renaming length_append->Bv,getElem?_cons_zero->Bw,getElem?_toArray->Bz,length_cons->BA,getElem?_cons_succ->BD,take_succ_eq_append_getElem->BE,cons_append->BG,length_take->BH,replicate->BK,drop_eq_getElem_cons->BL,drop_of_length_le->BN,findIdx_lt_length->BO,take_of_length_le->BP,length_nil->BS,flatMap_cons->BY,drop_zero->Cc
open Go.Proofs.Tryz renaming prog->Bx,results140->BT
open Nat renaming lt_of_lt_of_le->BB,le_refl->BC,le_succ->BI,zero_le->BM,pow_le_pow_right->BU,mul_le_mul_right->BV,le_trans->BW,zero_add->BX,mod_eq_of_lt->Ca,pow_mul->Cb
open Go renaming World->BF,Value->BQ,Calls->BR,bodyPost_ret->BZ,maxLen->Cd
open Go.Lib renaming hid->Z
open Go.RowKit
def ik:Nat->Nat->List UInt8->Nat × Nat × Int
 | _,_,[]=>(0,0,3)
 | i,n,b :: r=>if (i=9/\1<b.toNat)\/(0<i/\b.toNat=0) then (0,0,4) else if b.toNat<128 then (n+b.toNat * 128 ^ i,i+1,0) else ik (i+1) (n+(b.toNat - 128) * 128 ^ i) r
def iE (l:List UInt8):Nat × Nat × Int:=ik 0 0 l
def zu (x:Nat × Nat × Int):BQ:=.tuple #[.int .u64 x.1,.int .i64 x.2.1,.int .i64 x.2.2]
theorem zx (i:Nat):(2:Int) ^ (7 * i)=((128 ^ i:Nat):Int):=by rw [show (128:Nat) ^ i=2 ^ (7 * i) from by rw [Cb]];simp
theorem ox {i j:Nat} (h:i<=j):128 ^ i<=128 ^ j:=BU (by decide) h
theorem sW {i n b m:Nat} (hi:i<=9) (hn:n<128 ^ i) (hb:b<128) (h9:i=9->b<=1) (hm:m=n+b * 128 ^ i):
  bits .or .u64 (n:Int) (IntKind.u64.wrap ((b:Int) * 2 ^ (7 * i)))=(m:Int)/\m<128 ^ (i+1):=by
 have h1:b * 128 ^ i<18446744073709551616:=by
  by_cases hh:i=9
  ·subst hh;refine Nat.lt_of_le_of_lt (BV _ (h9 rfl)) (by decide)
  ·refine BB (Nat.mul_lt_mul_of_pos_right hb (Nat.pow_pos (by decide))) ?_;rw [<- Nat.pow_succ'];exact BW (ox (show i+1<=9 by omega)) (by decide)
 have h2:n<18446744073709551616:=BB hn (BW (ox hi) (by decide));have h3:(b * 128 ^ i) % 2 ^ (7 * i)=0:=by rw [show (2:Nat) ^ (7 * i)=128 ^ i from by rw [Cb]];exact Nat.mul_mod_left _ _
 have h4:n<2 ^ (7 * i):=by rw [show (2:Nat) ^ (7 * i)=128 ^ i from by rw [Cb]];exact hn
 refine ⟨?_,?_⟩
 ·rw [zx,show (b:Int) * ((128 ^ i:Nat):Int)=((b * 128 ^ i:Nat):Int) by simp,IntWalk.u64_in _ ⟨by omega,by omega⟩,u64_or_nat _ _ h2 h1,Nat.or_comm,nat_join (7 * i) _ _ h3 h4,hm,Nat.add_comm]
 ·rw [hm,Nat.pow_succ,Nat.mul_comm (128 ^ i)];have:=BV (128 ^ i) (show b<=127 by omega);omega
theorem iM (k n:Nat):ik k n []=(0,0,3):=rfl
theorem iN {k n:Nat} {b:UInt8} {r:List UInt8} (h:(k=9/\1<b.toNat)\/(0<k/\b.toNat=0)):ik k n (b :: r)=(0,0,4):=by rw [ik,if_pos h]
theorem gi {k n:Nat} {b:UInt8} {r:List UInt8} (h:¬ ((k=9/\1<b.toNat)\/(0<k/\b.toNat=0))) (h2:b.toNat<128):ik k n (b :: r)=(n+b.toNat * 128 ^ k,k+1,0):=by rw [ik,if_neg h,if_pos h2]
theorem jo {k n:Nat} {b:UInt8} {r:List UInt8} (h:¬ ((k=9/\1<b.toNat)\/(0<k/\b.toNat=0))) (h2:¬ b.toNat<128):ik k n (b :: r)=ik (k+1) (n+(b.toNat - 128) * 128 ^ k) r:=by rw [ik,if_neg h,if_neg h2]
theorem qc {k b:Nat} (h:¬ ((k=9/\1<b)\/(0<k/\b=0))):
  ((((k:Int) == 9)=false)\/(((k:Int) == 9)=true/\decide ((1:Int)<(b:Int))=false))/\((decide (0<k)=false)\/(decide (0<k)=true/\((b:Int) == 0)=false)):=by
 simp only [beq_eq_false_iff_ne,beq_iff_eq,decide_eq_false_iff_not,decide_eq_true_eq,ne_eq];omega
theorem jY {k b:Nat} (h:(k=9/\1<b)\/(0<k/\b=0)):
  (((k:Int) == 9)=true/\decide ((1:Int)<(b:Int))=true)\/(((((k:Int) == 9)=false)\/(((k:Int) == 9)=true/\decide ((1:Int)<(b:Int))=false))/\decide (0<k)=true/\((b:Int) == 0)=true):=by
 simp only [beq_eq_false_iff_ne,beq_iff_eq,decide_eq_false_iff_not,decide_eq_true_eq,ne_eq];omega
theorem tY (s:ByteArray) (w:BF):
  BR Bx 184 #[.string s] w fun e w'=>e=.returned (zu (iE (bs s)))/\Below w.heap.size w w':=by
 obtain ⟨c,w1,hcv,hb,hlt,hcs⟩:=nr w s;have HB:=Z hb;have HCS:=Z hcs;have hbs:=gS s;clear hb hcs;go_enter Tryz.func184,Tryz.ntmps184;go_wp2_with fail;go_loop [5,11] (fun nv iv=>∃ k n:Nat,k<=s.size/\k<=10/\iv=.int .i64 k/\nv=.int .u64 n/\n<128 ^ k/\iE (bs s)=ik k n ((bs s).drop k)/\(k=10->False)) (fun _ iv=>s.size - (intOf iv).toNat)
 case atStart=>exact ⟨0,0,BM _,by omega,rfl,rfl,by simp,by rw [Cc];rfl,by omega⟩
 case round=>
  obtain ⟨k,n,hk,hk10,rfl,rfl,hn,hu,h10⟩:=hrel;have HU:=Z hu;have HN:=Z hn;have hk9:k<=9:=by rcases Nat.lt_or_ge k 10 with h | h;omega;exact (h10 (by omega)).elim
  clear hu hn h10 hk10;by_cases hk2:k<s.size
  ·have e0:=HCS.out k (by omega);have HD:=Z (BL (show k<(bs s).length by omega));have hk0:(0:Int)<=(k:Int):=by omega
   have hk1:(k:Int)<(s.size:Int):=by omega
   have hk7:(k:Int)<=9:=by omega
   generalize (bs s)[k]=b at *;have hb0:=b.toNat_lt;by_cases hf:(k=9/\1<b.toNat)\/(0<k/\b.toNat=0)
   ·have HR:=Z (show iE (bs s)=(0,0,4) by rw [HU.out,HD.out,iN hf]);have ht:=jY hf;clear hf;rcases ht with ⟨g1,g2⟩ | ⟨g1 | ⟨g1,g2⟩,g3,g4⟩
    all_goals
     go_wp2_with fail;go_ret3;rw [HR.out];exact ⟨rfl,HB.out⟩
   ·have ht:=qc hf;by_cases hb:b.toNat<128
    ·have HR:=Z (show iE (bs s)=(n+b.toNat * 128 ^ k,k+1,0) by rw [HU.out,HD.out,gi hf hb]);have HUV:=Z (sW (i:=k) (n:=n) (b:=b.toNat) (by omega) HN.out hb (by omega) rfl);clear hf;have hbb:(b.toNat:Int)<128:=by omega
     obtain ⟨h1,h2⟩:=ht;rcases h1 with g1 | ⟨g1,g2⟩ <;> rcases h2 with g3 | ⟨g3,g4⟩
     all_goals
      go_wp2_with fail;go_ret3;rw [HR.out,HUV.out.1];exact ⟨rfl,HB.out⟩
    ·have HR:=Z (show iE (bs s)=ik (k+1) (n+(b.toNat - 128) * 128 ^ k) ((bs s).drop (k+1)) by rw [HU.out,HD.out,jo hf hb]);have hne:k≠9:=by omega
     have HUV:=Z (sW (i:=k) (n:=n) (b:=b.toNat - 128) (by omega) HN.out (by omega) (by omega) rfl);clear hf;have hbb:(128:Int)<=(b.toNat:Int):=by omega
     have hsub:((b.toNat:Int) - 128)=((b.toNat - 128:Nat):Int):=by omega
     obtain ⟨h1,h2⟩:=ht;rcases h1 with g1 | ⟨g1,g2⟩ <;> rcases h2 with g3 | ⟨g3,g4⟩
     all_goals
      go_wp2_with fail;refine ⟨⟨k+1,_,by omega,by omega,rfl,by rw [HUV.out.1],HUV.out.2,HR.out,by omega⟩,?_⟩;simp [intOf];omega
  ·have HR:=Z (show iE (bs s)=(0,0,3) by rw [HU.out,BN (by omega),iM]);go_wp2_with fail;go_ret3;rw [HR.out];exact ⟨rfl,HB.out⟩
theorem rL (s:ByteArray) (w:BF):
  BR Bx 163 #[.string s] w fun e w'=>e=.returned (zu (iE (bs s)))/\w=w':=by
 have hbs:=gS s;go_enter Tryz.func163,Tryz.ntmps163;go_wp2_with fail;go_loop [5,6] (fun nv iv=>∃ k n:Nat,k<=s.size/\k<=10/\iv=.int .i64 k/\nv=.int .u64 n/\n<128 ^ k/\iE (bs s)=ik k n ((bs s).drop k)/\(k=10->False)) (fun _ iv=>s.size - (intOf iv).toNat)
 case atStart=>exact ⟨0,0,BM _,by omega,rfl,rfl,by simp,by rw [Cc];rfl,by omega⟩
 case round=>
  obtain ⟨k,n,hk,hk10,rfl,rfl,hn,hu,h10⟩:=hrel;have HU:=Z hu;have HN:=Z hn;have hk9:k<=9:=by rcases Nat.lt_or_ge k 10 with h | h;omega;exact (h10 (by omega)).elim
  clear hu hn h10 hk10;by_cases hk2:k<s.size
  ·have HD:=Z (BL (show k<(bs s).length by omega));have hk0:(0:Int)<=(k:Int):=by omega
   have hk1:(k:Int)<(s.size:Int):=by omega
   have hk7:(k:Int)<=9:=by omega
   have hsk:s[k]=(bs s)[k]:=rfl;generalize (bs s)[k]=b at *;have hb0:=b.toNat_lt;have hwr:IntKind.u64.wrap (b.toNat:Int)=(b.toNat:Int):=IntWalk.u64_in _ (by omega);by_cases hf:(k=9/\1<b.toNat)\/(0<k/\b.toNat=0)
   ·have HR:=Z (show iE (bs s)=(0,0,4) by rw [HU.out,HD.out,iN hf]);have ht:=jY hf;clear hf;rcases ht with ⟨g1,g2⟩ | ⟨g1 | ⟨g1,g2⟩,g3,g4⟩
    all_goals
     go_wp2_with fail;go_ret3;rw [HR.out];exact ⟨rfl,rfl⟩
   ·have ht:=qc hf;by_cases hb:b.toNat<128
    ·have HR:=Z (show iE (bs s)=(n+b.toNat * 128 ^ k,k+1,0) by rw [HU.out,HD.out,gi hf hb]);have HUV:=Z (sW (i:=k) (n:=n) (b:=b.toNat) (by omega) HN.out hb (by omega) rfl);clear hf;have hbb:(b.toNat:Int)<128:=by omega
     have hmd:(b.toNat:Int) % 128=(b.toNat:Int):=by omega
     obtain ⟨h1,h2⟩:=ht;rcases h1 with g1 | ⟨g1,g2⟩ <;> rcases h2 with g3 | ⟨g3,g4⟩
     all_goals
      go_wp2_with fail;go_ret3;rw [HR.out,HUV.out.1];exact ⟨rfl,rfl⟩
    ·have HR:=Z (show iE (bs s)=ik (k+1) (n+(b.toNat - 128) * 128 ^ k) ((bs s).drop (k+1)) by rw [HU.out,HD.out,jo hf hb]);have hne:k≠9:=by omega
     have HUV:=Z (sW (i:=k) (n:=n) (b:=b.toNat - 128) (by omega) HN.out (by omega) (by omega) rfl);clear hf;have hbb:(128:Int)<=(b.toNat:Int):=by omega
     have hmd:(b.toNat:Int) % 128=((b.toNat - 128:Nat):Int):=by omega
     obtain ⟨h1,h2⟩:=ht;rcases h1 with g1 | ⟨g1,g2⟩ <;> rcases h2 with g3 | ⟨g3,g4⟩
     all_goals
      go_wp2_with fail;refine ⟨⟨k+1,_,by omega,by omega,rfl,by rw [HUV.out.1],HUV.out.2,HR.out,by omega⟩,?_⟩;simp [intOf];omega
  ·have HR:=Z (show iE (bs s)=(0,0,3) by rw [HU.out,BN (by omega),iM]);go_wp2_with fail;go_ret3;rw [HR.out];exact ⟨rfl,rfl⟩
def bD (n:Nat):List UInt8:=if n<128 then [Bt n] else [Bt (n % 128+128),Bt (n / 128)]
theorem dC (n:Nat):(bD n).length=if n<128 then 1 else 2:=by unfold bD;split <;> rfl
theorem zc (m:Nat):bits .or .u8 ((m:Int) % 256) 128=((Bt (m % 128+128)).toNat:Int):=by
 have h:∀ x,x<256->x ||| 128=x % 128+128:=by decide
 rw [show (m:Int) % 256=((m % 256:Nat):Int) by omega,show (128:Int)=((128:Nat):Int) from rfl,u8_or_nat _ _ (by omega) (by omega),h _ (by omega),BJ];congr 1;omega
theorem mL (m:Nat) (h:m<256):[Value.int .u8 (m:Int)]=uC (Bt m):=by show _=[Value.int .u8 ((Bt m).toNat:Int)];rw [BJ,Ca h]
theorem lQ (n:Nat) (w:BF) (hn:n<16384):
  BR Bx 201 #[.int .u64 n] w fun e w'=>e=.returned (.string (ap (bD n)))/\Below w.heap.size w w':=by
 go_enter Tryz.func201,Tryz.ntmps201;go_wp2_with fail;go_loopw [0,3] (fun nv bv wr=>∃ (m:Nat) (l:List UInt8),nv=.int .u64 m/\m<=n/\l.length<=1/\(m<128\/l=[])/\bD n=l ++ bD m/\Own uC 1 5 w.heap.size wr bv l/\Below w.heap.size w wr) (fun nv _ _=>(intOf nv).toNat)
 case atStart=>exact ⟨n,[],rfl,BC _,by simp,.inr rfl,rfl,Own.nil,Below.refl _ _⟩
 case round=>
  obtain ⟨m,l,rfl,hm,hl,hlm,hv,ho,hb⟩:=hrel;have HV:=Z hv;have HO:=Z ho;have HB:=Z hb;have HM:=Z hlm;obtain ⟨A,c,hvv⟩:=Sl.zM (ho.sl fd);subst hvv;clear hv ho hb hlm;by_cases hlt:m<128
  ·have h1:(m:Int)<128:=by omega
   go_wp2_with (at_builtin;refine Hid.out ?_);refine Z ?_;refine al rfl rfl zj rfl rfl (HO.out.alloc _) (Sl.one (Bt m) (by simp) fd (mL m (by omega))) (by simp [Cd];omega) (by simp;omega) (by have:=HB.out.size;simp;omega) ?_;intro v' w6 ho hg hat;have HO6:=Z ho;have HB6:=Z (ca (HB.out.alloc HB.out.size _) hg (by have:=HB.out.size;simp;omega) (fun k hk=>(HO.out.lt k hk).1));clear ho hg hat;obtain ⟨A6,c6,hv6⟩:=Sl.zM (HO6.out.sl fd);simp only [Bv,BA,BS,BX] at hv6;have hg:∃ g,A6=some ⟨g,0,none⟩:=by
    rcases HO6.out.2 with ⟨hv,h0⟩ | ⟨g,cap,cur,hv,_⟩
    ·simp at h0
    ·rw [hv] at hv6;injection hv6 with hv6;exact ⟨g,hv6.symm⟩
   obtain ⟨g,rfl⟩:=hg;subst hv6;have hcv:=nq HO6.out;have HR:=Z (show bD n=l ++ [Bt m] by rw [HV.out,show bD m=[Bt m] from if_pos hlt]);go_wp2_with fail;go_ret;rw [HR.out];exact ⟨rfl,HB6.out⟩
  ·have h1:(128:Int)<=(m:Int):=by omega
   have hl0:l=[]:=by rcases HM.out with h | h;exact absurd h hlt;exact h
   subst hl0;go_wp2_with (at_builtin;refine Hid.out ?_);refine Z ?_;refine al rfl rfl zj rfl rfl (HO.out.alloc _) (Sl.one (Bt (m % 128+128)) (by simp) fd (by rw [zc];rfl)) (by simp [Cd]) (by simp) (by have:=HB.out.size;simp;omega) ?_;intro v' w6 ho hg hat;have HO6:=Z ho;have HB6:=Z (ca (HB.out.alloc HB.out.size _) hg (by have:=HB.out.size;simp;omega) (fun k hk=>(HO.out.lt k hk).1));clear ho hg hat;go_wp2_with fail;refine ⟨⟨m / 128,_,rfl,by omega,by simp,.inl (by omega),?_,HO6.out,HB6.out⟩,?_⟩
   ·rw [HV.out,show bD m=[Bt (m % 128+128),Bt (m / 128)] from if_neg hlt,show bD (m / 128)=[Bt (m / 128)] from if_pos (by omega)];rfl
   ·simp [intOf];omega
theorem mn (n:Nat) (w:BF) (hn:n<16384):
  BR Bx 199 #[.int .u64 n] w fun e w'=>e=.returned (.string (ap (bD n)))/\Below w.heap.size w w':=by
 go_enter Tryz.func199,Tryz.ntmps199;go_wp2_with fail;go_loopw [0,3] (fun nv bv wr=>∃ (m:Nat) (l:List UInt8),nv=.int .u64 m/\m<=n/\l.length<=1/\(m<128\/l=[])/\bD n=l ++ bD m/\Own uC 1 5 w.heap.size wr bv l/\Below w.heap.size w wr) (fun nv _ _=>(intOf nv).toNat)
 case atStart=>exact ⟨n,[],rfl,BC _,by simp,.inr rfl,rfl,World.ownsRow_lit w #[] 0 (BC _) (by simp [Cd]) (by simp),(Below.refl _ _).alloc (BC _) _⟩
 case round=>
  obtain ⟨m,l,rfl,hm,hl,hlm,hv,ho,hb⟩:=hrel;have HV:=Z hv;have HO:=Z ho;have HB:=Z hb;have HM:=Z hlm;obtain ⟨A,c,hvv⟩:=Sl.zM (ho.sl fd);subst hvv;clear hv ho hb hlm;by_cases hlt:m<128
  ·have h1:(m:Int)<=127:=by omega
   go_wp2_with (at_builtin;refine Hid.out ?_);refine Z ?_;refine al rfl rfl zj rfl rfl (HO.out.alloc _) (Sl.one (Bt m) (by simp) fd (mL m (by omega))) (by simp [Cd];omega) (by simp;omega) (by have:=HB.out.size;simp;omega) ?_;intro v' w6 ho hg hat;have HO6:=Z ho;have HB6:=Z (ca (HB.out.alloc HB.out.size _) hg (by have:=HB.out.size;simp;omega) (fun k hk=>(HO.out.lt k hk).1));clear ho hg hat;obtain ⟨A6,c6,hv6⟩:=Sl.zM (HO6.out.sl fd);simp only [Bv,BA,BS,BX] at hv6;have hg:∃ g,A6=some ⟨g,0,none⟩:=by
    rcases HO6.out.2 with ⟨hv,h0⟩ | ⟨g,cap,cur,hv,_⟩
    ·simp at h0
    ·rw [hv] at hv6;injection hv6 with hv6;exact ⟨g,hv6.symm⟩
   obtain ⟨g,rfl⟩:=hg;subst hv6;have hcv:=nq HO6.out;have HR:=Z (show bD n=l ++ [Bt m] by rw [HV.out,show bD m=[Bt m] from if_pos hlt]);go_wp2_with fail;go_ret;rw [HR.out];exact ⟨rfl,HB6.out⟩
  ·have h1:(127:Int)<(m:Int):=by omega
   have hl0:l=[]:=by rcases HM.out with h | h;exact absurd h hlt;exact h
   subst hl0;go_wp2_with (at_builtin;refine Hid.out ?_);refine Z ?_;refine al rfl rfl zj rfl rfl (HO.out.alloc _) (Sl.one (Bt (m % 128+128)) (by simp) fd (by rw [show Bt (m % 128+128)=Bt (m % 128+128) from rfl,<- mL _ (by omega)];simp)) (by simp [Cd]) (by simp) (by have:=HB.out.size;simp;omega) ?_;intro v' w6 ho hg hat;have HO6:=Z ho;have HB6:=Z (ca (HB.out.alloc HB.out.size _) hg (by have:=HB.out.size;simp;omega) (fun k hk=>(HO.out.lt k hk).1));clear ho hg hat;go_wp2_with fail;refine ⟨⟨m / 128,_,by simp,by omega,by simp,.inl (by omega),?_,HO6.out,HB6.out⟩,?_⟩
   ·rw [HV.out,show bD m=[Bt (m % 128+128),Bt (m / 128)] from if_neg hlt,show bD (m / 128)=[Bt (m / 128)] from if_pos (by omega)];rfl
   ·simp [intOf];omega
theorem du {m:Nat} (h:m<256):(Bt m).toNat=m:=by rw [BJ,Ca h]
theorem yt {n:Nat} (hn:n<16384) (r:List UInt8):iE (bD n ++ r)=(n,(bD n).length,0):=by
 unfold iE;rw [dC];by_cases h:n<128
 ·rw [show bD n=[Bt n] from if_pos h,if_pos h,BG,gi (by omega) (by rw [du (by omega)];exact h),du (by omega)];simp
 ·rw [show bD n=[Bt (n % 128+128),Bt (n / 128)] from if_neg h,if_neg h,BG,jo (by omega) (by rw [du (by omega)];omega),BG,
   gi (by rw [du (by omega)];omega) (by rw [du (by omega)];omega),du (by omega),du (by omega)]
  simp;omega
theorem gU:∀ (k n:Nat),n<256 ^ k->cw (aR k n)=n
 | 0,n,h=>by simp at h;subst h;rfl
 | k+1,n,h=>by
   rw [aR,jp,gU k (n / 256) (by rw [Nat.div_lt_iff_lt_mul (by decide)];rw [Nat.pow_succ] at h;exact h),du (by omega)];omega
def iC (n:Int):List BQ:=[.int .i64 n]
theorem ax (n:Int):(iC n).length=1:=rfl
def fI (n:Int):Bool:=decide (n<1) || decide (4096<=n)
theorem tm (n:Int) (w:BF):BR Bx 177 #[.int .i64 n] w fun e w'=>e=.returned (.bool (fI n))/\w=w':=by
 go_enter Tryz.func177,Tryz.ntmps177;by_cases h1:n<1
 ·go_wp2_with fail;go_ret;exact ⟨qt (by unfold fI;rw [decide_eq_true h1];rfl),rfl⟩
 ·have h2:(1:Int)<=n:=by omega
  go_wp2_with fail;go_ret;exact ⟨qt (by unfold fI;rw [show decide (n<1)=false from decide_eq_false (by omega)];rfl),rfl⟩
theorem Sl.zQ {α:Type} {f:α->List BQ} {size:Nat} {w:BF} {v:BQ} {xs:List α} (h:Sl f size w v xs) {k:Nat} (hk:k<xs.length):
  ∃ b off c,v=.slice (some ⟨b,off,none⟩) xs.length c/\b<w.heap.size/\∀ j u,(f xs[k])[j]?=some u->w.cell? ⟨b,off+k * size+j,none⟩=some u:=by
 obtain ⟨b,off,c,he,-,hbl,hs⟩:=(h.cases).resolve_left (fun ⟨_,_,_,h⟩=>by rw [h] at hk;simp at hk);exact ⟨b,off,c,he,hbl,(hs.cells hk).2⟩
theorem pP (v:BQ) (xs:List Int) (w:BF) (h:Sl iC 1 w v xs) (hl:xs.length<=1000000):
  BR Bx 209 #[v,.func (Fn.func 177) #[] #[]] w fun e w'=>e=.returned (.int .i64 (dL fI xs))/\w=w':=by
 obtain ⟨A,c,rfl⟩:=Sl.zM h;have H:=Z h;clear h;go_enter Tryz.func209,Tryz.ntmps209;go_wp2_with fail;go_loop [8] (fun i=>∃ k:Nat,k<=xs.length/\i=.int .i64 k/\∀ j (h:j<xs.length),j<k->fI xs[j]=false) (fun i=>xs.length - (intOf i).toNat)
 case atStart=>exact ⟨0,BM _,rfl,fun _ _ h=>absurd h (Nat.not_lt_zero _)⟩
 case round=>
  obtain ⟨k,hk,rfl,hno⟩:=hrel;have HN:=Z hno;clear hno;by_cases hlt:k<xs.length
  ·obtain ⟨b,off,c,he,hbl,hcells⟩:=H.out.zQ hlt;injection he with he1 he2 he3
   subst he1 he3;have e0:w.cell? ⟨b,off+k,none⟩=some (.int .i64 xs[k]):=by simpa using hcells 0 _ rfl
   have hk0:(0:Int)<=(k:Int):=by omega
   have hk1:(k:Int)<(xs.length:Int):=by omega
   have HI:=Z (show fI xs[k]=true->dL fI xs=k from fun h=>jL hlt h HN.out);have HU:=Z (show fI xs[k]=false->∀ j (h:j<xs.length),j<k+1->fI xs[j]=false from fun h=>sf HN.out hlt h);clear hcells;generalize xs[k]=x at *;go_wp2_with fail;refine (tm x w).mono ?_;rintro e w' ⟨rfl,rfl⟩;cases hx:fI x
   ·have HX:=Z (HU.out hx);go_wp2_with fail;go_round
    case rel=>exact ⟨k+1,by omega,by go_num,HX.out⟩
    case measure=>simp [intOf];omega
   ·have HX:=Z (HI.out hx);go_wp2_with fail;go_ret;exact ⟨oj HX.out.symm,rfl⟩
  ·have HX:=Z (iA (p:=fI) hlt HN.out);go_wp2_with fail;go_ret;exact ⟨oj HX.out.symm,rfl⟩
theorem jK {α:Type} (p:α->Bool) (xs:List α):decide (0<=dL p xs)=xs.any p:=by
 unfold dL;by_cases h:xs.any p=true
 ·rw [h];have:xs.findIdx p<xs.length:=by rw [BO];simpa using h
  rw [if_pos this];exact decide_eq_true (by omega)
 ·rw [Bool.eq_false_iff.2 h];have:¬ xs.findIdx p<xs.length:=by rw [BO];simpa using h
  rw [if_neg this];rfl
theorem iJ (v:BQ) (xs:List Int) (w:BF) (h:Sl iC 1 w v xs) (hl:xs.length<=1000000):
  BR Bx 178 #[v,.func (Fn.func 177) #[] #[]] w fun e w'=>e=.returned (.bool (xs.any fI))/\w=w':=by
 go_enter Tryz.func178,Tryz.ntmps178;go_wp2_with fail;refine (pP v xs w h hl).mono ?_;rintro e w' ⟨rfl,rfl⟩;have HF:=Z (jK fI xs);generalize dL fI xs=m at *;go_wp2_with fail;go_ret;exact ⟨qt HF.out,rfl⟩
structure Tk where
 next:Int
 list:List Int
def bX (t:Tk):Bool:=(!(t.next == 0) && fI t.next) || decide (50<t.list.length) || t.list.any fI
def gD (t:Tk):List UInt8:=4 :: (aR 4 t.next.toNat ++ aR 1 t.list.length ++ t.list.flatMap fun n=>aR 4 n.toNat)
def vv (t:Tk):BQ:=if bX t then .tuple #[.string (ap []),.int .i64 1] else .tuple #[.string (ap (aK (gD t))),.int .i64 0]
theorem lA {t:Tk} (h:bX t=false):0<=t.next/\t.next<4096/\t.list.length<=50/\∀ x ∈ t.list,1<=x/\x<4096:=by
 unfold bX at h;rw [Bool.or_eq_false_iff,Bool.or_eq_false_iff] at h;obtain ⟨⟨h1,h2⟩,h3⟩:=h;rw [List.any_eq_false] at h3;refine ⟨?_,?_,by simpa using h2,fun x hx=>?_⟩
 ·by_cases h0:t.next=0
  ·omega
  ·simp [h0,fI] at h1;omega
 ·by_cases h0:t.next=0
  ·omega
  ·simp [h0,fI] at h1;omega
 ·have:=h3 x hx;simp [fI] at this;omega
theorem tb {t:Tk}:(gD t).length=6+4 * t.list.length:=by
 unfold gD
 have:∀ l:List Int,(l.flatMap fun n=>aR 4 n.toNat).length=4 * l.length:=fun l=>by
  induction l with
  | nil=>rfl
  | cons x l ih=>rw [BY,Bv,ih,aF,BA];omega
 rw [BA,Bv,Bv,aF,aF,this];omega
def rF (t:Tk) (k:Nat):List UInt8:=4 :: (aR 4 t.next.toNat ++ aR 1 t.list.length ++ (t.list.take k).flatMap fun n=>aR 4 n.toNat)
theorem xu {t:Tk} {k:Nat}:(rF t k).length<=6+4 * t.list.length:=by have h:=tb (t:=⟨t.next,t.list.take k⟩);unfold gD at h;unfold rF;simp only [BA,Bv,aF,BH] at h ⊢;omega
theorem vB {t:Tk} {k:Nat} (h:k<t.list.length):rF t (k+1)=rF t k ++ aR 4 t.list[k].toNat:=by unfold rF;rw [BE h];simp only [List.flatMap_append,BY,List.flatMap_nil,List.append_nil,BG,List.append_assoc]
theorem pB (r:Nat):Lib.repeatL [(0:UInt8)] r=BK r 0:=by have:=Lib.repeatL_replicate 0 1 r;simpa using this
theorem gH (r:Nat) (w:BF) (hr:r<=232):BR Bx 104 #[.string ⟨#[0]⟩,.int .i64 r] w fun e w'=>e=.returned (.string (ap (BK r 0)))/\Below w.heap.size w w':=by have h:=Tryz.strings_Repeat ⟨#[0]⟩ r w (by omega) (by show 1 * r<=_;omega);rw [show (⟨#[0]⟩:ByteArray).data.toList=[0] from rfl,pB] at h;exact h
theorem fx (n:Nat) (w:BF) (hn:n<18446744073709551616):BR Bx 170 #[.int .u64 n,.int .i64 4] w fun e w'=>e=.returned (.string (ap (aR 4 n)))/\Below w.heap.size w w':=jx n 4 w hn (by omega) (by omega)
theorem sD (n:Nat) (w:BF) (hn:n<18446744073709551616):BR Bx 170 #[.int .u64 n,.int .i64 1] w fun e w'=>e=.returned (.string (ap (aR 1 n)))/\Below w.heap.size w w':=jx n 1 w hn (by omega) (by omega)
theorem nV {n:Nat} (h:n<1000000):IntKind.u64.wrap (n:Int)=(n:Int):=IntWalk.u64_in _ (by omega)
theorem kg (t:Tk) (v:BQ) (w:BF) (h:Sl iC 1 w v t.list) (hl:t.list.length<=1000000):
  BR Bx 141 #[.agg #[.int .i64 t.next,v]] w fun e w'=>e=.returned (vv t)/\Below w.heap.size w w':=by
 obtain ⟨A,c,rfl⟩:=Sl.zM h;have H:=Z h;clear h;obtain ⟨nx,ls⟩:=t;simp only at hl H;go_enter Tryz.func141,Tryz.ntmps141;go_upto_region 2 with fail
 have HB:=Z ((Below.refl _ w).alloc (BC _) (.cells #[.int .i64 nx,.slice A ls.length c] 167));have HX:=Z (ag (w0:=w) (o:=.cells #[.int .i64 nx,.slice A ls.length c] 167) rfl);generalize w.alloc (.cells #[.int .i64 nx,.slice A ls.length c] 167)=w1 at *;have c0:=ae HX.out 0;have c1:=ae HX.out 1;have hbx:=aj HX.out;simp only [Bz,BD,Bw] at c0 c1;go_cut [28] from 8 to 28 (fun b wc=>b=.bool (bX ⟨nx,ls⟩)/\w1=wc)
 case first=>
  by_cases h0:nx=0
  ·subst h0;by_cases h50:50<ls.length
   ·have HR:=Z (show bX ⟨0,ls⟩=true by unfold bX;simp [h50]);have h5:(50:Int)<(ls.length:Int):=by omega
    go_wp2_with fail;go_meet
    case rel=>exact ⟨by rw [HR.out],rfl⟩
   ·have HR:=Z (show bX ⟨0,ls⟩=ls.any fI by unfold bX;simp [h50]);have h5:(ls.length:Int)<=50:=by omega
    go_wp2_with fail;refine (iJ _ ls w1 (H.out.keep HB.out) hl).mono ?_;rintro e w' ⟨rfl,rfl⟩;go_wp2_with fail;go_meet
    case rel=>exact ⟨by rw [HR.out,show decide ((50:Int)<(ls.length:Int))=false from decide_eq_false (by omega)];rfl,rfl⟩
  ·have h1:(nx == 0)=false:=by simpa using h0
   have h2:nx≠0:=h0;clear h0;go_wp2_with fail;refine (tm nx w1).mono ?_;rintro e w' ⟨rfl,rfl⟩;cases ho:fI nx
   ·by_cases h50:50<ls.length
    ·have HR:=Z (show bX ⟨nx,ls⟩=true by unfold bX;simp [h50]);have h5:(50:Int)<(ls.length:Int):=by omega
     go_wp2_with fail;go_meet
     case rel=>exact ⟨by rw [HR.out],rfl⟩
    ·have HR:=Z (show bX ⟨nx,ls⟩=ls.any fI by unfold bX;simp [h50,ho]);have h5:(ls.length:Int)<=50:=by omega
     go_wp2_with fail;refine (iJ _ ls w1 (H.out.keep HB.out) hl).mono ?_;rintro e w' ⟨rfl,rfl⟩;go_wp2_with fail;go_meet
     case rel=>exact ⟨by rw [HR.out,show decide ((50:Int)<(ls.length:Int))=false from decide_eq_false (by omega)];rfl,rfl⟩
   ·have HR:=Z (show bX ⟨nx,ls⟩=true by unfold bX;simp [ho,h1]);go_wp2_with fail;go_meet
    case rel=>exact ⟨by rw [HR.out],rfl⟩
 case rest=>
  obtain ⟨rfl,rfl⟩:=hcut;cases hbad:bX ⟨nx,ls⟩
  ·obtain ⟨k0,k1,k2,k3⟩:=lA hbad;simp only at k0 k1 k2 k3;have HK:=Z k3;clear k3;obtain ⟨m,rfl⟩:∃ m:Nat,nx=m:=⟨nx.toNat,by omega⟩;clear k0;have HF1:=Z (fun (y:Up w1)=>fx m y.w (by omega));have HF2:=Z (fun (y:Up w1)=>sD ls.length y.w (by omega));go_upto_region 4 with fail
   refine aM (by kernel_rfl) (by kernel_rfl) ?_;have f0:=bj c0 hbx;have f1:=bj c1 hbx;have g0:=nV (n:=m) (by omega);have g1:=nV (n:=ls.length) (by omega);have s1:=au (aR 4 m);have s2:=au (aR 1 ls.length);rw [aF] at s1 s2
   repeat (go_big_quiet_step (first
    | (go_at_call 170;(with_reducible exact eF (HF1.out _)))
    | (go_at_call 170;(with_reducible exact eF (HF2.out _)))))
   refine wpQuiet_nil ?_;rintro w2 ⟨⟨_,hb2⟩,rfl⟩;have HB2:=Z (HB.out.trans (hb2.mono HB.out.size));have HS0:({ data:=#[4] }:ByteArray) ++ ap (aR 4 m) ++ ap (aR 1 ls.length)=ap (rF ⟨m,ls⟩ 0):=by rw [cE,cE];show ap (([4] ++ aR 4 m) ++ aR 1 ls.length)=_;unfold rF;simp
   rw [HS0];have HSL:=Z ((H.out.keep HB.out).keep hb2);have c1:=ae (af HX.out hb2) 1;have hbx:=aj (af HX.out hb2);simp only [Bz,BD,Bw] at c1;clear hb2 HS0 s1 s2 f0 f1 g0 g1 HF1 HF2;go_wp2_with fail;go_loopw [5,43] (fun sv iv wr=>∃ k:Nat,k<=ls.length/\iv=.int .i64 k/\sv=.string (ap (rF ⟨m,ls⟩ k))/\Below w2.heap.size w2 wr) (fun _ iv _=>ls.length - (intOf iv).toNat)
   case atStart=>exact ⟨0,BM _,rfl,rfl,Below.refl _ _⟩
   case round=>
    obtain ⟨k,hk,rfl,rfl,hb⟩:=hrel;have HBR:=Z hb;clear hb;have s1:=au (rF ⟨m,ls⟩ k);have s2:=xu (t:=⟨m,ls⟩) (k:=k);simp only at s2;by_cases hlt:k<ls.length
    ·obtain ⟨b,off,c',he,hbl,hcells⟩:=(HSL.out.keep HBR.out).zQ hlt;injection he with he1 he2 he3
     subst he1 he3;have e0:wr.cell? ⟨b,off+k,none⟩=some (.int .i64 ls[k]):=by simpa using hcells 0 _ rfl
     have hk0:(0:Int)<=(k:Int):=by omega
     have hk1:(k:Int)<(ls.length:Int):=by omega
     have HT:=Z (vB (t:=⟨m,ls⟩) hlt);simp only at HT;obtain ⟨q0,q1⟩:=HK.out _ (List.getElem_mem hlt);clear hcells;generalize ls[k]=x at *;obtain ⟨n,rfl⟩:∃ n:Nat,x=n:=⟨x.toNat,by omega⟩;have g0:=nV (n:=n) (by omega);have s3:=au (aR 4 n);rw [aF] at s3;go_wp2_with fail;refine (fx n wr (by omega)).mono ?_;rintro e w3 ⟨rfl,hb3⟩;have HB3:=Z (HBR.out.trans (hb3.mono HBR.out.size));have HS2:=Z (show ap (rF ⟨m,ls⟩ k) ++ ap (aR 4 n)=ap (rF ⟨m,ls⟩ (k+1)) by rw [cE,bA,bA,HT.out];rfl);clear hb3 e0;go_wp2_with fail;refine ⟨⟨k+1,by omega,by go_num,by rw [HS2.out],HB3.out⟩,?_⟩;simp [intOf];omega
    ·have hkl:k=ls.length:=by omega
     subst hkl;have HTE:=Z (show rF ⟨m,ls⟩ ls.length=gD ⟨m,ls⟩ by unfold rF gD;rw [List.take_length]);have HRR:=Z (show vv ⟨m,ls⟩=.tuple #[.string (ap (aK (gD ⟨m,ls⟩))),.int .i64 0] by unfold vv;rw [hbad];rfl);obtain ⟨r,hr⟩:∃ r:Nat,r=232 - (rF ⟨m,ls⟩ ls.length).length:=⟨_,rfl⟩;have hr2:(232:Int) - ((rF ⟨m,ls⟩ ls.length).length:Int)=(r:Int):=by omega
     have HR:=Z hr;have s4:=au (BK r 0);rw [List.length_replicate] at s4;have hr3:r<=232:=by omega
     clear hr;go_wp2_with fail;refine (gH r wr hr3).mono ?_;rintro e w3 ⟨rfl,hb3⟩;have HB3:=Z (HBR.out.trans (hb3.mono HBR.out.size));have HS2:=Z (show ap (rF ⟨m,ls⟩ ls.length) ++ ap (BK r 0)=ap (aK (gD ⟨m,ls⟩)) by
      rw [cE,bA,bA,HR.out,<- HTE.out];unfold aK;rw [BP (by omega)])
     clear hb3;go_wp2_with fail;go_ret2;rw [HRR.out,HS2.out];exact ⟨rfl,HB2.out.trans (HB3.out.mono HB2.out.size)⟩
  ·go_wp2_with fail;go_ret2;exact ⟨by unfold vv;rw [hbad];rfl,HB.out⟩
theorem yw {a b:ByteArray} (h:¬ a=b):(a.toList == b.toList)=false:=by rw [beq_eq_false_iff_ne,ByteArray.toList_eq,ByteArray.toList_eq];exact fun e=>h (pU e)
def mM (l:List UInt8):Nat:=cw (l.take 4)
theorem xM (l:List UInt8):mM l<4294967296:=
 BB (il _) (BW (BU (by decide) (show (l.take 4).length<=4 by rw [BH];omega)) (by decide))
theorem lB (i:Nat) (s:ByteArray) (gb:Nat) (w:BF) (h:w.heap[gb]?=some (.cells #[.string s] 9 (0,0))) (hi:i+4<=s.size) (hl:s.size<=1000000):
  BR Bx 176 #[.int .i64 i,.pointer (some ⟨gb,0,none⟩)] w fun e w'=>e=.returned (.int .i64 (mM ((bs s).drop i)))/\Below w.heap.size w w':=by
 have c0:=ae h 0;have hlt:=aj h;simp only [Bz,Bw] at c0;go_enter Tryz.func176,Tryz.ntmps176;have h1:(i:Int)+4<=(s.size:Int):=by omega
 have h2:(0:Int)<=(i:Int):=by omega
 have hz:(s.extract i (i+4)).size=4:=by have hbs:=gS s;rw [<- gS,jR,BH,List.length_drop];omega
 have HN:=Z (show cw (bs (s.extract i (i+4)))=mM ((bs s).drop i) by
  rw [jR,show i+4 - i=4 by omega];rfl)
 have hw:((mM ((bs s).drop i):Nat):Int)<4294967296:=by have:=xM ((bs s).drop i);omega
 have HZ:=Z hz;clear hz;go_wp2_with fail;refine (gG (s.extract i (i+4)) w (by rw [HZ.out];omega) (by rw [HZ.out];omega)).mono ?_;rw [HN.out];rintro e w1 ⟨rfl,hb⟩;have HB:=Z hb;clear hb;go_wp2_with fail;go_ret;exact ⟨rfl,HB.out⟩
def dB (l:List UInt8):Tk:=⟨mM (l.drop 1),(List.range (min (l.getD 5 0).toNat 50)).map fun i=>(mM (l.drop (6+4 * i)):Int)⟩
def ef (l:List UInt8):Bool:=!bX (dB l) && aK (gD (dB l)) == l
def kA (l:List UInt8):Int:=if ef l then 0 else 4
def eZ (l:List UInt8):Tk:=if ef l then dB l else ⟨0,[]⟩
def zn (base:Nat) (w:BF) (v:BQ) (t:Tk):Prop:=∃ lv,v=.agg #[.int .i64 t.next,lv]/\Own iC 1 3 base w lv t.list
theorem Own.base {α:Type} {f:α->List BQ} {size:Nat} {e:TypeId} {b b':Nat} {w:BF} {v:BQ} {xs:List α} (h:Own f size e b w v xs) (hb:b'<=b):Own f size e b' w v xs:=
 ⟨h.1,h.2.imp id fun ⟨g,cap,cur,h1,h2,h3⟩=>⟨g,cap,cur,h1,by omega,h3⟩⟩
theorem bI:ElemT Bx 37 3 iC 1 8:=
 ElemT.mk' (z:=.int .i64 0) Tryz.underlying37 (by kernel_rfl) (by rfl) (by omega) ax (by intro x u hu;simp [iC] at hu;subst hu;rfl)
theorem uR {l:List UInt8} {k:Nat} (h:k<min (l.getD 5 0).toNat 50):(dB l).list.take (k+1)=(dB l).list.take k ++ [(mM (l.drop (6+4 * k)):Int)]:=by rw [BE (by simp only [dB,List.length_map,List.length_range];exact h)];simp [dB]
theorem wU (l:List UInt8):(dB l).list.length=min (l.getD 5 0).toNat 50:=by simp [dB]
theorem eM {w:BF} {g:Nat} {n:Int} {lv:BQ} (h:w.heap[g]?=some (.cells #[.int .i64 n,lv] 167 (0,0))):w.cell? ⟨g,0,none⟩=some (.int .i64 n)/\w.cell? ⟨g,1,none⟩=some lv/\w.frozen? ⟨g,0,none⟩=false/\w.frozen? ⟨g,1,none⟩=false/\g<w.heap.size:=
 ⟨ae h 0,ae h 1,ab h 0,ab h 1,aj h⟩
theorem po {w:BF} {g:Nat} {n:Int} {lv:BQ} (h:w.heap[g]?=some (.cells #[.int .i64 n,lv] 167 (0,0))):w.cell? ⟨g,1,none⟩=some lv/\w.frozen? ⟨g,1,none⟩=false/\g<w.heap.size:=
 ⟨ae h 1,ab h 1,aj h⟩
theorem pp (s:ByteArray) (w:BF) (hs:s.size=232):
  BR Bx 140 #[.string s] w fun e w'=>∃ v,e=.returned (.tuple #[v,.int .i64 (kA (bs s))])/\zn w.heap.size w' v (eZ (bs s))/\Below w.heap.size w w':=by
 have hbs:=gS s;go_enter Tryz.func140,Tryz.ntmps140;have h1:(s.size:Int)=232:=by omega
 go_wp2_with fail;refine (lB 1 s w.heap.size _ (am (ag rfl) _) (by omega) (by omega)).mono ?_;rintro e w1 ⟨rfl,hb1⟩;have HX:=Z (af (am (ag (w0:=w) (o:=.cells #[.string s] 9) rfl) (.cells #[.int .i64 0,.slice none 0 0] 167)) hb1);have HR:=Z (af (ag (w0:=w.alloc (.cells #[.string s] 9)) (g:=w.heap.size+1) (o:=.cells #[.int .i64 0,.slice none 0 0] 167) (by simp)) hb1);have HB1:=Z ((((Below.refl _ w).alloc (BC _) (.cells #[.string s] 9)).alloc (by simp) (.cells #[.int .i64 0,.slice none 0 0] 167)).trans (hb1.mono (by simp;omega)));have hz1:w.heap.size+1<w1.heap.size:=aj HR.out;have hz0:w.heap.size<w1.heap.size:=aj HX.out;obtain ⟨nx,hnx⟩:∃ nx:Int,nx=(dB (bs s)).next:=⟨_,rfl⟩
 rw [show ((mM ((bs s).drop 1):Nat):Int)=nx from hnx.symm];have HNX:=Z hnx;clear hnx;clear hb1;have c0:=ae HX.out 0;simp only [Bz,Bw] at c0;have hs5:s[5]'(by omega)=(bs s).getD 5 0:=by rw [List.getD_eq_getElem?_getD,List.getElem?_eq_getElem (by omega),Option.getD_some];rfl
 obtain ⟨N,hN⟩:∃ N:Nat,N=min ((bs s).getD 5 0).toNat 50:=⟨_,rfl⟩;have hN2:min ((((bs s).getD 5 0).toNat:Nat):Int) 50=(N:Int):=by omega
 have hN50:N<=50:=by omega
 have HDT:=Z (fun (k:Nat) (h:k<N)=>uR (l:=bs s) (k:=k) (by rw [<- hN];exact h));have HDL:=Z (show (dB (bs s)).list.length=N by rw [wU,hN]);clear hN;generalize (bs s).getD 5 0=b5 at *;have hb5:(b5.toNat:Int)<=255:=by have:=b5.toNat_lt;omega
 go_wp2_with fail;have HI:=Z (show ∃ lv,(w1.alloc (.cells #[.int .i64 nx,.slice none 0 0] 167)).heap[w1.heap.size]?=some (.cells #[.int .i64 nx,lv] 167 (0,0))/\
   Own iC 1 3 (w1.heap.size+1) (w1.alloc (.cells #[.int .i64 nx,.slice none 0 0] 167)) lv ((dB (bs s)).list.take 0) from ⟨_,ag rfl,Own.nil⟩)
 have HB2:=Z ((Below.refl _ w1).alloc (BC _) (.cells #[.int .i64 nx,.slice none 0 0] 167));go_loopw [21] (fun iv wr=>∃ k:Nat,k<=N/\iv=.int .i64 k/\(∃ lv,wr.heap[w1.heap.size]?=some (.cells #[.int .i64 nx,lv] 167 (0,0))/\Own iC 1 3 (w1.heap.size+1) wr lv ((dB (bs s)).list.take k))/\Below w1.heap.size w1 wr) (fun iv _=>N - (intOf iv).toNat)
 case atStart=>exact ⟨0,BM _,rfl,HI.out,HB2.out⟩
 case round=>
  obtain ⟨k,hk,rfl,⟨lv,hg,ho⟩,hb⟩:=hrel;have HG:=Z hg;have HO:=Z ho;have HB:=Z hb;have HXR:=Z (af HX.out hb);obtain ⟨A,c,rfl⟩:=Sl.zM (ho.sl ax);clear HI HB2;have HLN:=Z (show ((dB (bs s)).list.take k).length<=50 by rw [BH];omega);by_cases hlt:k<N
  ·have hk0:(0:Int)<=(k:Int):=by omega
   have hk1:(k:Int)<(N:Int):=by omega
   have HT:=Z (HDT.out k hlt);have HAT:=Z (fun (W:BF) (h:W.heap[w.heap.size]?=some (.cells #[.string s] 9 (0,0)))=>lB (6+4 * k) s w.heap.size W h (by omega) (by omega));rw [show (((6+4 * k:Nat)):Int)=6+4 * (k:Int) by omega] at HAT;clear hg ho hb;generalize (dB (bs s)).list.take k=P at *;generalize (mM ((bs s).drop (6+4 * k)):Int)=x at *;go_upto_region 8 with fail
   have nA:IntKind.i64.wrap (4 * (k:Int))=4 * (k:Int):=IntWalk.i64_in _ (by omega);have nB:IntKind.i64.wrap (6+4 * (k:Int))=6+4 * (k:Int):=IntWalk.i64_in _ (by omega);obtain ⟨e1,f1,l1⟩:=po HG.out;go_region_law (first
     | (refine ct (by rfl) (by rfl) bI (by rfl) (by rfl) ((HO.out.below HB3.out).alloc _) (Sl.one x (by simp) ax (by rfl)) (by have:=HLN.out;simp [Cd];omega) (by have:=HLN.out;simp;omega) (by have:=aj HG3.out;simp;omega) ?_
        intro v' w5 ho hg hat;obtain ⟨A5,c5,h5⟩:=Sl.zM (ho.sl ax);simp only [Bv,BA,BS,BX] at h5;subst h5;have HO5:=Z ho;have HG5:=Z (show w5.heap[w1.heap.size]?=_ from (hg.block _ (by simp;have:=aj HG3.out;omega) (fun e=>by have:=(HO.out.lt _ e.symm).1;omega)).trans (am HG3.out _));have HB5:=Z (ca ((HB.out.trans (HB3.out.mono HB.out.size)).alloc (by have:=aj HG3.out;omega) _) hg (by simp;have:=aj HG3.out;omega) (fun j hj=>by have:=(HO.out.lt j hj).1;omega));obtain ⟨e5,f5,l5⟩:=po HG5.out;clear ho hg hat)
     | (go_simp
        go_at_call 176;refine (HAT.out wr.drew HXR.out).mono ?_;rintro e w3 ⟨rfl,hb3⟩;have HB3:=Z (((Below.refl _ wr).drew).trans hb3);have HG3:=Z (af HG.out HB3.out);obtain ⟨e3,f3,l3⟩:=po HG3.out;clear hb3))
   all_goals
    clear nA nB e1 f1 l1 e5 f5 l5 e3 f3 l3;go_wp2_with fail;go_roundw
    case rel=> refine ⟨k+1,by omega,by go_num,⟨_,ai HG5.out 1 _,?_⟩,HB5.out.setCell (BC _) _⟩;rw [HT.out];exact HO5.out.ch ((Ch.refl (fun j=>j=w1.heap.size) w5).setCell (p:=⟨w1.heap.size,1,none⟩) rfl _) (fun j hj e=>by have:=(HO5.out.lt j hj).1;omega)
    case measure=>simp [intOf];omega
  ·have HTE:=Z (show (dB (bs s)).list.take k=(dB (bs s)).list from BP (by rw [HDL.out];omega));rw [HTE.out] at HO;have HT:=Z (show dB (bs s)=⟨nx,(dB (bs s)).list⟩ by rw [HNX.out]);have hc1:=ae HG.out 1;rw [HTE.out] at hc1;have hc0:=ae HG.out 0;have hgl:=aj HG.out;have cx:=ae HXR.out 0;have hxl:=aj HXR.out;have HRR:=Z (af HR.out HB.out);have HLL:=Z (show (dB (bs s)).list.length<=1000000 by rw [HDL.out];omega);clear hg ho hb HLN HTE HG HDL HDT HXR;simp only [Bz,BD,Bw] at hc0 hc1 cx;generalize (dB (bs s)).list=P at *;go_wp2_with fail;refine (kg ⟨nx,P⟩ _ wr (HO.out.sl ax) HLL.out).mono ?_;rintro e w3 ⟨rfl,hb3⟩;have HB3:=Z hb3;have HR3:=Z (af HRR.out hb3);have hc0:=(hb3.cell (p:=⟨w1.heap.size,0,none⟩) hgl).trans hc0;have hc1:=(hb3.cell (p:=⟨w1.heap.size,1,none⟩) hgl).trans hc1;have cx:=(hb3.cell (p:=⟨w.heap.size,0,none⟩) hxl).trans cx;have hgl:=BB hgl hb3.size;have hxl:=BB hxl hb3.size;obtain ⟨r0,r1,r2,r3,r4⟩:=eM HR3.out;clear hb3;have HBF:=Z (HB1.out.trans ((HB.out.trans (HB3.out.mono HB.out.size)).mono HB1.out.size));have HD:=Z (show ef (bs s)=(!bX ⟨nx,P⟩ && aK (gD ⟨nx,P⟩) == bs s) by unfold ef;rw [HT.out]);cases hbad:bX ⟨nx,P⟩
   ·rw [show vv ⟨nx,P⟩=.tuple #[.string (ap (aK (gD ⟨nx,P⟩))),.int .i64 0] by unfold vv;rw [hbad];rfl];rw [hbad] at HD;generalize aK (gD ⟨nx,P⟩)=F at *;by_cases hF:F=bs s
    ·have HE:=Z (show kA (bs s)=0/\eZ (bs s)=⟨nx,P⟩ by
      have:ef (bs s)=true:=by rw [HD.out,hF];simp
      unfold kA eZ;rw [if_pos this,if_pos this,HT.out];exact ⟨rfl,rfl⟩)
     clear HD hbad;subst hF;rw [pK];go_wp2_with fail;have hx:=ai (ai HR3.out 0 (.int .i64 nx)) 1 (.slice A P.length c);obtain ⟨q0,q1,-⟩:=eM hx;exact BZ (v:=.tuple #[.agg #[.int .i64 nx,.slice A P.length c],.int .i64 (kA (bs s))]) (by rw [HE.out.1];simp [results,BT,go_sem,q0,q1]) rfl ⟨_,rfl,by rw [HE.out.2];exact ⟨_,rfl,((HO.out.below HB3.out).ch (((Ch.refl (fun j=>j=w.heap.size+1) w3).setCell (p:=⟨w.heap.size+1,0,none⟩) rfl _).setCell (p:=⟨w.heap.size+1,1,none⟩) rfl _) (fun j hj e=>by have:=(HO.out.lt j hj).1;omega)).base (by omega)⟩,HBF.out.setCell (BI _) _ |>.setCell (BI _) _⟩
    ·have HE:=Z (show kA (bs s)=4/\eZ (bs s)=⟨0,[]⟩ by
      have:¬ ef (bs s)=true:=by rw [HD.out];simp [hF]
      unfold kA eZ;rw [if_neg this,if_neg this];exact ⟨rfl,rfl⟩)
     have hF2:=yw (show ¬ ap F=s from fun h=>hF (by rw [<- h,bA]));clear HD hbad hF;go_wp2_with fail;have hx:=ai (ai HR3.out 0 (.int .i64 0)) 1 (.slice none 0 0);obtain ⟨q0,q1,-⟩:=eM hx;exact BZ (v:=.tuple #[.agg #[.int .i64 0,.slice none 0 0],.int .i64 (kA (bs s))]) (by rw [HE.out.1];simp [results,BT,go_sem,q0,q1]) rfl ⟨_,rfl,by rw [HE.out.2];exact ⟨_,rfl,Own.nil⟩,HBF.out.setCell (BI _) _ |>.setCell (BI _) _⟩
   ·rw [show vv ⟨nx,P⟩=.tuple #[.string (ap []),.int .i64 1] by unfold vv;rw [hbad];rfl];have HE:=Z (show kA (bs s)=4/\eZ (bs s)=⟨0,[]⟩ by
      have:¬ ef (bs s)=true:=by rw [HD.out,hbad];simp
      unfold kA eZ;rw [if_neg this,if_neg this];exact ⟨rfl,rfl⟩)
    clear HD hbad;go_wp2_with fail;have hx:=ai (ai HR3.out 0 (.int .i64 0)) 1 (.slice none 0 0);obtain ⟨q0,q1,-⟩:=eM hx;exact BZ (v:=.tuple #[.agg #[.int .i64 0,.slice none 0 0],.int .i64 (kA (bs s))]) (by rw [HE.out.1];simp [results,BT,go_sem,q0,q1]) rfl ⟨_,rfl,by rw [HE.out.2];exact ⟨_,rfl,Own.nil⟩,HBF.out.setCell (BI _) _ |>.setCell (BI _) _⟩
end Go.Proofs.YtknioodagnjchaaGreatDoor
namespace Go.Proofs.YtknioodagnjchaaGreatDoor
open Go.Proofs.Tryz renaming prog->Bt,underlying91->Bv,underlying3->Bw
open Go.Lib (hid)
open Go.RowKit Go.Maps
def yx (v:Value):Option (DataW Unit × List MemPlace):=match v with
 | .string s=>some (.lit (.string (bs s)),[])
 | _=>none
theorem qe {v:Value} {l:List UInt8} {ps:List MemPlace} (h:yx v=some (.lit (.string l),ps)):v=.string (ap l):=by
 unfold yx at h
 split at h
 ·simp only [Option.some.injEq,Prod.mk.injEq,DataW.lit.injEq,Lit.string.injEq] at h;rw [<- h.1,pK]
 ·cases h
def yZ (n:Int):Prop:=(Lit.int .i64 n).wf=true
theorem lP {n:Int} (h0:0<=n) (h1:n<4096):yZ n:=WalkArith.wf_i64 (by omega)
abbrev uB (n:Int):Lit:=.int .i64 n
theorem tG:Keyed Bt 3:=int_keyed Bw
theorem tE {n:Int} (h:yZ n):keyOf Bt 3 (.int .i64 n)=some (.int .i64 n):=keyOf_int_mk Bw h
theorem xo (w:World):(zeroValue 9).run Bt w=.ok (.string ⟨#[]⟩) w:=by kernel_rfl
theorem lX (n:Int):WideAt.IsKeyLit (uB n):=trivial
theorem lY {m n:Int} (h:m≠n):uB m≠uB n:=fun e=>h (by cases e;rfl)
theorem oz:∀ (N:Nat) (K:List Int),K.Nodup->(∀ n ∈ K,0<=n/\n<N)->K.length<=N
 | 0,K,_,h=>by
   cases K with
   | nil=>exact Nat.le_refl _
   | cons a K=>have:=h a List.mem_cons_self;omega
 | N+1,K,hn,h=>by
   have h1:=oz N (K.filter fun n=>!(n == N)) (hn.sublist List.filter_sublist) (fun n hn=>by
    rw [List.mem_filter] at hn;have:=h n hn.1;have h2:n≠N:=by simpa using hn.2
    omega)
   have h2:K.length<=(K.filter fun n=>!(n == (N:Int))).length+1:=by
    have:=hn;clear h1 h
    induction K with
    | nil=>simp
    | cons a K ih=>
      rw [List.nodup_cons] at this;by_cases ha:a=N
      ·subst ha
       rw [List.filter_cons_of_neg (by simp),List.filter_eq_self.2 (fun x hx=>by
        have:x≠N:=fun e=>this.1 (e ▸ hx)
        simpa using this)]
       simp
      ·rw [List.filter_cons_of_pos (by simpa using ha)];simp only [List.length_cons];have:=ih this.2 this.2;omega
   omega
def blankL:List UInt8:=List.replicate 232 0
structure BookOf (D:DataW Unit) (K:List Int) (B:Int->List UInt8):Prop where
 tidy:Tidy D
 nd:K.Nodup
 rng:∀ n ∈ K,0<=n/\n<(4096:Nat)
 yes:∀ n ∈ K,∀ z,D.atKey (uB n) z=.lit (.string (B n))
 no:∀ n,n ∉ K->has D (uB n)=false/\B n=blankL
 size:size D=K.length
def bN (B:Int->List UInt8) (n:Int) (l:List UInt8):Int->List UInt8:=fun m=>if m=n then l else B m
theorem BookOf.put {D:DataW Unit} {K:List Int} {B:Int->List UInt8} (h:BookOf D K B) {n:Int} (h0:0<=n) (h1:n<4096) (s:ByteArray):∃ K',BookOf (D.put (uB n) (.lit (.string (bs s)))) K' (bN B n (bs s)):=by
 by_cases hn:n ∈ K
 ·refine ⟨K,h.tidy.put (lX n) _,h.nd,h.rng,fun m hm z=>?_,fun m hm=>?_,?_⟩
  ·unfold bN;by_cases e:m=n
   ·subst e;rw [if_pos rfl];exact atKey_put_same h.tidy.isMap (lX m) _ _
   ·rw [if_neg e,atKey_put_other (lY e)];exact h.yes m hm z
  ·have e:m≠n:=fun e=>hm (e ▸ hn)
   unfold bN;rw [has_put_other (lY e),if_neg e];exact h.no m hm
  ·rw [size_put h.tidy,has_true_of_atKey (fun z=>h.yes n hn z),if_pos rfl,h.size]
 ·refine ⟨K ++ [n],h.tidy.put (lX n) _,?_,fun m hm=>?_,fun m hm z=>?_,fun m hm=>?_,?_⟩
  ·rw [List.nodup_append];exact ⟨h.nd,by simp,fun a ha b hb e=>by simp at hb;subst e hb;exact hn ha⟩
  ·rcases List.mem_append.1 hm with hm | hm
   ·exact h.rng m hm
   ·rw [List.mem_singleton.1 hm];exact ⟨h0,by omega⟩
  ·unfold bN;rcases List.mem_append.1 hm with hm | hm
   ·have e:m≠n:=fun e=>hn (e ▸ hm)
    rw [if_neg e,atKey_put_other (lY e)];exact h.yes m hm z
   ·rw [List.mem_singleton.1 hm,if_pos rfl];exact atKey_put_same h.tidy.isMap (lX n) _ _
  ·rw [List.mem_append,not_or] at hm;have e:m≠n:=by simpa using hm.2
   unfold bN;rw [has_put_other (lY e),if_neg e];exact h.no m hm.1
  ·rw [size_put h.tidy,(h.no n hn).1,if_neg (by simp),h.size,List.length_append];rfl
def BookIs (w:World) (gm:Nat) (B:Int->List UInt8):Prop:=∃ D K,w.ownsMap Bt 3 yx gm K.length D/\BookOf D K B
section
variable {w w':World} {gm:Nat} {B:Int->List UInt8}
theorem uu {P:Program} {k:TypeId} {R:Value->Option (DataW Unit × List MemPlace)} {b n m:Nat} {D:DataW Unit} (h:w.ownsMap P k R b n D) (hm:Maps.size D=m):w.ownsMap P k R b m D:=by obtain ⟨es,clock,hb,F,hs,rfl⟩:=h;exact ⟨es,clock,hb,F,by rw [<- hm];simp [Maps.size,length_sorted],rfl⟩
theorem BookIs.made (w:World):BookIs (w.alloc (.map #[] 0)) w.heap.size (fun _=>blankL):=
 ⟨_,[],World.ownsMap_made w _ _ _,tidy_empty,List.Pairwise.nil,fun _ h=>absurd h List.not_mem_nil,fun _ h=>absurd h List.not_mem_nil,fun _ _=>⟨rfl,rfl⟩,rfl⟩
theorem BookIs.lt (h:BookIs w gm B):gm<w.heap.size:=let ⟨_,_,h,_⟩:=h;h.lt
theorem BookIs.block (h:BookIs w gm B) (hb:w'.heap[gm]?=w.heap[gm]?):BookIs w' gm B:=by obtain ⟨D,K,⟨es,clock,hh,F,hs,hD⟩,hm⟩:=h;exact ⟨D,K,⟨es,clock,hb.trans hh,F,hs,hD⟩,hm⟩
theorem BookIs.ch {S:Nat->Prop} (h:BookIs w gm B) (hc:Ch S w w') (hn:¬ S gm):BookIs w' gm B:=h.block (hc.block gm h.lt hn)
theorem BookIs.look (h:BookIs w gm B) {n:Int} (hw:yZ n):∃ (v:ByteArray) (b:Bool),(Instr.lookup 91 (.map (some gm)) (.int .i64 n) true).run Bt w=.ok (.tuple #[.string v,.bool b]) w/\(b=true->v=ap (B n))/\(b=false->B n=blankL):=by
 obtain ⟨D,K,hown,hm⟩:=h;obtain ⟨v,ps,hrun,hv⟩:=hown.look_ok tG Bv (xo w) (zd:=.lit (.string [])) (zp:=[]) rfl (tE hw);by_cases hn:n ∈ K
 ·rw [hm.yes n hn] at hv;have:=qe hv;subst this;exact ⟨_,_,hrun,fun _=>rfl,fun h=>by rw [has_true_of_atKey (fun z=>hm.yes n hn z)] at h;cases h⟩
 ·rw [atKey_of_not_has (hm.no n hn).1] at hv;have:=qe hv;subst this;refine ⟨_,_,hrun,?_⟩;rw [(hm.no n hn).1];exact ⟨fun h=>(by cases h),fun _=>(hm.no n hn).2⟩
theorem BookIs.put (h:BookIs w gm B) {n:Int} (h0:0<=n) (h1:n<4096) (s:ByteArray):
  ∃ w',(Instr.mapUpdate 91 (.map (some gm)) (.int .i64 n) (.string s)).run Bt w=.ok () w'/\BookIs w' gm (bN B n (bs s))/\w.grownBy w' (some gm):=by
 obtain ⟨D,K,hown,hm⟩:=h;have hl:=oz 4096 K hm.nd hm.rng;obtain ⟨w',hrun,hown',hg⟩:=hown.update tG Bv (by simp [maxLen];omega) (tE (lP h0 h1)) (val:=.string s) (d:=.lit (.string (bs s))) (ps:=[]) rfl;obtain ⟨K',hm'⟩:=hm.put h0 h1 s;exact ⟨w',hrun,⟨_,K',uu hown' hm'.size,hm'⟩,hg⟩
end
theorem ie (w:World):Calls Bt 52 #[] w fun e w'=>e=.returned (.string (ap blankL))/\Below w.heap.size w w':=by go_enter Tryz.func52,Tryz.ntmps52;go_wp2_with fail;refine (gH 232 w (by omega)).mono ?_;rintro e w1 ⟨rfl,hb⟩;have HB:=hid hb;clear hb;go_wp2_with fail;go_ret;exact ⟨rfl,HB.out⟩
theorem lI (n:Int) (gm:Nat) (B:Int->List UInt8) (w:World) (h:BookIs w gm B) (hw:yZ n):
  Calls Bt 175 #[.map (some gm),.int .i64 n] w fun e w'=>e=.returned (.tuple #[.string (ap (B n)),.int .i64 0])/\Below w.heap.size w w':=by
 obtain ⟨v,b,hrun,hy,hn⟩:=h.look hw;go_enter Tryz.func175,Tryz.ntmps175;cases b
 ·have HN:=hid (hn rfl);clear hy hn;go_wp2_with fail;refine (ie w).mono ?_;rintro e w1 ⟨rfl,hb⟩;have HB:=hid hb;clear hb;go_wp2_with fail;go_ret2;rw [HN.out];exact ⟨rfl,HB.out⟩
 ·have HY:=hid (hy rfl);clear hy hn;go_wp2_with fail;go_ret2;rw [<- HY.out];exact ⟨rfl,Below.refl _ _⟩
theorem lH (n:Int) (s:ByteArray) (gm:Nat) (B:Int->List UInt8) (w:World) (h:BookIs w gm B) (h0:0<=n) (h1:n<4096):
  Calls Bt 56 #[.map (some gm),.int .i64 n,.string s] w fun e w'=>e=.returned (.int .i64 0)/\BookIs w' gm (bN B n (bs s))/\Ch (fun k=>k=gm) w w':=by
 obtain ⟨w1,hrun,hb,hg⟩:=h.put h0 h1 s;have HB:=hid hb;have HG:=hid hg;clear hb hg;go_enter Tryz.func56,Tryz.ntmps56;go_wp2_with fail;go_ret;exact ⟨rfl,HB.out,Ch.zL HG.out (fun k e=>by cases e;rfl)⟩
end Go.Proofs.YtknioodagnjchaaGreatDoor
namespace Go.Proofs.YtknioodagnjchaaGreatDoor
open Nat renaming le_refl->Bt
open Go.Lib renaming hid->Z
open Go.RowKit Go.Maps
def kG (l:List UInt8):Int:=if ef l then 0 else 30
theorem nY (n:Int) (gm:Nat) (B:Int->List UInt8) (w:World) (h:BookIs w gm B) (hw:yZ n) (hl:(B n).length=232):
  Calls Tryz.prog 102 #[.iface 91 (.map (some gm)),.int .i64 n] w fun e w'=>∃ v,e=.returned (.tuple #[v,.int .i64 (kG (B n))])/\zn w.heap.size w' v (eZ (B n))/\Below w.heap.size w w':=by
 have HH:=Z h;clear h;go_enter Tryz.func102,Tryz.ntmps102;go_wp2_with fail;refine (lI n gm B _ (HH.out.ch (Ch.alloc (Ch.refl (fun _=>False) w) _) id) hw).mono ?_;rintro e w1 ⟨rfl,hb⟩;have HB1:=Z (((Below.refl _ w).alloc (Bt _) (.cells #[.int .i64 0,.slice none 0 0] 167)).trans (hb.mono (by simp)));have HR1:=Z (af (ag (w0:=w) (g:=w.heap.size) (o:=.cells #[.int .i64 0,.slice none 0 0] 167) rfl) hb);clear hb;go_wp2_with fail;refine (pp (ap (B n)) w1 (by rw [au];exact hl)).mono ?_;rw [bA];rintro e w2 ⟨v,rfl,⟨lv,rfl,ho⟩,hb⟩;have HB2:=Z (HB1.out.trans (hb.mono HB1.out.size));have HR2:=Z (af HR1.out hb);have hw1:=HB1.out.size;have HO:=Z ho;obtain ⟨A,c,rfl⟩:=Sl.zM (ho.sl ax);clear hb ho;have hgl:=aj HR2.out;have hgl1:=aj HR1.out;have HG:=Z (am HR2.out (.cells #[.int .i64 (eZ (B n)).next,.slice A (eZ (B n)).list.length c] 167));obtain ⟨r0,r1,r2,r3,r4⟩:=eM HG.out;have HT:=Z (ag (w0:=w2) (g:=w2.heap.size) (o:=.cells #[.int .i64 (eZ (B n)).next,.slice A (eZ (B n)).list.length c] 167) rfl);obtain ⟨t0,t1,t2,t3,t4⟩:=eM HT.out;have HOA:=Z (HO.out.alloc (.cells #[.int .i64 (eZ (B n)).next,.slice A (eZ (B n)).list.length c] 167));have HB3:=Z (HB2.out.alloc HB2.out.size (.cells #[.int .i64 (eZ (B n)).next,.slice A (eZ (B n)).list.length c] 167));go_upto_region 5 with fail
 generalize w2.alloc (.cells #[.int .i64 (eZ (B n)).next,.slice A (eZ (B n)).list.length c] 167)=w3 at *;generalize w2.heap.size=g2 at *;cases hd:ef (B n)
 ·have HE:=Z (show kA (B n)=4/\kG (B n)=30/\eZ (B n)=⟨0,[]⟩ by simp [kA,kG,eZ,hd]);rw [HE.out.1];go_wp2_with fail;have hx:=ai (ai HG.out 0 (.int .i64 0)) 1 (.slice none 0 0);obtain ⟨q0,q1,-⟩:=eM hx;exact bodyPost_ret (v:=.tuple #[.agg #[.int .i64 0,.slice none 0 0],.int .i64 (kG (B n))]) (by rw [HE.out.2.1];simp [results,Tryz.results102,go_sem,q0,q1]) rfl ⟨_,rfl,by rw [HE.out.2.2];exact ⟨_,rfl,Own.nil⟩,HB3.out.setCell (Bt _) _ |>.setCell (Bt _) _⟩
 ·have HE:=Z (show kA (B n)=0/\kG (B n)=0 by simp [kA,kG,hd]);rw [HE.out.1];go_wp2_with fail;have hx:=ai (ai HG.out 0 (.int .i64 (eZ (B n)).next)) 1 (.slice A (eZ (B n)).list.length c);obtain ⟨q0,q1,-⟩:=eM hx
  exact bodyPost_ret (v:=.tuple #[.agg #[.int .i64 (eZ (B n)).next,.slice A (eZ (B n)).list.length c],.int .i64 (kG (B n))]) (by rw [HE.out.2];simp [results,Tryz.results102,go_sem,q0,q1]) rfl
   ⟨_,rfl,⟨_,rfl,(HOA.out.ch (((Ch.refl (fun j=>j=w.heap.size) _).setCell (p:=⟨w.heap.size,0,none⟩) rfl _).setCell (p:=⟨w.heap.size,1,none⟩) rfl _) (fun j hj e=>by have:=(HO.out.lt j hj).1;omega)).base hw1⟩,HB3.out.setCell (Bt _) _ |>.setCell (Bt _) _⟩
def lL (t:Tk):Int:=if bX t then 30 else 0
def lM (t:Tk) (B:Int->List UInt8) (n:Int):Int->List UInt8:=if bX t then B else bN B n (aK (gD t))
theorem lW (n:Int) (t:Tk) (v:Value) (gm:Nat) (B:Int->List UInt8) (w:World) (h:BookIs w gm B) (h0:0<=n) (h1:n<4096) (hs:Sl iC 1 w v t.list) (hl:t.list.length<=1000000):
  Calls Tryz.prog 103 #[.iface 91 (.map (some gm)),.int .i64 n,.agg #[.int .i64 t.next,v]] w fun e w'=>e=.returned (.int .i64 (lL t))/\BookIs w' gm (lM t B n)/\Ch (fun k=>k=gm) w w':=by
 have HH:=Z h;have HS:=Z hs;obtain ⟨A,c,rfl⟩:=Sl.zM hs;have hgm:=h.lt;clear h hs;go_enter Tryz.func103,Tryz.ntmps103;go_wp2_with fail;have HA:=Z ((Below.refl _ w).alloc (Bt _) (.cells #[.int .i64 t.next,.slice A t.list.length c] 167));refine (kg t _ _ (HS.out.keep HA.out) hl).mono ?_;rintro e w1 ⟨rfl,hb⟩;have HB1:=Z (HA.out.trans (hb.mono HA.out.size));clear hb;cases hbad:bX t
 ·have HE:=Z (show lL t=0/\lM t B n=bN B n (aK (gD t)) by simp [lL,lM,hbad]);rw [show vv t=.tuple #[.string (ap (aK (gD t))),.int .i64 0] by unfold vv;rw [hbad];rfl];generalize aK (gD t)=F at *;go_wp2_with fail;refine (lH n (ap F) gm B w1 (HH.out.ch (Ch.zK (S:=fun _=>False) HB1.out) id) h0 h1).mono ?_;rintro e w2 ⟨rfl,hbk,hch⟩;have HBK:=Z hbk;have HCH:=Z ((Ch.zK (S:=fun k=>k=gm) HB1.out).trans hch);clear hbk hch;go_wp2_with fail;go_ret;exact ⟨by rw [HE.out.1];rfl,by rw [HE.out.2];exact HBK.out,HCH.out⟩
 ·have HE:=Z (show lL t=30/\lM t B n=B by simp [lL,lM,hbad]);rw [show vv t=.tuple #[.string (ap []),.int .i64 1] by unfold vv;rw [hbad];rfl];go_wp2_with fail;go_ret;exact ⟨by rw [HE.out.1];rfl,by rw [HE.out.2];exact HH.out.ch (Ch.zK (S:=fun _=>False) HB1.out) id,Ch.zK HB1.out⟩
end Go.Proofs.YtknioodagnjchaaGreatDoor
