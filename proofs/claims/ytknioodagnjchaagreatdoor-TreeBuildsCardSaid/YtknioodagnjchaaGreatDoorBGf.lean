/- node: isPage, isGood, rises; what a cell and a node are in memory. slices.Values, AppendSeq, Collect, Sorted at ints. strings.Builder: copyCheck, WriteByte, WriteString (the shelf's contracts fell at this dump: turned by hand). slices.BinarySearch at strings. node: unlike, Good. node: Good, Find; what a node is in memory. -/
import Derived.Test.YtknioodagnjchaaGreatDoorBGc
import Derived.Test.YtknioodagnjchaaGreatDoorBShelf
import Derived.Test.YtknioodagnjchaaGreatDoorBGb
import Derived.Test.YtknioodagnjchaaGreatDoorBGe
import Derived.Deep.QuietTactic
import Derived.BigQuiet
import Derived.Deep.Cut
import Derived.RangeFuncBox
import Derived.RangeFuncLeaves
import Derived.RangeFuncNested
import Derived.Shelf.Abstract
import Derived.OwnWalkIn
import Derived.TacticsInMore
import Derived.LoopNIn
import Derived.LoopIn
import Derived.Maps.AppendAt
import Derived.Sort.OwnSorted
import Derived.Shelf.SlIterI.Sorted
import Derived.Lib.Builder
import Derived.Lib.AppendStr
import Derived.Lib.UnsafeStr
import Derived.Laws.Externs
import Derived.Shelf.RegionOpenPlain
import Derived.Shelf.Strings.Builder1
set_option maxRecDepth 100000
set_option maxHeartbeats 2000000
namespace Go.Proofs.YtknioodagnjchaaGreatDoor
open Go.Lib renaming hid->Z
open Go.RowKit
def sC (s:List UInt8):List Value:=[.string (ap s)]
theorem aG (s:List UInt8):(sC s).length=1:=rfl
def cC (c:Ce):List Value:=[.int .i64 c.size,.string (ap c.data),.int .i64 c.page]
theorem bx (c:Ce):(cC c).length=3:=rfl
def dj (c:Ce):Obj:=.cells #[.int .i64 c.size,.string (ap c.data),.int .i64 c.page] 119 (0,0)
theorem ay (l:List UInt8):(ap l).toList=l:=by rw [ByteArray.toList_eq];rfl
theorem xR {a b:List UInt8} (h:ap a=ap b):a=b:=by rw [<- bA a,h,bA]
theorem jJ (n:Int) (w:World):Calls Tryz.prog 185 #[.int .i64 n] w fun e w'=>e=.returned (.bool (cI n))/\w=w':=by
 go_enter Tryz.func185,Tryz.ntmps185;by_cases h1:1<=n
 ·have HV:=Z (show cI n=decide (n<4096) by simp [cI,h1]);go_wp2_with fail;go_ret;exact ⟨by rw [HV.out];rfl,rfl⟩
 ·have HV:=Z (show cI n=false by simp [cI,h1]);have h2:n<1:=by omega
  go_wp2_with fail;go_ret;exact ⟨by rw [HV.out];rfl,rfl⟩
theorem sr (c:Ce) (w:World) (hl:c.data.length<=1000000):Calls Tryz.prog 156 #[.agg #[.int .i64 c.size,.string (ap c.data),.int .i64 c.page]] w fun e w'=>e=.returned (.bool (aI c))/\Below w.heap.size w w':=by
 have HB:=Z ((Below.refl _ w).alloc (Nat.le_refl _) (dj c));have HG:=Z (ag (w0:=w) (g:=w.heap.size) (o:=dj c) rfl);have hsz:=au c.data;have hsz2:((ap c.data).size:Int)=c.data.length:=by rw [hsz]
 obtain ⟨sz,da,pg⟩:=c;simp only at hl hsz hsz2;go_enter Tryz.func156,Tryz.ntmps156;go_upto_region 1 with fail
 generalize hw1:w.alloc (.cells #[.int .i64 sz,.string (ap da),.int .i64 pg] 119)=w1 at *;have hw2:w.alloc (dj ⟨sz,da,pg⟩)=w1:=hw1;rw [hw2] at HB HG;clear hw1 hw2;have a0:w1.cell? ⟨w.heap.size,0,none⟩=some (.int .i64 sz):=ae HG.out 0;have a1:w1.cell? ⟨w.heap.size,1,none⟩=some (.string (ap da)):=ae HG.out 1;have a2:w1.cell? ⟨w.heap.size,2,none⟩=some (.int .i64 pg):=ae HG.out 2;have a3:=aj HG.out;by_cases h1:sz<0
 ·have HV:=Z (show aI ⟨sz,da,pg⟩=false by simp [aI,h1]);go_wp2_with fail;go_ret;exact ⟨by rw [HV.out];rfl,HB.out⟩
 ·have h2:(0:Int)<=sz:=by omega
  by_cases h3:5000<sz
  ·have HV:=Z (show aI ⟨sz,da,pg⟩=false by simp [aI,h3]);go_wp2_with fail;go_ret;exact ⟨by rw [HV.out];rfl,HB.out⟩
  ·have h4:sz<=5000:=by omega
   by_cases h5:sz<=40
   ·by_cases h6:(da.length:Int)=sz
    ·have h7:(((ap da).size:Int) == sz)=true:=by rw [hsz2,h6];simp
     have HV:=Z (show aI ⟨sz,da,pg⟩=(pg == 0) by
      unfold aI;rw [if_neg (by simp only;omega),if_pos h5];simp [h6];rfl)
     clear hsz hsz2 h6;go_wp2_with fail;go_ret;exact ⟨by rw [HV.out];rfl,HB.out⟩
    ·have h7:(((ap da).size:Int) == sz)=false:=by rw [hsz2];simpa using h6
     have HV:=Z (show aI ⟨sz,da,pg⟩=false by
      unfold aI;rw [if_neg (by simp only;omega),if_pos h5];simp [h6])
     clear hsz hsz2 h6;go_wp2_with fail;go_ret;exact ⟨by rw [HV.out];rfl,HB.out⟩
   ·have h5b:(40:Int)<sz:=by omega
    by_cases h6:da=[]
    ·subst h6;have HV:=Z (show aI ⟨sz,[],pg⟩=cI pg by
      unfold aI;rw [if_neg (by simp only;omega),if_neg (by simp only;omega)];simp)
     have h8:(ap ([]:List UInt8)).toList.isEmpty=true:=by rw [ay];rfl
     clear hsz hsz2;go_wp2_with fail;refine (jJ pg w1).mono ?_;rintro e w2 ⟨rfl,rfl⟩;go_wp2_with fail;go_ret;exact ⟨by rw [HV.out];rfl,HB.out⟩
    ·have h8:(ap da).toList.isEmpty=false:=by rw [ay];simpa using h6
     have HV:=Z (show aI ⟨sz,da,pg⟩=false by
      unfold aI;rw [if_neg (by simp only;omega),if_neg (by simp only;omega)];simp [h6])
     clear hsz hsz2 h6;go_wp2_with fail;go_ret;exact ⟨by rw [HV.out];rfl,HB.out⟩
theorem Sl.key {w:World} {ks:List By} {A:Option Addr} {n c:Nat} (h:Sl sC 1 w (.slice A n c) ks) {k:Nat} (hk:k<ks.length):∃ b off,A=some ⟨b,off,none⟩/\b<w.heap.size/\n=ks.length/\w.cell? ⟨b,off+k,none⟩=some (.string (ap ks[k])):=by
 obtain ⟨A',c',he,h⟩:=h;injection he with e1 e2 e3
 subst e1 e2;obtain ⟨b,off,rfl,hlt,hc⟩:=h (by rintro rfl;simp at hk);have:=hc k ks[k] (List.getElem?_eq_getElem hk) 0 _ rfl;exact ⟨b,off,rfl,hlt,rfl,by simpa using this⟩
def gq:Option By->List By->Bool
 | _,[]=>true
 | p,a :: l=>decide (a.length<=64) && (match p with | none=>true | some x=>bM x a) && gq (some a) l
theorem oe:∀ (a:By) (l:List By),a.length<=64->gq (some a) l=aH (a :: l)
 | a,[],h=>by simp [gq,aH,h]
 | a,b :: r,h=>by
   rw [aH,gq];by_cases hb:b.length<=64
   ·rw [oe b r hb];simp [h,hb]
   ·have:aH (b :: r)=false:=by
     cases hh:aH (b :: r)
     ·rfl
     ·exact absurd (bQ hh b List.mem_cons_self) hb
    rw [this];simp [hb]
theorem kK (ks:List By):gq none ks=aH ks:=by
 cases ks with
 | nil=>rfl
 | cons a l=>
   rw [gq];by_cases h:a.length<=64
   ·rw [oe a l h];simp [h]
   ·have:aH (a :: l)=false:=by
     cases hh:aH (a :: l)
     ·rfl
     ·exact absurd (bQ hh a List.mem_cons_self) h
    rw [this];simp [h]
def cW (ks:List By) (k:Nat):Option By:=if k=0 then none else ks[k - 1]?
theorem kJ {ks:List By} {k:Nat} (h:k<ks.length):gq (cW ks k) (ks.drop k)=(decide (ks[k].length<=64) && (match cW ks k with | none=>true | some x=>bM x ks[k]) && gq (cW ks (k+1)) (ks.drop (k+1))):=by rw [List.drop_eq_getElem_cons h,show cW ks (k+1)=some ks[k] by simp [cW,h]];cases cW ks k <;> rfl
theorem uf (ks:List By) (v:Value) (w:World) (h:Sl sC 1 w v ks) (hl:ks.length<=1000000) (hk:∀ k ∈ ks,k.length<=1000000):Calls Tryz.prog 154 #[v] w fun e w'=>e=.returned (.bool (aH ks))/\Below w.heap.size w w':=by
 obtain ⟨A,c,rfl⟩:=Sl.zM h;have H:=Z h;have HK:=Z hk;have HR0:=Z (show gq (cW ks 0) (ks.drop 0)=aH ks from kK ks);clear h hk;go_enter Tryz.func154,Tryz.ntmps154;go_wp2_with fail;go_loopw [7] (fun i wr=>∃ k:Nat,k<=ks.length/\i=.int .i64 k/\gq (cW ks k) (ks.drop k)=aH ks/\Below w.heap.size w wr) (fun i _=>ks.length - (intOf i).toNat)
 case atStart=>exact ⟨0,Nat.zero_le _,rfl,HR0.out,Below.refl _ _⟩
 case round=>
  obtain ⟨k,hk,rfl,hr,hb⟩:=hrel;have HR:=Z hr;have HB:=Z hb;clear hr hb;by_cases hlt:k<ks.length
  ·obtain ⟨b,off,rfl,hbl,_,hc⟩:=(H.out.keep HB.out).key hlt;have hsz:(ap ks[k]).size=ks[k].length:=au _;have HS:=Z (kJ hlt);have hkl:ks[k].length<=1000000:=HK.out _ (List.getElem_mem _);by_cases h64:64<ks[k].length
   ·have h64b:(64:Int)<((ap ks[k]).size:Int):=by rw [hsz];omega
    have HV:=Z (show aH ks=false by rw [<- HR.out,HS.out,decide_eq_false (by omega)];rfl);clear hsz;go_wp2_with fail;go_ret;exact ⟨by rw [HV.out];rfl,HB.out⟩
   ·have h64b:((ap ks[k]).size:Int)<=64:=by rw [hsz];omega
    have h64c:decide (ks[k].length<=64)=true:=by simp;omega
    rcases Nat.eq_zero_or_pos k with h0 | h0
    ·have HV:=Z (show gq (cW ks (k+1)) (ks.drop (k+1))=aH ks by
      rw [<- HR.out,HS.out,h64c];simp [cW,h0])
     clear hsz h64c;subst h0;simp only [Nat.add_zero] at hc;go_wp2_with fail;go_roundw
     case rel=>first | exact ⟨0+1,by omega,by go_num,HV.out,HB.out⟩ | ((repeat apply Exists.intro);exact ⟨⟨0+1,by omega,by go_num,HV.out,HB.out⟩,by and_intros <;> rfl⟩)
     case measure=>simp [intOf];omega
    ·obtain ⟨m,rfl⟩:∃ m,k=m+1:=⟨k - 1,by omega⟩;obtain ⟨b',off',he,_,_,hc'⟩:=(H.out.keep HB.out).key (show m<ks.length by omega);injection he with he
     injection he with e1 e2
     subst e1 e2;have hcm:Op.bytesLess (ap ks[m]).toList (ap ks[m+1]).toList=bM ks[m] ks[m+1]:=by rw [ay,ay];rfl
     have HS2:=Z (show aH ks=(bM ks[m] ks[m+1] && gq (cW ks (m+1+1)) (ks.drop (m+1+1))) by
      rw [<- HR.out,HS.out,h64c];simp [cW,show m<ks.length by omega])
     clear hsz h64c;cases hcc:bM ks[m] ks[m+1]
     ·have HV:=Z (show aH ks=false by rw [HS2.out,hcc];rfl);rw [hcc] at hcm;clear hcc HS2;generalize ap ks[m+1]=x at *;generalize ap ks[m]=y at *;go_wp2_with fail;go_ret;exact ⟨by rw [HV.out];rfl,HB.out⟩
     ·have HV:=Z (show gq (cW ks (m+1+1)) (ks.drop (m+1+1))=aH ks by rw [HS2.out,hcc];simp);rw [hcc] at hcm;clear hcc HS2;generalize ap ks[m+1]=x at *;generalize ap ks[m]=y at *;go_wp2_with fail;go_roundw
      case rel=>first | exact ⟨m+1+1,by omega,by go_num,HV.out,HB.out⟩ | ((repeat apply Exists.intro);exact ⟨⟨m+1+1,by omega,by go_num,HV.out,HB.out⟩,by and_intros <;> rfl⟩)
      case measure=>simp [intOf];omega
  ·have HV:=Z (show aH ks=true by
    rw [<- HR.out,List.drop_of_length_le (by omega)];cases cW ks k <;> rfl)
   go_wp2_with fail;go_ret;exact ⟨by rw [HV.out];rfl,HB.out⟩
end Go.Proofs.YtknioodagnjchaaGreatDoor
namespace Go.Proofs.YtknioodagnjchaaGreatDoor
open _root_.Array renaming replicate_succ->Bt,replicate_zero->Bv
open List renaming append_toArray->Bw,size_toArray->Bx,push_toArray->Bz,length_cons->BA,cons_append->BB,length_nil->BC,nil_append->BD
open Go.Proofs.Tryz renaming prog->BE,func214->BI,ntmps214->BJ
open Nat renaming reduceAdd->BF,reduceSub->BG,le_refl->BH
open Go.Lib (hid)
open Go.RowKit Go.Shelf Go.Sort
attribute [local go_sem] Oper.semAt_some
theorem qB (zs:List Int) {k:Nat} (h:k<zs.length):zs.take (k+1)=zs.take k ++ [zs[k]]:=List.take_succ_eq_append_getElem h
theorem tX (F:Fence) (n:Nat) (h7:F.fn 214) (hro:F.round=none) (hn:1<=n) (l Bs n₀ b off cap:Nat) (zs:List Int) (hreach:zs.length<=1000000) (hb:b<n₀) (J Jx:List Int->World->Prop)
  (hY:∀ pre x W,J pre W->pre.length<zs.length->YieldAt F (n - 1) BE l #[.int .i64 x] W fun e W'=>
    (e=.returned (.bool true)/\J (pre ++ [x]) W'/\Below n₀ W W')\/(e=.returned (.bool false)/\Jx (pre ++ [x]) W'))
  (W:World) (hBs:W.cell? ⟨Bs,0,none⟩=some (.slice (some ⟨b,off,none⟩) zs.length cap)) (hc:∀ j (h:j<zs.length),W.cell? ⟨b,off+j,none⟩=some (.int .i64 zs[j])) (h0:J [] W):
  CallsIn F n BE 214 #[.func (.yield l) #[] #[],.pointer (some ⟨Bs,0,none⟩)] W fun e W'=>(∃ v,e=.returned v)/\
   ((∃ ys,ys=zs/\J ys W')\/(∃ pre,pre <+: zs/\Jx pre W')):=by
 refine callsIn_of_wp BI rfl h7 ?_ hro;simp only [BJ,Bx,BA,BC,BF,BG,Bt,Bv,Bz,Bw,BD,BB];gi_wp2
 gi_loopw [7] (fun i wr=>∃ k:Nat,k<=zs.length/\i=.int .i64 k/\J (zs.take k) wr/\Below n₀ W wr)
  (fun i _=>zs.length - (intOf i).toNat)
 case atStart=>exact ⟨0,Nat.zero_le _,rfl,h0,Below.refl _ _⟩
 case round=>
  obtain ⟨k,hk,rfl,hJs,hnx⟩:=hrel;by_cases hlt:k<zs.length
  ·obtain ⟨fn,tmps,assign,body,hy,hR⟩:=hY _ zs[k] wr hJs (by rw [List.length_take];omega);have hcx':=(hnx.cell (p:=⟨b,off+k,none⟩) hb).trans (hc k hlt);gi_wp2;refine hR.mono ?_;rintro e W3 (⟨rfl,hJ3,hk3⟩ | ⟨rfl,hJx3⟩)
   ·gi_wp2;go_roundw
    case rel=>exact ⟨k+1,by omega,by simp,by rw [qB zs hlt];exact hJ3,hnx.trans hk3⟩
    case measure=>simp [intOf];omega
   ·gi_wp2;refine bodyPost_ret (results_none rfl _ _ _) rfl ?_;exact ⟨⟨_,rfl⟩,.inr ⟨_,by rw [<- qB zs hlt];exact List.take_prefix _ _,hJx3⟩⟩
  ·obtain rfl:k=zs.length:=by omega
   gi_wp2;go_end0;exact ⟨⟨_,rfl⟩,.inl ⟨_,List.take_length,hJs⟩⟩
theorem nN (F:Fence) (n:Nat) (h7:F.fn 214) (hro:F.round=none) (l Bs:Nat) (A:Option Addr) (c:Nat) (J:List Int->World->Prop) (W:World) (hBs:W.cell? ⟨Bs,0,none⟩=some (.slice A 0 c)) (h0:J [] W):
  CallsIn F n BE 214 #[.func (.yield l) #[] #[],.pointer (some ⟨Bs,0,none⟩)] W fun e W'=>(∃ v,e=.returned v)/\J [] W':=by
 refine callsIn_of_wp BI rfl h7 ?_ hro;simp only [BJ,Bx,BA,BC,BF,BG,Bt,Bv,Bz,Bw,BD,BB];gi_wp2;gi_loopw [7] (fun i wr=>i=.int .i64 0/\J [] wr) (fun _ _=>0)
 case atStart=>exact ⟨rfl,h0⟩
 case round=> obtain ⟨rfl,hJs⟩:=hrel;gi_wp2;go_end0;exact ⟨⟨_,rfl⟩,hJs⟩
theorem vx (F:Fence) (n:Nat) (h5:F.fn 188) (hro:F.round=none) (a:Option Addr) (len cap:Nat) (w:World):
  CallsIn F n BE 188 #[.slice a len cap] w fun e w'=>e=.returned (.func (.func 214) #[] #[.pointer (some ⟨w.heap.size,0,none⟩)])/\w'=w.alloc (.cells #[.slice a len cap] 37):=by
 refine callsIn_of_wp Tryz.func188 rfl h5 ?_ hro;simp only [Tryz.ntmps188,Bx,BA,BC,BF,BG,Bt,Bv,Bz,Bw,BD,BB];gi_wp2;go_ret;exact ⟨rfl,rfl⟩
theorem qb (F:Fence) (n:Nat) (h7:F.fn 214) (hro:F.round=none) (hn:1<=n) (Bs n₀:Nat) (sv:Value) (zs:List Int) (hreach:zs.length<=1000000) (w:World) (hBs:Bs<w.heap.size)
  (hc:w.cell? ⟨Bs,0,none⟩=some sv) (hI:∃ w0:World,w0.heap.size<=n₀/\Sl iC 1 w0 sv zs/\Below w0.heap.size w0 w):
  SeqStopsK F n BE 214 #[.pointer (some ⟨Bs,0,none⟩)] (fun x:Int=>#[Value.int .i64 x]) (Below n₀) (fun ys=>ys=zs) (fun pre=>pre <+: zs) zs.length w:=fun l J Jx W hW _ _ hY h0=>by
 have hc':=(hW.cell (p:=⟨Bs,0,none⟩) hBs).trans hc;obtain ⟨w0,h0n,hsl,hb0⟩:=hI;rcases hsl.cases with ⟨A,c,rfl,rfl⟩ | ⟨b,off,cap,rfl,hne,hlt,hsl'⟩
 ·exact (nN F n h7 hro l Bs A c J W hc' h0).mono fun e W' ⟨he,hj⟩=>⟨he,.inl ⟨_,rfl,hj⟩⟩
 ·refine tX F n h7 hro hn l Bs n₀ b off cap zs hreach (by omega) J Jx hY W hc' (fun j hj=>?_) h0;have:=(hsl'.cells hj).2 0 _ rfl;rw [Nat.mul_one,Nat.add_zero] at this;exact (hW.cell (p:=⟨b,off+j,none⟩) (show b<w.heap.size by have:=hb0.size;omega)).trans ((hb0.cell (p:=⟨b,off+j,none⟩) hlt).trans this)
theorem zh:(Tryz.prog.info? 3).map (fun i=>(i.zero,i.size,i.bytes))=some (some (.int .i64 0),1,8):=by kernel_rfl
theorem me (l:List Int):l.flatMap iC=l.map (Value.int .i64):=by
 induction l with
 | nil=>rfl
 | cons a l ih=>rw [List.flatMap_cons,ih];rfl
theorem vh (F:Fence) (n:Nat) (h3:F.fn 224) (h5:F.fn 214) (hro:F.round=none) (hn:3<=n) (Bs:Nat) (sv:Value) (zs:List Int) (hlen:zs.length<=1000000) (w w0:World) (hBs:Bs<w.heap.size)
  (hcs:w.cell? ⟨Bs,0,none⟩=some sv) (hsl:Sl iC 1 w0 sv zs) (hb0:Below w0.heap.size w0 w):
  CallsIn F n BE 224 #[.slice none 0 0,.func (.func 214) #[] #[.pointer (some ⟨Bs,0,none⟩)]] w fun e W'=>∃ v,e=.returned v/\Own iC 1 3 w.heap.size W' v zs/\Below w.heap.size w W':=by
 have h1:1<=n:=by omega
 obtain ⟨i0,hi,hz0,hz1,hz2⟩:=info_parts zh;refine callsIn_of_wp_marks Tryz.func224 rfl h3 ?_ hro;simp only [Tryz.ntmps224,Bx,BA,BC,BF,BG,Bt,Bv,Bz,Bw,BD,BB];gi_wp2;have bO:=Boxed.new w 37 (.slice none 0 0);have hB0:Below w.heap.size w (w.alloc (.cells #[.slice none 0 0] 37)):=(Below.refl _ w).alloc (BH _) _;have hcs2:=(hB0.cell (p:=⟨Bs,0,none⟩) hBs).trans hcs
 refine wpIn_rangeFunc_ownG hro h1 (gf:=214) (lb:=#[.pointer (some ⟨Bs,0,none⟩)]) rfl h5 (enters_of BI (by kernel_rfl) rfl)
  (qb F (n - 1) h5 hro (by omega) Bs w.heap.size sv zs hlen _ (by simp;omega) hcs2 ⟨w0,hb0.size,hsl,hb0.trans (hB0.mono hb0.size)⟩) belowK_t (belowK_b (by simp)) (Below.refl _ _) (fun _=>rfl)
  (fun pre W=>(∃ v,Boxed W w.heap.size 37 v/\W.ownsRow w.heap.size 3 1 v pre.length (pre.map (Value.int .i64))/\(v=.slice none 0 0↔pre=[]))/\Below w.heap.size w W)
  (fun _ _ _=>False)
  (OwnFrom.and (Own.from (holdsRow_own w.heap.size w.heap.size 37 3 1 (fun pre=>pre.length) (fun pre=>pre.map (Value.int .i64)) (fun pre v=>v=.slice none 0 0↔pre=[])) _) (ownFrom_below (BH _) (by simp)))
  (fun _ _ _ _ _ hs _ _=>hs)
  ⟨⟨_,bO,World.ownsRow_nil _ _ _ _,by simp⟩,hB0⟩
  (fun x=>{ tmps:=#[.slice none 0 0,.func (.func 214) #[] #[.pointer (some ⟨Bs,0,none⟩)],.pointer (some ⟨w.heap.size,0,none⟩),undef,.slice none 0 0,.int .i64 x,.func (.func 214) #[] #[.pointer (some ⟨Bs,0,none⟩)],.int .i64 x,undef,undef,undef,undef,undef],defers:=[] }) ?assign ?body ?done ?stop
 case assign=> intro l x W K hK;gi_wp2;exact hK
 case body=> rintro l pre x W ⟨⟨v,hv,hrow,hnil⟩,hB⟩ hlt;have hc:=hv.cell;gi_wp2_with (gi_at_builtin;refine wpListIn_append_own _ rfl _ _ 37 rfl w.heap.size 3 i0 (.int .i64 0) 1 8 Tryz.underlying37 hi hz0 hz1 hz2 rfl (by decide) _ _ _ rfl (hrow.alloc _) ⟨W.heap.size,0,none⟩ 1 1 [.int .i64 x] rfl rfl (cell_one_new _ _ _) (by simp [Value.oneCell']) (by simp [maxLen];omega) (by omega) (by have:=hB.size;simp;omega) ?_;intro v' w1 hown' hgrow _;obtain ⟨g',cap',rfl⟩:=ownsRow_succ hown';obtain ⟨hv1,hv2,hr2,hk2,hb2⟩:=hv.appended (by decide) hrow hB.size (BH _) hown' hgrow;have hc1:=hv1.cell;have hf1:=hv1.frozen);exact ⟨hk2.from _,hb2,⟨_,hv2,by simpa using hr2,by simp⟩,hB.trans hb2⟩
 case done=> rintro D ys W hD rfl ⟨⟨v,hv,hrow,hnil⟩,hB⟩ hK;have hc:=hv.cell;gi_wp2;refine ⟨by simp,.inl ⟨_,_,rfl,run_takeDeferred hK,?_⟩⟩;refine ⟨_,results_tmp rfl _ _ _,v,rfl,?_,hB.trans (belowK_b (w:=w) (BH _) W D _ _ (by simp at hD;omega) hK rfl rfl)⟩;unfold Own;rw [me];exact ownsRow_putObj hrow _ hK rfl
 case stop=> rintro D c pre W _ _ h _;exact h.elim
theorem ru (F:Fence) (n:Nat) (h2:F.fn 212) (h3:F.fn 224) (h5:F.fn 214) (hro:F.round=none) (hn:4<=n) (Bs:Nat) (sv:Value) (zs:List Int) (hlen:zs.length<=1000000) (w w0:World) (hBs:Bs<w.heap.size)
  (hcs:w.cell? ⟨Bs,0,none⟩=some sv) (hsl:Sl iC 1 w0 sv zs) (hb0:Below w0.heap.size w0 w):
  CallsIn F n BE 212 #[.func (.func 214) #[] #[.pointer (some ⟨Bs,0,none⟩)]] w fun e W'=>∃ v,e=.returned v/\Own iC 1 3 w.heap.size W' v zs/\Below w.heap.size w W':=by
 have h1:1<=n:=by omega
 refine callsIn_of_wp Tryz.func212 rfl h2 ?_ hro;simp only [Tryz.ntmps212,Bx,BA,BC,BF,BG,Bt,Bv,Bz,Bw,BD,BB];gi_wp2_with (gi_at_call 224;refine (vh F (n - 1) h3 h5 hro (by omega) Bs sv zs hlen w w0 hBs hcs hsl hb0).mono ?_;rintro e w' ⟨v,rfl,ho,hb⟩);go_ret;exact ⟨v,rfl,ho,hb⟩
def my (zs:List Int):List Int:=zs.mergeSort fun x y=>decide (x<=y)
theorem mw (zs:List Int):(my zs).length=zs.length:=List.length_mergeSort _
theorem qf (Bs:Nat) (sv:Value) (zs:List Int) (hlen:zs.length<=1000000) (w w0:World) (hBs:Bs<w.heap.size)
  (hcs:w.cell? ⟨Bs,0,none⟩=some sv) (hsl:Sl iC 1 w0 sv zs) (hb0:Below w0.heap.size w0 w):
  Calls BE 187 #[.func (.func 214) #[] #[.pointer (some ⟨Bs,0,none⟩)]] w fun e W'=>∃ v,e=.returned v/\Own iC 1 3 w.heap.size W' v (my zs)/\Below w.heap.size w W':=by
 go_enter Tryz.func187,Tryz.ntmps187;go_wp2_with fail;refine ((callsIn_wide (n:=4)).1 (ru Fence.wide 4 trivial trivial trivial rfl (by omega) Bs sv zs hlen w w0 hBs hcs hsl hb0)).mono ?_;rintro e w1 ⟨v,rfl,ho,hb⟩;have HO:=hid ho;have HB:=hid hb;rcases ho.2 with ⟨rfl,h0⟩ | ⟨g,cap,cur,rfl,hbase,hg,hcap,hmx,hcc,htk⟩
 ·have hz:zs=[]:=List.eq_nil_of_length_eq_zero h0;subst hz;clear ho hb;go_wp2_with fail;refine (Tryz.slices_Sort_int_none none 0 w1).mono ?_;rintro e w2 ⟨rfl,rfl⟩;go_wp2_with fail;go_ret;exact ⟨_,rfl,by rw [show my []=[] by simp [my]];exact HO.out,HB.out⟩
 ·have hH:Holds (Value.int .i64) w1 g 0 zs.toArray:=holds_of_block_i hg (by rw [Nat.mul_one,me] at htk;exact htk);have hgl:=aj hg;have HG:=hid (And.intro hg (And.intro hcap (And.intro hmx hcc)));clear ho hb htk hg hcap hmx hcc;go_wp2_with fail;refine (Tryz.slices_Sort_int g 0 cap zs w1 hH hgl (by omega)).mono ?_;rintro e w2 ⟨rfl,q,os,rfl⟩;go_wp2_with fail;go_ret;refine ⟨_,rfl,?_,HB.out.grown (grownBy_sorted_i _) HB.out.size (fun j hj=>by cases hj;exact hbase)⟩;unfold Own;rw [me,mw];exact ownsRow_sorted_i (by simp) hbase HG.out.1 HG.out.2.1 HG.out.2.2.1 HG.out.2.2.2
end Go.Proofs.YtknioodagnjchaaGreatDoor
namespace Go.Proofs.YtknioodagnjchaaGreatDoor
open Go.Lib renaming byteCells->Bt,cell_of_heap->Bv,byteCells_length->Bw,frozen_of_heap->Bx,strCells->Bz
open Go.Lib renaming hid->Z
open Go.RowKit Go.Shelf
theorem tQ:(Tryz.prog.info? 206).map (·.size)=some 2:=by kernel_rfl
theorem yi:liesAt Tryz.prog Tryz.prog.depth 206 (2 / Tryz.prog.cellsOf 206) 0 206 1=true:=by kernel_rfl
theorem jj (b:Nat) (w:World) (h0:w.cell? ⟨b,0,none⟩=some (.pointer (some ⟨b,0,none⟩))):
  Calls Tryz.prog 182 #[.pointer (some ⟨b,0,none⟩)] w fun e w'=>e=.returned (.tuple #[])/\w'=w:=by
 obtain ⟨j,hj,_⟩:=Option.map_eq_some_iff.1 tQ;go_enter Tryz.func182,Tryz.ntmps182;go_wp2;rw [Lib.run_neq_ptr_same w _ Tryz.underlying204 hj];go_wp2;go_end0;exact ⟨rfl,rfl⟩
theorem iI (b:Nat) (w:World) (h0:w.cell? ⟨b,0,none⟩=some (.pointer none)) (hsh:w.shape? b=some (206,2)) (hfz:w.frozen? ⟨b,0,none⟩=false):
  Calls Tryz.prog 182 #[.pointer (some ⟨b,0,none⟩)] w fun e w'=>e=.returned (.tuple #[])/\w'=w.setCell ⟨b,0,none⟩ (.pointer (some ⟨b,0,none⟩)):=by
 obtain ⟨j,hj,hjs⟩:=Option.map_eq_some_iff.1 tQ;go_enter Tryz.func182,Tryz.ntmps182;go_wp2;rw [Lib.run_to_unsafe w ⟨b,0,none⟩ Tryz.underlying204 Tryz.underlying256 hj (by rw [hjs];decide) hsh (Nat.zero_lt_succ 1)];simp only [Result.andThen];rw [Oper.upon_value];go_wp2;rw [run_callFunc_extern Tryz.func210 (by kernel_rfl) (by kernel_rfl) (by kernel_rfl) (e:=Extern.AbiNoEscape.same) (by kernel_rfl)];rw [Lib.run_noEscape];simp only [Result.andThen];rw [Oper.upon_value];go_wp2;rw [Lib.run_from_unsafe w ⟨b,0,none⟩ Tryz.underlying256 Tryz.underlying204 hj hsh yi];simp only [Result.andThen];rw [Oper.upon_value];go_wp2;go_end0;exact ⟨rfl,rfl⟩
def Bu (B b:Nat) (l:List UInt8) (w:World):Prop:=Lib.IsBuilder 206 5 B b (Bt l) w
theorem jF (B b:Nat) (l:List UInt8) (w:World) (h:Bu B b l w):
  Calls Tryz.prog 182 #[.pointer (some ⟨b,0,none⟩)] w fun e w'=>e=.returned (.tuple #[])/\(Lib.BuilderAt 206 5 B b (.pointer (some ⟨b,0,none⟩)) (Bt l) w'/\Below B w w'):=by
 rcases h with h | h
 ·refine (iI b w h.cell0 h.shape h.frozen0).mono ?_;rintro e w' ⟨rfl,rfl⟩;exact ⟨rfl,h.used _,(Below.refl B w).setCell (p:=⟨b,0,none⟩) h.1 _⟩
 ·refine (jj b w h.cell0).mono ?_;rintro e w' ⟨rfl,rfl⟩;exact ⟨rfl,h,Below.refl B _⟩
theorem Bu.new {w:World} {b:Nat} (hb:w.heap[b]?=some (.cells #[.pointer none,.slice none 0 0] 206 (0,0))) {B:Nat} (hB:B<=b):Bu B b [] w:=
 .inl ⟨hB,_,hb,World.ownsRow_nil _ _ _ _,by simp [Value.ownBlock]⟩
theorem nX (B b:Nat) (l:List UInt8) (c:UInt8) (w:World) (h:Bu B b l w) (hlen:l.length<=1000000) (hBw:B<=w.heap.size):
  Calls Tryz.prog 200 #[.pointer (some ⟨b,0,none⟩),.int .u8 c.toNat] w fun e w'=>e=.returned .nilIface/\Bu B b (l ++ [c]) w'/\Below B w w':=by
 obtain ⟨i0,hi,hz0,hz1,hz2⟩:=info_parts tI;have HL:(Bt l).length<=1000000:=by rw [Bw];exact hlen
 have HE:=Z (show Bt (l ++ [c])=Bt l ++ [.int .u8 c.toNat] by simp [Bt]);go_enter Tryz.func200,Tryz.ntmps200;go_wp2_with fail;refine (jF B b l _ h).mono ?_;clear h;generalize Bt l=bs at *;rintro e w1 ⟨rfl,h1,hb1⟩;have HB1:=Z hb1;have hs1:=hb1.size;clear hb1;obtain ⟨hB,v,hbk,hown,hne⟩:=h1;have HO:=Z hown;have HN:=Z hne;have HBK:=Z hbk;have c0:w1.cell? ⟨b,0,none⟩=some (.pointer (some ⟨b,0,none⟩)):=by rw [Bv hbk];rfl
 have c1:w1.cell? ⟨b,1,none⟩=some v:=by rw [Bv hbk];rfl
 have hlt:b<w1.heap.size:=aj hbk;clear hown hne hbk;go_wp2_with (at_builtin;refine wpList_append_own _ rfl _ _ 46 rfl B 5 i0 (.int .u8 0) 1 1 Tryz.underlying46 hi hz0 hz1 hz2 rfl (by decide) _ _ _ rfl (HO.out.alloc _) ⟨w1.heap.size,0,none⟩ 1 1 [.int .u8 c.toNat] rfl rfl ?c1 ?c2 ?c3 ?c4 ?c5 ?_)
 case c1=>
  intro j u hj
  match j,hj with
  | 0,hj=>simp at hj;subst hj;simp [Addr.add]
 case c2=>intro u hu;simp at hu;subst hu;rfl
 case c3=>unfold maxLen;omega
 case c4=>omega
 case c5=>simp;omega
 intro v' w2 hown' hgrow _;have hb2:w2.heap[b]?=some (.cells #[.pointer (some ⟨b,0,none⟩),v] 206 (0,0)):=by rw [hgrow.block b (by simp;omega) (fun e=>HN.out e.symm),Lib.alloc_old w1 _ b hlt];exact HBK.out
 have d0:w2.cell? ⟨b,0,none⟩=some (.pointer (some ⟨b,0,none⟩)):=by rw [Bv hb2];rfl
 have d1:w2.cell? ⟨b,1,none⟩=some v:=by rw [Bv hb2];rfl
 have f1:w2.frozen? ⟨b,1,none⟩=false:=Bx hb2 1;obtain ⟨g,cap,rfl⟩:∃ g cap,v'=.slice (some ⟨g,0,none⟩) (bs.length+1) cap:=by
  rcases hown'.2 with ⟨_,h0⟩ | ⟨g,cap,cur,hv,_⟩
  ·omega
  ·exact ⟨g,cap,hv⟩
 have HP:=Z (Lib.BuilderAt.put (T:=206) (e:=5) hB hb2 (bs':=bs ++ [.int .u8 c.toNat]) (by simpa using hown') (by decide));have HW:=Z (((HB1.out.alloc (by omega) _).grown hgrow (by simp;omega) (fun k hk=>(HO.out.lt k hk).1)).setCell (p:=⟨b,1,none⟩) hB (.slice (some ⟨g,0,none⟩) (bs.length+1) cap));have HB2:=Z hb2;clear hown' hgrow hb2;go_wp2_with fail;go_ret;refine ⟨rfl,?_,HW.out⟩;unfold Bu;rw [HE.out];exact .inr HP.out
theorem dQ (B b:Nat) (l s:List UInt8) (w:World) (h:Bu B b l w) (hlen:l.length<=1000000) (hs:s.length<=1000000) (hBw:B<=w.heap.size):
  Calls Tryz.prog 145 #[.pointer (some ⟨b,0,none⟩),.string (ap s)] w fun e w'=>e=.returned (.tuple #[.int .i64 s.length,.nilIface])/\Bu B b (l ++ s) w'/\Below B w w':=by
 obtain ⟨i0,hi,hz0,hz1,hz2⟩:=info_parts tI;have HL:(Bt l).length<=1000000:=by rw [Bw];exact hlen
 have hsz:(ap s).size=s.length:=au s;have HSZ:=Z hsz;have HE:=Z (show Bt (l ++ s)=Bt l ++ Bz (ap s) by simp [Bt,Bz,ap]);have hsl:(ap s).size<=1000000:=by omega
 clear hsz;go_enter Tryz.func145,Tryz.ntmps145;go_wp2_with fail;refine (jF B b l _ h).mono ?_;clear h;generalize Bt l=bs at *;generalize ap s=sv at *;rintro e w1 ⟨rfl,h1,hb1⟩;have HB1:=Z hb1;have hs1:=hb1.size;clear hb1;obtain ⟨hB,v,hbk,hown,hne⟩:=h1;have HO:=Z hown;have HN:=Z hne;have HBK:=Z hbk;have c0:w1.cell? ⟨b,0,none⟩=some (.pointer (some ⟨b,0,none⟩)):=by rw [Bv hbk];rfl
 have c1:w1.cell? ⟨b,1,none⟩=some v:=by rw [Bv hbk];rfl
 have hlt:b<w1.heap.size:=aj hbk;clear hown hne hbk;go_wp2_with (at_builtin;refine Lib.wpList_append_own_string _ rfl _ _ 46 9 rfl B 5 i0 Tryz.underlying46 Tryz.underlying9 hi hz0 hz1 hz2 _ _ _ rfl HO.out sv rfl ?c3 ?c4 ?c5 ?_)
 case c3=>unfold maxLen;omega
 case c4=>omega
 case c5=>omega
 intro v' w2 hown' hgrow _;have hb2:w2.heap[b]?=some (.cells #[.pointer (some ⟨b,0,none⟩),v] 206 (0,0)):=by rw [hgrow.block b hlt (fun e=>HN.out e.symm)];exact HBK.out
 have d0:w2.cell? ⟨b,0,none⟩=some (.pointer (some ⟨b,0,none⟩)):=by rw [Bv hb2];rfl
 have d1:w2.cell? ⟨b,1,none⟩=some v:=by rw [Bv hb2];rfl
 have f1:w2.frozen? ⟨b,1,none⟩=false:=Bx hb2 1;obtain ⟨ao,n',cap,rfl⟩:∃ ao n' cap,v'=.slice ao n' cap:=by
  rcases hown'.2 with ⟨hv,_⟩ | ⟨g,cap,cur,hv,_⟩
  ·exact ⟨_,_,_,hv⟩
  ·exact ⟨_,_,_,hv⟩
 have HP:=Z (Lib.BuilderAt.put (T:=206) (e:=5) hB hb2 (bs':=bs ++ Bz sv) (by simpa [Lib.strCells_length] using hown') (by decide));have HW:=Z ((HB1.out.grown hgrow (by omega) (fun k hk=>(HO.out.lt k hk).1)).setCell (p:=⟨b,1,none⟩) hB (.slice ao n' cap));clear hown' hgrow hb2;go_wp2_with fail;go_ret2;refine ⟨by rw [HSZ.out];rfl,?_,HW.out⟩;unfold Bu;rw [HE.out];exact .inr HP.out
end Go.Proofs.YtknioodagnjchaaGreatDoor
namespace Go.Proofs.YtknioodagnjchaaGreatDoor
open Go.Lib (hid)
open Go.RowKit
theorem sO (a b:ByteArray):(a.toList == b.toList)=decide (a=b):=by
 rw [ByteArray.toList_eq,ByteArray.toList_eq];by_cases h:a=b
 ·subst h;simp
 ·rw [decide_eq_false h];exact beq_eq_false_iff_ne.2 fun e=>h (pU e)
theorem sJ (s:ByteArray) (w:World):Calls Tryz.prog 191 #[.string s] w fun e w'=>e=.returned (.bool false)/\w=w':=by go_enter Tryz.func191,Tryz.ntmps191;go_wp2;go_ret;exact ⟨by simp,rfl⟩
theorem kH (s:ByteArray) (w:World):Calls Tryz.prog 160 #[.string s] w fun e w'=>e=.returned (.bool false)/\w=w':=by go_enter Tryz.func160,Tryz.ntmps160;go_wp2;go_ret;exact ⟨by simp,rfl⟩
theorem qQ (a b:ByteArray) (w:World):Calls Tryz.prog 159 #[.string a,.string b] w fun e w'=>e=.returned (.bool (Op.bytesLess a.toList b.toList))/\w=w':=by go_enter Tryz.func159,Tryz.ntmps159;go_wp2_with (first | (go_at_call 191;refine (sJ _ _).mono ?_;rintro e w' ⟨rfl,rfl⟩));go_ret;exact ⟨rfl,rfl⟩
theorem yG {ks:List By} {k:By} (hs:ks.Pairwise fun a b=>bM a b=true) {j:Nat} (hj:j<ks.length):bM ks[j] k=decide (j<cj ks k):=by
 obtain ⟨h1,h2,_⟩:=jt (k:=k) hs;by_cases h:j<cj ks k
 ·rw [decide_eq_true h];exact h1 _ (List.mem_take_iff_getElem.2 ⟨j,by omega,rfl⟩)
 ·rw [decide_eq_false h];exact h2 _ (List.mem_drop_iff_getElem.2 ⟨j - cj ks k,by omega,by congr 1;omega⟩)
theorem zg {ks:List By} {k:By} (h:cj ks k<ks.length):jT ks k=decide (ks[cj ks k]=k):=by unfold jT;rw [List.getElem?_eq_getElem h];simp
theorem zf {ks:List By} {k:By} (h:¬ cj ks k<ks.length):jT ks k=false:=by unfold jT;rw [List.getElem?_eq_none (by omega)];simp
theorem rz (ks:List By) (k:By) (v:Value) (w:World) (h:Sl sC 1 w v ks) (hl:ks.length<=1000000) (hs:ks.Pairwise fun a b=>bM a b=true):
  Calls Tryz.prog 111 #[v,.string (ap k)] w fun e w'=>e=.returned (.tuple #[.int .i64 (cj ks k),.bool (jT ks k)])/\Below w.heap.size w w':=by
 obtain ⟨A,c,rfl⟩:=Sl.zM h;have H:=hid h;have hlb:=(jt (k:=k) hs).2.2;have HLB:=hid (fun (j:Nat) (hj:j<ks.length)=>yG (k:=k) hs hj);have HIS:=hid (zg (ks:=ks) (k:=k));have HNO:=hid (zf (ks:=ks) (k:=k));clear h hs;generalize hm:cj ks k=m at *;have HM:=hid hm;clear hm;obtain ⟨x,hx⟩:∃ x,ap k=x:=⟨_,rfl⟩;rw [hx];have HX:=hid hx;clear hx;go_enter Tryz.func111,Tryz.ntmps111;go_wp2_with fail;go_loopw [7,8] (fun s7 s8 wr=>∃ lo hi:Nat,s7=.int .i64 lo/\s8=.int .i64 hi/\lo<=m/\m<=hi/\hi<=ks.length/\Below w.heap.size w wr) (fun s7 s8 _=>(intOf s8).toNat - (intOf s7).toNat)
 case atStart=>exact ⟨0,ks.length,rfl,rfl,Nat.zero_le _,hlb,Nat.le_refl _,Below.refl _ _⟩
 case round=>
  obtain ⟨lo,hi,rfl,rfl,h1,h2,h3,hb⟩:=hrel;have HB:=hid hb;clear hb;by_cases hlt:lo<hi
  ·obtain ⟨b,off,rfl,hbl,_,hc⟩:=(H.out.keep HB.out).key (show (lo+hi) / 2<ks.length by omega);have hkk:bM ks[(lo+hi) / 2] k=decide ((lo+hi) / 2<m):=HLB.out _ (by omega);have hby:Op.bytesLess (ap ks[(lo+hi) / 2]).toList x.toList=bM ks[(lo+hi) / 2] k:=by rw [<- HX.out,ay,ay];rfl
   rw [hkk] at hby
   clear hkk;generalize ap ks[(lo+hi) / 2]=y at *;by_cases hm:(lo+hi) / 2<m
   ·rw [decide_eq_true hm] at hby
    go_wp2_with (first | (go_at_call 159;refine (qQ _ _ _).mono ?_;rw [hby];rintro e w' ⟨rfl,rfl⟩));go_roundw
    case rel=>exact ⟨(lo+hi) / 2+1,hi,by rw [show ((lo:Int)+(hi:Int)) / 2+1=(((lo+hi) / 2+1:Nat):Int) by omega],rfl,by omega,h2,h3,HB.out⟩
    case measure=>simp [intOf];omega
   ·rw [decide_eq_false hm] at hby
    go_wp2_with (first | (go_at_call 159;refine (qQ _ _ _).mono ?_;rw [hby];rintro e w' ⟨rfl,rfl⟩));go_roundw
    case rel=>exact ⟨lo,(lo+hi) / 2,rfl,by rw [show ((lo:Int)+(hi:Int)) / 2=(((lo+hi) / 2:Nat):Int) by omega],h1,by omega,by omega,HB.out⟩
    case measure=>simp [intOf];omega
  ·obtain rfl:lo=m:=by omega
   by_cases hn:lo<ks.length
   ·obtain ⟨b,off,rfl,hbl,_,hc⟩:=(H.out.keep HB.out).key hn;have hI:=HIS.out hn;have hq:(((ap ks[lo]).toList) == x.toList)=jT ks k:=by
     rw [sO,hI,<- HX.out];by_cases e:ks[lo]=k
     ·rw [e];simp
     ·rw [decide_eq_false e,decide_eq_false (fun h=>e (xR h))]
    have hI2:=hq;clear hI;generalize ap ks[lo]=y at *;cases hi':jT ks k
    ·rw [hi'] at hq;go_wp2_with (first | (go_at_call 160;refine (kH _ _).mono ?_;rintro e w' ⟨rfl,rfl⟩));go_ret2;exact ⟨by first | rfl | (rw [hi'];rfl),HB.out⟩
    ·rw [hi'] at hq;go_wp2_with (first | (go_at_call 160;refine (kH _ _).mono ?_;rintro e w' ⟨rfl,rfl⟩));go_ret2;exact ⟨by first | rfl | (rw [hi'];rfl),HB.out⟩
   ·have hI:=HNO.out hn;have hnb:¬ ((lo:Int)<(ks.length:Int)):=by omega
    go_wp2_with (first | (go_at_call 160;refine (kH _ _).mono ?_;rintro e w' ⟨rfl,rfl⟩));go_ret2;exact ⟨by first | rfl | (rw [hI];rfl),HB.out⟩
end Go.Proofs.YtknioodagnjchaaGreatDoor
namespace Go.Proofs.YtknioodagnjchaaGreatDoor
open Go.Lib renaming compact->Bt,maxOf->Bz,keeps->BB
open Go.Sort renaming ahead->Bv
open List renaming mem_cons_self->Bw,getElem?_eq_getElem->Bx,replicate->BA,length_range->BC
open Go.Lib renaming hid->Z
open Go.RowKit Go.Sort
def jC (c:Ce):Bool:=!aI c
theorem vY (c:Ce) (w:World) (hl:c.data.length<=1000000):Calls Tryz.prog 155 #[.agg #[.int .i64 c.size,.string (ap c.data),.int .i64 c.page]] w fun e w'=>e=.returned (.bool (jC c))/\Below w.heap.size w w':=by have HA:=Z ((Below.refl _ w).alloc (Nat.le_refl _) (dj c));have HG:=Z (ag (w0:=w) (g:=w.heap.size) (o:=dj c) rfl);have hsz:=au c.data;go_enter Tryz.func155,Tryz.ntmps155;go_wp2_with fail;refine (sr c _ hl).mono ?_;rintro e w1 ⟨rfl,hb⟩;have HB:=Z (HA.out.trans (hb.mono (show w.heap.size<=(w.alloc (dj c)).heap.size from HA.out.size)));clear hb;go_wp2_with fail;go_ret;exact ⟨rfl,HB.out⟩
theorem Sl.zT {w:World} {cs:List Ce} {A:Option Addr} {n c:Nat} (h:Sl cC 3 w (.slice A n c) cs) {k:Nat} (hk:k<cs.length):∃ b off,A=some ⟨b,off,none⟩/\b<w.heap.size/\n=cs.length/\w.cell? ⟨b,off+k * 3,none⟩=some (.int .i64 cs[k].size)/\w.cell? ⟨b,off+k * 3+1,none⟩=some (.string (ap cs[k].data))/\w.cell? ⟨b,off+k * 3+2,none⟩=some (.int .i64 cs[k].page):=by
 obtain ⟨A',c',he,h⟩:=h;injection he with e1 e2 e3
 subst e1 e2;obtain ⟨b,off,rfl,hlt,hc⟩:=h (by rintro rfl;simp at hk);have:=hc k cs[k] (Bx hk);exact ⟨b,off,rfl,hlt,rfl,this 0 _ rfl,this 1 _ rfl,this 2 _ rfl⟩
theorem sx (v:Value) (xs:List Ce) (w:World) (h:Sl cC 3 w v xs) (hl:xs.length<=1000000) (hd:∀ c ∈ xs,c.data.length<=1000000):
  Calls Tryz.prog 186 #[v,.func (Fn.func 155) #[] #[]] w fun e w'=>e=.returned (.int .i64 (dL jC xs))/\Below w.heap.size w w':=by
 obtain ⟨A,c,rfl⟩:=Sl.zM h;have H:=Z h;have HD:=Z hd;clear h hd;go_enter Tryz.func186,Tryz.ntmps186;go_wp2_with fail;go_loopw [8] (fun i wr=>∃ k:Nat,k<=xs.length/\i=.int .i64 k/\(∀ j (h:j<xs.length),j<k->jC xs[j]=false)/\Below w.heap.size w wr) (fun i _=>xs.length - (intOf i).toNat)
 case atStart=>exact ⟨0,Nat.zero_le _,rfl,fun _ _ h=>absurd h (Nat.not_lt_zero _),Below.refl _ _⟩
 case round=>
  obtain ⟨k,hk,rfl,hno,hb⟩:=hrel;have HN:=Z hno;have HB:=Z hb;clear hno hb;by_cases hlt:k<xs.length
  ·obtain ⟨b,off,rfl,hbl,_,e0,e1,e2⟩:=(H.out.keep HB.out).zT hlt;have hk0:(0:Int)<=(k:Int):=by omega
   have hk1:(k:Int)<(xs.length:Int):=by omega
   have HI:=Z (show jC xs[k]=true->dL jC xs=k from fun h=>jL hlt h HN.out);have HU:=Z (show jC xs[k]=false->∀ j (h:j<xs.length),j<k+1->jC xs[j]=false from fun h=>sf HN.out hlt h);have hdl:=HD.out _ (List.getElem_mem hlt);generalize xs[k]=x at *;go_wp2_with fail;refine (vY x wr hdl).mono ?_;rintro e w' ⟨rfl,hb⟩;have HB2:=Z (HB.out.trans (hb.mono HB.out.size));clear hb;cases hx:jC x
   ·have HX:=Z (HU.out hx);go_wp2_with fail;go_roundw
    case rel=>exact ⟨k+1,by omega,by go_num,HX.out,HB2.out⟩
    case measure=>simp [intOf];omega
   ·have HX:=Z (HI.out hx);go_wp2_with fail;go_ret;exact ⟨oj HX.out.symm,HB2.out⟩
  ·have HX:=Z (iA (p:=jC) hlt HN.out);go_wp2_with fail;go_ret;exact ⟨oj HX.out.symm,HB.out⟩
theorem nT (v:Value) (xs:List Ce) (w:World) (h:Sl cC 3 w v xs) (hl:xs.length<=1000000) (hd:∀ c ∈ xs,c.data.length<=1000000):
  Calls Tryz.prog 157 #[v,.func (Fn.func 155) #[] #[]] w fun e w'=>e=.returned (.bool (xs.any jC))/\Below w.heap.size w w':=by
 go_enter Tryz.func157,Tryz.ntmps157;go_wp2_with fail;refine (sx v xs w h hl hd).mono ?_;rintro e w' ⟨rfl,hb⟩;have HB:=Z hb;clear hb;have HF:=Z (jK jC xs);generalize dL jC xs=m at *;go_wp2_with fail;go_ret;exact ⟨qt HF.out,HB.out⟩
theorem nZ (zs:List Int):(my zs).Perm zs:=List.mergeSort_perm ..
theorem tc (zs:List Int):(my zs).Pairwise (·<=·):=by have:=List.pairwise_mergeSort (le:=fun x y:Int=>decide (x<=y)) (fun a b c h1 h2=>by simp at *;omega) (fun a b=>by simp;omega) zs;exact this.imp fun h=>by simpa using h
theorem hP {zs:List Int} {j:Nat} (h:j<zs.length):zs.toArray[j]! = zs[j]:=by simp [h]
theorem rP {zs:List Int} (h:zs.Pairwise (·<=·)):(Bt zs).length=zs.length↔zs.Nodup:=by
 have h1:(Bt zs).length=zs.length↔∀ j,j<zs.length->BB zs.toArray j=true:=by
  unfold Bt Lib.compactUpTo;rw [List.length_map];constructor
  ·intro e j hj;have:((List.range zs.length).filter (BB zs.toArray)).length=(List.range zs.length).length:=by rw [e,BC]
   exact List.length_filter_eq_length_iff.1 this j (List.mem_range.2 hj)
  ·intro e;rw [List.filter_eq_self.2 (fun j hj=>e j (List.mem_range.1 hj)),BC]
 rw [h1];constructor
 ·intro e
  have step:∀ j (hj:j+1<zs.length),zs[j]<zs[j+1]:=fun j hj=>by
   have h2:=e (j+1) hj;unfold BB at h2;rw [decide_eq_true_eq,hP hj,show j+1 - 1=j by omega,hP (by omega)] at h2;have h3:=List.pairwise_iff_getElem.1 h j (j+1) (by omega) hj (by omega);rcases h2 with h2 | h2
   ·omega
   ·omega
  have lt:∀ d j (hj:j+d+1<zs.length),zs[j]<zs[j+d+1]:=fun d=>by
   induction d with
   | zero=>intro j hj;exact step j hj
   | succ d ih=> intro j hj;have a1:=ih j (by omega);have a2:=step (j+d+1) (by omega);have a3:zs[j+(d+1)+1]=zs[j+d+1+1]:=rfl;omega
  refine List.pairwise_iff_getElem.2 fun i j hi hj hij=>?_
  obtain ⟨d,rfl⟩:∃ d,j=i+d+1:=⟨j - i - 1,by omega⟩;have:=lt d i hj;omega
 ·intro hn j hj;unfold BB;rw [decide_eq_true_eq];by_cases h0:j=0
  ·exact .inl h0
  ·refine .inr ?_;rw [hP hj,hP (by omega)];intro e;have:=(List.pairwise_iff_getElem.1 hn) (j - 1) j (by omega) hj (by omega);exact this e.symm
theorem yJ {zs:List Int} (hn:zs.Nodup):Bt zs=zs:=by
 refine Lib.compact_all zs fun j hj=>?_
 unfold BB;rw [decide_eq_true_eq];by_cases h0:j=0
 ·exact .inl h0
 ·refine .inr ?_;rw [hP hj,hP (by omega)];intro e;exact (List.pairwise_iff_getElem.1 hn) (j - 1) j (by omega) hj (by omega) e.symm
theorem oN:∀ (l:List Int) (a:Int),(∀ x ∈ l,x<=l.foldl max a)/\a<=l.foldl max a/\(l.foldl max a=a\/l.foldl max a ∈ l)
 | [],a=>⟨fun _ h=>absurd h List.not_mem_nil,Int.le_refl _,.inl rfl⟩
 | b :: l,a=>by
   obtain ⟨h1,h2,h3⟩:=oN l (max a b);rw [List.foldl_cons];refine ⟨fun x hx=>?_,by omega,?_⟩
   ·rcases List.mem_cons.1 hx with rfl | hx
    ·omega
    ·exact h1 x hx
   ·rcases h3 with h3 | h3
    ·rw [h3];rcases Int.le_total a b with h | h
     ·rw [Int.max_eq_right h];exact .inr Bw
     ·rw [Int.max_eq_left h];exact .inl rfl
    ·exact .inr (List.mem_cons_of_mem _ h3)
theorem si {l:List Int} (h:l≠[]):Bz l ∈ l/\∀ x ∈ l,x<=Bz l:=by
 unfold Bz;obtain ⟨h1,h2,h3⟩:=oN l (l.headD 0);refine ⟨?_,h1⟩;rcases h3 with h3 | h3
 ·rw [h3];cases l with
  | nil=>exact absurd rfl h
  | cons a l=>exact Bw
 ·exact h3
theorem tZ {l:List Int} (h:l≠[]) (hn:l.Nodup):cz l=(cI ((my l).headD 0) && cI (Bz l)):=by
 unfold cz;rw [decide_eq_true hn,Bool.true_and];obtain ⟨h1,h2⟩:=si h;have hp:=nZ l;have hw:=tc l;cases hs:my l with
 | nil=>rw [hs] at hp;exact absurd hp.symm.eq_nil h
 | cons a s=>
   rw [hs] at hp hw;have ha:a ∈ l:=hp.mem_iff.1 Bw
   have hmin:∀ x ∈ l,a<=x:=fun x hx=>by
    rcases List.mem_cons.1 (hp.mem_iff.2 hx) with rfl | hx
    ·exact Int.le_refl _
    ·exact (List.pairwise_cons.1 hw).1 x hx
   rw [List.headD_cons];cases hall:l.all cI
   ·
    have:∃ x ∈ l,cI x=false:=by rw [List.all_eq_false] at hall;obtain ⟨x,hx,h⟩:=hall;exact ⟨x,hx,by simpa using h⟩
    obtain ⟨x,hx,h⟩:=this;have:=hmin x hx;have:=h2 x hx;unfold cI at h ⊢;symm;simp at h ⊢;intro _ _ _;omega
   ·rw [List.all_eq_true] at hall;rw [hall a ha,hall _ h1];rfl
theorem rM (v:Value) (l:List Int) (w:World) (h:Sl iC 1 w v l) (hne:l≠[]) (hl:l.length<=1000000):
  Calls Tryz.prog 158 #[v] w fun e w'=>e=.returned (.bool (cz l))/\Below w.heap.size w w':=by
 obtain ⟨A0,c,rfl⟩:=Sl.zM h;obtain ⟨b,off,rfl,hbl⟩:∃ b off,A0=some ⟨b,off,none⟩/\b<w.heap.size:=by
  obtain ⟨A',c',he,hx⟩:=h;obtain ⟨b,off,e,hb,_⟩:=hx hne;injection he with e1
  exact ⟨b,off,e1.trans e,hb⟩
 have H:=Z h;have hpos:=List.length_pos_iff.2 hne;clear h;go_enter Tryz.func158,Tryz.ntmps158;go_wp2_with fail;refine ((callsIn_wide (n:=4)).1 (vx Fence.wide 4 trivial rfl (some ⟨b,off,none⟩) l.length c w)).mono ?_;rintro e w1 ⟨rfl,rfl⟩;have HA:=Z ((Below.refl _ w).alloc (Nat.le_refl _) (.cells #[.slice (some ⟨b,off,none⟩) l.length c] 37));go_wp2_with fail;refine (qf w.heap.size (.slice (some ⟨b,off,none⟩) l.length c) l hl _ w (by simp) (by simp) H.out HA.out).mono ?_;rintro e w2 ⟨sv,rfl,ho,hb2⟩;have HB2:=Z (HA.out.trans (hb2.mono HA.out.size));have hs2:=hb2.size;have hs1:=HA.out.size;rcases ho.2 with ⟨rfl,h0⟩ | ⟨g,cap,cur,rfl,hbase,hg,hcap,hmx,hcc,htk⟩
 ·rw [mw] at h0;omega
 ·have hH:Holds (Value.int .i64) w2 g 0 (my l).toArray:=holds_of_block_i hg (by rw [Nat.mul_one,me] at htk;exact htk);have hgl:=aj hg;have HPW:=Z (rP (tc l));have HND:=Z (show (my l).Nodup↔l.Nodup from (nZ l).nodup_iff);have hlen:=mw l;have HUN:=Z (fun hn:l.Nodup=>tZ hne hn);have HUF:=Z (fun hn:¬ l.Nodup=>(show cz l=false by unfold cz;rw [decide_eq_false hn];rfl));clear ho hb2 htk hg hmx hcc;generalize my l=zs at *;have HLEN:=Z hlen;have hlz:zs.length<=1000000:=by omega
  have hpz:0<zs.length:=by omega
  clear hlen;have hz0:=hH 0 (by simpa using hpz);rw [Nat.add_zero] at hz0;have HZ0:=Z hz0;have HH:=Z hH;clear hH hz0;go_wp2_with fail;refine (Tryz.slices_Compact_int g 0 cap zs w2 HH.out (by omega) hcap).mono ?_;rintro e w3 ⟨rfl,q,rfl⟩;by_cases hnd:l.Nodup
  ·have hcid:Bt zs=zs:=yJ (HND.out.2 hnd);have hw3:putRow (Value.int .i64) (Bv w2 q) g 0 (Bt zs ++ BA (zs.length - (Bt zs).length) 0).toArray=Bv w2 q:=by rw [hcid,Nat.sub_self,List.replicate_zero,List.append_nil];exact putRow_self _ _ _ _ _ HH.out
   rw [hw3,hcid];have HW3:=Z (show Below w2.heap.size w2 (Bv w2 q) from ⟨rfl,rfl,rfl,Nat.le_refl _,fun _ _=>rfl⟩);have hcell:(Bv w2 q).cell? ⟨g,0,none⟩=some (.int .i64 (zs.headD 0)):=by
    have:=HZ0.out;cases zs with
    | nil=>simp at hpz
    | cons a zs=>simpa using this.1
   have hgl3:g<(Bv w2 q).heap.size:=hgl;have HU:=Z (HUN.out hnd);clear hw3 hcid hnd;generalize Bv w2 q=w3 at *;have hq:((zs.length:Int) == (l.length:Int))=true:=by rw [HLEN.out];simp
   have HB3:=Z (HB2.out.trans (HW3.out.mono HB2.out.size));have HS3:=Z (H.out.keep HB3.out);have HQ:=Z hq;have hx0:(0:Int)<(zs.length:Int):=by omega
   generalize zs.headD 0=z0 at *;go_wp2_with fail;refine (jJ z0 w3).mono ?_;rintro e w4 ⟨rfl,rfl⟩;cases hp:cI z0
   ·have HV:=Z (show cz l=false by rw [HU.out,hp];rfl);clear hp;go_wp2_with fail;go_ret;exact ⟨by rw [HV.out];rfl,HB3.out⟩
   ·have HV:=Z (show cz l=cI (Bz l) by rw [HU.out,hp];rfl);clear hp;go_wp2_with fail
    refine (Tryz.slices_Max_int b off l.length c l w3 hpos (Nat.le_refl _) (by omega) (fun j hj=>by
     have:=(HS3.out.cells hj).2 0 _ rfl;rw [Nat.mul_one,Nat.add_zero] at this;rw [List.getD_eq_getElem?_getD,Bx hj];exact this)).mono ?_
    rw [List.take_length];generalize Bz l=mx at *;rintro e w4 ⟨rfl,rfl⟩;go_wp2_with fail;refine (jJ mx _).mono ?_;rintro e w5 ⟨rfl,rfl⟩;go_wp2_with fail;go_ret;exact ⟨by rw [HV.out];rfl,HB3.out⟩
  ·have hcl:(Bt zs).length≠zs.length:=fun e=>hnd (HND.out.1 (HPW.out.1 e))
   have HW3:=Z (HB2.out.grown (show w2.grownBy (grow (putRow (Value.int .i64) (Bv w2 q) g 0 (Bt zs ++ BA (zs.length - (Bt zs).length) 0).toArray) #[]) (some g) from grownBy_sorted_i _) HB2.out.size (fun j hj=>by cases hj;exact (by omega)));rw [grow_empty] at HW3;have hq:(((Bt zs).length:Int) == (l.length:Int))=false:=by have:=HLEN.out;simp;omega
   have HV:=Z (HUF.out hnd);clear hcl hnd;generalize putRow (Value.int .i64) (Bv w2 q) g 0 (Bt zs ++ BA (zs.length - (Bt zs).length) 0).toArray=w3 at *;generalize (Bt zs).length=m at *;go_wp2_with fail;go_ret;exact ⟨by rw [HV.out];rfl,HW3.out⟩
end Go.Proofs.YtknioodagnjchaaGreatDoor
namespace Go.Proofs.YtknioodagnjchaaGreatDoor
open Go.Lib renaming hid->Z
open Go.RowKit
structure Nd.Bd (n:Nd):Prop where
 k:n.keys.length<=2000
 c:n.cells.length<=2000
 d:n.kids.length<=2000
 kl:∀ k ∈ n.keys,k.length<=100000
 cl:∀ c ∈ n.cells,c.data.length<=100000
structure NdS (w:World) (n:Nd) (vk vc vd:Value):Prop where
 k:Sl sC 1 w vk n.keys
 c:Sl cC 3 w vc n.cells
 d:Sl iC 1 w vd n.kids
def NdV (w:World) (v:Value) (n:Nd):Prop:=∃ vk vc vd,v=.agg #[.bool n.leaf,vk,vc,vd]/\NdS w n vk vc vd
def ar (n:Nd) (vk vc vd:Value):Obj:=.cells #[.bool n.leaf,vk,vc,vd] 110 (0,0)
theorem NdS.keep {w w':World} {n:Nd} {vk vc vd:Value} (h:NdS w n vk vc vd) (hb:Below w.heap.size w w'):NdS w' n vk vc vd:=⟨h.k.keep hb,h.c.keep hb,h.d.keep hb⟩
theorem NdV.keep {w w':World} {n:Nd} {v:Value} (h:NdV w v n) (hb:Below w.heap.size w w'):NdV w' v n:=by obtain ⟨vk,vc,vd,rfl,h⟩:=h;exact ⟨vk,vc,vd,rfl,h.keep hb⟩
theorem aa {w:World} {g:Nat} {n:Nd} {vk vc vd:Value} (hh:w.heap[g]?=some (ar n vk vc vd)):w.cell? ⟨g,0,none⟩=some (.bool n.leaf)/\w.cell? ⟨g,1,none⟩=some vk/\w.cell? ⟨g,2,none⟩=some vc/\w.cell? ⟨g,3,none⟩=some vd/\g<w.heap.size:=
 ⟨ae hh 0,ae hh 1,ae hh 2,ae hh 3,aj hh⟩
theorem yn (l:List Ce):l.any jC=!l.all aI:=by
 induction l with
 | nil=>rfl
 | cons a l ih=>rw [List.any_cons,List.all_cons,ih,jC,Bool.not_and]
theorem kr (n:Nd) (v:Value) (w:World) (h:NdV w v n) (hb:n.Bd):Calls Tryz.prog 110 #[v] w fun e w'=>e=.returned (.bool (aD n))/\Below w.heap.size w w':=by
 obtain ⟨vk,vc,vd,rfl,hs⟩:=h;obtain ⟨A1,c1,rfl⟩:=Sl.zM hs.k;obtain ⟨A2,c2,rfl⟩:=Sl.zM hs.c;obtain ⟨A3,c3,rfl⟩:=Sl.zM hs.d;have HW0:=Z ((Below.refl _ w).alloc (Nat.le_refl _) (ar n (.slice A1 n.keys.length c1) (.slice A2 n.cells.length c2) (.slice A3 n.kids.length c3)));have HG0:=Z (ag (w0:=w) (g:=w.heap.size) (o:=ar n (.slice A1 n.keys.length c1) (.slice A2 n.cells.length c2) (.slice A3 n.kids.length c3)) rfl);have HS0:=Z (hs.keep HW0.out);obtain ⟨nl,nk,nc,nd⟩:=n;have HB:=Z hb;have hk2:=hb.k;have hc2:=hb.c;have hd2:=hb.d;simp only at hk2 hc2 hd2 HS0 HG0 HW0;clear hs hb;go_enter Tryz.func110,Tryz.ntmps110;go_upto_region 1 with fail
 generalize hw1:w.alloc (.cells #[.bool nl,.slice A1 nk.length c1,.slice A2 nc.length c2,.slice A3 nd.length c3] 110)=w1 at *;have hw2:w.alloc (ar ⟨nl,nk,nc,nd⟩ (.slice A1 nk.length c1) (.slice A2 nc.length c2) (.slice A3 nd.length c3))=w1:=hw1;rw [hw2] at HW0 HG0 HS0;clear hw1 hw2;obtain ⟨a0,a1,a2,a3,a4⟩:=aa HG0.out;simp only at a0 a1 a2 a3;go_wp2_with fail;refine (uf nk _ w1 HS0.out.k (by omega) (fun k hk=>by have:=HB.out.kl k hk;omega)).mono ?_;rintro e w2 ⟨rfl,hb⟩;have HW2:=Z (HW0.out.trans (hb.mono HW0.out.size));have HG2:=Z (af HG0.out hb);have HS2:=Z (HS0.out.keep hb);clear hb a0 a1 a2 a3 a4;obtain ⟨a0,a1,a2,a3,a4⟩:=aa HG2.out;simp only at a0 a1 a2 a3;cases hr:aH nk
 ·have HV:=Z (show aD ⟨nl,nk,nc,nd⟩=false by unfold aD;rw [hr];rfl);clear hr;go_wp2_with fail;go_ret;exact ⟨by rw [HV.out];rfl,HW2.out⟩
 ·cases nl
  ·
   have HV:=Z (show aD ⟨false,nk,nc,nd⟩=(decide (nk≠[]) && decide (nd.length=nk.length+1) && decide (nc=[]) && cz nd) by unfold aD;rw [hr];rfl);clear hr;by_cases h1:nk=[]
   ·have HV2:=Z (show aD ⟨false,nk,nc,nd⟩=false by rw [HV.out];simp [h1]);have hl:¬ ((0:Int)<(nk.length:Int)):=by rw [h1];simp
    have hl2:nk.length=0:=by rw [h1];rfl
    clear h1;go_wp2_with fail;go_ret;exact ⟨by rw [HV2.out];rfl,HW2.out⟩
   ·have hl:0<nk.length:=List.length_pos_iff.2 h1;have hl2:(0:Int)<(nk.length:Int):=by omega
    by_cases h2:nd.length=nk.length+1
    ·have hq:((nd.length:Int) == (nk.length:Int)+1)=true:=by rw [h2];simp
     have hdne:nd≠[]:=by rintro rfl;simp at h2
     by_cases h3:nc=[]
     ·have HV2:=Z (show aD ⟨false,nk,nc,nd⟩=cz nd by rw [HV.out];simp [h1,h2,h3]);have hz:((nc.length:Int) == 0)=true:=by rw [h3];rfl
      clear h1 h2 h3;go_wp2_with fail;refine (rM _ nd w2 HS2.out.d hdne (by omega)).mono ?_;rintro e w3 ⟨rfl,hb⟩;have HW3:=Z (HW2.out.trans (hb.mono HW2.out.size));clear hb;go_wp2_with fail;go_ret;exact ⟨by rw [HV2.out];rfl,HW3.out⟩
     ·have HV2:=Z (show aD ⟨false,nk,nc,nd⟩=false by rw [HV.out];simp [h3]);have hz:((nc.length:Int) == 0)=false:=by have:=List.length_pos_iff.2 h3;simp;omega
      clear h1 h2 h3;go_wp2_with fail;go_ret;exact ⟨by rw [HV2.out];rfl,HW2.out⟩
    ·have HV2:=Z (show aD ⟨false,nk,nc,nd⟩=false by rw [HV.out];simp [h2]);have hq:((nd.length:Int) == (nk.length:Int)+1)=false:=by simp;omega
     clear h1 h2;go_wp2_with fail;go_ret;exact ⟨by rw [HV2.out];rfl,HW2.out⟩
  ·
   have HV:=Z (show aD ⟨true,nk,nc,nd⟩=(decide (nc.length=nk.length) && decide (nd=[]) && nc.all aI) by unfold aD;rw [hr];rfl);clear hr;by_cases h1:nc.length=nk.length
   ·have hq:((nc.length:Int) == (nk.length:Int))=true:=by rw [h1];simp
    by_cases h2:nd=[]
    ·have HV2:=Z (show aD ⟨true,nk,nc,nd⟩=!nc.any jC by rw [HV.out,yn];simp [h1,h2]);have hz:((nd.length:Int) == 0)=true:=by rw [h2];rfl
     clear h1 h2;go_wp2_with fail;refine (nT _ nc w2 HS2.out.c (by omega) (fun c hc=>by have:=HB.out.cl c hc;omega)).mono ?_;rintro e w3 ⟨rfl,hb⟩;have HW3:=Z (HW2.out.trans (hb.mono HW2.out.size));clear hb;generalize nc.any jC=o at *;go_wp2_with fail;go_ret;exact ⟨by rw [HV2.out];rfl,HW3.out⟩
    ·have HV2:=Z (show aD ⟨true,nk,nc,nd⟩=false by rw [HV.out];simp [h2]);have hz:((nd.length:Int) == 0)=false:=by have:=List.length_pos_iff.2 h2;simp;omega
     clear h1 h2;go_wp2_with fail;go_ret;exact ⟨by rw [HV2.out];rfl,HW2.out⟩
   ·have HV2:=Z (show aD ⟨true,nk,nc,nd⟩=false by rw [HV.out];simp [h1]);have hq:((nc.length:Int) == (nk.length:Int))=false:=by simp;omega
    clear h1;go_wp2_with fail;go_ret;exact ⟨by rw [HV2.out];rfl,HW2.out⟩
theorem kw (n:Nd) (k:By) (v:Value) (w:World) (h:NdV w v n) (hb:n.Bd) (hg:aD n=true):Calls Tryz.prog 60 #[v,.string (ap k)] w fun e w'=>e=.returned (.tuple #[.int .i64 (cj n.keys k),.bool (jT n.keys k)])/\Below w.heap.size w w':=by
 have HR:=Z (show n.keys.Pairwise fun a b=>bM a b=true from by
  have:aH n.keys=true:=by unfold aD at hg;rw [Bool.and_eq_true] at hg;exact hg.1
  exact (rises_pw.1 this).2)
 have HV:=Z h;obtain ⟨vk,vc,vd,rfl,hs⟩:=h;have HW0:=Z ((Below.refl _ w).alloc (Nat.le_refl _) (ar n vk vc vd));have HG0:=Z (ag (w0:=w) (g:=w.heap.size) (o:=ar n vk vc vd) rfl);have HS0:=Z (hs.keep HW0.out);have HB:=Z hb;have HGD:=Z hg;clear hs hb hg;go_enter Tryz.func60,Tryz.ntmps60;go_upto_region 1 with fail
 generalize hw1:w.alloc (.cells #[.bool n.leaf,vk,vc,vd] 110)=w1 at *;have hw2:w.alloc (ar n vk vc vd)=w1:=hw1;rw [hw2] at HW0 HG0 HS0;clear hw1 hw2;obtain ⟨a0,a1,a2,a3,a4⟩:=aa HG0.out;go_wp2_with fail;refine (kr n _ w1 ⟨vk,vc,vd,rfl,HS0.out⟩ HB.out).mono ?_;rw [HGD.out];rintro e w2 ⟨rfl,hb⟩;have HW2:=Z (HW0.out.trans (hb.mono HW0.out.size));have HG2:=Z (af HG0.out hb);have HS2:=Z (HS0.out.keep hb);clear hb a0 a1 a2 a3 a4;obtain ⟨a0,a1,a2,a3,a4⟩:=aa HG2.out;go_wp2_with fail;refine (rz n.keys k vk w2 HS2.out.k (by have:=HB.out.k;omega) HR.out).mono ?_;rintro e w3 ⟨rfl,hb⟩;have HW3:=Z (HW2.out.trans (hb.mono HW2.out.size));clear hb;go_wp2_with fail;go_ret2;exact ⟨rfl,HW3.out⟩
end Go.Proofs.YtknioodagnjchaaGreatDoor
