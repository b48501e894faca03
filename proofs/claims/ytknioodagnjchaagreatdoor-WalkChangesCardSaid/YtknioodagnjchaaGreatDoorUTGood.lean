/- node: isPage, isGood, rises; what a cell and a node are in memory. -/
import Derived.Test.YtknioodagnjchaaGreatDoorUSp
import Derived.Test.YtknioodagnjchaaGreatDoorUShelf
import Derived.Deep.QuietTactic
import Derived.BigQuiet
import Derived.Deep.Cut
set_option maxRecDepth 100000
set_option maxHeartbeats 1000000
namespace Go.Proofs.YtknioodagnjchaaGreatDoor
open Go.Lib (hid)
open Go.RowKit
def sC (s:List UInt8):List Value:=[.string (ap s)]
theorem aQ (s:List UInt8):(sC s).length=1:=rfl
def cC (c:Ce):List Value:=[.int .i64 c.size,.string (ap c.data),.int .i64 c.page]
theorem bZ (c:Ce):(cC c).length=3:=rfl
def dO (c:Ce):Obj:=.cells #[.int .i64 c.size,.string (ap c.data),.int .i64 c.page] 119 (0,0)
theorem aL (l:List UInt8):(ap l).toList=l:=by rw [ByteArray.toList_eq];rfl
theorem uh {a b:List UInt8} (h:ap a=ap b):a=b:=by rw [← bG a,h,bG]
theorem iI (n:Int) (w:World):Calls Tryz.prog 185 #[.int .i64 n] w fun e w'=>e=.returned (.bool (dZ n))∧w=w':=by
 go_enter Tryz.func185,Tryz.ntmps185;by_cases h1:1≤n
 ·have HV:=hid (show dZ n=decide (n<4096) by simp [dZ,h1]);go_wp2_with fail;go_ret;exact ⟨by rw [HV.out];rfl,rfl⟩
 ·have HV:=hid (show dZ n=false by simp [dZ,h1]);have h2:n<1:=by omega
  go_wp2_with fail;go_ret;exact ⟨by rw [HV.out];rfl,rfl⟩
theorem pL (c:Ce) (w:World) (hl:c.data.length≤1000000):Calls Tryz.prog 156 #[.agg #[.int .i64 c.size,.string (ap c.data),.int .i64 c.page]] w fun e w'=>e=.returned (.bool (bY c))∧Below w.heap.size w w':=by
 have HB:=hid ((Below.refl _ w).alloc (Nat.le_refl _) (dO c));have HG:=hid (ag (w0:=w) (g:=w.heap.size) (o:=dO c) rfl);have hsz:=aC c.data;have hsz2:((ap c.data).size:Int)=c.data.length:=by rw [hsz]
 obtain ⟨sz,da,pg⟩:=c;simp only at hl hsz hsz2;go_enter Tryz.func156,Tryz.ntmps156;go_upto_region 1 with fail
 generalize hw1:w.alloc (.cells #[.int .i64 sz,.string (ap da),.int .i64 pg] 119)=w1 at *;have hw2:w.alloc (dO ⟨sz,da,pg⟩)=w1:=hw1;rw [hw2] at HB HG;clear hw1 hw2;have a0:w1.cell? ⟨w.heap.size,0,none⟩=some (.int .i64 sz):=ae HG.out 0;have a1:w1.cell? ⟨w.heap.size,1,none⟩=some (.string (ap da)):=ae HG.out 1;have a2:w1.cell? ⟨w.heap.size,2,none⟩=some (.int .i64 pg):=ae HG.out 2;have a3:=aj HG.out;by_cases h1:sz<0
 ·have HV:=hid (show bY ⟨sz,da,pg⟩=false by simp [bY,h1]);go_wp2_with fail;go_ret;exact ⟨by rw [HV.out];rfl,HB.out⟩
 ·have h2:(0:Int)≤sz:=by omega
  by_cases h3:5000<sz
  ·have HV:=hid (show bY ⟨sz,da,pg⟩=false by simp [bY,h3]);go_wp2_with fail;go_ret;exact ⟨by rw [HV.out];rfl,HB.out⟩
  ·have h4:sz≤5000:=by omega
   by_cases h5:sz≤40
   ·by_cases h6:(da.length:Int)=sz
    ·have h7:(((ap da).size:Int) == sz)=true:=by rw [hsz2,h6];simp
     have HV:=hid (show bY ⟨sz,da,pg⟩=(pg == 0) by
      unfold bY;rw [if_neg (by simp only;omega),if_pos h5];simp [h6];rfl)
     clear hsz hsz2 h6;go_wp2_with fail;go_ret;exact ⟨by rw [HV.out];rfl,HB.out⟩
    ·have h7:(((ap da).size:Int) == sz)=false:=by rw [hsz2];simpa using h6
     have HV:=hid (show bY ⟨sz,da,pg⟩=false by
      unfold bY;rw [if_neg (by simp only;omega),if_pos h5];simp [h6])
     clear hsz hsz2 h6;go_wp2_with fail;go_ret;exact ⟨by rw [HV.out];rfl,HB.out⟩
   ·have h5b:(40:Int)<sz:=by omega
    by_cases h6:da=[]
    ·subst h6;have HV:=hid (show bY ⟨sz,[],pg⟩=dZ pg by
      unfold bY;rw [if_neg (by simp only;omega),if_neg (by simp only;omega)];simp)
     have h8:(ap ([]:List UInt8)).toList.isEmpty=true:=by rw [aL];rfl
     clear hsz hsz2;go_wp2_with fail;refine (iI pg w1).mono ?_;rintro e w2 ⟨rfl,rfl⟩;go_wp2_with fail;go_ret;exact ⟨by rw [HV.out];rfl,HB.out⟩
    ·have h8:(ap da).toList.isEmpty=false:=by rw [aL];simpa using h6
     have HV:=hid (show bY ⟨sz,da,pg⟩=false by
      unfold bY;rw [if_neg (by simp only;omega),if_neg (by simp only;omega)];simp [h6])
     clear hsz hsz2 h6;go_wp2_with fail;go_ret;exact ⟨by rw [HV.out];rfl,HB.out⟩
theorem Sl.key {w:World} {ks:List By} {A:Option Addr} {n c:Nat} (h:Sl sC 1 w (.slice A n c) ks) {k:Nat} (hk:k<ks.length):∃ b off,A=some ⟨b,off,none⟩∧b<w.heap.size∧n=ks.length∧w.cell? ⟨b,off+k,none⟩=some (.string (ap ks[k])):=by
 obtain ⟨A',c',he,h⟩:=h;injection he with e1 e2 e3
 subst e1 e2;obtain ⟨b,off,rfl,hlt,hc⟩:=h (by rintro rfl;simp at hk);have:=hc k ks[k] (List.getElem?_eq_getElem hk) 0 _ rfl;exact ⟨b,off,rfl,hlt,rfl,by simpa using this⟩
def jy:Option By→List By→Bool
 | _,[]=>true
 | p,a :: l=>decide (a.length≤64) && (match p with | none=>true | some x=>aU x a) && jy (some a) l
theorem ma:∀ (a:By) (l:List By),a.length≤64→jy (some a) l=bm (a :: l)
 | a,[],h=>by simp [jy,bm,h]
 | a,b :: r,h=>by
   rw [bm,jy];by_cases hb:b.length≤64
   ·rw [ma b r hb];simp [h,hb]
   ·have:bm (b :: r)=false:=by
     cases hh:bm (b :: r)
     ·rfl
     ·exact absurd (b7 hh b List.mem_cons_self) hb
    rw [this];simp [hb]
theorem rf (ks:List By):jy none ks=bm ks:=by
 cases ks with
 | nil=>rfl
 | cons a l=>
   rw [jy];by_cases h:a.length≤64
   ·rw [ma a l h];simp [h]
   ·have:bm (a :: l)=false:=by
     cases hh:bm (a :: l)
     ·rfl
     ·exact absurd (b7 hh a List.mem_cons_self) h
    rw [this];simp [h]
def fH (ks:List By) (k:Nat):Option By:=if k=0 then none else ks[k - 1]?
theorem re {ks:List By} {k:Nat} (h:k<ks.length):jy (fH ks k) (ks.drop k)=(decide (ks[k].length≤64) && (match fH ks k with | none=>true | some x=>aU x ks[k]) && jy (fH ks (k+1)) (ks.drop (k+1))):=by rw [List.drop_eq_getElem_cons h,show fH ks (k+1)=some ks[k] by simp [fH,h]];cases fH ks k <;> rfl
theorem ra (ks:List By) (v:Value) (w:World) (h:Sl sC 1 w v ks) (hl:ks.length≤1000000) (hk:∀ k ∈ ks,k.length≤1000000):Calls Tryz.prog 154 #[v] w fun e w'=>e=.returned (.bool (bm ks))∧Below w.heap.size w w':=by
 obtain ⟨A,c,rfl⟩:=Sl.len' h;have H:=hid h;have HK:=hid hk;have HR0:=hid (show jy (fH ks 0) (ks.drop 0)=bm ks from rf ks);clear h hk;go_enter Tryz.func154,Tryz.ntmps154;go_wp2_with fail;go_loopw [7] (fun i wr=>∃ k:Nat,k≤ks.length∧i=.int .i64 k∧jy (fH ks k) (ks.drop k)=bm ks∧Below w.heap.size w wr) (fun i _=>ks.length - (intOf i).toNat)
 case atStart=>exact ⟨0,Nat.zero_le _,rfl,HR0.out,Below.refl _ _⟩
 case round=>
  obtain ⟨k,hk,rfl,hr,hb⟩:=hrel;have HR:=hid hr;have HB:=hid hb;clear hr hb;by_cases hlt:k<ks.length
  ·obtain ⟨b,off,rfl,hbl,_,hc⟩:=(H.out.keep HB.out).key hlt;have hsz:(ap ks[k]).size=ks[k].length:=aC _;have HS:=hid (re hlt);have hkl:ks[k].length≤1000000:=HK.out _ (List.getElem_mem _);by_cases h64:64<ks[k].length
   ·have h64b:(64:Int)<((ap ks[k]).size:Int):=by rw [hsz];omega
    have HV:=hid (show bm ks=false by rw [← HR.out,HS.out,decide_eq_false (by omega)];rfl);clear hsz;go_wp2_with fail;go_ret;exact ⟨by rw [HV.out];rfl,HB.out⟩
   ·have h64b:((ap ks[k]).size:Int)≤64:=by rw [hsz];omega
    have h64c:decide (ks[k].length≤64)=true:=by simp;omega
    rcases Nat.eq_zero_or_pos k with h0 | h0
    ·have HV:=hid (show jy (fH ks (k+1)) (ks.drop (k+1))=bm ks by
      rw [← HR.out,HS.out,h64c];simp [fH,h0])
     clear hsz h64c;subst h0;simp only [Nat.add_zero] at hc;go_wp2_with fail;go_roundw
     case rel=>first | exact ⟨0+1,by omega,by go_num,HV.out,HB.out⟩ | ((repeat apply Exists.intro);exact ⟨⟨0+1,by omega,by go_num,HV.out,HB.out⟩,by and_intros <;> rfl⟩)
     case measure=>simp [intOf];omega
    ·obtain ⟨m,rfl⟩:∃ m,k=m+1:=⟨k - 1,by omega⟩;obtain ⟨b',off',he,_,_,hc'⟩:=(H.out.keep HB.out).key (show m<ks.length by omega);injection he with he
     injection he with e1 e2
     subst e1 e2;have hcm:Op.bytesLess (ap ks[m]).toList (ap ks[m+1]).toList=aU ks[m] ks[m+1]:=by rw [aL,aL];rfl
     have HS2:=hid (show bm ks=(aU ks[m] ks[m+1] && jy (fH ks (m+1+1)) (ks.drop (m+1+1))) by
      rw [← HR.out,HS.out,h64c];simp [fH,show m<ks.length by omega])
     clear hsz h64c;cases hcc:aU ks[m] ks[m+1]
     ·have HV:=hid (show bm ks=false by rw [HS2.out,hcc];rfl);rw [hcc] at hcm;clear hcc HS2;generalize ap ks[m+1]=x at *;generalize ap ks[m]=y at *;go_wp2_with fail;go_ret;exact ⟨by rw [HV.out];rfl,HB.out⟩
     ·have HV:=hid (show jy (fH ks (m+1+1)) (ks.drop (m+1+1))=bm ks by rw [HS2.out,hcc];simp);rw [hcc] at hcm;clear hcc HS2;generalize ap ks[m+1]=x at *;generalize ap ks[m]=y at *;go_wp2_with fail;go_roundw
      case rel=>first | exact ⟨m+1+1,by omega,by go_num,HV.out,HB.out⟩ | ((repeat apply Exists.intro);exact ⟨⟨m+1+1,by omega,by go_num,HV.out,HB.out⟩,by and_intros <;> rfl⟩)
      case measure=>simp [intOf];omega
  ·have HV:=hid (show bm ks=true by
    rw [← HR.out,List.drop_of_length_le (by omega)];cases fH ks k <;> rfl)
   go_wp2_with fail;go_ret;exact ⟨by rw [HV.out];rfl,HB.out⟩
end Go.Proofs.YtknioodagnjchaaGreatDoor
