/- node: isPage, isGood, rises; what a cell and a node are in memory. -/
import Derived.Test.YtknioodagnjchaaGreatDoorRSp
import Derived.Test.YtknioodagnjchaaGreatDoorRShelf
import Derived.Deep.QuietTactic
import Derived.BigQuiet
import Derived.Deep.Cut
set_option maxRecDepth 100000
set_option maxHeartbeats 1000000
namespace Go.Proofs.YtknioodagnjchaaGreatDoor
open Go.Lib (hid)
open Go.RowKit
def sC (s:List UInt8):List Value:=[.string (al s)]
theorem aP (s:List UInt8):(sC s).length=1:=rfl
def cC (c:Ce):List Value:=[.int .i64 c.size,.string (al c.data),.int .i64 c.page]
theorem bu (c:Ce):(cC c).length=3:=rfl
def cF (c:Ce):Obj:=.cells #[.int .i64 c.size,.string (al c.data),.int .i64 c.page] 119 (0,0)
theorem aL (l:List UInt8):(al l).toList=l:=by rw [ByteArray.toList_eq];rfl
theorem sb {a b:List UInt8} (h:al a=al b):a=b:=by rw [← aW a,h,aW]
theorem ia (n:Int) (w:World):Calls Tryz.prog 185 #[.int .i64 n] w fun e w'=>e=.returned (.bool (cm n))∧w=w':=by
 go_enter Tryz.func185,Tryz.ntmps185;by_cases h1:1≤n
 ·have HV:=hid (show cm n=decide (n<4096) by simp [cm,h1]);go_wp2_with fail;go_ret;exact ⟨by rw [HV.out];rfl,rfl⟩
 ·have HV:=hid (show cm n=false by simp [cm,h1]);have h2:n<1:=by omega
  go_wp2_with fail;go_ret;exact ⟨by rw [HV.out];rfl,rfl⟩
theorem oh (c:Ce) (w:World) (hl:c.data.length≤1000000):Calls Tryz.prog 156 #[.agg #[.int .i64 c.size,.string (al c.data),.int .i64 c.page]] w fun e w'=>e=.returned (.bool (aE c))∧Below w.heap.size w w':=by
 have HB:=hid ((Below.refl _ w).alloc (Nat.le_refl _) (cF c));have HG:=hid (ag (w0:=w) (g:=w.heap.size) (o:=cF c) rfl);have hsz:=aq c.data;have hsz2:((al c.data).size:Int)=c.data.length:=by rw [hsz]
 obtain ⟨sz,da,pg⟩:=c;simp only at hl hsz hsz2;go_enter Tryz.func156,Tryz.ntmps156;go_upto_region 1 with fail
 generalize hw1:w.alloc (.cells #[.int .i64 sz,.string (al da),.int .i64 pg] 119)=w1 at *;have hw2:w.alloc (cF ⟨sz,da,pg⟩)=w1:=hw1;rw [hw2] at HB HG;clear hw1 hw2;have a0:w1.cell? ⟨w.heap.size,0,none⟩=some (.int .i64 sz):=ac HG.out 0;have a1:w1.cell? ⟨w.heap.size,1,none⟩=some (.string (al da)):=ac HG.out 1;have a2:w1.cell? ⟨w.heap.size,2,none⟩=some (.int .i64 pg):=ac HG.out 2;have a3:=aj HG.out;by_cases h1:sz<0
 ·have HV:=hid (show aE ⟨sz,da,pg⟩=false by simp [aE,h1]);go_wp2_with fail;go_ret;exact ⟨by rw [HV.out];rfl,HB.out⟩
 ·have h2:(0:Int)≤sz:=by omega
  by_cases h3:5000<sz
  ·have HV:=hid (show aE ⟨sz,da,pg⟩=false by simp [aE,h3]);go_wp2_with fail;go_ret;exact ⟨by rw [HV.out];rfl,HB.out⟩
  ·have h4:sz≤5000:=by omega
   by_cases h5:sz≤40
   ·by_cases h6:(da.length:Int)=sz
    ·have h7:(((al da).size:Int) == sz)=true:=by rw [hsz2,h6];simp
     have HV:=hid (show aE ⟨sz,da,pg⟩=(pg == 0) by
      unfold aE;rw [if_neg (by simp only;omega),if_pos h5];simp [h6];rfl)
     clear hsz hsz2 h6;go_wp2_with fail;go_ret;exact ⟨by rw [HV.out];rfl,HB.out⟩
    ·have h7:(((al da).size:Int) == sz)=false:=by rw [hsz2];simpa using h6
     have HV:=hid (show aE ⟨sz,da,pg⟩=false by
      unfold aE;rw [if_neg (by simp only;omega),if_pos h5];simp [h6])
     clear hsz hsz2 h6;go_wp2_with fail;go_ret;exact ⟨by rw [HV.out];rfl,HB.out⟩
   ·have h5b:(40:Int)<sz:=by omega
    by_cases h6:da=[]
    ·subst h6;have HV:=hid (show aE ⟨sz,[],pg⟩=cm pg by
      unfold aE;rw [if_neg (by simp only;omega),if_neg (by simp only;omega)];simp)
     have h8:(al ([]:List UInt8)).toList.isEmpty=true:=by rw [aL];rfl
     clear hsz hsz2;go_wp2_with fail;refine (ia pg w1).mono ?_;rintro e w2 ⟨rfl,rfl⟩;go_wp2_with fail;go_ret;exact ⟨by rw [HV.out];rfl,HB.out⟩
    ·have h8:(al da).toList.isEmpty=false:=by rw [aL];simpa using h6
     have HV:=hid (show aE ⟨sz,da,pg⟩=false by
      unfold aE;rw [if_neg (by simp only;omega),if_neg (by simp only;omega)];simp [h6])
     clear hsz hsz2 h6;go_wp2_with fail;go_ret;exact ⟨by rw [HV.out];rfl,HB.out⟩
theorem Sl.key {w:World} {ks:List By} {A:Option Addr} {n c:Nat} (h:Sl sC 1 w (.slice A n c) ks) {k:Nat} (hk:k<ks.length):∃ b off,A=some ⟨b,off,none⟩∧b<w.heap.size∧n=ks.length∧w.cell? ⟨b,off+k,none⟩=some (.string (al ks[k])):=by
 obtain ⟨A',c',he,h⟩:=h;injection he with e1 e2 e3
 subst e1 e2;obtain ⟨b,off,rfl,hlt,hc⟩:=h (by rintro rfl;simp at hk);have:=hc k ks[k] (List.getElem?_eq_getElem hk) 0 _ rfl;exact ⟨b,off,rfl,hlt,rfl,by simpa using this⟩
def fZ:Option By→List By→Bool
 | _,[]=>true
 | p,a :: l=>decide (a.length≤64) && (match p with | none=>true | some x=>bK x a) && fZ (some a) l
theorem kZ:∀ (a:By) (l:List By),a.length≤64→fZ (some a) l=aO (a :: l)
 | a,[],h=>by simp [fZ,aO,h]
 | a,b :: r,h=>by
   rw [aO,fZ];by_cases hb:b.length≤64
   ·rw [kZ b r hb];simp [h,hb]
   ·have:aO (b :: r)=false:=by
     cases hh:aO (b :: r)
     ·rfl
     ·exact absurd (bF hh b List.mem_cons_self) hb
    rw [this];simp [hb]
theorem k8 (ks:List By):fZ none ks=aO ks:=by
 cases ks with
 | nil=>rfl
 | cons a l=>
   rw [fZ];by_cases h:a.length≤64
   ·rw [kZ a l h];simp [h]
   ·have:aO (a :: l)=false:=by
     cases hh:aO (a :: l)
     ·rfl
     ·exact absurd (bF hh a List.mem_cons_self) h
    rw [this];simp [h]
def dv (ks:List By) (k:Nat):Option By:=if k=0 then none else ks[k - 1]?
theorem kY {ks:List By} {k:Nat} (h:k<ks.length):fZ (dv ks k) (ks.drop k)=(decide (ks[k].length≤64) && (match dv ks k with | none=>true | some x=>bK x ks[k]) && fZ (dv ks (k+1)) (ks.drop (k+1))):=by rw [List.drop_eq_getElem_cons h,show dv ks (k+1)=some ks[k] by simp [dv,h]];cases dv ks k <;> rfl
theorem pB (ks:List By) (v:Value) (w:World) (h:Sl sC 1 w v ks) (hl:ks.length≤1000000) (hk:∀ k ∈ ks,k.length≤1000000):Calls Tryz.prog 154 #[v] w fun e w'=>e=.returned (.bool (aO ks))∧Below w.heap.size w w':=by
 obtain ⟨A,c,rfl⟩:=Sl.len' h;have H:=hid h;have HK:=hid hk;have HR0:=hid (show fZ (dv ks 0) (ks.drop 0)=aO ks from k8 ks);clear h hk;go_enter Tryz.func154,Tryz.ntmps154;go_wp2_with fail;go_loopw [7] (fun i wr=>∃ k:Nat,k≤ks.length∧i=.int .i64 k∧fZ (dv ks k) (ks.drop k)=aO ks∧Below w.heap.size w wr) (fun i _=>ks.length - (intOf i).toNat)
 case atStart=>exact ⟨0,Nat.zero_le _,rfl,HR0.out,Below.refl _ _⟩
 case round=>
  obtain ⟨k,hk,rfl,hr,hb⟩:=hrel;have HR:=hid hr;have HB:=hid hb;clear hr hb;by_cases hlt:k<ks.length
  ·obtain ⟨b,off,rfl,hbl,_,hc⟩:=(H.out.keep HB.out).key hlt;have hsz:(al ks[k]).size=ks[k].length:=aq _;have HS:=hid (kY hlt);have hkl:ks[k].length≤1000000:=HK.out _ (List.getElem_mem _);by_cases h64:64<ks[k].length
   ·have h64b:(64:Int)<((al ks[k]).size:Int):=by rw [hsz];omega
    have HV:=hid (show aO ks=false by rw [← HR.out,HS.out,decide_eq_false (by omega)];rfl);clear hsz;go_wp2_with fail;go_ret;exact ⟨by rw [HV.out];rfl,HB.out⟩
   ·have h64b:((al ks[k]).size:Int)≤64:=by rw [hsz];omega
    have h64c:decide (ks[k].length≤64)=true:=by simp;omega
    rcases Nat.eq_zero_or_pos k with h0 | h0
    ·have HV:=hid (show fZ (dv ks (k+1)) (ks.drop (k+1))=aO ks by
      rw [← HR.out,HS.out,h64c];simp [dv,h0])
     clear hsz h64c;subst h0;simp only [Nat.add_zero] at hc;go_wp2_with fail;go_roundw
     case rel=>first | exact ⟨0+1,by omega,by go_num,HV.out,HB.out⟩ | ((repeat apply Exists.intro);exact ⟨⟨0+1,by omega,by go_num,HV.out,HB.out⟩,by and_intros <;> rfl⟩)
     case measure=>simp [intOf];omega
    ·obtain ⟨m,rfl⟩:∃ m,k=m+1:=⟨k - 1,by omega⟩;obtain ⟨b',off',he,_,_,hc'⟩:=(H.out.keep HB.out).key (show m<ks.length by omega);injection he with he
     injection he with e1 e2
     subst e1 e2;have hcm:Op.bytesLess (al ks[m]).toList (al ks[m+1]).toList=bK ks[m] ks[m+1]:=by rw [aL,aL];rfl
     have HS2:=hid (show aO ks=(bK ks[m] ks[m+1] && fZ (dv ks (m+1+1)) (ks.drop (m+1+1))) by
      rw [← HR.out,HS.out,h64c];simp [dv,show m<ks.length by omega])
     clear hsz h64c;cases hcc:bK ks[m] ks[m+1]
     ·have HV:=hid (show aO ks=false by rw [HS2.out,hcc];rfl);rw [hcc] at hcm;clear hcc HS2;generalize al ks[m+1]=x at *;generalize al ks[m]=y at *;go_wp2_with fail;go_ret;exact ⟨by rw [HV.out];rfl,HB.out⟩
     ·have HV:=hid (show fZ (dv ks (m+1+1)) (ks.drop (m+1+1))=aO ks by rw [HS2.out,hcc];simp);rw [hcc] at hcm;clear hcc HS2;generalize al ks[m+1]=x at *;generalize al ks[m]=y at *;go_wp2_with fail;go_roundw
      case rel=>first | exact ⟨m+1+1,by omega,by go_num,HV.out,HB.out⟩ | ((repeat apply Exists.intro);exact ⟨⟨m+1+1,by omega,by go_num,HV.out,HB.out⟩,by and_intros <;> rfl⟩)
      case measure=>simp [intOf];omega
  ·have HV:=hid (show aO ks=true by
    rw [← HR.out,List.drop_of_length_le (by omega)];cases dv ks k <;> rfl)
   go_wp2_with fail;go_ret;exact ⟨by rw [HV.out];rfl,HB.out⟩
end Go.Proofs.YtknioodagnjchaaGreatDoor
