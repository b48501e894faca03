/- node: isPage, isGood, rises; what a cell and a node are in memory. -/
import Derived.Test.YtknioodagnjchaaGreatDoorVSp
import Derived.Test.YtknioodagnjchaaGreatDoorVShelf
import Derived.Deep.QuietTactic
import Derived.BigQuiet
import Derived.Deep.Cut
set_option maxRecDepth 100000
set_option maxHeartbeats 1000000
namespace Go.Proofs.YtknioodagnjchaaGreatDoor
open Go.RowKit
def sC (s:List UInt8):List Value:=[.string (mkS s)]
theorem sC_len (s:List UInt8):(sC s).length=1:=rfl
def cC (c:Ce):List Value:=[.int .i64 c.size,.string (mkS c.data),.int .i64 c.page]
theorem cC_len (c:Ce):(cC c).length=3:=rfl
def ceB (c:Ce):Obj:=.cells #[.int .i64 c.size,.string (mkS c.data),.int .i64 c.page] 119 (0,0)
theorem mkS_toList (l:List UInt8):(mkS l).toList=l:=by rw [ByteArray.toList_eq];rfl
theorem mkS_inj {a b:List UInt8} (h:mkS a=mkS b):a=b:=by rw [← bs_mkS a,h,bs_mkS]
theorem isPage_any (n:Int) (w:World):Calls Tryz.prog 185 #[.int .i64 n] w fun e w'=>e=.returned (.bool (isPg n))∧w=w':=by
 go_enter Tryz.func185,Tryz.ntmps185
 by_cases h1:1≤n
 ·have HV:=Lib.hid (show isPg n=decide (n<4096) by simp [isPg,h1])
  go_wp2_with fail
  go_ret
  exact ⟨by rw [HV.out];rfl,rfl⟩
 ·have HV:=Lib.hid (show isPg n=false by simp [isPg,h1])
  have h2:n<1:=by omega
  go_wp2_with fail
  go_ret
  exact ⟨by rw [HV.out];rfl,rfl⟩
theorem isGood_any (c:Ce) (w:World) (hl:c.data.length≤1000000):Calls Tryz.prog 156 #[.agg #[.int .i64 c.size,.string (mkS c.data),.int .i64 c.page]] w fun e w'=>e=.returned (.bool (goodC c))∧Below w.heap.size w w':=by
 have HB:=Lib.hid ((Below.refl _ w).alloc (Nat.le_refl _) (ceB c))
 have HG:=Lib.hid (blk_new (w0:=w) (g:=w.heap.size) (o:=ceB c) rfl)
 have hsz:=mkS_size c.data
 have hsz2:((mkS c.data).size:Int)=c.data.length:=by rw [hsz]
 obtain ⟨sz,da,pg⟩:=c
 simp only at hl hsz hsz2
 go_enter Tryz.func156,Tryz.ntmps156
 go_upto_region 1 with fail
 generalize hw1:w.alloc (.cells #[.int .i64 sz,.string (mkS da),.int .i64 pg] 119)=w1 at *
 have hw2:w.alloc (ceB ⟨sz,da,pg⟩)=w1:=hw1
 rw [hw2] at HB HG
 clear hw1 hw2
 have a0:w1.cell? ⟨w.heap.size,0,none⟩=some (.int .i64 sz):=blk_cell HG.out 0
 have a1:w1.cell? ⟨w.heap.size,1,none⟩=some (.string (mkS da)):=blk_cell HG.out 1
 have a2:w1.cell? ⟨w.heap.size,2,none⟩=some (.int .i64 pg):=blk_cell HG.out 2
 have a3:=blk_lt HG.out
 by_cases h1:sz<0
 ·have HV:=Lib.hid (show goodC ⟨sz,da,pg⟩=false by simp [goodC,h1])
  go_wp2_with fail
  go_ret
  exact ⟨by rw [HV.out];rfl,HB.out⟩
 ·have h2:(0:Int)≤sz:=by omega
  by_cases h3:5000<sz
  ·have HV:=Lib.hid (show goodC ⟨sz,da,pg⟩=false by simp [goodC,h3])
   go_wp2_with fail
   go_ret
   exact ⟨by rw [HV.out];rfl,HB.out⟩
  ·have h4:sz≤5000:=by omega
   by_cases h5:sz≤40
   ·by_cases h6:(da.length:Int)=sz
    ·have h7:(((mkS da).size:Int) == sz)=true:=by rw [hsz2,h6];simp
     have HV:=Lib.hid (show goodC ⟨sz,da,pg⟩=(pg == 0) by
      unfold goodC
      rw [if_neg (by simp only;omega),if_pos h5]
      simp [h6]
      rfl)
     clear hsz hsz2 h6
     go_wp2_with fail
     go_ret
     exact ⟨by rw [HV.out];rfl,HB.out⟩
    ·have h7:(((mkS da).size:Int) == sz)=false:=by rw [hsz2];simpa using h6
     have HV:=Lib.hid (show goodC ⟨sz,da,pg⟩=false by
      unfold goodC
      rw [if_neg (by simp only;omega),if_pos h5]
      simp [h6])
     clear hsz hsz2 h6
     go_wp2_with fail
     go_ret
     exact ⟨by rw [HV.out];rfl,HB.out⟩
   ·have h5b:(40:Int)<sz:=by omega
    by_cases h6:da=[]
    ·subst h6
     have HV:=Lib.hid (show goodC ⟨sz,[],pg⟩=isPg pg by
      unfold goodC
      rw [if_neg (by simp only;omega),if_neg (by simp only;omega)]
      simp)
     have h8:(mkS ([]:List UInt8)).toList.isEmpty=true:=by rw [mkS_toList];rfl
     clear hsz hsz2
     go_wp2_with fail
     refine (isPage_any pg w1).mono ?_
     rintro e w2 ⟨rfl,rfl⟩
     go_wp2_with fail
     go_ret
     exact ⟨by rw [HV.out];rfl,HB.out⟩
    ·have h8:(mkS da).toList.isEmpty=false:=by rw [mkS_toList];simpa using h6
     have HV:=Lib.hid (show goodC ⟨sz,da,pg⟩=false by
      unfold goodC
      rw [if_neg (by simp only;omega),if_neg (by simp only;omega)]
      simp [h6])
     clear hsz hsz2 h6
     go_wp2_with fail
     go_ret
     exact ⟨by rw [HV.out];rfl,HB.out⟩
theorem Sl.key {w:World} {ks:List By} {A:Option Addr} {n c:Nat} (h:Sl sC 1 w (.slice A n c) ks) {k:Nat} (hk:k<ks.length):∃ b off,A=some ⟨b,off,none⟩∧b<w.heap.size∧n=ks.length∧w.cell? ⟨b,off+k,none⟩=some (.string (mkS ks[k])):=by
 obtain ⟨A',c',he,h⟩:=h
 injection he with e1 e2 e3
 subst e1 e2
 obtain ⟨b,off,rfl,hlt,hc⟩:=h (by rintro rfl;simp at hk)
 have:=hc k ks[k] (List.getElem?_eq_getElem hk) 0 _ rfl
 exact ⟨b,off,rfl,hlt,rfl,by simpa using this⟩
def risD:Option By→List By→Bool
 | _,[]=>true
 | p,a :: l=>decide (a.length≤64) && (match p with | none=>true | some x=>klt x a) && risD (some a) l
theorem risD_some:∀ (a:By) (l:List By),a.length≤64→risD (some a) l=risesB (a :: l)
 | a,[],h=>by simp [risD,risesB,h]
 | a,b :: r,h=>by
   rw [risesB,risD]
   by_cases hb:b.length≤64
   ·rw [risD_some b r hb]
    simp [h,hb]
   ·have:risesB (b :: r)=false:=by
     cases hh:risesB (b :: r)
     ·rfl
     ·exact absurd (risesB_len hh b List.mem_cons_self) hb
    rw [this]
    simp [hb]
theorem risD_none (ks:List By):risD none ks=risesB ks:=by
 cases ks with
 | nil=>rfl
 | cons a l=>
   rw [risD]
   by_cases h:a.length≤64
   ·rw [risD_some a l h];simp [h]
   ·have:risesB (a :: l)=false:=by
     cases hh:risesB (a :: l)
     ·rfl
     ·exact absurd (risesB_len hh a List.mem_cons_self) h
    rw [this];simp [h]
def prevK (ks:List By) (k:Nat):Option By:=if k=0 then none else ks[k - 1]?
theorem risD_step {ks:List By} {k:Nat} (h:k<ks.length):risD (prevK ks k) (ks.drop k)=(decide (ks[k].length≤64) && (match prevK ks k with | none=>true | some x=>klt x ks[k]) && risD (prevK ks (k+1)) (ks.drop (k+1))):=by
 rw [List.drop_eq_getElem_cons h,show prevK ks (k+1)=some ks[k] by simp [prevK,h]]
 cases prevK ks k <;> rfl
theorem rises_any (ks:List By) (v:Value) (w:World) (h:Sl sC 1 w v ks) (hl:ks.length≤1000000) (hk:∀ k ∈ ks,k.length≤1000000):Calls Tryz.prog 154 #[v] w fun e w'=>e=.returned (.bool (risesB ks))∧Below w.heap.size w w':=by
 obtain ⟨A,c,rfl⟩:=Sl.len' h
 have H:=Lib.hid h
 have HK:=Lib.hid hk
 have HR0:=Lib.hid (show risD (prevK ks 0) (ks.drop 0)=risesB ks from risD_none ks)
 clear h hk
 go_enter Tryz.func154,Tryz.ntmps154
 go_wp2_with fail
 go_loopw [7] (fun i wr=>∃ k:Nat,k≤ks.length∧i=.int .i64 k∧risD (prevK ks k) (ks.drop k)=risesB ks∧Below w.heap.size w wr) (fun i _=>ks.length - (intOf i).toNat)
 case atStart=>exact ⟨0,Nat.zero_le _,rfl,HR0.out,Below.refl _ _⟩
 case round=>
  obtain ⟨k,hk,rfl,hr,hb⟩:=hrel
  have HR:=Lib.hid hr
  have HB:=Lib.hid hb
  clear hr hb
  by_cases hlt:k<ks.length
  ·obtain ⟨b,off,rfl,hbl,_,hc⟩:=(H.out.keep HB.out).key hlt
   have hsz:(mkS ks[k]).size=ks[k].length:=mkS_size _
   have HS:=Lib.hid (risD_step hlt)
   have hkl:ks[k].length≤1000000:=HK.out _ (List.getElem_mem _)
   by_cases h64:64<ks[k].length
   ·have h64b:(64:Int)<((mkS ks[k]).size:Int):=by rw [hsz];omega
    have HV:=Lib.hid (show risesB ks=false by rw [← HR.out,HS.out,decide_eq_false (by omega)];rfl)
    clear hsz
    go_wp2_with fail
    go_ret
    exact ⟨by rw [HV.out];rfl,HB.out⟩
   ·have h64b:((mkS ks[k]).size:Int)≤64:=by rw [hsz];omega
    have h64c:decide (ks[k].length≤64)=true:=by simp;omega
    rcases Nat.eq_zero_or_pos k with h0 | h0
    ·have HV:=Lib.hid (show risD (prevK ks (k+1)) (ks.drop (k+1))=risesB ks by
      rw [← HR.out,HS.out,h64c];simp [prevK,h0])
     clear hsz h64c
     subst h0
     simp only [Nat.add_zero] at hc
     go_wp2_with fail
     go_roundw
     case rel=>first | exact ⟨0+1,by omega,by go_num,HV.out,HB.out⟩ | ((repeat apply Exists.intro);exact ⟨⟨0+1,by omega,by go_num,HV.out,HB.out⟩,by and_intros <;> rfl⟩)
     case measure=>simp [intOf];omega
    ·obtain ⟨m,rfl⟩:∃ m,k=m+1:=⟨k - 1,by omega⟩
     obtain ⟨b',off',he,_,_,hc'⟩:=(H.out.keep HB.out).key (show m<ks.length by omega)
     injection he with he
     injection he with e1 e2
     subst e1 e2
     have hcm:Op.bytesLess (mkS ks[m]).toList (mkS ks[m+1]).toList=klt ks[m] ks[m+1]:=by rw [mkS_toList,mkS_toList];rfl
     have HS2:=Lib.hid (show risesB ks=(klt ks[m] ks[m+1] && risD (prevK ks (m+1+1)) (ks.drop (m+1+1))) by
      rw [← HR.out,HS.out,h64c];simp [prevK,show m<ks.length by omega])
     clear hsz h64c
     cases hcc:klt ks[m] ks[m+1]
     ·have HV:=Lib.hid (show risesB ks=false by rw [HS2.out,hcc];rfl)
      rw [hcc] at hcm
      clear hcc HS2
      generalize mkS ks[m+1]=x at *
      generalize mkS ks[m]=y at *
      go_wp2_with fail
      go_ret
      exact ⟨by rw [HV.out];rfl,HB.out⟩
     ·have HV:=Lib.hid (show risD (prevK ks (m+1+1)) (ks.drop (m+1+1))=risesB ks by rw [HS2.out,hcc];simp)
      rw [hcc] at hcm
      clear hcc HS2
      generalize mkS ks[m+1]=x at *
      generalize mkS ks[m]=y at *
      go_wp2_with fail
      go_roundw
      case rel=>first | exact ⟨m+1+1,by omega,by go_num,HV.out,HB.out⟩ | ((repeat apply Exists.intro);exact ⟨⟨m+1+1,by omega,by go_num,HV.out,HB.out⟩,by and_intros <;> rfl⟩)
      case measure=>simp [intOf];omega
  ·have HV:=Lib.hid (show risesB ks=true by
    rw [← HR.out,List.drop_of_length_le (by omega)];cases prevK ks k <;> rfl)
   go_wp2_with fail
   go_ret
   exact ⟨by rw [HV.out];rfl,HB.out⟩
end Go.Proofs.YtknioodagnjchaaGreatDoor
