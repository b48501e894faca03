/- spare.Encode: trunks as pages. -/
import Derived.Test.YtdmhbgpejppbkaaGreatXGae
import Derived.Test.YtdmhbgpejppbkaaGreatXShelf
import Derived.Deep.Cut
set_option maxRecDepth 100000
set_option maxHeartbeats 1000000
namespace Go.Proofs.YtdmhbgpejppbkaaGreat
open Go.Lib (hid)
open Go.RowKit
def iC (n:Int):List Value:=[.int .i64 n]
theorem dF (n:Int):(iC n).length=1:=rfl
def dX (n:Int):Bool:=decide (n<1) || decide (4096≤n)
theorem th (n:Int) (w:World):Calls Tryz.prog 234 #[.int .i64 n] w fun e w'=>e=.returned (.bool (dX n))∧w=w':=by
 go_enter Tryz.func234,Tryz.ntmps234;by_cases h1:n<1
 ·go_wp2_with fail;go_ret;exact ⟨vI (by unfold dX;rw [decide_eq_true h1];rfl),rfl⟩
 ·have h2:(1:Int)≤n:=by omega
  go_wp2_with fail;go_ret;exact ⟨vI (by unfold dX;rw [show decide (n<1)=false from decide_eq_false (by omega)];rfl),rfl⟩
theorem Sl.at1 {α:Type} {f:α→List Value} {size:Nat} {w:World} {v:Value} {xs:List α} (h:Sl f size w v xs) {k:Nat} (hk:k<xs.length):
  ∃ b off c,v=.slice (some ⟨b,off,none⟩) xs.length c∧b<w.heap.size∧∀ j u,(f xs[k])[j]?=some u→w.cell? ⟨b,off+k * size+j,none⟩=some u:=by
 obtain ⟨b,off,c,he,-,hbl,hs⟩:=(h.cases).resolve_left (fun ⟨_,_,_,h⟩=>by rw [h] at hk;simp at hk);exact ⟨b,off,c,he,hbl,(hs.cells hk).2⟩
theorem oU (v:Value) (xs:List Int) (w:World) (h:Sl iC 1 w v xs) (hl:xs.length≤1000000):
  Calls Tryz.prog 275 #[v,.func (Fn.func 234) #[] #[]] w fun e w'=>e=.returned (.int .i64 (bI dX xs))∧w=w':=by
 obtain ⟨A,c,rfl⟩:=Sl.len' h;have H:=hid h;clear h;go_enter Tryz.func275,Tryz.ntmps275;go_wp2_with fail;go_loop [8] (fun i=>∃ k:Nat,k≤xs.length∧i=.int .i64 k∧∀ j (h:j<xs.length),j<k→dX xs[j]=false) (fun i=>xs.length - (intOf i).toNat)
 case atStart=>exact ⟨0,Nat.zero_le _,rfl,fun _ _ h=>absurd h (Nat.not_lt_zero _)⟩
 case round=>
  obtain ⟨k,hk,rfl,hno⟩:=hrel;have HN:=hid hno;clear hno;by_cases hlt:k<xs.length
  ·obtain ⟨b,off,c,he,hbl,hcells⟩:=H.out.at1 hlt;injection he with he1 he2 he3
   subst he1 he3;have e0:w.cell? ⟨b,off+k,none⟩=some (.int .i64 xs[k]):=by simpa using hcells 0 _ rfl
   have hk0:(0:Int)≤(k:Int):=by omega
   have hk1:(k:Int)<(xs.length:Int):=by omega
   have HI:=hid (show dX xs[k]=true→bI dX xs=k from fun h=>fM hlt h HN.out);have HU:=hid (show dX xs[k]=false→∀ j (h:j<xs.length),j<k+1→dX xs[j]=false from fun h=>zU HN.out hlt h);clear hcells;generalize xs[k]=x at *;go_wp2_with fail;refine (th x w).mono ?_;rintro e w' ⟨rfl,rfl⟩;cases hx:dX x
   ·have HX:=hid (HU.out hx);go_wp2_with fail;go_round
    case rel=>exact ⟨k+1,by omega,by go_num,HX.out⟩
    case measure=>simp [intOf];omega
   ·have HX:=hid (HI.out hx);go_wp2_with fail;go_ret;exact ⟨zw HX.out.symm,rfl⟩
  ·have HX:=hid (dZ (p:=dX) hlt HN.out);go_wp2_with fail;go_ret;exact ⟨zw HX.out.symm,rfl⟩
theorem fL {α:Type} (p:α→Bool) (xs:List α):decide (0≤bI p xs)=xs.any p:=by
 unfold bI;by_cases h:xs.any p=true
 ·rw [h];have:xs.findIdx p<xs.length:=by rw [List.findIdx_lt_length];simpa using h
  rw [if_pos this];exact decide_eq_true (by omega)
 ·rw [Bool.eq_false_iff.2 h];have:¬ xs.findIdx p<xs.length:=by rw [List.findIdx_lt_length];simpa using h
  rw [if_neg this];rfl
theorem fP (v:Value) (xs:List Int) (w:World) (h:Sl iC 1 w v xs) (hl:xs.length≤1000000):
  Calls Tryz.prog 235 #[v,.func (Fn.func 234) #[] #[]] w fun e w'=>e=.returned (.bool (xs.any dX))∧w=w':=by
 go_enter Tryz.func235,Tryz.ntmps235;go_wp2_with fail;refine (oU v xs w h hl).mono ?_;rintro e w' ⟨rfl,rfl⟩;have HF:=hid (fL dX xs);generalize bI dX xs=m at *;go_wp2_with fail;go_ret;exact ⟨vI HF.out,rfl⟩
structure Tk where
 next:Int
 list:List Int
def bE (t:Tk):Bool:=(!(t.next == 0) && dX t.next) || decide (50<t.list.length) || t.list.any dX
def eG (t:Tk):List UInt8:=4 :: (aG 4 t.next.toNat ++ aG 1 t.list.length ++ t.list.flatMap fun n=>aG 4 n.toNat)
def vq (t:Tk):Value:=if bE t then .tuple #[.string (aj []),.int .i64 1] else .tuple #[.string (aj (aT (eG t))),.int .i64 0]
theorem py {t:Tk} (h:bE t=false):0≤t.next∧t.next<4096∧t.list.length≤50∧∀ x ∈ t.list,1≤x∧x<4096:=by
 unfold bE at h;rw [Bool.or_eq_false_iff,Bool.or_eq_false_iff] at h;obtain ⟨⟨h1,h2⟩,h3⟩:=h;rw [List.any_eq_false] at h3;refine ⟨?_,?_,by simpa using h2,fun x hx=>?_⟩
 ·by_cases h0:t.next=0
  ·omega
  ·simp [h0,dX] at h1;omega
 ·by_cases h0:t.next=0
  ·omega
  ·simp [h0,dX] at h1;omega
 ·have:=h3 x hx;simp [dX] at this;omega
theorem xV {t:Tk}:(eG t).length=6+4 * t.list.length:=by
 unfold eG
 have:∀ l:List Int,(l.flatMap fun n=>aG 4 n.toNat).length=4 * l.length:=fun l=>by
  induction l with
  | nil=>rfl
  | cons x l ih=>rw [List.flatMap_cons,List.length_append,ih,aq,List.length_cons];omega
 rw [List.length_cons,List.length_append,List.length_append,aq,aq,this];omega
def qW (t:Tk) (k:Nat):List UInt8:=4 :: (aG 4 t.next.toNat ++ aG 1 t.list.length ++ (t.list.take k).flatMap fun n=>aG 4 n.toNat)
theorem xU {t:Tk} {k:Nat}:(qW t k).length≤6+4 * t.list.length:=by have h:=xV (t:=⟨t.next,t.list.take k⟩);unfold eG at h;unfold qW;simp only [List.length_cons,List.length_append,aq,List.length_take] at h ⊢;omega
theorem vB {t:Tk} {k:Nat} (h:k<t.list.length):qW t (k+1)=qW t k ++ aG 4 t.list[k].toNat:=by unfold qW;rw [List.take_succ_eq_append_getElem h];simp only [List.flatMap_append,List.flatMap_cons,List.flatMap_nil,List.append_nil,List.cons_append,List.append_assoc]
theorem fG (r:Nat):Lib.repeatL [(0:UInt8)] r=List.replicate r 0:=by have:=Lib.repeatL_replicate 0 1 r;simpa using this
theorem dL (r:Nat) (w:World) (hr:r≤232):Calls Tryz.prog 82 #[.string ⟨#[0]⟩,.int .i64 r] w fun e w'=>e=.returned (.string (aj (List.replicate r 0)))∧Below w.heap.size w w':=by have h:=Tryz.strings_Repeat ⟨#[0]⟩ r w (by omega) (by show 1 * r≤_;omega);rw [show (⟨#[0]⟩:ByteArray).data.toList=[0] from rfl,fG] at h;exact h
theorem bZ (n:Nat) (w:World) (hn:n<18446744073709551616):Calls Tryz.prog 165 #[.int .u64 n,.int .i64 4] w fun e w'=>e=.returned (.string (aj (aG 4 n)))∧Below w.heap.size w w':=eZ n 4 w hn (by omega) (by omega)
theorem sD (n:Nat) (w:World) (hn:n<18446744073709551616):Calls Tryz.prog 165 #[.int .u64 n,.int .i64 1] w fun e w'=>e=.returned (.string (aj (aG 1 n)))∧Below w.heap.size w w':=eZ n 1 w hn (by omega) (by omega)
theorem iD {n:Nat} (h:n<1000000):IntKind.u64.wrap (n:Int)=(n:Int):=IntWalk.u64_in _ (by omega)
theorem iF (t:Tk) (v:Value) (w:World) (h:Sl iC 1 w v t.list) (hl:t.list.length≤1000000):
  Calls Tryz.prog 198 #[.agg #[.int .i64 t.next,v]] w fun e w'=>e=.returned (vq t)∧Below w.heap.size w w':=by
 obtain ⟨A,c,rfl⟩:=Sl.len' h;have H:=hid h;clear h;obtain ⟨nx,ls⟩:=t;simp only at hl H;go_enter Tryz.func198,Tryz.ntmps198;go_upto_region 2 with fail
 have HB:=hid ((Below.refl _ w).alloc (Nat.le_refl _) (.cells #[.int .i64 nx,.slice A ls.length c] 164));have HX:=hid (af (w0:=w) (o:=.cells #[.int .i64 nx,.slice A ls.length c] 164) rfl);generalize w.alloc (.cells #[.int .i64 nx,.slice A ls.length c] 164)=w1 at *;have c0:=aa HX.out 0;have c1:=aa HX.out 1;have hbx:=ab HX.out;simp only [List.getElem?_toArray,List.getElem?_cons_succ,List.getElem?_cons_zero] at c0 c1;go_cut [28] from 8 to 28 (fun b wc=>b=.bool (bE ⟨nx,ls⟩)∧w1=wc)
 case first=>
  by_cases h0:nx=0
  ·subst h0;by_cases h50:50<ls.length
   ·have HR:=hid (show bE ⟨0,ls⟩=true by unfold bE;simp [h50]);have h5:(50:Int)<(ls.length:Int):=by omega
    go_wp2_with fail;go_meet
    case rel=>exact ⟨by rw [HR.out],rfl⟩
   ·have HR:=hid (show bE ⟨0,ls⟩=ls.any dX by unfold bE;simp [h50]);have h5:(ls.length:Int)≤50:=by omega
    go_wp2_with fail;refine (fP _ ls w1 (H.out.keep HB.out) hl).mono ?_;rintro e w' ⟨rfl,rfl⟩;go_wp2_with fail;go_meet
    case rel=>exact ⟨by rw [HR.out,show decide ((50:Int)<(ls.length:Int))=false from decide_eq_false (by omega)];rfl,rfl⟩
  ·have h1:(nx == 0)=false:=by simpa using h0
   have h2:nx≠0:=h0;clear h0;go_wp2_with fail;refine (th nx w1).mono ?_;rintro e w' ⟨rfl,rfl⟩;cases ho:dX nx
   ·by_cases h50:50<ls.length
    ·have HR:=hid (show bE ⟨nx,ls⟩=true by unfold bE;simp [h50]);have h5:(50:Int)<(ls.length:Int):=by omega
     go_wp2_with fail;go_meet
     case rel=>exact ⟨by rw [HR.out],rfl⟩
    ·have HR:=hid (show bE ⟨nx,ls⟩=ls.any dX by unfold bE;simp [h50,ho]);have h5:(ls.length:Int)≤50:=by omega
     go_wp2_with fail;refine (fP _ ls w1 (H.out.keep HB.out) hl).mono ?_;rintro e w' ⟨rfl,rfl⟩;go_wp2_with fail;go_meet
     case rel=>exact ⟨by rw [HR.out,show decide ((50:Int)<(ls.length:Int))=false from decide_eq_false (by omega)];rfl,rfl⟩
   ·have HR:=hid (show bE ⟨nx,ls⟩=true by unfold bE;simp [ho,h1]);go_wp2_with fail;go_meet
    case rel=>exact ⟨by rw [HR.out],rfl⟩
 case rest=>
  obtain ⟨rfl,rfl⟩:=hcut;cases hbad:bE ⟨nx,ls⟩
  ·obtain ⟨k0,k1,k2,k3⟩:=py hbad;simp only at k0 k1 k2 k3;have HK:=hid k3;clear k3;obtain ⟨m,rfl⟩:∃ m:Nat,nx=m:=⟨nx.toNat,by omega⟩;clear k0;have HF1:=hid (fun (y:Up w1)=>bZ m y.w (by omega));have HF2:=hid (fun (y:Up w1)=>sD ls.length y.w (by omega));go_upto_region 4 with fail
   refine am (by kernel_rfl) (by kernel_rfl) ?_;have f0:=ay c0 hbx;have f1:=ay c1 hbx;have g0:=iD (n:=m) (by omega);have g1:=iD (n:=ls.length) (by omega);have s1:=aw (aG 4 m);have s2:=aw (aG 1 ls.length);rw [aq] at s1 s2
   repeat (go_big_quiet_step (first
    | (go_at_call 165;(with_reducible exact cF (HF1.out _)))
    | (go_at_call 165;(with_reducible exact cF (HF2.out _)))))
   refine wpQuiet_nil ?_;rintro w2 ⟨⟨_,hb2⟩,rfl⟩;have HB2:=hid (HB.out.trans (hb2.mono HB.out.size));have HS0:({ data:=#[4] }:ByteArray) ++ aj (aG 4 m) ++ aj (aG 1 ls.length)=aj (qW ⟨m,ls⟩ 0):=by rw [jf,jf];show aj (([4] ++ aG 4 m) ++ aG 1 ls.length)=_;unfold qW;simp
   rw [HS0];have HSL:=hid ((H.out.keep HB.out).keep hb2);have c1:=aa (aB HX.out hb2) 1;have hbx:=ab (aB HX.out hb2);simp only [List.getElem?_toArray,List.getElem?_cons_succ,List.getElem?_cons_zero] at c1;clear hb2 HS0 s1 s2 f0 f1 g0 g1 HF1 HF2;go_wp2_with fail;go_loopw [5,43] (fun sv iv wr=>∃ k:Nat,k≤ls.length∧iv=.int .i64 k∧sv=.string (aj (qW ⟨m,ls⟩ k))∧Below w2.heap.size w2 wr) (fun _ iv _=>ls.length - (intOf iv).toNat)
   case atStart=>exact ⟨0,Nat.zero_le _,rfl,rfl,Below.refl _ _⟩
   case round=>
    obtain ⟨k,hk,rfl,rfl,hb⟩:=hrel;have HBR:=hid hb;clear hb;have s1:=aw (qW ⟨m,ls⟩ k);have s2:=xU (t:=⟨m,ls⟩) (k:=k);simp only at s2;by_cases hlt:k<ls.length
    ·obtain ⟨b,off,c',he,hbl,hcells⟩:=(HSL.out.keep HBR.out).at1 hlt;injection he with he1 he2 he3
     subst he1 he3;have e0:wr.cell? ⟨b,off+k,none⟩=some (.int .i64 ls[k]):=by simpa using hcells 0 _ rfl
     have hk0:(0:Int)≤(k:Int):=by omega
     have hk1:(k:Int)<(ls.length:Int):=by omega
     have HT:=hid (vB (t:=⟨m,ls⟩) hlt);simp only at HT;obtain ⟨q0,q1⟩:=HK.out _ (List.getElem_mem hlt);clear hcells;generalize ls[k]=x at *;obtain ⟨n,rfl⟩:∃ n:Nat,x=n:=⟨x.toNat,by omega⟩;have g0:=iD (n:=n) (by omega);have s3:=aw (aG 4 n);rw [aq] at s3;go_wp2_with fail;refine (bZ n wr (by omega)).mono ?_;rintro e w3 ⟨rfl,hb3⟩;have HB3:=hid (HBR.out.trans (hb3.mono HBR.out.size));have HS2:=hid (show aj (qW ⟨m,ls⟩ k) ++ aj (aG 4 n)=aj (qW ⟨m,ls⟩ (k+1)) by rw [jf,aR,aR,HT.out];rfl);clear hb3 e0;go_wp2_with fail;refine ⟨⟨k+1,by omega,by go_num,by rw [HS2.out],HB3.out⟩,?_⟩;simp [intOf];omega
    ·have hkl:k=ls.length:=by omega
     subst hkl;have HTE:=hid (show qW ⟨m,ls⟩ ls.length=eG ⟨m,ls⟩ by unfold qW eG;rw [List.take_length]);have HRR:=hid (show vq ⟨m,ls⟩=.tuple #[.string (aj (aT (eG ⟨m,ls⟩))),.int .i64 0] by unfold vq;rw [hbad];rfl);obtain ⟨r,hr⟩:∃ r:Nat,r=232 - (qW ⟨m,ls⟩ ls.length).length:=⟨_,rfl⟩;have hr2:(232:Int) - ((qW ⟨m,ls⟩ ls.length).length:Int)=(r:Int):=by omega
     have HR:=hid hr;have s4:=aw (List.replicate r 0);rw [List.length_replicate] at s4;have hr3:r≤232:=by omega
     clear hr;go_wp2_with fail;refine (dL r wr hr3).mono ?_;rintro e w3 ⟨rfl,hb3⟩;have HB3:=hid (HBR.out.trans (hb3.mono HBR.out.size));have HS2:=hid (show aj (qW ⟨m,ls⟩ ls.length) ++ aj (List.replicate r 0)=aj (aT (eG ⟨m,ls⟩)) by
      rw [jf,aR,aR,HR.out,← HTE.out];unfold aT;rw [List.take_of_length_le (by omega)])
     clear hb3;go_wp2_with fail;go_ret2;rw [HRR.out,HS2.out];exact ⟨rfl,HB2.out.trans (HB3.out.mono HB2.out.size)⟩
  ·go_wp2_with fail;go_ret2;exact ⟨by unfold vq;rw [hbad];rfl,HB.out⟩
end Go.Proofs.YtdmhbgpejppbkaaGreat
