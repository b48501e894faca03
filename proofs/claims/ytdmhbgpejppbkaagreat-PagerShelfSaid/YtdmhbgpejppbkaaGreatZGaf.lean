/- spare.Encode: trunks as pages. -/
import Derived.Test.YtdmhbgpejppbkaaGreatZGae
import Derived.Test.YtdmhbgpejppbkaaGreatZShelf
import Derived.Deep.Cut
set_option maxRecDepth 100000
set_option maxHeartbeats 1000000
namespace Go.Proofs.YtdmhbgpejppbkaaGreat
open Go.Lib (hid)
open Go.RowKit
def iC (n:Int):List Value:=[.int .i64 n]
theorem bt (n:Int):(iC n).length=1:=rfl
def cP (n:Int):Bool:=decide (n<1) || decide (4096≤n)
theorem mW (n:Int) (w:World):Calls Tryz.prog 234 #[.int .i64 n] w fun e w'=>e=.returned (.bool (cP n))∧w=w':=by
 go_enter Tryz.func234,Tryz.ntmps234;by_cases h1:n<1
 ·go_wp2_with fail;go_ret;exact ⟨pE (by unfold cP;rw [decide_eq_true h1];rfl),rfl⟩
 ·have h2:(1:Int)≤n:=by omega
  go_wp2_with fail;go_ret;exact ⟨pE (by unfold cP;rw [show decide (n<1)=false from decide_eq_false (by omega)];rfl),rfl⟩
theorem Sl.at1 {α:Type} {f:α→List Value} {size:Nat} {w:World} {v:Value} {xs:List α} (h:Sl f size w v xs) {k:Nat} (hk:k<xs.length):
  ∃ b off c,v=.slice (some ⟨b,off,none⟩) xs.length c∧b<w.heap.size∧∀ j u,(f xs[k])[j]?=some u→w.cell? ⟨b,off+k * size+j,none⟩=some u:=by
 obtain ⟨b,off,c,he,-,hbl,hs⟩:=(h.cases).resolve_left (fun ⟨_,_,_,h⟩=>by rw [h] at hk;simp at hk);exact ⟨b,off,c,he,hbl,(hs.cells hk).2⟩
theorem kn (v:Value) (xs:List Int) (w:World) (h:Sl iC 1 w v xs) (hl:xs.length≤1000000):
  Calls Tryz.prog 275 #[v,.func (Fn.func 234) #[] #[]] w fun e w'=>e=.returned (.int .i64 (bB cP xs))∧w=w':=by
 obtain ⟨A,c,rfl⟩:=Sl.len' h;have H:=hid h;clear h;go_enter Tryz.func275,Tryz.ntmps275;go_wp2_with fail;go_loop [8] (fun i=>∃ k:Nat,k≤xs.length∧i=.int .i64 k∧∀ j (h:j<xs.length),j<k→cP xs[j]=false) (fun i=>xs.length - (intOf i).toNat)
 case atStart=>exact ⟨0,Nat.zero_le _,rfl,fun _ _ h=>absurd h (Nat.not_lt_zero _)⟩
 case round=>
  obtain ⟨k,hk,rfl,hno⟩:=hrel;have HN:=hid hno;clear hno;by_cases hlt:k<xs.length
  ·obtain ⟨b,off,c,he,hbl,hcells⟩:=H.out.at1 hlt;injection he with he1 he2 he3
   subst he1 he3;have e0:w.cell? ⟨b,off+k,none⟩=some (.int .i64 xs[k]):=by simpa using hcells 0 _ rfl
   have hk0:(0:Int)≤(k:Int):=by omega
   have hk1:(k:Int)<(xs.length:Int):=by omega
   have HI:=hid (show cP xs[k]=true→bB cP xs=k from fun h=>eR hlt h HN.out);have HU:=hid (show cP xs[k]=false→∀ j (h:j<xs.length),j<k+1→cP xs[j]=false from fun h=>sW HN.out hlt h);clear hcells;generalize xs[k]=x at *;go_wp2_with fail;refine (mW x w).mono ?_;rintro e w' ⟨rfl,rfl⟩;cases hx:cP x
   ·have HX:=hid (HU.out hx);go_wp2_with fail;go_round
    case rel=>exact ⟨k+1,by omega,by go_num,HX.out⟩
    case measure=>simp [intOf];omega
   ·have HX:=hid (HI.out hx);go_wp2_with fail;go_ret;exact ⟨sB HX.out.symm,rfl⟩
  ·have HX:=hid (dR (p:=cP) hlt HN.out);go_wp2_with fail;go_ret;exact ⟨sB HX.out.symm,rfl⟩
theorem eQ {α:Type} (p:α→Bool) (xs:List α):decide (0≤bB p xs)=xs.any p:=by
 unfold bB;by_cases h:xs.any p=true
 ·rw [h];have:xs.findIdx p<xs.length:=by rw [List.findIdx_lt_length];simpa using h
  rw [if_pos this];exact decide_eq_true (by omega)
 ·rw [Bool.eq_false_iff.2 h];have:¬ xs.findIdx p<xs.length:=by rw [List.findIdx_lt_length];simpa using h
  rw [if_neg this];rfl
theorem dT (v:Value) (xs:List Int) (w:World) (h:Sl iC 1 w v xs) (hl:xs.length≤1000000):
  Calls Tryz.prog 235 #[v,.func (Fn.func 234) #[] #[]] w fun e w'=>e=.returned (.bool (xs.any cP))∧w=w':=by
 go_enter Tryz.func235,Tryz.ntmps235;go_wp2_with fail;refine (kn v xs w h hl).mono ?_;rintro e w' ⟨rfl,rfl⟩;have HF:=hid (eQ cP xs);generalize bB cP xs=m at *;go_wp2_with fail;go_ret;exact ⟨pE HF.out,rfl⟩
structure Tk where
 next:Int
 list:List Int
def aT (t:Tk):Bool:=(!(t.next == 0) && cP t.next) || decide (50<t.list.length) || t.list.any cP
def cC (t:Tk):List UInt8:=4 :: (az 4 t.next.toNat ++ az 1 t.list.length ++ t.list.flatMap fun n=>az 4 n.toNat)
def lI (t:Tk):Value:=if aT t then .tuple #[.string (ak []),.int .i64 1] else .tuple #[.string (ak (aC (cC t))),.int .i64 0]
theorem eZ {t:Tk} (h:aT t=false):0≤t.next∧t.next<4096∧t.list.length≤50∧∀ x ∈ t.list,1≤x∧x<4096:=by
 unfold aT at h;rw [Bool.or_eq_false_iff,Bool.or_eq_false_iff] at h;obtain ⟨⟨h1,h2⟩,h3⟩:=h;rw [List.any_eq_false] at h3;refine ⟨?_,?_,by simpa using h2,fun x hx=>?_⟩
 ·by_cases h0:t.next=0
  ·omega
  ·simp [h0,cP] at h1;omega
 ·by_cases h0:t.next=0
  ·omega
  ·simp [h0,cP] at h1;omega
 ·have:=h3 x hx;simp [cP] at this;omega
theorem rj {t:Tk}:(cC t).length=6+4 * t.list.length:=by
 unfold cC
 have:∀ l:List Int,(l.flatMap fun n=>az 4 n.toNat).length=4 * l.length:=fun l=>by
  induction l with
  | nil=>rfl
  | cons x l ih=>rw [List.flatMap_cons,List.length_append,ih,aq,List.length_cons];omega
 rw [List.length_cons,List.length_append,List.length_append,aq,aq,this];omega
def lJ (t:Tk) (k:Nat):List UInt8:=4 :: (az 4 t.next.toNat ++ az 1 t.list.length ++ (t.list.take k).flatMap fun n=>az 4 n.toNat)
theorem ri {t:Tk} {k:Nat}:(lJ t k).length≤6+4 * t.list.length:=by have h:=rj (t:=⟨t.next,t.list.take k⟩);unfold cC at h;unfold lJ;simp only [List.length_cons,List.length_append,aq,List.length_take] at h ⊢;omega
theorem po {t:Tk} {k:Nat} (h:k<t.list.length):lJ t (k+1)=lJ t k ++ az 4 t.list[k].toNat:=by unfold lJ;rw [List.take_succ_eq_append_getElem h];simp only [List.flatMap_append,List.flatMap_cons,List.flatMap_nil,List.append_nil,List.cons_append,List.append_assoc]
theorem dO (r:Nat):Lib.repeatL [(0:UInt8)] r=List.replicate r 0:=by have:=Lib.repeatL_replicate 0 1 r;simpa using this
theorem cO (r:Nat) (w:World) (hr:r≤232):Calls Tryz.prog 82 #[.string ⟨#[0]⟩,.int .i64 r] w fun e w'=>e=.returned (.string (ak (List.replicate r 0)))∧Below w.heap.size w w':=by have h:=Tryz.strings_Repeat ⟨#[0]⟩ r w (by omega) (by show 1 * r≤_;omega);rw [show (⟨#[0]⟩:ByteArray).data.toList=[0] from rfl,dO] at h;exact h
theorem bA (n:Nat) (w:World) (hn:n<18446744073709551616):Calls Tryz.prog 165 #[.int .u64 n,.int .i64 4] w fun e w'=>e=.returned (.string (ak (az 4 n)))∧Below w.heap.size w w':=dD n 4 w hn (by omega) (by omega)
theorem mB (n:Nat) (w:World) (hn:n<18446744073709551616):Calls Tryz.prog 165 #[.int .u64 n,.int .i64 1] w fun e w'=>e=.returned (.string (ak (az 1 n)))∧Below w.heap.size w w':=dD n 1 w hn (by omega) (by omega)
theorem eX {n:Nat} (h:n<1000000):IntKind.u64.wrap (n:Int)=(n:Int):=IntWalk.u64_in _ (by omega)
theorem dL (t:Tk) (v:Value) (w:World) (h:Sl iC 1 w v t.list) (hl:t.list.length≤1000000):
  Calls Tryz.prog 198 #[.agg #[.int .i64 t.next,v]] w fun e w'=>e=.returned (lI t)∧Below w.heap.size w w':=by
 obtain ⟨A,c,rfl⟩:=Sl.len' h;have H:=hid h;clear h;obtain ⟨nx,ls⟩:=t;simp only at hl H;go_enter Tryz.func198,Tryz.ntmps198;go_upto_region 2 with fail
 have HB:=hid ((Below.refl _ w).alloc (Nat.le_refl _) (.cells #[.int .i64 nx,.slice A ls.length c] 164));have HX:=hid (ah (w0:=w) (o:=.cells #[.int .i64 nx,.slice A ls.length c] 164) rfl);generalize w.alloc (.cells #[.int .i64 nx,.slice A ls.length c] 164)=w1 at *;have c0:=aa HX.out 0;have c1:=aa HX.out 1;have hbx:=af HX.out;simp only [List.getElem?_toArray,List.getElem?_cons_succ,List.getElem?_cons_zero] at c0 c1;go_cut [28] from 8 to 28 (fun b wc=>b=.bool (aT ⟨nx,ls⟩)∧w1=wc)
 case first=>
  by_cases h0:nx=0
  ·subst h0;by_cases h50:50<ls.length
   ·have HR:=hid (show aT ⟨0,ls⟩=true by unfold aT;simp [h50]);have h5:(50:Int)<(ls.length:Int):=by omega
    go_wp2_with fail;go_meet
    case rel=>exact ⟨by rw [HR.out],rfl⟩
   ·have HR:=hid (show aT ⟨0,ls⟩=ls.any cP by unfold aT;simp [h50]);have h5:(ls.length:Int)≤50:=by omega
    go_wp2_with fail;refine (dT _ ls w1 (H.out.keep HB.out) hl).mono ?_;rintro e w' ⟨rfl,rfl⟩;go_wp2_with fail;go_meet
    case rel=>exact ⟨by rw [HR.out,show decide ((50:Int)<(ls.length:Int))=false from decide_eq_false (by omega)];rfl,rfl⟩
  ·have h1:(nx == 0)=false:=by simpa using h0
   have h2:nx≠0:=h0;clear h0;go_wp2_with fail;refine (mW nx w1).mono ?_;rintro e w' ⟨rfl,rfl⟩;cases ho:cP nx
   ·by_cases h50:50<ls.length
    ·have HR:=hid (show aT ⟨nx,ls⟩=true by unfold aT;simp [h50]);have h5:(50:Int)<(ls.length:Int):=by omega
     go_wp2_with fail;go_meet
     case rel=>exact ⟨by rw [HR.out],rfl⟩
    ·have HR:=hid (show aT ⟨nx,ls⟩=ls.any cP by unfold aT;simp [h50,ho]);have h5:(ls.length:Int)≤50:=by omega
     go_wp2_with fail;refine (dT _ ls w1 (H.out.keep HB.out) hl).mono ?_;rintro e w' ⟨rfl,rfl⟩;go_wp2_with fail;go_meet
     case rel=>exact ⟨by rw [HR.out,show decide ((50:Int)<(ls.length:Int))=false from decide_eq_false (by omega)];rfl,rfl⟩
   ·have HR:=hid (show aT ⟨nx,ls⟩=true by unfold aT;simp [ho,h1]);go_wp2_with fail;go_meet
    case rel=>exact ⟨by rw [HR.out],rfl⟩
 case rest=>
  obtain ⟨rfl,rfl⟩:=hcut;cases hbad:aT ⟨nx,ls⟩
  ·obtain ⟨k0,k1,k2,k3⟩:=eZ hbad;simp only at k0 k1 k2 k3;have HK:=hid k3;clear k3;obtain ⟨m,rfl⟩:∃ m:Nat,nx=m:=⟨nx.toNat,by omega⟩;clear k0;have HF1:=hid (fun (y:Up w1)=>bA m y.w (by omega));have HF2:=hid (fun (y:Up w1)=>mB ls.length y.w (by omega));go_upto_region 4 with fail
   refine ar (by kernel_rfl) (by kernel_rfl) ?_;have f0:=aE c0 hbx;have f1:=aE c1 hbx;have g0:=eX (n:=m) (by omega);have g1:=eX (n:=ls.length) (by omega);have s1:=ay (az 4 m);have s2:=ay (az 1 ls.length);rw [aq] at s1 s2
   repeat (go_big_quiet_step (first
    | (go_at_call 165;(with_reducible exact eY (HF1.out _)))
    | (go_at_call 165;(with_reducible exact eY (HF2.out _)))))
   refine wpQuiet_nil ?_;rintro w2 ⟨⟨_,hb2⟩,rfl⟩;have HB2:=hid (HB.out.trans (hb2.mono HB.out.size));have HS0:({ data:=#[4] }:ByteArray) ++ ak (az 4 m) ++ ak (az 1 ls.length)=ak (lJ ⟨m,ls⟩ 0):=by rw [fH,fH];show ak (([4] ++ az 4 m) ++ az 1 ls.length)=_;unfold lJ;simp
   rw [HS0];have HSL:=hid ((H.out.keep HB.out).keep hb2);have c1:=aa (aw HX.out hb2) 1;have hbx:=af (aw HX.out hb2);simp only [List.getElem?_toArray,List.getElem?_cons_succ,List.getElem?_cons_zero] at c1;clear hb2 HS0 s1 s2 f0 f1 g0 g1 HF1 HF2;go_wp2_with fail;go_loopw [5,43] (fun sv iv wr=>∃ k:Nat,k≤ls.length∧iv=.int .i64 k∧sv=.string (ak (lJ ⟨m,ls⟩ k))∧Below w2.heap.size w2 wr) (fun _ iv _=>ls.length - (intOf iv).toNat)
   case atStart=>exact ⟨0,Nat.zero_le _,rfl,rfl,Below.refl _ _⟩
   case round=>
    obtain ⟨k,hk,rfl,rfl,hb⟩:=hrel;have HBR:=hid hb;clear hb;have s1:=ay (lJ ⟨m,ls⟩ k);have s2:=ri (t:=⟨m,ls⟩) (k:=k);simp only at s2;by_cases hlt:k<ls.length
    ·obtain ⟨b,off,c',he,hbl,hcells⟩:=(HSL.out.keep HBR.out).at1 hlt;injection he with he1 he2 he3
     subst he1 he3;have e0:wr.cell? ⟨b,off+k,none⟩=some (.int .i64 ls[k]):=by simpa using hcells 0 _ rfl
     have hk0:(0:Int)≤(k:Int):=by omega
     have hk1:(k:Int)<(ls.length:Int):=by omega
     have HT:=hid (po (t:=⟨m,ls⟩) hlt);simp only at HT;obtain ⟨q0,q1⟩:=HK.out _ (List.getElem_mem hlt);clear hcells;generalize ls[k]=x at *;obtain ⟨n,rfl⟩:∃ n:Nat,x=n:=⟨x.toNat,by omega⟩;have g0:=eX (n:=n) (by omega);have s3:=ay (az 4 n);rw [aq] at s3;go_wp2_with fail;refine (bA n wr (by omega)).mono ?_;rintro e w3 ⟨rfl,hb3⟩;have HB3:=hid (HBR.out.trans (hb3.mono HBR.out.size));have HS2:=hid (show ak (lJ ⟨m,ls⟩ k) ++ ak (az 4 n)=ak (lJ ⟨m,ls⟩ (k+1)) by rw [fH,aP,aP,HT.out];rfl);clear hb3 e0;go_wp2_with fail;refine ⟨⟨k+1,by omega,by go_num,by rw [HS2.out],HB3.out⟩,?_⟩;simp [intOf];omega
    ·have hkl:k=ls.length:=by omega
     subst hkl;have HTE:=hid (show lJ ⟨m,ls⟩ ls.length=cC ⟨m,ls⟩ by unfold lJ cC;rw [List.take_length]);have HRR:=hid (show lI ⟨m,ls⟩=.tuple #[.string (ak (aC (cC ⟨m,ls⟩))),.int .i64 0] by unfold lI;rw [hbad];rfl);obtain ⟨r,hr⟩:∃ r:Nat,r=232 - (lJ ⟨m,ls⟩ ls.length).length:=⟨_,rfl⟩;have hr2:(232:Int) - ((lJ ⟨m,ls⟩ ls.length).length:Int)=(r:Int):=by omega
     have HR:=hid hr;have s4:=ay (List.replicate r 0);rw [List.length_replicate] at s4;have hr3:r≤232:=by omega
     clear hr;go_wp2_with fail;refine (cO r wr hr3).mono ?_;rintro e w3 ⟨rfl,hb3⟩;have HB3:=hid (HBR.out.trans (hb3.mono HBR.out.size));have HS2:=hid (show ak (lJ ⟨m,ls⟩ ls.length) ++ ak (List.replicate r 0)=ak (aC (cC ⟨m,ls⟩)) by
      rw [fH,aP,aP,HR.out,← HTE.out];unfold aC;rw [List.take_of_length_le (by omega)])
     clear hb3;go_wp2_with fail;go_ret2;rw [HRR.out,HS2.out];exact ⟨rfl,HB2.out.trans (HB3.out.mono HB2.out.size)⟩
  ·go_wp2_with fail;go_ret2;exact ⟨by unfold lI;rw [hbad];rfl,HB.out⟩
end Go.Proofs.YtdmhbgpejppbkaaGreat
