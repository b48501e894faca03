/- strings.Builder: which blocks a write turns. chain.walk. chain: Value, List, Free. No program errs with code 0. chain.Free. tree: write. -/
import Derived.Test.YtknioodagnjchaaGreatDoorBGf
import Derived.Test.YtknioodagnjchaaGreatDoorBGg
import Derived.Test.YtknioodagnjchaaGreatDoorBGd
set_option maxRecDepth 100000
set_option maxHeartbeats 2000000
namespace Go.Proofs.YtknioodagnjchaaGreatDoor
open Go.Lib renaming byteCells->Bt,cell_of_heap->Bw,hasPrefix->BF,trimB->BG,byteCells_length->BK,strCells->BL
open Go.Value renaming ownBlock->Bv,slice->BC
open List renaming length_drop->Bx,length_append->Bz,take_of_length_le->BB,dropWhile_cons->BD,length_take->BH,length_singleton->BJ,isPrefixOf->BM
open Go.Proofs.Tryz renaming prog->BA,strings_Trim_one->BI
open Go renaming World->BE,Calls->BN,maxLen->BO
open Go.Lib renaming hid->Z
open Go.RowKit
def BuR (B b:Nat) (l:List UInt8) (r:Option Nat) (w:BE):Prop:=
 B<=b/\∃ p v,(p=.pointer none\/p=.pointer (some ⟨b,0,none⟩))/\w.heap[b]?=some (.cells #[p,v] 206 (0,0))/\w.ownsRow B 5 1 v (Bt l).length (Bt l)/\v.ownBlock≠some b/\v.ownBlock=r
theorem BuR.new {w:BE} {b:Nat} (hb:w.heap[b]?=some (.cells #[.pointer none,.slice none 0 0] 206 (0,0))) {B:Nat} (hB:B<=b):BuR B b [] none w:=
 ⟨hB,_,_,.inl rfl,hb,World.ownsRow_nil _ _ _ _,by simp [Bv],rfl⟩
theorem vI {e:TypeId} {B n:Nat} {v:Value} {xs:List Value} {w w':BE} {S:Nat->Prop} (h:w.ownsRow B e 1 v n xs) (hc:Ch S w w') (hn:∀ k,v.ownBlock=some k->¬ S k):w'.ownsRow B e 1 v n xs:=by
 refine ⟨h.1,?_⟩;rcases h.2 with h2 | ⟨g,cap,cur,hv,hb,hg,rest⟩
 ·exact .inl h2
 ·exact .inr ⟨g,cap,cur,hv,hb,hc.keep hg (hn g (by rw [hv];rfl)),rest⟩
theorem BuR.ch {B b:Nat} {l:List UInt8} {r:Option Nat} {w w':BE} {S:Nat->Prop} (h:BuR B b l r w) (hc:Ch S w w') (h1:¬ S b) (h2:∀ k,r=some k->¬ S k):BuR B b l r w':=by obtain ⟨hB,p,v,hp,hb,ho,hn,hr⟩:=h;exact ⟨hB,p,v,hp,hc.keep hb h1,vI ho hc (fun k hk=>h2 k (by rw [<- hr];exact hk)),hn,hr⟩
theorem nW (B b:Nat) (l s:List UInt8) (r:Option Nat) (w:BE) (h:BuR B b l r w) (hlen:l.length<=1000000) (hs:s.length<=1000000) (hBw:B<=w.heap.size):
  BN BA 145 #[.pointer (some ⟨b,0,none⟩),.string (ap s)] w fun e w'=>e=.returned (.tuple #[.int .i64 s.length,.nilIface])/\(∃ r',BuR B b (l ++ s) r' w')/\Ch (fun k=>k=b\/r=some k) w w':=by
 have HE:=Z (show Bt (l ++ s)=Bt l ++ BL (ap s) by simp [Bt,BL,ap]);obtain ⟨i0,hi,hz0,hz1,hz2⟩:=info_parts tI;have HL:(Bt l).length<=1000000:=by rw [BK];exact hlen
 have hsz:(ap s).size=s.length:=au s;have HSZ:=Z hsz;have hsl:(ap s).size<=1000000:=by omega
 clear hsz
 have hcc:BN BA 182 #[.pointer (some ⟨b,0,none⟩)] w fun e w'=>e=.returned (.tuple #[])/\((B<=b/\∃ v,w'.heap[b]?=some (.cells #[.pointer (some ⟨b,0,none⟩),v] 206 (0,0))/\w'.ownsRow B 5 1 v (Bt l).length (Bt l)/\v.ownBlock≠some b/\v.ownBlock=r)/\Ch (fun k=>k=b\/r=some k) w w'):=by
  obtain ⟨hB,p,v,hp,hb,ho,hn,hr⟩:=h;rcases hp with rfl | rfl
  ·have hh:Lib.BuilderAt 206 5 B b (.pointer none) (Bt l) w:=⟨hB,v,hb,ho,hn⟩;refine (iI b w hh.cell0 hh.shape hh.frozen0).mono ?_;rintro e w' ⟨rfl,rfl⟩;have hc:=(Ch.refl (fun j=>j=b) w).setCell (p:=⟨b,0,none⟩) rfl (.pointer (some ⟨b,0,none⟩));exact ⟨rfl,⟨hB,v,ai hb 0 (.pointer (some ⟨b,0,none⟩)),vI ho hc (fun k hk e=>hn (by rw [hk,e])),hn,hr⟩,hc.mono (fun _ _ e=>.inl e)⟩
  ·have hh:Lib.BuilderAt 206 5 B b (.pointer (some ⟨b,0,none⟩)) (Bt l) w:=⟨hB,v,hb,ho,hn⟩;refine (jj b w hh.cell0).mono ?_;rintro e w' ⟨rfl,rfl⟩;exact ⟨rfl,⟨hB,v,hb,ho,hn,hr⟩,Ch.refl _ _⟩
 have HCC:=Z hcc;clear h hcc;go_enter Tryz.func145,Tryz.ntmps145;go_wp2_with fail;refine HCC.out.mono ?_;clear HCC;generalize Bt l=bs at *;generalize ap s=sv at *;rintro e w1 ⟨rfl,⟨hB,v,hbk,hown,hne,hvr⟩,hc1⟩;have HC1:=Z hc1;have hs1:=hc1.size;have HO:=Z hown;have HN:=Z hne;have HVR:=Z hvr;have HBK:=Z hbk;have c0:w1.cell? ⟨b,0,none⟩=some (.pointer (some ⟨b,0,none⟩)):=by rw [Bw hbk];rfl
 have c1:w1.cell? ⟨b,1,none⟩=some v:=by rw [Bw hbk];rfl
 have hlt:b<w1.heap.size:=aj hbk;clear hown hne hbk hc1 hvr;go_wp2_with (at_builtin;refine Lib.wpList_append_own_string _ rfl _ _ 46 9 rfl B 5 i0 Tryz.underlying46 Tryz.underlying9 hi hz0 hz1 hz2 _ _ _ rfl HO.out sv rfl ?c3 ?c4 ?c5 ?_)
 case c3=>unfold BO;omega
 case c4=>omega
 case c5=>omega
 intro v' w2 hown' hgrow hat;have hb2:w2.heap[b]?=some (.cells #[.pointer (some ⟨b,0,none⟩),v] 206 (0,0)):=by rw [hgrow.block b hlt (fun e=>HN.out e.symm)];exact HBK.out
 have d0:w2.cell? ⟨b,0,none⟩=some (.pointer (some ⟨b,0,none⟩)):=by rw [Bw hb2];rfl
 have d1:w2.cell? ⟨b,1,none⟩=some v:=by rw [Bw hb2];rfl
 have f1:w2.frozen? ⟨b,1,none⟩=false:=Lib.frozen_of_heap hb2 1;obtain ⟨ao,n',cap,rfl⟩:∃ ao n' cap,v'=.slice ao n' cap:=by
  rcases hown'.2 with ⟨hv,_⟩ | ⟨g,cap,cur,hv,_⟩
  ·exact ⟨_,_,_,hv⟩
  ·exact ⟨_,_,_,hv⟩
 have HP:=Z (Lib.BuilderAt.put (T:=206) (e:=5) hB hb2 (bs':=bs ++ BL sv) (by simpa [Lib.strCells_length] using hown') (by decide));have HW:=Z ((HC1.out.then (Ch.zL (S:=fun k=>k=b\/r=some k) hgrow (fun k hk=>.inr (by rw [<- HVR.out];exact hk))) (fun i e=>.inl e)).then ((Ch.refl (fun j=>j=b) w2).setCell (p:=⟨b,1,none⟩) rfl (.slice ao n' cap)) (fun i e=>.inl (.inl e)));clear hown' hgrow hb2;go_wp2_with fail;go_ret2;refine ⟨by rw [HSZ.out];rfl,?_,HW.out⟩;obtain ⟨hB9,v9,hb9,ho9,hn9⟩:=HP.out;exact ⟨_,hB9,_,v9,.inr rfl,hb9,by rw [HE.out];exact ho9,hn9,rfl⟩
theorem BuR.far {B B' b:Nat} {l:List UInt8} {r:Option Nat} {w:BE} {v:Value} {xs:List Int} (h:BuR B b l r w) (ho:Own iC 1 3 B' w v xs):∀ k,v.ownBlock=some k->k≠b/\r≠some k:=by
 obtain ⟨hB,p,u,hp,hb,hu,hn,hr⟩:=h;intro k hk;rcases ho.2 with ⟨hv,_⟩ | ⟨g,cap,cur,hv,_,hg,_⟩
 ·rw [hv] at hk;simp [Bv] at hk
 ·rw [hv] at hk;have hgk:g=k:=by simpa [Bv] using hk
  subst hgk;refine ⟨fun e=>?_,fun e=>?_⟩
  ·rw [e,hb] at hg;simp at hg
  ·rw [<- hr] at e;rcases hu.2 with ⟨hv2,_⟩ | ⟨g2,cap2,cur2,hv2,_,hg2,_⟩
   ·rw [hv2] at e;simp [Bv] at e
   ·rw [hv2] at e;have:g2=g:=by simpa [Bv] using e
    rw [this,hg] at hg2;simp at hg2
theorem uU {S:Nat->Prop} {a w:BE} (h:Ch S a w) {p:Addr} (hp:S p.block) (n:Nat):Ch S a (w.freeze p n):=by
 refine h.then (S':=fun k=>k=p.block) ?_ (fun i e=>.inl (by rw [e];exact hp));unfold World.freeze
 split
 ·exact Ch.refl _ w
 ·exact ⟨rfl,rfl,rfl,by simp,fun k hk hn=>by
   simp only [Array.getElem?_modify];rw [if_neg (fun e=>hn e.symm)]⟩
theorem vg (B b:Nat) (l:List UInt8) (r:Option Nat) (w:BE) (h:BuR B b l r w) (h0:l≠[]):
  BN BA 147 #[.pointer (some ⟨b,0,none⟩)] w fun e w'=>e=.returned (.string (ap l))/\Ch (fun k=>r=some k) w w':=by
 obtain ⟨hB,p,v,hp,hbk,hown,hne,hr⟩:=h;have hl0:l.length≠0:=by simpa using h0
 rw [BK] at hown;obtain ⟨g,cap,cur,rfl,hbg,hg,hnc,hcm,hcs,htake⟩:∃ g cap cur,v=.slice (some ⟨g,0,none⟩) l.length cap/\B<=g/\w.heap[g]?=some (.cells cur 5 (0,0))/\l.length<=cap/\cap<=BO/\cur.size=cap * 1/\cur.toList.take (l.length * 1)=Bt l:=by
  rcases hown.2 with ⟨_,hz⟩ | ⟨g,cap,cur,hv,r⟩
  ·exact absurd hz hl0
  ·exact ⟨g,cap,cur,hv,r⟩
 have hrg:r=some g:=by rw [<- hr];rfl
 have c1:w.drew.cell? ⟨b,1,none⟩=some (.slice (some ⟨g,0,none⟩) l.length cap):=by have:w.drew.heap[b]?=some (.cells #[p,.slice (some ⟨g,0,none⟩) l.length cap] 206 (0,0)):=hbk;rw [Bw this];rfl
 have hSD:(Builtin.unsafeSliceData_ #[46] 231 #[.slice (some ⟨g,0,none⟩) l.length cap]).run BA w.drew=.ok (.pointer (some ⟨g,0,none⟩)) w.drew:=
  Lib.run_unsafeSliceData_row _ _ _ _ _ _ (by omega)
 have hUS:(Builtin.unsafeString_ #[231,3] 9 #[.pointer (some ⟨g,0,none⟩),.int .i64 l.length]).run BA w.drew=.ok (.string (ap l)) (w.drew.freeze ⟨g,0,none⟩ l.length):=by refine Lib.run_unsafeString_row w.drew 231 3 9 5 Tryz.underlying231 (by kernel_rfl) g cur.size (by have hg':w.drew.heap[g]?=some (.cells cur 5 (0,0)):=hg;simp [World.shape?,hg']) l h0 (by omega) (by unfold BO at hcm;omega) ?_;intro j x hx;exact hown.cells (g:=g) rfl j (.int .u8 x.toNat) (by simp [Bt,hx])
 go_enter Tryz.func147,Tryz.ntmps147;go_wp2;go_region
 all_goals (go_wp2;go_ret;exact ⟨rfl,uU (Ch.drew (Ch.refl _ w)) (p:=⟨g,0,none⟩) hrg _⟩)
theorem jN (l:By):l.dropWhile (· == 0)=[]↔cV l=true:=by
 unfold cV
 induction l with
 | nil=>simp
 | cons a r ih=>
   by_cases h:a=0
   ·subst h;simpa [BD] using ih
   ·simp [h]
theorem ij (l:By):cV l.reverse=cV l:=by unfold cV;rw [List.all_reverse]
theorem rN {l:By}:BG l 0=[]↔cV l=true:=by
 unfold BG Lib.trimLeftB Lib.trimRightB;rw [jN,ij,<- ij l,<- jN l.reverse];constructor
 ·intro h;rw [jN,ij];generalize hm:l.reverse=m at h;rw [show l=m.reverse by rw [<- hm,List.reverse_reverse],ij];clear hm
  induction m with
  | nil=>rfl
  | cons a r ih=>
    by_cases ha:a=0
    ·subst ha;rw [BD,if_pos (by rfl)] at h;have:=ih h;unfold cV at this ⊢;simpa using this
    ·rw [BD,if_neg (by simpa using ha)] at h;exact h
 ·intro h;rw [h];rfl
theorem xK {l:By} (h:l.length=232):BF l [3]=decide (l.getD 0 0=3):=by
 cases l with
 | nil=>simp at h
 | cons a r=>
   by_cases e:a=3
   ·subst e;simp [BF,BM]
   ·simp [BF,BM,e];exact fun h=>e h.symm
theorem uI (c:Ce):aD ⟨true,[[]],[c],[]⟩=aI c:=by unfold aD;cases hg:aI c <;> simp [aH,hg]
theorem uV (c:Ce) (w:BE) (hl:c.data.length<=100000):BN BA 161 #[.agg #[.int .i64 c.size,.string (ap c.data),.int .i64 c.page]] w fun e w'=>e=.returned (.bool (aI c))/\Below w.heap.size w w':=by
 have HX:=Z (ag (w0:=w) (g:=w.heap.size) (o:=dj c) rfl);have HB:=Z ((Below.refl _ w).alloc (Nat.le_refl _) (dj c));have hsz:(w.alloc (dj c)).heap.size=w.heap.size+1:=by simp
 have HZ:=Z hsz;clear hsz;go_enter Tryz.func161,Tryz.ntmps161;go_upto_region 1 with fail
 generalize hw1:w.alloc (.cells #[.int .i64 c.size,.string (ap c.data),.int .i64 c.page] 119)=w1 at *;have hw2:w.alloc (dj c)=w1:=hw1;rw [hw2] at HX HB HZ;clear hw1 hw2;obtain ⟨b0,b1,b2,b3,b4,b5,b6⟩:=aN HX.out;go_wp2_with fail;have HK:=Z (show NdV ((w1.alloc (.cells #[.string ⟨#[]⟩] 9)).alloc (.cells #[.int .i64 c.size,.string (ap c.data),.int .i64 c.page] 119)) (.agg #[.bool true,.slice (some ⟨w1.heap.size,0,none⟩) 1 1,.slice (some ⟨w1.heap.size+1,0,none⟩) 1 1,.slice none 0 0]) ⟨true,[[]],[c],[]⟩ from
  ⟨_,_,_,rfl,(Sl.one [] rfl aG rfl).keep ((Below.refl _ _).alloc (Nat.le_refl _) _),Sl.one c (by simp) bx rfl,(Own.nil (e:=3) (base:=0)).sl ax⟩)
 have HB2:=Z ((HB.out.alloc (by rw [HZ.out];omega) (.cells #[.string ⟨#[]⟩] 9)).alloc (by simp;rw [HZ.out];omega) (.cells #[.int .i64 c.size,.string (ap c.data),.int .i64 c.page] 119));refine (kr _ _ _ HK.out ⟨by simp,by simp,by simp,by simp,by simpa using hl⟩).mono ?_;rw [uI];rintro e w2 ⟨rfl,hb⟩;have HB3:=Z (HB2.out.trans (hb.mono HB2.out.size));clear hb;go_wp2_with fail;go_ret;exact ⟨rfl,HB3.out⟩
theorem BuR.le {B b:Nat} {l:List UInt8} {r:Option Nat} {w:BE} (h:BuR B b l r w):∀ k,r=some k->B<=k:=by
 obtain ⟨hB,p,u,hp,hb,hu,hn,hr⟩:=h;intro k hk;rw [<- hr] at hk;rcases hu.2 with ⟨hv2,_⟩ | ⟨g2,cap2,cur2,hv2,hg,_⟩
 ·rw [hv2] at hk;simp [Bv] at hk
 ·rw [hv2] at hk;have:g2=k:=by simpa [Bv] using hk
  omega
theorem ki (p:Pro (By × List Int)) (s:Sf):(p.bind fun x=>.pure ([] ++ x.1,[] ++ x.2)).run s=p.run s:=by rw [run_bind];simp only [List.nil_append];generalize hx:p.run s=x;obtain ⟨s2,a⟩:=x;cases a <;> rfl
theorem lC (p:Pro (By × List Int)) (acc pt:By) (ps:List Int) (a:Int) (s:Sf):
  ((p.bind fun r=>.pure (pt ++ r.1,a :: r.2)).bind fun x=>.pure (acc ++ x.1,ps ++ x.2)).run s=(p.bind fun x=>.pure ((acc ++ pt) ++ x.1,(ps ++ [a]) ++ x.2)).run s:=by
 rw [run_bind,run_bind,run_bind];generalize p.run s=x;obtain ⟨s2,b⟩:=x;cases b with
 | ok v=>simp [Pro.run]
 | err e=>rfl
def yq (base:Nat) (w:BE) (e:Ending):Ans (By × List Int)->Prop
 | .ok (d,ps)=>∃ vl,e=.returned (.tuple #[.string (ap d),vl,.int .i64 0])/\Own iC 1 3 base w vl ps
 | .err x=>e=.returned (.tuple #[.string ⟨#[]⟩,.slice none 0 0,.int .i64 x])
theorem qa (c:Ce) (gs gm:Nat) (s:Sf) (w:BE) (h:ShIs w gs gm s) (hl:c.data.length<=100000):
  BN BA 112 #[co gs,kF c] w fun e w'=>yq w.heap.size w' e ((bB c).run s).2/\ShIs w' gs gm ((bB c).run s).1/\Ch (fun k=>k=gs\/k=gm) w w':=by
 have HA:=Z (h.ch (S:=fun _=>False) (Ch.alloc (Ch.refl _ w) (dj c)) id id);have HX:=Z (ag (w0:=w) (g:=w.heap.size) (o:=dj c) rfl);have HC:=Z (Ch.alloc (Ch.refl (fun k=>k=gs\/k=gm) w) (dj c));have hgs:=aj h.blk;have hgm:=h.book.lt;clear h;unfold co kF;go_enter Tryz.func112,Tryz.ntmps112;go_upto_region 1 with fail
 generalize hw1:w.alloc (.cells #[.int .i64 c.size,.string (ap c.data),.int .i64 c.page] 119)=w1 at *;have hw2:w.alloc (dj c)=w1:=hw1;rw [hw2] at HA HX HC;clear hw1 hw2;obtain ⟨b0,b1,b2,b3,b4,b5,b6⟩:=aN HX.out;go_wp2_with fail;refine (uV c w1 hl).mono ?_;rintro e w2 ⟨rfl,hb⟩;have HA2:=Z (HA.out.ch (S:=fun _=>False) (Ch.zK hb) id id);have HX2:=Z (af HX.out hb);have HC2:=Z (HC.out.trans (Ch.zK hb));clear hb b0 b1 b2 b3 b4 b5 b6;obtain ⟨b0,b1,b2,b3,b4,b5,b6⟩:=aN HX2.out;cases hg:aI c
 ·have HV:=Z (show (bB c).run s=(s,.err 1) by unfold bB;rw [if_pos hg];rfl);go_wp2_with fail;go_ret3;rw [HV.out];exact ⟨rfl,HA2.out,HC2.out⟩
 ·by_cases hp:c.page=0
  ·have HV:=Z (show (bB c).run s=(s,.ok (c.data,[])) by unfold bB;rw [if_neg (by rw [hg];simp),if_pos hp];rfl);rw [hp] at b2;go_wp2_with fail;go_ret3;rw [HV.out];exact ⟨⟨_,rfl,Own.nil⟩,HA2.out,HC2.out⟩
  ·have hpb:(c.page == 0)=false:=by simpa using hp
   have HV0:=Z (show bB c=ma 23 c.size.toNat c.page by unfold bB;rw [if_neg (by rw [hg];simp),if_neg hp]);have HXB:=Z (ag (w0:=w2) (g:=w2.heap.size) (o:=.cells #[.pointer none,.slice none 0 0] 206) rfl);have HA3:=Z (HA2.out.ch (S:=fun _=>False) (Ch.alloc (Ch.refl _ w2) (.cells #[.pointer none,.slice none 0 0] 206)) id id);have HX3:=Z (am HX2.out (.cells #[.pointer none,.slice none 0 0] 206));have HC3:=Z (Ch.alloc HC2.out (.cells #[.pointer none,.slice none 0 0] 206));have hs2:w.heap.size<=w2.heap.size:=HC2.out.size;go_upto_region 6 with fail
   generalize w2.alloc (.cells #[.pointer none,.slice none 0 0] 206)=w3 at *;generalize w2.heap.size=gb at *;have HBU:=Z (BuR.new HXB.out hs2);clear b0 b1 b2 b3 b4 b5 b6;obtain ⟨b0,b1,b2,b3,b4,b5,b6⟩:=aN HX3.out;have hcs:40<c.size/\c.size<=5000:=by
    unfold aI at hg
    split at hg
    ·cases hg
    ·split at hg
     ·simp only [Bool.and_eq_true,decide_eq_true_eq] at hg;exact absurd hg.2 hp
     ·omega
   go_wp2_with fail
   go_loopw [8,9,10] (fun lv av iv wr=>∃ (f:Nat) (li at_:Int) (acc:By) (ps:List Int) (s1:Sf) (r:Option Nat),iv=.int .i64 li/\ -227<=li/\li<=5000/\av=.int .i64 at_/\f<=23/\li<=(f:Int) * 227/\acc.length+f * 227<=5221/\ps.length+f<=23/\(acc=[]->0<li)/\
    (bB c).run s=((ma f li.toNat at_).bind fun x=>.pure (acc ++ x.1,ps ++ x.2)).run s1/\BuR w.heap.size gb acc r wr/\Own iC 1 3 w.heap.size wr lv ps/\ShIs wr gs gm s1/\Ch (fun k=>k=gs\/k=gm) w wr) (fun _ _ iv _=>(intOf iv).toNat)
   case atStart=>exact ⟨23,c.size,c.page,[],[],s,none,rfl,by omega,by omega,rfl,by omega,by omega,by simp,by simp,fun _=>by omega,by rw [HV0.out];exact (ki _ _).symm,HBU.out,Own.nil,HA3.out,HC3.out⟩
   case round=>
    obtain ⟨f,li,at_,acc,ps,s1,r,rfl,hl0,hl1,rfl,hf,hlf,hac,hps,hna,hrun,hbu,ho,hs,hch⟩:=hrel;have HRUN:=Z hrun;have HBR:=Z hbu;have HO:=Z ho;have HS:=Z hs;have HCH:=Z hch;have HG:=Z (hch.size);obtain ⟨A8,c8,rfl⟩:=Sl.zM (ho.sl ax);clear hrun hbu ho hs hch HBU;by_cases hz:0<li
    ·cases f with
     | zero=>omega
     | succ f=>
       have hl232:=HS.out.ok.l at_
       have HR1:=Z (show ma (f+1) li.toNat at_=.get at_ fun l=>match gx l li.toNat with
         | none=>.fail 30
         | some (next,part)=>(ma f (li.toNat - 227) next).bind fun r=>.pure (part ++ r.1,at_ :: r.2) by
        show (if li.toNat=0 then _ else _)=_;rw [if_neg (by omega)];rfl)
       go_wp2_with fail;refine (mD at_ gs gm s1 wr HS.out).mono ?_;rintro e w5 ⟨rfl,hs5,hc5⟩;have HS5:=Z hs5;have HCH5:=Z (HCH.out.trans (hc5.mono (fun _ _ e=>.inl e)));have HBR5:=Z (HBR.out.ch hc5 (by have:=HBR.out.1;omega) (fun k hk e=>by have:=HBR.out.le k hk;omega));have HO5:=Z (HO.out.ch hc5 (fun k hk e=>by have:=(HO.out.lt k hk).1;omega));clear hs5 hc5;by_cases hbe:bt s1 at_=0
       ·have HGV:=Z (show gQ s1 at_=s1.B at_ by unfold gQ;rw [if_pos hbe]);rw [HGV.out,hbe];obtain ⟨l,hbl⟩:∃ l,s1.B at_=l:=⟨_,rfl⟩;rw [hbl] at hl232 ⊢;have HBL:=Z hbl;clear hbl;have s9:=au l;rw [hl232] at s9;have HE15:=Z (show (ap l).extract 1 5=ap ((l.drop 1).take 4) by rw [dM,bA]);have HE5:=Z (show (ap l).extract 5 232=ap (l.drop 5) by rw [dM,bA,BB (by rw [Bx];omega)]);have hL4:((l.drop 1).take 4).length=4:=by rw [BH,Bx];omega
        go_wp2_with fail;rw [HE15.out];refine (gG (ap ((l.drop 1).take 4)) w5 (by rw [au,hL4];decide) (by rw [au,hL4];decide)).mono ?_;rw [bA];rintro e w6 ⟨rfl,hb⟩;have HS6:=Z (HS5.out.ch (S:=fun _=>False) (Ch.zK hb) id id);have HBR6:=Z (HBR5.out.ch (S:=fun _=>False) (Ch.zK hb) id (fun _ _=>id));have HO6:=Z (HO5.out.below hb);have HCH6:=Z (HCH5.out.trans (Ch.zK hb));have hun:cw ((l.drop 1).take 4)<4294967296:=by have:=il ((l.drop 1).take 4);rw [hL4] at this;exact this
        clear hb hL4;have HLK:=Z (show gx l li.toNat=if l.getD 0 0=3/\((cw ((l.drop 1).take 4)=0)↔li.toNat<=227)/\cV ((l.drop 5).drop li.toNat)=true then some ((cw ((l.drop 1).take 4):Int),(l.drop 5).take li.toNat) else none from rfl);generalize cw ((l.drop 1).take 4)=nx at *;have s8:=au (l.drop 5);have hd5:(l.drop 5).length=227:=by rw [Bx];omega
        rw [hd5] at s8;have HP9:=Z (show (ap (l.drop 5)).extract 0 li.toNat=ap ((l.drop 5).take li.toNat) by rw [dM,bA,List.drop_zero,Nat.sub_zero]);have HQ9:=Z (show (ap (l.drop 5)).extract li.toNat 227=ap ((l.drop 5).drop li.toNat) by rw [dM,bA,BB (by rw [Bx,hd5];omega)]);have HD5:=Z hd5;clear hd5;go_upto_if 53 with fail
        rw [HE5.out];go_cut [15,16] from 54 to 59 (fun p q wc=>p=.string (ap ((l.drop 5).take li.toNat))/\q=.string (ap ((l.drop 5).drop li.toNat))/\(wc=w6\/wc=w6.drew))
        case first=>
         by_cases h227:li<227
         ·go_upto_region 17 with fail
          go_region
          all_goals
           go_wp2_with fail;go_meet
           case rel=>exact ⟨by rw [<- HP9.out];try rfl,by rw [<- HQ9.out];try rfl,.inr rfl⟩
         ·have HPP:=Z (show (l.drop 5).take li.toNat=l.drop 5/\(l.drop 5).drop li.toNat=[] from ⟨BB (by rw [HD5.out];omega),List.drop_eq_nil_of_le (by rw [HD5.out];omega)⟩);go_wp2_with fail;go_meet
          case rel=>rw [HPP.out.1,HPP.out.2];exact ⟨rfl,rfl,.inl rfl⟩
        case rest=>
         obtain ⟨rfl,rfl,hwc⟩:=hcut;have hbc:Below w6.heap.size w6 wc:=by
          rcases hwc with rfl | rfl
          ·exact Below.refl _ _
          ·exact (Below.refl _ _).drew
         have HS7:=Z (HS6.out.ch (S:=fun _=>False) (Ch.zK hbc) id id);have HBR7:=Z (HBR6.out.ch (S:=fun _=>False) (Ch.zK hbc) id (fun _ _=>id));have HO7:=Z (HO6.out.below hbc);have HCH7:=Z (HCH6.out.trans (Ch.zK hbc));clear hbc hwc;have HPF:=Z (show BF (ap l).data.toList ({ data:=#[3] }:ByteArray).data.toList=decide (l.getD 0 0=3) from xK hl232);have s7:=au ((l.drop 5).drop li.toNat);have hr7:((l.drop 5).drop li.toNat).length<=227:=by rw [Bx,HD5.out];omega
         have HTR:=Z (rN (l:=(l.drop 5).drop li.toNat));have HPL:=Z (show ((l.drop 5).take li.toNat).length<=227/\((l.drop 5).take li.toNat≠[]) by
          refine ⟨by rw [BH,HD5.out];omega,fun e=>?_⟩;have:=congrArg List.length e;rw [BH,HD5.out] at this;simp at this;omega)
         have HRB:=Z (show gx l li.toNat=none->(bB c).run s=(bF s1,.err 30) from fun hn=>by
          rw [HRUN.out];refine aq ?_;rw [HR1.out];show (if bt s1 at_=0 then _ else _)=_;rw [if_pos hbe,HBL.out];simp only [hn];rfl)
         have HRG:=Z (show gx l li.toNat=some ((nx:Int),(l.drop 5).take li.toNat)->(bB c).run s=((ma f (li.toNat - 227) nx).bind fun x=>.pure ((acc ++ (l.drop 5).take li.toNat) ++ x.1,(ps ++ [at_]) ++ x.2)).run (bF s1) from fun hn=>by
          rw [HRUN.out,HR1.out];show (if bt s1 at_=0 then _ else _)=_;rw [if_pos hbe,HBL.out];simp only [hn];exact lC _ _ _ _ _ _)
         generalize (l.drop 5).take li.toNat=pt at *;generalize (l.drop 5).drop li.toNat=rs at *;go_wp2_with fail;refine (Tryz.strings_HasPrefix (ap l) ⟨#[3]⟩ _).mono ?_;rw [HPF.out];rintro e w7 ⟨rfl,rfl⟩;by_cases h3:l.getD 0 0=3
         ·rw [decide_eq_true h3];have HTR2:=Z (show BG (ap rs).data.toList 0=BG rs 0 from rfl);by_cases hn0:nx=0 <;> by_cases hle:li<=227
          ·have HX3':=Z (show (nx=0↔li.toNat<=227) from ⟨fun _=>by omega,fun _=>hn0⟩);subst hn0;go_wp2_with fail;refine (BI (ap rs) 0 (by decide) w7 (by rw [s7];omega)).mono ?_;rw [HTR2.out];have HTQ:=Z (HTR.out);clear HTR HTR2;generalize BG rs 0=tr at *;rintro e w8 ⟨rfl,hw⟩;have hbc:Below w7.heap.size w7 w8:=by
            rcases hw with rfl | rfl
            ·exact Below.refl _ _
            ·exact (Below.refl _ _).drew
           have HS8:=Z (HS7.out.ch (S:=fun _=>False) (Ch.zK hbc) id id);have HBR8:=Z (HBR7.out.ch (S:=fun _=>False) (Ch.zK hbc) id (fun _ _=>id));have HO8:=Z (HO7.out.below hbc);have HCH8:=Z (HCH7.out.trans (Ch.zK hbc));clear hbc hw;cases tr with
           | nil=>
             have HRX:=Z (HRG.out (by rw [HLK.out,if_pos ⟨h3,HX3'.out,HTQ.out.1 rfl⟩]));go_wp2_with fail;refine (nW w.heap.size gb acc pt r w8 HBR8.out (by omega) (by have:=HPL.out.1;omega) HCH8.out.size).mono ?_;rintro e w9 ⟨rfl,⟨r9,hb9⟩,hc9⟩;have HBR9:=Z hb9;have HS9:=Z (HS8.out.ch hc9 (fun e=>by rcases e with e | e;(have:=HBR8.out.1;omega);(have:=HBR8.out.le _ e;omega)) (fun e=>by rcases e with e | e;(have:=HBR8.out.1;omega);(have:=HBR8.out.le _ e;omega)));have HO9:=Z (HO8.out.ch hc9 (fun k hk e=>by have:=HBR8.out.far HO8.out k hk;rcases e with e | e;exact this.1 e;exact this.2 e));have HCH9:=Z (HCH8.out.then hc9 (fun i e=>.inr (by rcases e with e | e;(have:=HBR8.out.1;omega);exact HBR8.out.le _ e)));clear hb9 hc9;go_wp2_with (at_builtin;refine Hid.out ?_);refine Z ?_;refine al rfl rfl bI rfl rfl (HO9.out.alloc _) (Sl.one at_ (by simp) ax rfl) (by simp [BO];omega) (by simp;omega) (by have:=HCH9.out.size;simp;omega) ?_;intro v' w10 ho hg hat;have hfar:=HBR9.out.far HO9.out;have hc10:=Ch.zL (S:=fun k=>(BC A8 ps.length c8).ownBlock=some k) hg (fun k hk=>hk);have hlow:∀ k,(BC A8 ps.length c8).ownBlock=some k->w.heap.size<=k:=fun k hk=>(HO9.out.lt k hk).1
             have HO10:=Z ho;have HCA:=Z ((Ch.refl (fun k=>(BC A8 ps.length c8).ownBlock=some k) w9).alloc (.cells #[.int .i64 at_] 3) |>.trans (hc10.mono (fun _ _ e=>e)));have HS10:=Z (HS9.out.ch HCA.out (fun e=>by have:=hlow _ e;omega) (fun e=>by have:=hlow _ e;omega));have HBR10:=Z (HBR9.out.ch HCA.out (fun e=>(hfar _ e).1 rfl) (fun k hk e=>(hfar _ e).2 hk));have HCH10:=Z (HCH9.out.then HCA.out (fun i e=>.inr (hlow _ e)));clear ho hg hat hfar hc10 hlow;go_wp2_with fail;go_roundw
             case rel=> exact ⟨f,li - 227,0,acc ++ pt,ps ++ [at_],bF s1,r9,by go_num,by omega,by omega,by go_num,by omega,by omega,by rw [Bz];have:=HPL.out.1;omega,by rw [Bz,BJ];omega,fun e=>absurd (List.append_eq_nil_iff.1 e).2 HPL.out.2,by rw [show (li - 227).toNat=li.toNat - 227 by omega];exact HRX.out,HBR10.out,HO10.out,HS10.out,HCH10.out⟩
             case measure=>simp [intOf];omega
           | cons a tr=> have HV:=Z (HRB.out (by rw [HLK.out,if_neg (fun h=>by have:=HTQ.out.2 h.2.2;cases this)]));go_wp2_with fail;go_ret3;rw [HV.out];exact ⟨rfl,HS8.out,HCH8.out⟩
          ·have HV:=Z (HRB.out (by rw [HLK.out,if_neg (fun h=>by have:=h.2.1.1 hn0;omega)]));subst hn0;have hlt:227<li:=by omega
           go_wp2_with fail;go_ret3;rw [HV.out];exact ⟨rfl,HS7.out,HCH7.out⟩
          ·have HV:=Z (HRB.out (by rw [HLK.out,if_neg (fun h=>hn0 (h.2.1.2 (by omega)))]));have hn1:((nx:Int) == 0)=false:=by simpa using hn0
           go_wp2_with fail;go_ret3;rw [HV.out];exact ⟨rfl,HS7.out,HCH7.out⟩
          ·have HX3':=Z (show (nx=0↔li.toNat<=227) from ⟨fun h=>absurd h hn0,fun h=>by omega⟩);have hn1:((nx:Int) == 0)=false:=by simpa using hn0
           have hlt:227<li:=by omega
           go_wp2_with fail;refine (BI (ap rs) 0 (by decide) w7 (by rw [s7];omega)).mono ?_;rw [HTR2.out];have HTQ:=Z (HTR.out);clear HTR HTR2;generalize BG rs 0=tr at *;rintro e w8 ⟨rfl,hw⟩;have hbc:Below w7.heap.size w7 w8:=by
            rcases hw with rfl | rfl
            ·exact Below.refl _ _
            ·exact (Below.refl _ _).drew
           have HS8:=Z (HS7.out.ch (S:=fun _=>False) (Ch.zK hbc) id id);have HBR8:=Z (HBR7.out.ch (S:=fun _=>False) (Ch.zK hbc) id (fun _ _=>id));have HO8:=Z (HO7.out.below hbc);have HCH8:=Z (HCH7.out.trans (Ch.zK hbc));clear hbc hw;cases tr with
           | nil=>
             have HRX:=Z (HRG.out (by rw [HLK.out,if_pos ⟨h3,HX3'.out,HTQ.out.1 rfl⟩]));go_wp2_with fail;refine (nW w.heap.size gb acc pt r w8 HBR8.out (by omega) (by have:=HPL.out.1;omega) HCH8.out.size).mono ?_;rintro e w9 ⟨rfl,⟨r9,hb9⟩,hc9⟩;have HBR9:=Z hb9;have HS9:=Z (HS8.out.ch hc9 (fun e=>by rcases e with e | e;(have:=HBR8.out.1;omega);(have:=HBR8.out.le _ e;omega)) (fun e=>by rcases e with e | e;(have:=HBR8.out.1;omega);(have:=HBR8.out.le _ e;omega)));have HO9:=Z (HO8.out.ch hc9 (fun k hk e=>by have:=HBR8.out.far HO8.out k hk;rcases e with e | e;exact this.1 e;exact this.2 e));have HCH9:=Z (HCH8.out.then hc9 (fun i e=>.inr (by rcases e with e | e;(have:=HBR8.out.1;omega);exact HBR8.out.le _ e)));clear hb9 hc9;go_wp2_with (at_builtin;refine Hid.out ?_);refine Z ?_;refine al rfl rfl bI rfl rfl (HO9.out.alloc _) (Sl.one at_ (by simp) ax rfl) (by simp [BO];omega) (by simp;omega) (by have:=HCH9.out.size;simp;omega) ?_;intro v' w10 ho hg hat;have hfar:=HBR9.out.far HO9.out;have hc10:=Ch.zL (S:=fun k=>(BC A8 ps.length c8).ownBlock=some k) hg (fun k hk=>hk);have hlow:∀ k,(BC A8 ps.length c8).ownBlock=some k->w.heap.size<=k:=fun k hk=>(HO9.out.lt k hk).1
             have HO10:=Z ho;have HCA:=Z ((Ch.refl (fun k=>(BC A8 ps.length c8).ownBlock=some k) w9).alloc (.cells #[.int .i64 at_] 3) |>.trans (hc10.mono (fun _ _ e=>e)));have HS10:=Z (HS9.out.ch HCA.out (fun e=>by have:=hlow _ e;omega) (fun e=>by have:=hlow _ e;omega));have HBR10:=Z (HBR9.out.ch HCA.out (fun e=>(hfar _ e).1 rfl) (fun k hk e=>(hfar _ e).2 hk));have HCH10:=Z (HCH9.out.then HCA.out (fun i e=>.inr (hlow _ e)));clear ho hg hat hfar hc10 hlow;go_wp2_with fail;go_roundw
             case rel=> exact ⟨f,li - 227,nx,acc ++ pt,ps ++ [at_],bF s1,r9,by go_num,by omega,by omega,by go_num,by omega,by omega,by rw [Bz];have:=HPL.out.1;omega,by rw [Bz,BJ];omega,fun e=>absurd (List.append_eq_nil_iff.1 e).2 HPL.out.2,by rw [show (li - 227).toNat=li.toNat - 227 by omega];exact HRX.out,HBR10.out,HO10.out,HS10.out,HCH10.out⟩
             case measure=>simp [intOf];omega
           | cons a tr=> have HV:=Z (HRB.out (by rw [HLK.out,if_neg (fun h=>by have:=HTQ.out.2 h.2.2;cases this)]));go_wp2_with fail;go_ret3;rw [HV.out];exact ⟨rfl,HS8.out,HCH8.out⟩
         ·have HV:=Z (HRB.out (by rw [HLK.out,if_neg (fun h=>h3 h.1)]));rw [decide_eq_false h3];go_wp2_with fail;go_ret3;rw [HV.out];exact ⟨rfl,HS7.out,HCH7.out⟩
       ·have HV:=Z (show (bB c).run s=(bF s1,.err (bt s1 at_)) by
         rw [HRUN.out];refine aq ?_;rw [HR1.out];show (if bt s1 at_=0 then _ else _)=_;rw [if_neg hbe])
        generalize bt s1 at_=be at *;generalize bF s1=s2 at *;have hbe2:(be == 0)=false:=by simpa using hbe
        go_wp2_with fail;go_ret3;rw [HV.out];exact ⟨rfl,HS5.out,HCH5.out⟩
    ·have HV:=Z (show (bB c).run s=(s1,.ok (acc,ps)) by
      rw [HRUN.out];have h0:ma f li.toNat at_=.pure ([],[]):=by
       cases f with
       | zero=>rfl
       | succ f=>show (if li.toNat=0 then _ else _)=_;rw [if_pos (by omega)]
      rw [h0];simp [Pro.bind,Pro.run])
     have hne:acc≠[]:=fun e=>hz (hna e)
     go_wp2_with fail;refine (vg w.heap.size gb acc r wr HBR.out hne).mono ?_;rintro e w5 ⟨rfl,hc⟩;have HS5:=Z (HS.out.ch hc (fun e=>by have:=HBR.out.le _ e;omega) (fun e=>by have:=HBR.out.le _ e;omega));have HO5:=Z (HO.out.ch hc (fun k hk=>(HBR.out.far HO.out k hk).2));have HCH5:=Z (HCH.out.then hc (fun i e=>.inr (HBR.out.le _ e)));clear hc;go_wp2_with fail;go_ret3;rw [HV.out];exact ⟨⟨_,rfl,HO5.out⟩,HS5.out,HCH5.out⟩
def zB (e:Ending):Ans (By × List Int)->Prop
 | .ok (d,_)=>e=.returned (.tuple #[.string (ap d),.int .i64 0])
 | .err x=>e=.returned (.tuple #[.string ⟨#[]⟩,.int .i64 x])
def zH (base:Nat) (w:BE) (e:Ending):Ans (By × List Int)->Prop
 | .ok (_,ps)=>∃ vl,e=.returned (.tuple #[vl,.int .i64 0])/\Own iC 1 3 base w vl ps
 | .err x=>e=.returned (.tuple #[.slice none 0 0,.int .i64 x])
theorem sH (c:Ce) (gs gm:Nat) (s:Sf) (w:BE) (h:ShIs w gs gm s) (hl:c.data.length<=100000):
  BN BA 61 #[co gs,kF c] w fun e w'=>zB e ((bB c).run s).2/\ShIs w' gs gm ((bB c).run s).1/\Ch (fun k=>k=gs\/k=gm) w w':=by
 have HA:=Z (h.ch (S:=fun _=>False) (Ch.alloc (Ch.refl _ w) (dj c)) id id);have HX:=Z (ag (w0:=w) (g:=w.heap.size) (o:=dj c) rfl);have HC:=Z (Ch.alloc (Ch.refl (fun k=>k=gs\/k=gm) w) (dj c));have hs1:w.heap.size<=(w.alloc (dj c)).heap.size:=by simp
 clear h;unfold co kF;go_enter Tryz.func61,Tryz.ntmps61;go_upto_region 1 with fail
 generalize hw1:w.alloc (.cells #[.int .i64 c.size,.string (ap c.data),.int .i64 c.page] 119)=w1 at *;have hw2:w.alloc (dj c)=w1:=hw1;rw [hw2] at HA HX HC hs1;clear hw1 hw2;obtain ⟨b0,b1,b2,b3,b4,b5,b6⟩:=aN HX.out;go_wp2_with fail;refine (qa c gs gm s w1 HA.out hl).mono ?_;rintro e w2 ⟨hp,hs,hc⟩;have HS:=Z hs;have HC2:=Z (HC.out.trans hc);clear hs hc b0 b1 b2 b3 b4 b5 b6;obtain ⟨⟨s2,a⟩,hx⟩:∃ x,(bB c).run s=x:=⟨_,rfl⟩;rw [hx] at HS hp;have HV:=Z hx;clear hx;cases a with
 | ok v=> obtain ⟨d,ps⟩:=v;obtain ⟨vl,rfl,ho⟩:=hp;have HO:=Z (Own.base ho hs1);clear ho;go_wp2_with fail;go_ret2;rw [HV.out];exact ⟨by first | exact rfl | exact ⟨_,rfl,HO.out⟩,HS.out,HC2.out⟩
 | err x=> obtain rfl:=hp;go_wp2_with fail;go_ret2;rw [HV.out];exact ⟨rfl,HS.out,HC2.out⟩
theorem oT (c:Ce) (gs gm:Nat) (s:Sf) (w:BE) (h:ShIs w gs gm s) (hl:c.data.length<=100000):
  BN BA 123 #[co gs,kF c] w fun e w'=>zH w.heap.size w' e ((bB c).run s).2/\ShIs w' gs gm ((bB c).run s).1/\Ch (fun k=>k=gs\/k=gm) w w':=by
 have HA:=Z (h.ch (S:=fun _=>False) (Ch.alloc (Ch.refl _ w) (dj c)) id id);have HX:=Z (ag (w0:=w) (g:=w.heap.size) (o:=dj c) rfl);have HC:=Z (Ch.alloc (Ch.refl (fun k=>k=gs\/k=gm) w) (dj c));have hs1:w.heap.size<=(w.alloc (dj c)).heap.size:=by simp
 clear h;unfold co kF;go_enter Tryz.func123,Tryz.ntmps123;go_upto_region 1 with fail
 generalize hw1:w.alloc (.cells #[.int .i64 c.size,.string (ap c.data),.int .i64 c.page] 119)=w1 at *;have hw2:w.alloc (dj c)=w1:=hw1;rw [hw2] at HA HX HC hs1;clear hw1 hw2;obtain ⟨b0,b1,b2,b3,b4,b5,b6⟩:=aN HX.out;go_wp2_with fail;refine (qa c gs gm s w1 HA.out hl).mono ?_;rintro e w2 ⟨hp,hs,hc⟩;have HS:=Z hs;have HC2:=Z (HC.out.trans hc);clear hs hc b0 b1 b2 b3 b4 b5 b6;obtain ⟨⟨s2,a⟩,hx⟩:∃ x,(bB c).run s=x:=⟨_,rfl⟩;rw [hx] at HS hp;have HV:=Z hx;clear hx;cases a with
 | ok v=> obtain ⟨d,ps⟩:=v;obtain ⟨vl,rfl,ho⟩:=hp;have HO:=Z (Own.base ho hs1);clear ho;go_wp2_with fail;go_ret2;rw [HV.out];exact ⟨by first | exact rfl | exact ⟨_,rfl,HO.out⟩,HS.out,HC2.out⟩
 | err x=> obtain rfl:=hp;go_wp2_with fail;go_ret2;rw [HV.out];exact ⟨rfl,HS.out,HC2.out⟩
end Go.Proofs.YtknioodagnjchaaGreatDoor
namespace Go.Proofs.YtknioodagnjchaaGreatDoor
def Pro.NZ {α:Type}:Pro α->Prop
 | .pure _=>True
 | .fail e=>e≠0
 | .get _ k=>∀ l,(k l).NZ
 | .put _ _ k=>(k ()).NZ
 | .new k=>∀ n,(k n).NZ
 | .free _ k=>(k ()).NZ
theorem Pro.NZ.run {α:Type}:∀ (p:Pro α) (s:Sf) (x:Int),p.NZ->(p.run s).2=.err x->x≠0
 | .pure a,s,x,_,h=>by cases h
 | .fail e,s,x,hp,h=>by cases h;exact hp
 | .get n k,s,x,hp,h=>by
   simp only [Pro.run] at h
   split at h
   ·exact Pro.NZ.run _ _ x (hp _) h
   ·rename_i h0;cases h;exact h0
 | .put n d k,s,x,hp,h=>by
   simp only [Pro.run] at h
   split at h
   ·exact Pro.NZ.run (k ()) _ x hp h
   ·rename_i h0;cases h;exact h0
 | .new k,s,x,hp,h=>by
   simp only [Pro.run] at h
   split at h
   ·exact Pro.NZ.run _ _ x (hp _) h
   ·rename_i h0;cases h;exact h0
 | .free n k,s,x,hp,h=>by
   simp only [Pro.run] at h
   split at h
   ·exact Pro.NZ.run (k ()) _ x hp h
   ·rename_i h0;cases h;exact h0
theorem Pro.NZ.bind {α β:Type}:∀ (p:Pro α) (f:α->Pro β),p.NZ->(∀ a,(f a).NZ)->(p.bind f).NZ
 | .pure a,_,_,hf=>hf a
 | .fail _,_,hp,_=>hp
 | .get _ k,f,hp,hf=>fun l=>Pro.NZ.bind (k l) f (hp l) hf
 | .put _ _ k,f,hp,hf=>Pro.NZ.bind (k ()) f hp hf
 | .new k,f,hp,hf=>fun n=>Pro.NZ.bind (k n) f (hp n) hf
 | .free _ k,f,hp,hf=>Pro.NZ.bind (k ()) f hp hf
theorem wG:∀ (f left:Nat) (a:Int),(ma f left a).NZ
 | 0,_,_=>trivial
 | f+1,left,a=>by
   unfold ma
   split
   ·trivial
   ·intro l
    show (match gx l left with
     | none=>Pro.fail 30
     | some (next,part)=>(ma f (left - 227) next).bind fun r=>Pro.pure (part ++ r.1,a :: r.2)).NZ
    split
    ·exact show (30:Int)≠0 by decide
    ·exact Pro.NZ.bind (ma f _ _) _ (wG f _ _) (fun _=>trivial)
theorem jX (c:Ce):(bB c).NZ:=by
 unfold bB
 split
 ·exact show (1:Int)≠0 by decide
 ·split
  ·trivial
  ·exact wG _ _ _
theorem oM:∀ l:List Int,(eT l).NZ
 | []=>trivial
 | _ :: l=>oM l
theorem jy (c:Ce):(cM c).NZ:=Pro.NZ.bind _ _ (jX c) (fun r=>oM r.2)
theorem fF (a:Int):(bl a).NZ:=by
 intro l
 show (match dO l with
  | none=>Pro.fail 30
  | some n=>Pro.pure n).NZ
 split
 ·exact show (30:Int)≠0 by decide
 ·trivial
end Go.Proofs.YtknioodagnjchaaGreatDoor
namespace Go.Proofs.YtknioodagnjchaaGreatDoor
open Go.Lib renaming hid->Z
open Go.RowKit
def dW:Ans Unit->Value
 | .ok _=>.int .i64 0
 | .err x=>.int .i64 x
theorem oU (c:Ce) (gs gm:Nat) (s:Sf) (w:World) (h:ShIs w gs gm s) (hl:c.data.length<=100000):
  Calls Tryz.prog 69 #[co gs,kF c] w fun e w'=>e=.returned (dW ((cM c).run s).2)/\ShIs w' gs gm ((cM c).run s).1/\Ch (fun k=>k=gs\/k=gm) w w':=by
 have HA:=Z (h.ch (S:=fun _=>False) (Ch.alloc (Ch.refl _ w) (dj c)) id id);have HX:=Z (ag (w0:=w) (g:=w.heap.size) (o:=dj c) rfl);have HC:=Z (Ch.alloc (Ch.refl (fun k=>k=gs\/k=gm) w) (dj c));have hs1:w.heap.size<=(w.alloc (dj c)).heap.size:=by simp
 have hgs:=aj h.blk;have hgm:=h.book.lt;have HNE:=Z (show ∀ x,((bB c).run s).2=.err x->x≠0 from fun x=>Pro.NZ.run _ s x (jX c));clear h;unfold co kF;go_enter Tryz.func69,Tryz.ntmps69;go_upto_region 1 with fail
 generalize hw1:w.alloc (.cells #[.int .i64 c.size,.string (ap c.data),.int .i64 c.page] 119)=w1 at *;have hw2:w.alloc (dj c)=w1:=hw1;rw [hw2] at HA HX HC hs1;clear hw1 hw2;obtain ⟨b0,b1,b2,b3,b4,b5,b6⟩:=aN HX.out;go_wp2_with fail;refine (oT c gs gm s w1 HA.out hl).mono ?_;rintro e w2 ⟨hp,hs,hc⟩;have HS:=Z hs;have HC2:=Z (HC.out.trans hc);clear hs hc b0 b1 b2 b3 b4 b5 b6;obtain ⟨⟨s2,a⟩,hx⟩:∃ x,(bB c).run s=x:=⟨_,rfl⟩;rw [hx] at HS hp HNE;have HV:=Z hx;clear hx;cases a with
 | ok v=>
   obtain ⟨d,ps⟩:=v;obtain ⟨vl,rfl,ho⟩:=hp;have HO:=Z (Own.base ho hs1);obtain ⟨A,cc,rfl⟩:=Sl.zM (ho.sl ax);clear ho;have HR:=Z (show (cM c).run s=(eT ps).run s2 from ah HV.out);go_wp2_with fail;go_loopw [21] (fun iv wr=>∃ (k:Nat) (s3:Sf),k<=ps.length/\iv=.int .i64 k/\(cM c).run s=(eT (ps.drop k)).run s3/\ShIs wr gs gm s3/\Own iC 1 3 w.heap.size wr (.slice A ps.length cc) ps/\Ch (fun k=>k=gs\/k=gm) w wr) (fun iv _=>ps.length - (intOf iv).toNat)
   case atStart=>exact ⟨0,s2,Nat.zero_le _,rfl,HR.out,HS.out,HO.out,HC2.out⟩
   case round=>
    obtain ⟨k,s3,hk,rfl,hr,hs,ho,hch⟩:=hrel;have HRK:=Z hr;have HSK:=Z hs;have HOK:=Z ho;have HCK:=Z hch;clear hr hs hch;have hmx:ps.length<=maxLen:=by
     rcases ho.2 with ⟨_,h0⟩ | ⟨g,cap,cur,_,_,_,h1,h2,_⟩
     ·omega
     ·omega
    unfold maxLen at hmx;by_cases hlt:k<ps.length
    ·obtain ⟨b,off,c',he,hbl,hcells⟩:=(ho.sl ax).zQ hlt;injection he with he1 he2 he3
     subst he1 he3;have e0:wr.cell? ⟨b,off+k,none⟩=some (.int .i64 ps[k]):=by simpa [iC] using hcells 0 _ rfl
     have hk0:(0:Int)<=(k:Int):=by omega
     have hk1:(k:Int)<(ps.length:Int):=by omega
     have HD:=Z (show ps.drop k=ps[k] :: ps.drop (k+1) from List.drop_eq_getElem_cons hlt);have HRF:=Z (show (cM c).run s=if cA s3 ps[k]=0 then (eT (ps.drop (k+1))).run (cX s3 ps[k]) else (cX s3 ps[k],.err (cA s3 ps[k])) by rw [HRK.out,HD.out];rfl);have hlw:=HOK.out.lt;clear hcells ho;generalize ps[k]=x at *;go_wp2_with fail;refine (gW gs gm s3 x wr HSK.out).mono ?_;rintro e w5 ⟨rfl,hs5,hc5⟩;have HS5:=Z hs5;have HO5:=Z (HOK.out.ch hc5 (fun j hj e=>by have:=(hlw j hj).1;rcases e with e | e <;> omega));have HC5:=Z (HCK.out.trans hc5);clear hs5 hc5 e0;by_cases hz:cA s3 x=0
     ·rw [hz];have HRZ:=Z (show (cM c).run s=(eT (ps.drop (k+1))).run (cX s3 x) by rw [HRF.out,if_pos hz]);go_wp2_with fail;go_roundw
      case rel=>exact ⟨k+1,cX s3 x,by omega,by go_num,HRZ.out,HS5.out,HO5.out,HC5.out⟩
      case measure=>simp [intOf];omega
     ·have HRZ:=Z (show (cM c).run s=(cX s3 x,.err (cA s3 x)) by rw [HRF.out,if_neg hz]);generalize cA s3 x=ee at *;have hz1:(ee == 0)=false:=by simpa using hz
      go_wp2_with fail;go_ret;rw [HRZ.out];exact ⟨rfl,HS5.out,HC5.out⟩
    ·have HRZ:=Z (show (cM c).run s=(s3,.ok ()) by rw [HRK.out,List.drop_eq_nil_of_le (by omega)];rfl);have hk1:(ps.length:Int)<=(k:Int):=by omega
     clear ho;go_wp2_with fail;go_ret;rw [HRZ.out];exact ⟨rfl,HSK.out,HCK.out⟩
 | err x=>
   obtain rfl:=hp;have hx0:¬ x=0:=HNE.out x rfl;have hx1:(x == 0)=false:=by simpa using hx0
   have HR:=Z (show (cM c).run s=(s2,.err x) from aq HV.out);go_wp2_with fail;go_ret;rw [HR.out];exact ⟨rfl,HS.out,HC2.out⟩
theorem tN (n:Nd):(¬ dX n=0)=(aD n=false\/232<(aw n).length):=by unfold dX;cases aD n <;> by_cases h:232<(aw n).length <;> simp [h]
theorem bE (at_:Int) (n:Nd) (v:Value) (gs gm:Nat) (s:Sf) (w:World) (hS:ShIs w gs gm s) (h:NdV w v n) (hb:n.Bd):
  Calls Tryz.prog 66 #[co gs,.int .i64 at_,v] w fun e w'=>e=.returned (dW ((aE at_ n).run s).2)/\ShIs w' gs gm ((aE at_ n).run s).1/\Ch (fun k=>k=gs\/k=gm) w w':=by
 obtain ⟨vk,vc,vd,rfl,hs⟩:=h;have HW0:=Z ((Below.refl _ w).alloc (Nat.le_refl _) (ar n vk vc vd));have HG0:=Z (ag (w0:=w) (g:=w.heap.size) (o:=ar n vk vc vd) rfl);have HS0:=Z (hs.keep HW0.out);have HB:=Z hb;have HA0:=Z (hS.ch (S:=fun _=>False) (Ch.zK HW0.out) id id);clear hs hb hS;unfold co;go_enter Tryz.func66,Tryz.ntmps66;go_upto_region 1 with fail
 generalize hw1:w.alloc (.cells #[.bool n.leaf,vk,vc,vd] 110)=w1 at *;have hw2:w.alloc (ar n vk vc vd)=w1:=hw1;rw [hw2] at HW0 HG0 HS0 HA0;clear hw1 hw2;obtain ⟨a0,a1,a2,a3,a4⟩:=aa HG0.out;go_wp2_with fail;refine (jM n _ w1 ⟨vk,vc,vd,rfl,HS0.out⟩ HB.out).mono ?_;rintro e w2 ⟨rfl,hb⟩;have HA2:=Z (HA0.out.ch (S:=fun _=>False) (Ch.zK hb) id id);have HC2:=Z ((Ch.zK (S:=fun k=>k=gs\/k=gm) HW0.out).trans (Ch.zK hb));clear hb a0 a1 a2 a3 a4;by_cases he:dX n=0
 ·have HV:=Z (show aE at_ n=.put at_ (aK (aw n)) .pure by
   unfold aE;rw [if_neg (fun h=>by rw [<- tN] at h;exact h he)])
  have HL:=Z (show eI n=aK (aw n) by unfold eI;rw [if_pos he]);rw [he,HL.out];go_wp2_with fail;refine (qi at_ (ap (aK (aw n))) gs gm s w2 HA2.out).mono ?_;rw [bA];rintro e w3 ⟨rfl,hs,hc⟩;have HS3:=Z hs;have HC3:=Z (HC2.out.trans hc);clear hs hc;go_wp2_with fail;go_ret;rw [HV.out];by_cases hp:kV s at_ (aK (aw n))=0
  ·simp only [Pro.run,if_pos hp];rw [hp];exact ⟨rfl,HS3.out,HC3.out⟩
  ·simp only [Pro.run,if_neg hp];exact ⟨rfl,HS3.out,HC3.out⟩
 ·have HV:=Z (show aE at_ n=.fail 30 by
   unfold aE;rw [if_pos (by rw [<- tN];exact he)])
  generalize dX n=ee at *;have he2:(ee == 0)=false:=by simpa using he
  go_wp2_with fail;go_ret;rw [HV.out];exact ⟨rfl,HA2.out,HC2.out⟩
end Go.Proofs.YtknioodagnjchaaGreatDoor
