/- maps.Copy of images; slices.Backward over savepoints. slices.Backward over savepoints. pager: memory behind Back's stores. The plain law of savepoints: Back. The plain law of commit: pages laid, frames added, what is at hand tidied. -/
import Derived.Test.YtdmhbgpejppbkaaGreatXGbl
import Derived.Test.YtdmhbgpejppbkaaGreatXGbf
import Derived.Test.YtdmhbgpejppbkaaGreatXGbk
import Derived.Lib.SlMapMerge
import Derived.RangeFuncCalls
import Derived.RangeFuncWrites
import Derived.Lib.SlKeysI
import Derived.Shelf.AbstractIn
import Derived.RangeFuncMany
import Derived.RangeFuncStops
import Derived.RangeFuncLeaves
import Derived.OwnWalkIn
import Derived.TacticsInMore
import Derived.RegionIn
import Derived.LoopNIn
import Derived.LoopIn
set_option maxRecDepth 100000
set_option maxHeartbeats 4000000
namespace Go.Proofs.YtdmhbgpejppbkaaGreat
open Go.Lib (hid)
open Go.RowKit Go.Maps Go.Shelf
def AQ (q:Int × By):Lit × DataW Unit:=(cq q.1,stL q.2)
def dS (K K2:List (Int × By)):List (Int × By):=K2.foldl (fun K q=>aX K q.1 q.2) K
theorem qk {D:DataW Unit}:∀ (K2:List (Int × By)) {D:DataW Unit} {K:List (Int × By)},MpOf cq stL D K→MpOf cq stL ((K2.map AQ).foldl (fun D p=>D.put p.1 p.2) D) (dS K K2)
 | [],_,_,h=>h
 | q :: K2,_,_,h=>qk (D:=D) K2 (h.put xM q.1 q.2)
theorem pu {α β:Type}:∀ {L:List (α × β)},L.Pairwise (fun p q=>p.1≠q.1)→∀ {x y:α × β},x ∈ L→y ∈ L→x.1=y.1→x=y
 | [],_,_,_,hx,_,_=>by cases hx
 | z :: L,hn,x,y,hx,hy,e=>by
   rw [List.pairwise_cons] at hn;rcases List.mem_cons.1 hx with rfl | hx' <;> rcases List.mem_cons.1 hy with rfl | hy'
   ·rfl
   ·exact (hn.1 _ hy' e).elim
   ·exact (hn.1 _ hx' e.symm).elim
   ·exact pu hn.2 hx' hy' e
theorem wY {w:World} {g n:Nat} {D:DataW Unit} {K:List (Int × By)} (hm:MpOf cq stL D K) (ho:w.ownsMap Tryz.prog 3 zu g n D):∃ K2:List (Int × By),K2.Perm K∧D=.map (K2.map AQ):=by
 obtain ⟨es,hD,hpw,hlit⟩:=ho.entries bY;subst hD
 have hint:∀ p ∈ es,∃ x,p.1=.int .i64 x:=fun p hp=>by
  obtain ⟨es',hD',hko⟩:=ho.keysOf;obtain rfl:es=es':=by simpa using hD'
  obtain ⟨v,hv⟩:=hko p hp;obtain ⟨x,_,hx,_⟩:=Maps.keyOf_i64 Tryz.underlying3 hv;exact ⟨x,hx⟩
 have hsame:∀ p ∈ es,has (.map es) p.1=true:=fun p hp=>by
  rw [has_eq,List.any_eq_true];exact ⟨p,hp,by obtain ⟨x,hx⟩:=hint p hp;rw [hx];simp [Lit.sameKey]⟩
 have hat:∀ p ∈ es,∀ z,(DataW.map es).atKey p.1 z=p.2:=fun p hp z=>by
  unfold DataW.atKey;cases hf:es.find? (fun q=>q.1.sameKey p.1) with
  | none=> have:=List.find?_eq_none.1 hf p hp;obtain ⟨x,hx⟩:=hint p hp;rw [hx] at this;simp [Lit.sameKey] at this
  | some q=>
    have h1:=List.mem_of_find?_eq_some hf;have h2:=List.find?_some hf;obtain ⟨x,hx⟩:=hint p hp;obtain ⟨y,hy⟩:=hint q h1;rw [hx,hy] at h2;have e:y=x:=by simpa [Lit.sameKey] using h2
    have:q=p:=pu hpw h1 hp (by rw [hx,hy,e]);simp only [hf];exact congrArg Prod.snd this
 have hq:∀ p ∈ es,∃ q ∈ K,p=AQ q:=fun p hp=>by
  by_cases hex:∃ q ∈ K,p.1=cq q.1
  ·obtain ⟨q,hqK,e⟩:=hex;refine ⟨q,hqK,Prod.ext e ?_⟩;have h1:=hm.yes q hqK (.map []);rw [← e,hat p hp] at h1;exact h1
  ·have:=hm.no p.1 fun q hq e=>hex ⟨q,hq,e⟩
   rw [hsame p hp] at this;cases this
 obtain ⟨K2,rfl,hK2⟩:∃ K2:List (Int × By),es=K2.map AQ∧∀ q ∈ K2,q ∈ K:=by
  clear hpw hlit hsame hat hm ho hint
  induction es with
  | nil=>exact ⟨[],rfl,fun _ h=>by cases h⟩
  | cons p es ih=>
    obtain ⟨q,h1,rfl⟩:=hq p (by simp);obtain ⟨K2,rfl,h2⟩:=ih fun p hp=>hq p (List.mem_cons_of_mem _ hp)
    exact ⟨q :: K2,rfl,fun x hx=>(List.mem_cons.1 hx).elim (fun e=>e ▸ h1) (h2 x)⟩
 refine ⟨K2,?_,rfl⟩;have hn1:K2.Nodup:=by rw [List.pairwise_map] at hpw;exact hpw.imp fun h e=>h (by rw [e])
 have hn2:K.Nodup:=List.Pairwise.of_map _ (fun a b hh e=>hh (congrArg _ e)) hm.nd;refine (List.perm_ext_iff_of_nodup hn1 hn2).2 fun q=>⟨hK2 q,fun hqK=>?_⟩
 have h1:=hm.has xM q.1;rw [ci hm.nd (show (q.1,q.2) ∈ K from hqK)] at h1;have h1:has (DataW.map (K2.map AQ)) (cq q.1)=true:=h1;rw [has_eq,List.any_eq_true] at h1;obtain ⟨p,hp,hs⟩:=h1;obtain ⟨q',hq',rfl⟩:=List.mem_map.1 hp;have e:q'.1=q.1:=by simpa [AQ,cq,Lit.sameKey] using hs
 have e2:=ci hm.nd (show (q'.1,q'.2) ∈ K from hK2 q' hq');rw [e,ci hm.nd (show (q.1,q.2) ∈ K from hqK)] at e2;injection e2 with e2
 have:q=q':=Prod.ext e.symm e2;exact this ▸ hq'
theorem lj (K K2:List (Int × By)):(dS K K2).length≤K.length+K2.length:=by
 induction K2 generalizing K with
 | nil=>exact Nat.le_refl _
 | cons q K2 ih=> have h1:=ih (aX K q.1 q.2);have h2:=eR (K:=K) (a:=q.1) (b:=q.2);show (dS (aX K q.1 q.2) K2).length≤_;rw [List.length_cons];omega
theorem nT (gd gs:Nat) (w:World) {K K2:List (Int × By)} (hd:fu w gd K) (hs:fu w gs K2) (hne:gd≠gs) (hroom:K.length+K2.length≤1000000):
  Calls Tryz.prog 96 #[.map (some gd),.map (some gs)] w fun e w'=>e=.returned (.tuple #[])∧∃ K3,K3.Perm K2∧fu w' gd (dS K K3)∧w.grownBy w' (some gd):=by
 obtain ⟨Dd,od,md⟩:=hd;obtain ⟨Ds,os,ms⟩:=hs;obtain ⟨K3,hp,hD⟩:=wY ms os;have hsz:Maps.size Ds=K2.length:=ms.size;refine (AnyX.maps_Copy Tryz.copyI bY zu gd gs K.length K2.length Dd Ds w od os hne (by rw [hsz];unfold maxLen;omega)).mono ?_;rintro e w' ⟨rfl,h1,-,hg⟩;refine ⟨rfl,K3,hp,?_,hg⟩;have hm:MpOf cq stL (Lib.mergeD Dd Ds) (dS K K3):=by rw [hD];exact qk (D:=Dd) K3 md
 exact ⟨_,il h1 hm.size,hm⟩
def AJ (zs:List (He × Nat)) (i:Fin zs.length):Array Value:=#[.int .i64 i.1,sV (zs[i.1]'i.2)]
def mK (n:Nat):(d:Nat)→d≤n→List (Fin n)
 | 0,_=>[]
 | d+1,h=>mK n d (Nat.le_of_succ_le h) ++ [⟨n - (d+1),by omega⟩]
theorem je (n:Nat):∀ (d:Nat) (h:d≤n),(mK n d h).length=d
 | 0,_=>rfl
 | d+1,h=>by unfold mK;rw [List.length_append,je n d];rfl
structure BwAt (W:World) (Bs b off cap:Nat) (zs:List (He × Nat)):Prop where
 box:W.cell? ⟨Bs,0,none⟩=some (.slice (some ⟨b,off,none⟩) zs.length cap)
 row:∀ (i:Nat) (hi:i<zs.length) (j:Nat) (u:Value),(mO zs[i])[j]?=some u→W.cell? ⟨b,off+i * 7+j,none⟩=some u
theorem yX (F:Fence) (n:Nat) (h7:F.fn 143) (hro:F.round=none) (hn:1≤n) (l Bs b off cap:Nat) (zs:List (He × Nat)) (hlen:zs.length≤1000) (Kp:World→World→Prop) (hKt:∀ {A B C:World},Kp A B→Kp B C→Kp A C) (J Jx:List (Fin zs.length)→World→Prop)
  (hY:∀ pre x W,J pre W→pre.length<zs.length→YieldAt F (n - 1) Tryz.prog l (AJ zs x) W fun e W'=>(e=.returned (.bool true)∧J (pre ++ [x]) W'∧Kp W W')∨(e=.returned (.bool false)∧Jx (pre ++ [x]) W'))
  (W:World) (hK0:Kp W W) (hat:∀ W',Kp W W'→BwAt W' Bs b off cap zs) (h0:J [] W):
  CallsIn F n Tryz.prog 143 #[.func (.yield l) #[] #[],.pointer (some ⟨Bs,0,none⟩)] W fun e W'=>(∃ v,e=.returned v)∧((∃ ys,ys=mK zs.length zs.length (Nat.le_refl _)∧J ys W')∨(∃ pre,Jx pre W')):=by
 have HAT:=hid hat;have hbx:=(hat W hK0).box;have hwl:IntKind.i64.wrap ((zs.length:Int) - 1)=(zs.length:Int) - 1:=by rw [IntKind.wrap_i64];omega
 clear hat;refine callsIn_of_wp Tryz.func143 rfl h7 ?_ hro;simp only [Tryz.ntmps143,List.size_toArray,List.length_cons,List.length_nil,Nat.reduceAdd,Nat.reduceSub,Array.replicate_succ,Array.replicate_zero,List.push_toArray,List.append_toArray,List.nil_append,List.cons_append];gi_wp2;gi_loopw [3] (fun iv wr=>∃ (d:Nat) (hd:d≤zs.length),iv=.int .i64 ((zs.length:Int) - 1 - d)∧J (mK zs.length d hd) wr∧Kp W wr) (fun iv _=>(intOf iv+1).toNat)
 case atStart=>exact ⟨0,Nat.zero_le _,by simp,h0,hK0⟩
 case round=>
  obtain ⟨d,hd,rfl,hJs,hnx⟩:=hrel;by_cases hdl:d=zs.length
  ·subst hdl;have hiv:((zs.length:Int) - 1 - zs.length)=-1:=by omega
   rw [hiv];gi_wp2;go_end0;exact ⟨⟨_,rfl⟩,.inl ⟨_,rfl,hJs⟩⟩
  ·have hd1:d+1≤zs.length:=by omega
   obtain ⟨i,hi2⟩:∃ i,i=zs.length - (d+1):=⟨_,rfl⟩;have hi:i<zs.length:=by omega
   have hup:mK zs.length (d+1) hd1=mK zs.length d hd ++ [⟨i,hi⟩]:=by subst hi2;rfl
   obtain ⟨fn,tmps,assign,body,hy,hR⟩:=hY _ ⟨i,hi⟩ wr hJs (by rw [je];omega);have hA:=HAT.out wr hnx;have hbw:=hA.box;have hrow:=hA.row i hi;have hiv:((zs.length:Int) - 1 - d)=(i:Int):=by omega
   have hiv2:(i:Int) - 1=((zs.length:Int) - 1 - ((d+1:Nat):Int)):=by omega
   have HI:=hid (And.intro hd1 (And.intro hi hiv2));rw [← hup] at hR;unfold AJ at hy;simp only at hy;generalize zs[i]=x at *;have e0:wr.cell? ⟨b,off+i * 7,none⟩=some (.int .i64 x.1.mode):=hrow 0 _ rfl;have e1:wr.cell? ⟨b,off+i * 7+1,none⟩=some (.int .i64 x.1.pages):=hrow 1 _ rfl;have e2:wr.cell? ⟨b,off+i * 7+2,none⟩=some (.int .i64 x.1.trunk):=hrow 2 _ rfl;have e3:wr.cell? ⟨b,off+i * 7+3,none⟩=some (.int .i64 x.1.spare):=hrow 3 _ rfl;have e4:wr.cell? ⟨b,off+i * 7+4,none⟩=some (.int .i64 x.1.root):=hrow 4 _ rfl;have e5:wr.cell? ⟨b,off+i * 7+5,none⟩=some (.int .u64 x.1.change):=hrow 5 _ rfl;have e6:wr.cell? ⟨b,off+i * 7+6,none⟩=some (.map (some x.2)):=hrow 6 _ rfl;have hi0:(0:Int)≤(i:Int):=by omega
   have hi1:(i:Int)<(zs.length:Int):=by omega
   have hwi:IntKind.i64.wrap ((i:Int) - 1)=(i:Int) - 1:=by rw [IntKind.wrap_i64];omega
   rw [hiv];unfold sV at hy;clear hrow hA hJs hup hi2 hiv2 hiv hdl;gi_wp2;refine hR.mono ?_;rintro e W3 (⟨rfl,hJ3,hk3⟩ | ⟨rfl,hJx3⟩)
   ·gi_wp2;go_roundw
    case rel=>exact ⟨d+1,HI.out.1,by rw [HI.out.2.2],hJ3,hKt hnx hk3⟩
    case measure=>simp [intOf]
   ·gi_wp2;refine bodyPost_ret (results_none rfl _ _ _) rfl ?_;exact ⟨⟨_,rfl⟩,.inr ⟨_,hJx3⟩⟩
def BwK (n₀ Bs:Nat) (W W':World):Prop:=Below n₀ W W'∧∀ c t,W.heap[Bs]?=some (.cells c t (0,0))→W'.heap[Bs]?=some (.cells c t (0,0))
theorem BwK.trans {n₀ Bs:Nat} {A B C:World} (h:BwK n₀ Bs A B) (k:BwK n₀ Bs B C):BwK n₀ Bs A C:=⟨h.1.trans k.1,fun c t e=>k.2 c t (h.2 c t e)⟩
theorem BwK.put {n₀ Bs:Nat} {w:World} (hn:n₀≤w.heap.size) (W:World) (l:Nat) (o o':Obj) (hl:w.heap.size≤l) (h:W.heap[l]?=some o) (h1:o.isCells=false) (h2:o.isWalk=false):BwK n₀ Bs W (W.putObj l o'):=by
 refine ⟨belowK_b hn W l o o' hl h h1 h2,fun c t e=>?_⟩;have hne:l≠Bs:=fun e2=>by rw [e2,e] at h;injection h with h;rw [← h] at h1;cases h1
 exact ((grownBy_putObj' W l o').block Bs (aO e) (fun e2=>by injection e2 with e2;exact hne e2.symm)).trans e
theorem nX (F:Fence) (n:Nat) (h7:F.fn 143) (hro:F.round=none) (hn:1≤n) (Bs n₀ b off cap:Nat) (zs:List (He × Nat)) (hlen:zs.length≤1000) (w:World) (hb:b<n₀) (hn0:n₀≤w.heap.size)
  (hbox:w.heap[Bs]?=some (.cells #[.slice (some ⟨b,off,none⟩) zs.length cap] 75 (0,0))) (hrow:∀ (i:Nat) (hi:i<zs.length) (j:Nat) (u:Value),(mO zs[i])[j]?=some u→w.cell? ⟨b,off+i * 7+j,none⟩=some u):
  SeqStopsK F n Tryz.prog 143 #[.pointer (some ⟨Bs,0,none⟩)] (AJ zs) (BwK n₀ Bs) (fun ys=>ys=mK zs.length zs.length (Nat.le_refl _)) (fun _=>True) zs.length w:=fun l J Jx W hW _ _ hY h0=>
 (yX F n h7 hro hn l Bs b off cap zs hlen (BwK n₀ Bs) BwK.trans J Jx hY W ⟨Below.refl _ _,fun _ _ e=>e⟩ (fun W' hk=>⟨by
   have h1:W.heap[Bs]?=_:=(hW.block Bs (aO hbox)).trans hbox;have h2:=hk.2 _ _ h1;exact aa h2 0,fun i hi j u hu=>(hk.1.cell (p:=⟨b,off+i * 7+j,none⟩) hb).trans ((hW.cell (p:=⟨b,off+i * 7+j,none⟩) (by simp only;omega)).trans (hrow i hi j u hu))⟩) h0).mono fun _ _ ⟨h1,h2⟩=>⟨h1,h2.elim .inl fun ⟨p,hp⟩=>.inr ⟨p,trivial,hp⟩⟩
theorem tF (v:Value) (w:World) (hv:∃ A n c,v=.slice A n c):
  Calls Tryz.prog 95 #[v] w fun e w'=>e=.returned (.func (.func 143) #[] #[.pointer (some ⟨w.heap.size,0,none⟩)])∧w'=w.alloc (.cells #[v] 75):=by
 obtain ⟨A,n,c,rfl⟩:=hv;go_enter Tryz.func95,Tryz.ntmps95;go_wp2_with fail;go_ret;exact ⟨rfl,rfl⟩
end Go.Proofs.YtdmhbgpejppbkaaGreat
namespace Go.Proofs.YtdmhbgpejppbkaaGreat
open Go.RowKit Go.Maps
def gF:Sv:=⟨⟨0,0,0,0,0,0⟩,[]⟩
def Pgr.backTo (P:Pgr) (k:Nat):Pgr:={ P with work:=(P.saves.getD k gF).head,saves:=(P.saves.take k) ++ [⟨(P.saves.getD k gF).head,[]⟩] }
theorem eN {α β:Type}:∀ (k:Nat) (l:List α) (r:List β),(l.take k).zip (r.take k)=(l.zip r).take k
 | 0,_,_=>by simp
 | k+1,[],_=>by simp
 | k+1,_ :: _,[]=>by simp
 | k+1,a :: l,b :: r=>by simp only [List.take_succ_cons,List.zip_cons_cons,eN k l r]
theorem nF (xs:List (He × Nat)) {k:Nat} (hk:k<xs.length) (g:Nat):((xs.take (k+1)).flatMap mO).set (k * 7+6) (.map (some g))=(xs.take k ++ [(xs[k].1,g)]).flatMap mO:=by
 rw [List.take_succ_eq_append_getElem hk,List.flatMap_append,List.flatMap_append];have hl:((xs.take k).flatMap mO).length=k * 7:=by rw [dw mO 7 cL,List.length_take,Nat.min_eq_left (by omega)]
 rw [List.set_append_right _ _ (by omega),hl,Nat.add_sub_cancel_left];rfl
theorem SvIs.base {w:World} {v:Value} {gs:List Nat} {l:List Sv} (h:SvIs w v gs l) {k:Nat} (hk:l.length=k+1):∃ b c,v=.slice (some ⟨b,0,none⟩) (k+1) c∧k+1≤c∧b<w.heap.size:=by
 have hz:((l.map (·.head)).zip gs).length=k+1:=by rw [List.length_zip,List.length_map,h.len,Nat.min_self,hk]
 obtain ⟨A,c,hv,hc⟩:=aD h.row;rw [hz] at hv hc;rcases h.row.2 with ⟨hv2,h0⟩ | ⟨g,cap,cur,hv2,hb,hg,hn,hm,hcs,ht⟩
 ·omega
 ·rw [hv] at hv2;injection hv2 with e1 e2 e3
  exact ⟨g,c,by rw [hv,e1],hc,ab hg⟩
theorem SvIs.row7 {w:World} {b c m:Nat} {gs:List Nat} {l:List Sv} (h:SvIs w (.slice (some ⟨b,0,none⟩) (m+1) c) gs l) {i:Nat} (hi:i<((l.map (·.head)).zip gs).length) (j:Nat) (u:Value) (hu:(mO ((l.map (·.head)).zip gs)[i])[j]?=some u):w.cell? ⟨b,i * 7+j,none⟩=some u:=by
 obtain ⟨b',off,c',he,-,hc⟩:=(h.row.sl cL).at1 hi;injection he with e1 _ _
 injection e1 with e1
 injection e1 with e1 e2 _
 subst e1 e2;have:=hc j u hu
 rwa [Nat.zero_add] at this
section
variable {w w1 w2 w3:World} {L:PgL} {P:Pgr} {b c m k gN:Nat}
theorem SvIs.back {gs:List Nat} {l:List Sv} (h:SvIs w (.slice (some ⟨b,0,none⟩) (m+1) c) gs l) (hl:l.length=m+1) (hk:k≤m) (hg:w.heap.size≤gN) (hb:Below w.heap.size w w1) (hm:fu w1 gN []):
  SvIs (w1.setCell ⟨b,k * 7+6,none⟩ (.map (some gN))) (.slice (some ⟨b,0,none⟩) (k+1) c) (gs.take k ++ [gN]) (l.take k ++ [⟨(l.getD k gF).head,[]⟩]):=by
 have hgl:=h.len;have hz:((l.map (·.head)).zip gs).length=m+1:=by rw [List.length_zip,List.length_map,hgl,Nat.min_self,hl]
 have hkl:k<l.length:=by omega
 have hd:l.getD k gF=l[k]:=by rw [List.getD_eq_getElem?_getD,List.getElem?_eq_getElem hkl,Option.getD_some]
 have hbs:b<w.heap.size:=h.lt (.inl rfl);have hc:Ch (fun j=>j=b) w1 (w1.setCell ⟨b,k * 7+6,none⟩ (.map (some gN))):=(Ch.refl (fun j=>j=b) w1).setCell (p:=⟨b,k * 7+6,none⟩) rfl _;have hsz:=hb.size;have hgi:∀ j ∈ gs,j<w.heap.size:=fun j hj=>h.lt (.inr hj)
 have hlt:(gs.take k).length=k:=by rw [List.length_take];omega
 have hlt2:(l.take k).length=k:=by rw [List.length_take];omega
 refine ⟨?_,by simp [hlt,hlt2],fun p hp=>?_,?_,fun j hj e=>?_⟩
 ·have h1:=(h.row.below hb).take' cL (i:=k+1) (by omega);have hl1:(((l.map (·.head)).zip gs).take (k+1)).length=k+1:=by rw [List.length_take];omega
  unfold Own at h1;rw [hl1] at h1;have h2:=World.ownsRow.stored h1 (k * 7+6) (.map (some gN));rw [nF _ (by omega)] at h2;have e:((l.take k ++ [(⟨(l.getD k gF).head,[]⟩:Sv)]).map (·.head)).zip (gs.take k ++ [gN])=((l.map (·.head)).zip gs).take k ++ [(((l.map (·.head)).zip gs)[k].1,gN)]:=by rw [List.map_append,List.zip_append (by rw [List.length_map,hlt,hlt2]),List.map_take,hd,eN];congr 1;simp
  rw [e];have e2:k+1=(((l.map (·.head)).zip gs).take k ++ [(((l.map (·.head)).zip gs)[k].1,gN)]).length:=by rw [List.length_append,List.length_take];simp only [List.length_cons,List.length_nil];omega
  have h3:=h2.1;unfold Own;rw [← e2];exact h3
 ·rw [List.zip_append (by rw [hlt,hlt2])] at hp;rcases List.mem_append.1 hp with hp | hp
  ·rw [eN] at hp;have hp:=List.mem_of_mem_take hp;have h1:=h.im p hp;exact (h1.ch (S:=fun _=>False) (Ch.of_below hb) id).ch hc fun e=>h.ne _ (List.of_mem_zip hp).1 (by rw [e];rfl)
  ·simp only [List.zip_cons_cons,List.zip_nil_right,List.mem_singleton] at hp;rw [hp];exact hm.ch hc fun e=>by omega
 ·rw [List.nodup_append];exact ⟨h.nd.sublist (List.take_sublist _ _),by simp,fun x hx y hy e=>by rw [List.mem_singleton.1 hy] at e;have:=hgi x (List.mem_of_mem_take hx);omega⟩
 ·have e:b=j:=by injection e
  rcases List.mem_append.1 hj with hj | hj
  ·exact h.ne j (List.mem_of_mem_take hj) (by rw [← e];rfl)
  ·rw [List.mem_singleton.1 hj] at e;omega
def tH (w:World) (g:Nat) (h:He) (v:Value):World:=((((((w.setCell ⟨g,15,none⟩ (.int .i64 h.mode)).setCell ⟨g,16,none⟩ (.int .i64 h.pages)).setCell ⟨g,17,none⟩ (.int .i64 h.trunk)).setCell ⟨g,18,none⟩ (.int .i64 h.spare)).setCell ⟨g,19,none⟩ (.int .i64 h.root)).setCell ⟨g,20,none⟩ (.int .u64 h.change)).setCell ⟨g,21,none⟩ v
theorem PgIs.backSv (h:PgIs w L P) (hv:L.vs=.slice (some ⟨b,0,none⟩) (m+1) c) (hl:P.saves.length=m+1) (hk:k≤m) (hwp:(P.saves.getD k gF).head.pages≤4096)
  (h1:w1=tH w L.gp (P.saves.getD k gF).head (.slice (some ⟨b,0,none⟩) (k+1) c)) (h2:w2=w1.alloc (.map #[] 0)) (h3:w3=w2.setCell ⟨b,k * 7+6,none⟩ (.map (some w1.heap.size))):PTo w L (P.backTo k) w3:=by
 have hA:=h.apart;have hc1:Ch (fun j=>j=L.gp) w w1:=by rw [h1];exact (((((((Ch.refl (fun j=>j=L.gp) w).setCell (p:=⟨L.gp,15,none⟩) rfl _).setCell (p:=⟨L.gp,16,none⟩) rfl _).setCell (p:=⟨L.gp,17,none⟩) rfl _).setCell (p:=⟨L.gp,18,none⟩) rfl _).setCell (p:=⟨L.gp,19,none⟩) rfl _).setCell (p:=⟨L.gp,20,none⟩) rfl _).setCell (p:=⟨L.gp,21,none⟩) rfl _
 have hs1:w1.heap.size=w.heap.size:=by rw [h1];simp [tH]
 have hb2:Below w1.heap.size w1 w2:=by rw [h2];exact (Below.refl _ w1).alloc (Nat.le_refl _) _
 have hbk:w1.heap[L.gp]?=some (bX { L with vs:=.slice (some ⟨b,0,none⟩) (k+1) c,gs:=L.gs.take k ++ [w1.heap.size] } (P.backTo k)):=by rw [h1];exact ae (ft h.blk (P.saves.getD k gF).head) 21 (.slice (some ⟨b,0,none⟩) (k+1) c)
 have a1:=h.sep.upd (l1:=[]) (b:=Ob.blk L.gp (bX { L with vs:=.slice (some ⟨b,0,none⟩) (k+1) c,gs:=L.gs.take k ++ [w1.heap.size] } (P.backTo k))) hc1 (fun j hj=>hj) hbk (fun j hj=>.inl hj);have hsv1:SvIs w1 (.slice (some ⟨b,0,none⟩) (m+1) c) L.gs P.saves:=by rw [← hv];exact h.sv.ch hc1 fun j hj e=>hA.ps (e ▸ hj)
 have hmN:fu w2 w1.heap.size []:=by rw [h2];exact MpIs.made w1
 have hsv3:=hsv1.back (k:=k) (gN:=w1.heap.size) hl hk (Nat.le_refl _) hb2 hmN;rw [← h3] at hsv3;have hbF:kk L.vs L.gs b:=.inl (by rw [hv];rfl);have hc3:Ch (fun j=>j=b) w1 w3:=by rw [h3];exact (Ch.of_below hb2).trans ((Ch.refl (fun j=>j=b) w2).setCell (p:=⟨b,k * 7+6,none⟩) rfl _)
 have hF:∀ j,kk (.slice (some ⟨b,0,none⟩) (k+1) c) (L.gs.take k ++ [w1.heap.size]) j→kk L.vs L.gs j∨w1.heap.size≤j:=fun j hj=>by
  rcases hj with hj | hj
  ·exact .inl (.inl (by rw [hv];exact hj))
  ·rcases List.mem_append.1 hj with hj | hj
   ·exact .inl (.inr (List.mem_of_mem_take hj))
   ·rw [List.mem_singleton.1 hj];exact .inr (Nat.le_refl _)
 have a3:=a1.upd (l1:=[Ob.blk L.gp (bX { L with vs:=.slice (some ⟨b,0,none⟩) (k+1) c,gs:=L.gs.take k ++ [w1.heap.size] } (P.backTo k)),gZ L.D P.d,hO L.Fc L.vc P.size P.ca,gY L.D.gd L.N P.notes]) (a:=gy L.vs L.gs P.saves) (b:=gy (.slice (some ⟨b,0,none⟩) (k+1) c) (L.gs.take k ++ [w1.heap.size]) (P.backTo k).saves) hc3 (fun j e=>e ▸ hbF) hsv3 hF;refine ⟨{ L with vs:=.slice (some ⟨b,0,none⟩) (k+1) c,gs:=L.gs.take k ++ [w1.heap.size] },rfl,⟨a3,⟨h.ok.s1,h.ok.s2,h.ok.base,h.ok.hp,hwp,?_⟩,h.gd⟩,fun j hj=>?_,(hc1.mono fun j _ e=>.inl e).trans (hc3.mono fun j _ e=>.inr (.inr (.inr (.inr (.inl (e ▸ hbF))))))⟩
 ·show (P.saves.take k ++ [_]).length≤16;have:=h.ok.nos;rw [List.length_append,List.length_take];simp only [List.length_cons,List.length_nil];omega
 ·rcases hj with hj | hj | hj | hj | hj | hj
  ·exact .inl (.inl hj)
  ·exact .inl (.inr (.inl hj))
  ·exact .inl (.inr (.inr (.inl hj)))
  ·exact .inl (.inr (.inr (.inr (.inl hj))))
  ·rcases hF j hj with e | e
   ·exact .inl (.inr (.inr (.inr (.inr (.inl e)))))
   ·right;rw [← hs1];exact e
  ·exact .inl (.inr (.inr (.inr (.inr (.inr hj)))))
end
theorem tG {α:Type} {n:Nat} (l:List α) (df:α) (hn:n=l.length):∀ (d:Nat) (h:d≤n),(mK n d h).map (fun i=>l.getD i.1 df)=l.reverse.take d:=by
 subst hn;intro d
 induction d with
 | zero=>intro _;rfl
 | succ d ih=> intro h;unfold mK;rw [List.map_append,ih,List.take_succ_eq_append_getElem (by rw [List.length_reverse];omega),List.getElem_reverse];congr 1;simp only [List.map_cons,List.map_nil];rw [List.getD_eq_getElem?_getD,List.getElem?_eq_getElem (by omega),Option.getD_some];congr 2;omega
theorem sC {α:Type} (l:List α) (k i:Nat) (df:α):(l.drop k).getD i df=l.getD (k+i) df:=by rw [List.getD_eq_getElem?_getD,List.getD_eq_getElem?_getD,List.getElem?_drop]
inductive Mrg:List Sv→List (Int × By)→Prop
 | nil:Mrg [] []
 | snoc {l:List Sv} {s:Sv} {K K3:List (Int × By)}:Mrg l K→K3.Perm s.im→Mrg (l ++ [s]) (dS K K3)
theorem Mrg.of_pre {P:Pgr} {k n:Nat} {K:List (Int × By)} (hn:n=(P.saves.drop k).length) (h:Mrg ((mK n n (Nat.le_refl _)).map fun i=>P.saves.getD (k+i.1) gF) K):Mrg (P.saves.drop k).reverse K:=by
 have e:(mK n n (Nat.le_refl _)).map (fun i=>P.saves.getD (k+i.1) gF)=(P.saves.drop k).reverse:=by rw [show (fun i:Fin n=>P.saves.getD (k+i.1) gF)=fun i:Fin n=>(P.saves.drop k).getD i.1 gF from funext fun i=>(sC _ _ _ _).symm,tG _ _ hn,List.take_of_length_le (by rw [List.length_reverse];omega)]
 rwa [e] at h
def Pgr.restores (P:Pgr) (K:List (Int × By)) (l:List Int):Pgr:=l.foldl (fun Q n=>Q.restore n.toNat ((aC K n).getD [])) P
def Pgr.back (P:Pgr) (k:Nat) (K:List (Int × By)):Pgr:=(P.backTo k).restores K (bF (K.map (·.1)))
theorem pN (P:Pgr) (K:List (Int × By)) (l:List Int) {j:Nat} (h:j<l.length):P.restores K (l.take (j+1))=(P.restores K (l.take j)).restore (l[j]).toNat ((aC K l[j]).getD []):=by unfold Pgr.restores;rw [List.take_succ_eq_append_getElem h,List.foldl_append];rfl
structure CanBack (P:Pgr) (k:Nat):Prop where
 lt:k<P.saves.length
 im:∀ s ∈ P.saves,s.im.length≤10000
 wp:(P.saves.getD k gF).head.pages≤4096
 rs:∀ K,Mrg (P.saves.drop k).reverse K→∀ (j:Nat) (n:Int),(bF (K.map (·.1)))[j]?=some n→0≤n∧CanRestore ((P.backTo k).restores K ((bF (K.map (·.1))).take j)) n.toNat ((aC K n).getD [])
theorem PTo.putD {w w1:World} {L L':PgL} {P:Pgr} {D:Nat} {o:Obj} (h1:L'.gp=L.gp) (h2:PgIs w1 L' P) (h3:∀ k,L'.F k→L.F k∨w.heap.size≤k) (h4:Ch L.F w w1) (hD:¬ L'.F D) (hDl:w.heap.size≤D):PTo w L P (w1.putObj D o):=by
 have hc:Ch (fun k=>k=D) w1 (w1.putObj D o):=Ch.of_grown (grownBy_putObj' w1 D o) fun k hk=>by injection hk with hk;exact hk.symm
 exact ⟨L',h1,h2.ch hc fun k hk e=>hD (e ▸ hk),h3,h4.then hc fun k e=>.inr (e ▸ hDl)⟩
end Go.Proofs.YtdmhbgpejppbkaaGreat
namespace Go.Proofs.YtdmhbgpejppbkaaGreat
open Go.RowKit Go.Maps
theorem uN {α β:Type} [DecidableEq α] (q:α × β) (K:List (α × β)) (a:α):aC (q :: K) a=if q.1=a then some q.2 else aC K a:=by
 unfold aC;rw [List.find?_cons];by_cases h:q.1=a
 ·rw [if_pos h,decide_eq_true h];rfl
 ·rw [if_neg h,decide_eq_false h]
theorem uM {α β:Type} [DecidableEq α] {K K':List (α × β)} (h:K.Perm K') (hn:(K.map (·.1)).Nodup) (a:α):aC K a=aC K' a:=by
 have hn':(K'.map (·.1)).Nodup:=(h.map _).nodup_iff.1 hn;cases h1:aC K' a with
 | some b=>exact (bQ hn).2 (h.mem_iff.2 ((bQ hn').1 h1))
 | none=>
   cases h2:aC K a with
   | none=>rfl
   | some b=> have:=(bQ hn').2 (h.mem_iff.1 ((bQ hn).1 h2));rw [h1] at this;cases this
theorem lk:∀ (K2 K:List (Int × By)) (a:Int),(K.map (·.1)).Nodup→(K2.map (·.1)).Nodup→aC (dS K K2) a=(aC K2 a).or (aC K a)
 | [],K,a,_,_=>rfl
 | q :: K2,K,a,hn,h2=>by
   rw [List.map_cons,List.nodup_cons] at h2;show aC (dS (aX K q.1 q.2) K2) a=_;rw [lk K2 _ a (cU hn) h2.2,bP hn,uN];by_cases e:q.1=a
   ·rw [if_pos e,if_pos e.symm,eu (by rw [← e];exact h2.1)];rfl
   ·rw [if_neg e,if_neg fun x=>e x.symm]
theorem ng:∀ (K2 K:List (Int × By)),(K.map (·.1)).Nodup→((dS K K2).map (·.1)).Nodup
 | [],_,hn=>hn
 | _ :: K2,_,hn=>ng K2 _ (cU hn)
theorem li:∀ (K2 K:List (Int × By)) {p:Int × By},p ∈ dS K K2→p ∈ K∨p ∈ K2
 | [],_,_,h=>.inl h
 | q :: K2,K,p,h=>by
   rcases li K2 (aX K q.1 q.2) h with h | h
   ·rcases cy h with e | e
    ·right;rw [e];simp
    ·exact .inl e
   ·exact .inr (List.mem_cons_of_mem _ h)
theorem iP {l:List Sv} {K:List (Int × By)} (h:Mrg l K):(∀ s ∈ l,(s.im.map (·.1)).Nodup)→(K.map (·.1)).Nodup∧(∀ p ∈ K,∃ s ∈ l,p ∈ s.im)∧∀ (m:Nat) (x:By),(aC K (m:Int)).getD x=dM l.reverse m x:=by
 induction h with
 | nil=>exact fun _=>⟨List.nodup_nil,fun _ h=>absurd h List.not_mem_nil,fun _ _=>rfl⟩
 | @snoc l s K K3 h1 h2 ih=>
   intro hs;obtain ⟨i1,i2,i3⟩:=ih fun u hu=>hs u (List.mem_append_left _ hu)
   have hsn:=hs s (by simp);have h3n:(K3.map (·.1)).Nodup:=(h2.map _).nodup_iff.2 hsn;refine ⟨ng K3 K i1,fun p hp=>?_,fun m x=>?_⟩
   ·rcases li K3 K hp with hp | hp
    ·obtain ⟨u,hu,hp⟩:=i2 p hp;exact ⟨u,List.mem_append_left _ hu,hp⟩
    ·exact ⟨s,by simp,h2.mem_iff.1 hp⟩
   ·rw [lk K3 K m i1 h3n,uM h2 h3n,List.reverse_append];show _=(aC s.im (m:Int)).getD (dM l.reverse m x);rw [← i3];cases aC s.im (m:Int) <;> rfl
def AP:List Sv→Nat
 | []=>0
 | s :: r=>max s.head.pages (AP r)
theorem sd:∀ {l:List Sv} {s:Sv},s ∈ l→s.head.pages≤AP l
 | s :: r,u,h=>by
   rcases List.mem_cons.1 h with rfl | h
   ·exact Nat.le_max_left _ _
   ·exact Nat.le_trans (sd h) (Nat.le_max_right _ _)
theorem oN:∀ {l:List Sv} {n:Nat},(∀ s ∈ l,s.head.pages≤n)→AP l≤n
 | [],_,_=>Nat.zero_le _
 | s :: r,n,h=>by
   show max s.head.pages (AP r)≤n;have h1:=h s (by simp);have h2:=oN (l:=r) fun u hu=>h u (List.mem_cons_of_mem _ hu)
   omega
structure RestZ (P:Pgr) (C:Int→By) (N:Nat) (B:Int→By) (n:Nat) (s:By):Prop where
 can:CanRestore P n s
 u:Uz (P.restore n s) C N (fU B n s)
 same:P.SameW (P.restore n s)
 lg:aN (P.restore n s).lg≤aN P.lg+1
 hn:∀ m,(P.restore n s).hasN m=P.hasN m
theorem ud {P:Pgr} {C:Int→By} {N:Nat} {B:Int→By} {n:Nat} {s:By} (h:Uz P C N B) (hbz:P.busy=true) (hfew:aN P.lg<14500) (h1:1≤n) (hn:n<80) (hs:s.length=232) (hN:P.any n=false→N≤n) (hh:P.lg=none→n<P.base→P.hasN n=true):RestZ P C N B n s:=by
 by_cases hc:P.work.pages≤n∧P.any n=false
 ·have e:P.restore n s={ P with ca:=without n P.ca }:=by unfold Pgr.restore;rw [if_pos hc]
  have hNn:=hN hc.2;refine ⟨⟨by omega,fun x=>(x hc).elim,fun x=>(x hc).elim⟩,?_,by rw [e];exact ⟨rfl,rfl,rfl⟩,by rw [e];exact Nat.le_succ _,fun m=>by rw [e];rfl⟩;rw [e];have hY:=h.y;have hm:=fun {x:On} (hx:x ∈ without (n:Int) P.ca)=>vmem_without.1 hx
  refine Uz.congr (B:=B) ⟨⟨h.up.over,h.up.lost,h.up.down,h.up.life⟩,h.s1,h.s2,⟨hY.d,⟨fT hY.core.kv,fun x hx=>hY.core.rng x (hm hx).1,fun x hx=>hY.core.cln x (hm hx).1,fun p hp=>(by cases hp),fun m m1 m2=>?_⟩,?_,hY.sp,hY.base,hY.ch,hY.lenB,hY.lenC,fun hb=>⟨fun x hx=>(hY.calm hb).1 x (hm hx).1,rfl⟩⟩,?_,h.N⟩ (fun m hm=>ji (by omega)) (sP hY.lenB hs)
  ·rcases hY.core.all m m1 m2 with ⟨x,hx,e⟩ | h3 | h3
   ·exact .inl ⟨x,vmem_without.2 ⟨hx,by omega⟩,e⟩
   ·exact .inr (.inl h3)
   ·exact .inr (.inr h3)
  ·rcases hY.md with ⟨its,hj⟩ | ⟨l,its,mk,hj⟩
   ·exact .inl ⟨its,hj.lg,hj.nl,hj.jz,hj.mar,hj.main,fun x hx=>hj.ca x (hm hx).1,hj.lost,hj.ml,hj.img,hj.mf⟩
   ·exact .inr ⟨l,its,mk,hj.lg,hj.nt,hj.mar,hj.lz,hj.mark,hj.idle⟩
  ·have h1:=h.fit;have h2:(without (n:Int) P.ca).length≤P.ca.length:=List.length_filter_le _ _;show ((without (n:Int) P.ca).length:Int)≤P.size;omega
 ·have e:P.restore n s=P.hold n s true:=by unfold Pgr.restore;rw [if_neg hc]
  have hH:=oV (n:=n) (s:=s) (dt:=true) h hfew h1 hn (.inl rfl) h.N hs (.inl rfl) (fun _=>hbz) fun a b c=>by
   rw [hh a b] at c;cases c
  exact ⟨⟨by omega,fun _=>Nat.le_trans hH.few (by omega),fun _=>hH.can⟩,by rw [e];exact hH.u,by rw [e];exact hH.same,by rw [e];exact hH.lg,by rw [e];exact hH.hn⟩
def yg (K:List (Int × By)) (B:Int→By) (l:List Int):Int→By:=l.foldl (fun B n=>fU B n ((aC K n).getD [])) B
theorem vG (K:List (Int × By)):∀ (l:List Int) (B:Int→By) (m:Int),yg K B l m=if m ∈ l then (aC K m).getD [] else B m
 | [],B,m=>by simp [yg]
 | n :: l,B,m=>by
   show yg K (fU B n ((aC K n).getD [])) l m=_;rw [vG K l];by_cases h:m ∈ l
   ·rw [if_pos h,if_pos (List.mem_cons_of_mem _ h)]
   ·rw [if_neg h];unfold fU;by_cases e:m=n
    ·rw [if_pos e,if_pos (by rw [e];simp),e]
    ·rw [if_neg e,if_neg (by simp [e,h])]
structure RestsZ (P:Pgr) (C:Int→By) (N:Nat) (B:Int→By) (K:List (Int × By)) (l:List Int):Prop where
 can:∀ (j:Nat) (n:Int),l[j]?=some n→0≤n∧CanRestore (P.restores K (l.take j)) n.toNat ((aC K n).getD [])
 u:Uz (P.restores K l) C N (yg K B l)
 same:P.SameW (P.restores K l)
 lg:aN (P.restores K l).lg≤aN P.lg+l.length
theorem kL {C:Int→By} {N:Nat} {K:List (Int × By)}:∀ (l:List Int) (P:Pgr) (B:Int→By),Uz P C N B→P.busy=true→aN P.lg+l.length≤14500→
  (∀ n ∈ l,∃ (m:Nat) (s:By),n=m∧1≤m∧m<80∧aC K n=some s∧s.length=232∧(P.any m=false→N≤m)∧(P.lg=none→m<P.base→P.hasN m=true))→RestsZ P C N B K l
 | [],P,B,h,_,_,_=>⟨fun j n hj=>(by cases hj),h,Pgr.SameW.refl P,Nat.le_refl _⟩
 | n :: l,P,B,h,hb,hf,hall=>by
   rw [List.length_cons] at hf;obtain ⟨m,s,rfl,h1,h2,hg,hs,hN,hh⟩:=hall n (by simp);have hR:=ud (s:=s) h hb (by omega) h1 h2 hs hN hh;have e0:(aC K (m:Int)).getD []=s:=by rw [hg];rfl
   have e1:((m:Int)).toNat=m:=Int.toNat_natCast m;have hlg:=hR.lg
   have ih:=kL l (P.restore m s) (fU B m s) hR.u (by rw [hR.same.1];exact hb) (by omega) fun k hk=>by
    obtain ⟨m',s',a,b,c,d,e,f,g⟩:=hall k (List.mem_cons_of_mem _ hk);refine ⟨m',s',a,b,c,d,e,fun hx=>f ?_,fun hx hy=>?_⟩
    ·have:(P.restore m s).any m'=P.any m':=by unfold Pgr.any;rw [hR.same.1]
     rw [← this];exact hx
    ·rw [hR.hn];refine g ?_ ?_
     ·have:=hR.same.2.2;rw [hx] at this;simpa using this.symm
     ·have:(P.restore m s).base=P.base:=by rw [hR.same.1]
      rw [← this];exact hy
   have e2:P.restores K ((m:Int) :: l)=(P.restore m s).restores K l:=by show (P.restore ((m:Int)).toNat ((aC K (m:Int)).getD [])).restores K l=_;rw [e0,e1]
   have e3:yg K B ((m:Int) :: l)=yg K (fU B m s) l:=by show yg K (fU B (m:Int) ((aC K (m:Int)).getD [])) l=_;rw [e0]
   refine ⟨fun j k hj=>?_,by rw [e2,e3];exact ih.u,by rw [e2];exact hR.same.trans ih.same,by rw [e2,List.length_cons];have:=ih.lg;omega⟩;cases j with
   | zero=>
     injection hj with hj
     subst hj;exact ⟨by omega,by rw [e0,e1];exact hR.can⟩
   | succ j=>
     have:=ih.can j k hj;refine ⟨this.1,?_⟩;have e4:P.restores K (((m:Int) :: l).take (j+1))=(P.restore m s).restores K (l.take j):=by show (P.restore ((m:Int)).toNat ((aC K (m:Int)).getD [])).restores K (l.take j)=_;rw [e0,e1]
     rw [e4];exact this.2
theorem srtI_mem {l:List Int} {n:Int}:n ∈ bF l↔n ∈ l:=by unfold bF;exact (List.mergeSort_perm _ _).mem_iff
theorem ou {l:List Int} (h:l.Nodup):(bF l).Nodup:=by unfold bF;exact (List.mergeSort_perm _ _).nodup_iff.2 h
structure BackZ' (P:Pgr) (C:Int→By) (S:List (He × (Int→By))) (k:Nat) (K:List (Int × By)) (N':Nat) (B':Int→By):Prop where
 rs:∀ (j:Nat) (n:Int),(bF (K.map (·.1)))[j]?=some n→0≤n∧CanRestore ((P.backTo k).restores K ((bF (K.map (·.1))).take j)) n.toNat ((aC K n).getD [])
 u:Uz (P.back k K) C N' B'
 sv:SvZ (P.back k K).saves (S.take (k+1)) B' N'
 same:(P.backTo k).SameW (P.back k K)
 lg:aN (P.back k K).lg≤aN P.lg+80
 N:(P.saves.getD k gF).head.pages≤N'
theorem xy {P:Pgr} {C:Int→By} {N:Nat} {B:Int→By} {S:List (He × (Int→By))} {k:Nat} (h:Uz P C N B) (hsv:SvZ P.saves S B N) (hbz:P.busy=true) (hfew:aN P.lg≤14400) (hk:k<P.saves.length) {K:List (Int × By)} (hK:Mrg (P.saves.drop k).reverse K):∃ N' B',N'≤N∧BackZ' P C S k K N' B':=by
 obtain ⟨k1,k2,k3⟩:=iP hK fun s hs=>(hsv.im s (List.mem_of_mem_drop (List.mem_reverse.1 hs))).1
 rw [List.reverse_reverse] at k3;obtain ⟨v,hv⟩:∃ v,P.saves[k]?=some v:=⟨P.saves[k],List.getElem?_eq_getElem hk⟩;have hgd:P.saves.getD k gF=v:=by rw [List.getD_eq_getElem?_getD,hv];rfl
 have hvm:v ∈ P.saves:=List.mem_of_getElem? hv
 have hkey:∀ n:Int,n ∈ K.map (·.1)→∃ (m:Nat) (s:By),n=m∧1≤m∧m<80∧aC K n=some s∧s.length=232∧∃ u ∈ P.saves,∃ p ∈ u.im,p.1=(m:Int):=fun n hn=>by
  obtain ⟨p,hp,rfl⟩:=List.mem_map.1 hn;obtain ⟨s,hs,hps⟩:=k2 p hp;have hsm:s ∈ P.saves:=List.mem_of_mem_drop (List.mem_reverse.1 hs);obtain ⟨m,e,m1,m2,hl⟩:=(hsv.im s hsm).2 p hps;exact ⟨m,p.2,e,m1,m2,(bQ k1).2 hp,hl,s,hsm,p,hps,e⟩
 obtain ⟨sv',hsv'⟩:∃ sv',P.saves.take k ++ [⟨v.head,[]⟩]=sv':=⟨_,rfl⟩;have hQ:P.backTo k={ P with work:=v.head,saves:=sv' }:=by unfold Pgr.backTo;rw [hgd,hsv']
 have hsub:∀ s ∈ sv',s ∈ P.saves∨s=⟨v.head,[]⟩:=fun s hs=>by
  rw [← hsv'] at hs;rcases List.mem_append.1 hs with hs | hs
  ·exact .inl (List.mem_of_mem_take hs)
  ·exact .inr (List.mem_singleton.1 hs)
 have hpg:∀ s ∈ sv',s.head.pages≤N:=fun s hs=>by
  rcases hsub s hs with hs | hs
  ·exact hsv.pg s hs
  ·rw [hs];exact hsv.pg v hvm
 have hmx:=oN hpg;have hvin:(⟨v.head,[]⟩:Sv) ∈ sv':=by rw [← hsv'];simp
 have hU0:Uz (P.backTo k) C (AP sv') B:=by
  have h1:=(h.setSaves sv' fun hl s hs p hp m hpm hmb=>by
   obtain ⟨its,hm⟩:=h.jmode hl;rcases hsub s hs with hs | hs
   ·exact hm.img s hs p hp m hpm hmb
   ·rw [hs] at hp;exact absurd hp List.not_mem_nil).setWork v.head P.wrote
  rw [hQ];exact h1.less hmx
 have hRS:=kL (K:=K) (bF (K.map (·.1))) (P.backTo k) B hU0 (by rw [hQ];exact hbz) (by
  have h1:(bF (K.map (·.1))).length≤80:=by
   have:=gP (K:=bF (K.map (·.1))) (L:=(List.range 80).map fun i=>((i:Nat):Int)) (ou k1) fun n hn=>by
    obtain ⟨m,s,e,-,m2,-⟩:=hkey n (srtI_mem.1 hn);rw [e];exact List.mem_map.2 ⟨m,List.mem_range.2 m2,rfl⟩
   rwa [List.length_map,List.length_range] at this
  rw [hQ];show aN P.lg+_≤_
  omega) fun n hn=>by
   obtain ⟨m,s,e,m1,m2,hg,hl,u,hu,p,hp,hpm⟩:=hkey n (srtI_mem.1 hn);refine ⟨m,s,e,m1,m2,hg,hl,fun ha=>?_,fun a b=>?_⟩
   ·refine oN fun s hs=>?_
    have e5:(P.backTo k).saves=sv':=by rw [hQ]
    unfold Pgr.any at ha;rw [e5,List.any_eq_false] at ha;have:=ha s hs;unfold iz at this;rw [decide_eq_true_eq] at this;omega
   ·have a':P.lg=none:=by rw [hQ] at a;exact a
    have b':m<P.base:=by rw [hQ] at b;exact b
    obtain ⟨its,hm⟩:=h.jmode a';rw [hQ];exact hm.img u hu p hp m hpm b'
 have hlenK:(bF (K.map (·.1))).length≤80:=by
  have:=gP (K:=bF (K.map (·.1))) (L:=(List.range 80).map fun i=>((i:Nat):Int)) (ou k1) fun n hn=>by
   obtain ⟨m,s,e,-,m2,-⟩:=hkey n (srtI_mem.1 hn);rw [e];exact List.mem_map.2 ⟨m,List.mem_range.2 m2,rfl⟩
  rwa [List.length_map,List.length_range] at this
 have hB':∀ m:Nat,yg K B (bF (K.map (·.1))) m=dM (P.saves.drop k) m (B m):=fun m=>by
  rw [vG,← k3];by_cases hm:(m:Int) ∈ K.map (·.1)
  ·rw [if_pos (srtI_mem.2 hm)];obtain ⟨_,s,-,-,-,hg,-⟩:=hkey _ hm;rw [hg];rfl
  ·rw [if_neg fun x=>hm (srtI_mem.1 x),eu hm];rfl
 have hbk:P.back k K=(P.backTo k).restores K (bF (K.map (·.1))):=rfl;have hsaves:(P.back k K).saves=sv':=by rw [hbk,hRS.same.1,hQ]
 refine ⟨AP sv',yg K B (bF (K.map (·.1))),hmx,⟨hRS.can,by rw [hbk];exact hRS.u,?_,by rw [hbk];exact hRS.same,?_,?_⟩⟩
 ·rw [hsaves];have hlen:=hsv.len;refine ⟨?_,fun i s a hi ha=>?_,fun s hs=>?_,fun s hs=>sd hs,?_⟩
  ·rw [← hsv',List.length_append,List.length_take,List.length_take,List.length_singleton];omega
  ·have hik:i≤k:=by have:=cB ha;rw [List.length_take] at this;omega
   have ha':S[i]?=some a:=by rw [List.getElem?_take_of_lt (by omega)] at ha;exact ha
   have hdrop:sv'.drop i=(P.saves.take k).drop i ++ [⟨v.head,[]⟩]:=by rw [← hsv',List.drop_append_of_le_length (by rw [List.length_take];omega)]
   have hall:P.saves.drop i=(P.saves.take k).drop i ++ P.saves.drop k:=by
    conv=>lhs;rw [← List.take_append_drop k P.saves]
    rw [List.drop_append_of_le_length (by rw [List.length_take];omega)]
   obtain ⟨s0,hs0,hse⟩:∃ s0,P.saves[i]?=some s0∧s.head=s0.head:=by
    by_cases hik2:i<k
    ·rw [← hsv',List.getElem?_append_left (by rw [List.length_take];omega),List.getElem?_take_of_lt hik2] at hi;exact ⟨s,hi,rfl⟩
    ·have e:i=k:=by omega
     subst e;rw [← hsv',List.getElem?_append_right (by rw [List.length_take];omega),List.length_take,Nat.min_eq_left (by omega),Nat.sub_self] at hi;injection hi with hi
     exact ⟨v,hv,by rw [← hi]⟩
   obtain ⟨e1,e2⟩:=hsv.at_ i s0 a hs0 ha';refine ⟨hse.trans e1,fun m m1 m2=>?_⟩;rw [hse] at m2;rw [hdrop,cG,hB'];have:=e2 m m1 m2;rw [hall,cG] at this;exact this
  ·rcases hsub s hs with hs | hs
   ·exact hsv.im s hs
   ·rw [hs];exact ⟨List.nodup_nil,fun _ h=>absurd h List.not_mem_nil⟩
  ·have:=hsv.n16;rw [← hsv',List.length_append,List.length_take,List.length_singleton];omega
 ·have h1:=hRS.lg;have h2:(P.backTo k).lg=P.lg:=by rw [hQ]
  rw [h2] at h1;rw [hbk];omega
 ·rw [hgd];exact (sd hvin:(⟨v.head,[]⟩:Sv).head.pages≤_)
theorem dirty_mem {L:List On} {p:Pg}:p ∈ aK L↔∃ x ∈ L,x.2.2=true∧p=fH x:=by
 unfold aK;rw [(List.mergeSort_perm _ _).mem_iff,List.mem_map];constructor
 ·rintro ⟨x,hx,rfl⟩;obtain ⟨a,b⟩:=List.mem_filter.1 hx;exact ⟨x,a,b,rfl⟩
 ·rintro ⟨x,hx,hd,rfl⟩;exact ⟨x,List.mem_filter.2 ⟨hx,hd⟩,rfl⟩
theorem tK {L:List On} (h:(L.map (·.1)).Nodup):((aK L).map (·.n)).Nodup:=by unfold aK;rw [((List.mergeSort_perm _ _).map _).nodup_iff,List.map_map];exact h.sublist ((List.filter_sublist).map _)
theorem nS (L:List On):(aK L).length≤L.length:=by unfold aK;rw [List.length_mergeSort,List.length_map];exact List.length_filter_le _ _
structure LaysZ (P:Pgr) (l:List Pg):Prop where
 can:∀ (k:Nat) x,l[k]?=some x→0≤x.n∧CanLay (P.lays (l.take k)).d x.n.toNat (bs x.s)
 z:Dz (P.lays l).d
 eq:P.lays l={ P with d:=(P.lays l).d }
 now:∀ m,m≠aA→(P.lays l).d.now m=P.d.now m
 has:∀ m,m≠aA→(P.lays l).d.has m=P.d.has m
 on:∀ x ∈ l,∀ n:Nat,x.n=n→aF (P.lays l).d n (bs x.s)
 old:∀ (m:Nat) t,(∀ x ∈ l,x.n≠(m:Int))→aF P.d m t→aF (P.lays l).d m t
 life:(P.lays l).d.life=P.d.life
def qU (x:Pg):Prop:=∃ (n:Nat) (s:By),x.n=n∧n<80∧x.s=aj s∧s.length=232
theorem sj:∀ (l:List Pg) (P:Pgr),Dz P.d→(∀ x ∈ l,qU x)→(l.map (·.n)).Nodup→LaysZ P l
 | [],P,h,_,_=>⟨fun k x hx=>(by cases hx),h,rfl,fun _ _=>rfl,fun _ _=>rfl,fun x hx=>(by cases hx),fun _ _ _ h=>h,rfl⟩
 | x :: l,P,h,hok,hnd=>by
   obtain ⟨n,s,h1,h2,h3,h4⟩:=hok x (by simp);rw [List.map_cons,List.nodup_cons] at hnd;have hL:=wC h (n:=n) (s:=s) (by omega) h4;have e1:x.n.toNat=n:=by omega
   have e2:bs x.s=s:=by rw [h3,aR]
   have ih:=sj l { P with d:=P.d.lay n s } hL.z (fun y hy=>hok y (List.mem_cons_of_mem _ hy)) hnd.2;have e3:P.lays (x :: l)=({ P with d:=P.d.lay n s }:Pgr).lays l:=by show ({ P with d:=P.d.lay x.n.toNat (bs x.s) }:Pgr).lays l=_;rw [e1,e2]
   have hfw:=h.few;have hto:=h.total;rw [show LaysZ P (x :: l)↔LaysZ P (x :: l) from Iff.rfl];refine ⟨fun k y hy=>?_,by rw [e3];exact ih.z,?_,fun m hm=>by rw [e3,ih.now m hm];exact (hL.now m).trans (if_neg hm),fun m hm=>by rw [e3,ih.has m hm];exact hL.has m hm,fun y hy m hm=>?_,fun m t hm ho=>?_,by rw [e3,ih.life];exact lC _ _ _⟩
   ·cases k with
    | zero=>
      injection hy with hy
      subst hy;exact ⟨by omega,by rw [e1,e2];exact ⟨h.fine,fun _=>by show P.d.files.length<8;omega,by show (P.d.total:Int)+n+1≤P.d.room;rw [h.room];omega,by omega,h4⟩⟩
    | succ k=>
      have:=ih.can k y hy;have e4:P.lays ((x :: l).take (k+1))=({ P with d:=P.d.lay n s }:Pgr).lays (l.take k):=by show ({ P with d:=P.d.lay x.n.toNat (bs x.s) }:Pgr).lays (l.take k)=_;rw [e1,e2]
      rw [e4];exact this
   ·rw [e3];have:=ih.eq;generalize (({ P with d:=P.d.lay n s }:Pgr).lays l)=R at *;rw [this]
   ·rw [e3];rcases List.mem_cons.1 hy with rfl | hy
    ·have hmn:m=n:=by omega
     subst hmn;rw [e2];refine ih.old m s (fun z hz e=>hnd.1 ?_) (oR hL);rw [h1,← e];exact List.mem_map.2 ⟨z,hz,rfl⟩
    ·exact ih.on y hy m hm
   ·rw [e3];refine ih.old m t (fun z hz=>hm z (List.mem_cons_of_mem _ hz)) (ku hL (fun e=>hm x (by simp) (by rw [h1,e])) ho)
def bS (ps:List Pg):List Ft:=ps.map fun x=>(x.n.toNat,bs x.s,x.n == 0)
structure AddsZ (base mk:Nat) (C:Int→By) (P:Pgr) (its:List Ft) (ps:List Pg):Prop where
 can:∀ (k:Nat) x,ps[k]?=some x→0≤x.n∧x.n<4096∧(bs x.s).length=232∧∃ fr,(P.adds (ps.take k)).lg=some fr∧CanAdd (P.adds (ps.take k)).d fr
 z:Dz (P.adds ps).d
 eq:P.adds ps={ P with d:=(P.adds ps).d,lg:=(P.adds ps).lg }
 lz:∃ fr,(P.adds ps).lg=some fr∧LZ base C (P.adds ps).d fr (its ++ bS ps) mk
 now:∀ m,m≠bf→(P.adds ps).d.now m=P.d.now m
 has:∀ m,m≠bf→(P.adds ps).d.has m=P.d.has m
 life:(P.adds ps).d.life=P.d.life
theorem xF {base mk:Nat} {C:Int→By}:∀ (ps:List Pg) (P:Pgr) (fr:List Fr) (its:List Ft),Dz P.d→P.lg=some fr→LZ base C P.d fr its mk→its.length+ps.length<15000→(∀ x ∈ ps,qU x)→AddsZ base mk C P its ps
 | [],P,fr,its,h,hl,hz,_,_=>⟨fun k x hx=>(by cases hx),h,rfl,⟨fr,hl,by show LZ base C P.d fr (its ++ []) mk;rw [List.append_nil];exact hz⟩,fun _ _=>rfl,fun _ _=>rfl,rfl⟩
 | x :: ps,P,fr,its,h,hl,hz,hn,hok=>by
   rw [List.length_cons] at hn;obtain ⟨n,s,h1,h2,h3,h4⟩:=hok x (by simp);have hA:=hz.add h (by omega) (n:=n) (s:=s) (by omega) h4 (x.n == 0);have e1:x.n.toNat=n:=by omega
   have e2:bs x.s=s:=by rw [h3,aR]
   have eA:P.add n s (x.n == 0)={ P with d:=dI P.d fr n s (x.n == 0),lg:=some (cE fr n s (x.n == 0)) }:=by unfold Pgr.add;rw [hl]
   have ih:=xF ps { P with d:=dI P.d fr n s (x.n == 0),lg:=some (cE fr n s (x.n == 0)) } _ (its ++ [(n,s,x.n == 0)]) hA.z rfl hA.lz (by rw [List.length_append,List.length_singleton];omega) (fun y hy=>hok y (List.mem_cons_of_mem _ hy))
   have e3:∀ qs,P.adds (x :: qs)=({ P with d:=dI P.d fr n s (x.n == 0),lg:=some (cE fr n s (x.n == 0)) }:Pgr).adds qs:=fun qs=>by
    show (P.add x.n.toNat (bs x.s) (x.n == 0)).adds qs=_;rw [e1,e2,eA]
   have ei:its ++ bS (x :: ps)=its ++ [(n,s,x.n == 0)] ++ bS ps:=by rw [List.append_assoc];show its ++ ((x.n.toNat,bs x.s,x.n == 0) :: bS ps)=_;rw [e1,e2];rfl
   refine ⟨fun k y hy=>?_,by rw [e3];exact ih.z,?_,by rw [e3,ei];exact ih.lz,fun m hm=>by rw [e3,ih.now m hm];exact hA.now m hm,fun m hm=>by rw [e3,ih.has m hm];exact hA.has m hm,by rw [e3,ih.life];exact oa _ _ _ _ _⟩
   ·cases k with
    | zero=>
      injection hy with hy
      subst hy;exact ⟨by omega,by omega,by rw [e2];exact h4,fr,hl,hA.can⟩
    | succ k=> have:=ih.can k y hy;rw [List.take_succ_cons,e3];exact this
   ·rw [e3];have:=ih.eq;generalize (({ P with d:=dI P.d fr n s (x.n == 0),lg:=some (cE fr n s (x.n == 0)) }:Pgr).adds ps)=R at *;rw [this]
theorem lA {its:List Ft} {ps:List Pg} {m:Nat}:(∀ x ∈ ps,qU x)→(∀ x ∈ ps,x.n≠(m:Int))→dp (its ++ bS ps) m=dp its m:=by
 induction ps generalizing its with
 | nil=>intro _ _;show dp (its ++ []) m=_;rw [List.append_nil]
 | cons x ps ih=>
   intro hok hne;obtain ⟨n,s,h1,-⟩:=hok x (by simp);have e:its ++ bS (x :: ps)=its ++ [(x.n.toNat,bs x.s,x.n == 0)] ++ bS ps:=by rw [List.append_assoc];rfl
   have hx:=hne x (by simp);rw [e,ih (fun y hy=>hok y (List.mem_cons_of_mem _ hy)) (fun y hy=>hne y (List.mem_cons_of_mem _ hy)),ep,if_neg];show x.n.toNat≠m;omega
theorem mF {its:List Ft} {ps:List Pg} {m:Nat} {x:Pg}:(∀ x ∈ ps,qU x)→(ps.map (·.n)).Nodup→x ∈ ps→x.n=(m:Int)→dp (its ++ bS ps) m=some (bs x.s):=by
 induction ps generalizing its with
 | nil=>intro _ _ h;cases h
 | cons y ps ih=>
   intro hok hnd hx hm;rw [List.map_cons,List.nodup_cons] at hnd;have e:its ++ bS (y :: ps)=its ++ [(y.n.toNat,bs y.s,y.n == 0)] ++ bS ps:=by rw [List.append_assoc];rfl
   rcases List.mem_cons.1 hx with rfl | hx
   ·rw [e,lA (fun z hz=>hok z (List.mem_cons_of_mem _ hz)) fun z hz e=>hnd.1 (by rw [hm,← e];exact List.mem_map.2 ⟨z,hz,rfl⟩),ep,if_pos];show x.n.toNat=m;omega
   ·rw [e];exact ih (fun z hz=>hok z (List.mem_cons_of_mem _ hz)) hnd.2 hx hm
def pn (p:Nat) (ca:List On) (l:List Pg):List On:=l.foldl (fun ca x=>if ez p x then bx x.n ca else without x.n ca) ca
theorem sU:∀ (l:List Pg) (P:Pgr),P.tidy l={ P with ca:=pn P.head.pages P.ca l }
 | [],_=>rfl
 | x :: l,P=>by
   show (P.tidy1 x).tidy l=_;rw [sU l];rfl
theorem om:∀ (l:List Pg) (p:Nat) (ca:List On) (y:On),y ∈ pn p ca l→∃ x ∈ ca,y.1=x.1∧y.2.1=x.2.1∧(y.2.2=true→x.2.2=true∧∀ z ∈ l,z.n≠x.1)∧∀ z ∈ l,z.n=x.1→x.1<(p:Int)
 | [],_,_,y,h=>⟨y,h,rfl,rfl,fun h=>⟨h,fun _ h=>absurd h List.not_mem_nil⟩,fun _ h=>absurd h List.not_mem_nil⟩
 | z :: l,p,ca,y,h=>by
   obtain ⟨x1,hx1,e1,e2,e3,e4⟩:=om l p _ y h;simp only at hx1
   split at hx1
   ·rename_i hz
    have hzp:z.n<(p:Int):=of_decide_eq_true hz;unfold bx at hx1;obtain ⟨x,hx,rfl⟩:=List.mem_map.1 hx1;by_cases hn:x.1=z.n
    ·rw [if_pos (by simpa using hn)] at e1 e2 e3 e4;refine ⟨x,hx,e1,e2,fun hy=>(by cases (e3 hy).1),fun u hu hux=>?_⟩;rcases List.mem_cons.1 hu with rfl | hu
     ·omega
     ·exact e4 u hu hux
    ·rw [if_neg (by simpa using hn)] at e1 e2 e3 e4;refine ⟨x,hx,e1,e2,fun hy=>⟨(e3 hy).1,fun u hu=>?_⟩,fun u hu hux=>?_⟩
     ·rcases List.mem_cons.1 hu with rfl | hu
      ·exact fun e=>hn e.symm
      ·exact (e3 hy).2 u hu
     ·rcases List.mem_cons.1 hu with rfl | hu
      ·exact (hn hux.symm).elim
      ·exact e4 u hu hux
   ·obtain ⟨hx,hn⟩:=vmem_without.1 hx1;refine ⟨x1,hx,e1,e2,fun hy=>⟨(e3 hy).1,fun u hu=>?_⟩,fun u hu hux=>?_⟩
    ·rcases List.mem_cons.1 hu with rfl | hu
     ·exact fun e=>hn e.symm
     ·exact (e3 hy).2 u hu
    ·rcases List.mem_cons.1 hu with rfl | hu
     ·exact (hn hux.symm).elim
     ·exact e4 u hu hux
theorem sG (n:Int) (ca:List On):(bx n ca).map (·.1)=ca.map (·.1):=by
 unfold bx;rw [List.map_map];refine List.map_congr_left fun x _=>?_
 show (if x.1 == n then (x.1,x.2.1,false) else x).1=x.1
 split <;> rfl
theorem mN:∀ (l:List Pg) (p:Nat) (ca:List On),(ca.map (·.1)).Nodup→((pn p ca l).map (·.1)).Nodup∧(pn p ca l).length≤ca.length
 | [],_,_,h=>⟨h,Nat.le_refl _⟩
 | z :: l,p,ca,h=>by
   show ((pn p (if ez p z then bx z.n ca else without z.n ca) l).map (·.1)).Nodup∧(pn p (if ez p z then bx z.n ca else without z.n ca) l).length≤_
   split
   ·have:=mN l p (bx z.n ca) (by rw [sG];exact h);rw [show (bx z.n ca).length=ca.length by unfold bx;rw [List.length_map]] at this;exact this
   ·have:=mN l p (without z.n ca) (fT h);exact ⟨this.1,Nat.le_trans this.2 (List.length_filter_le _ _)⟩
end Go.Proofs.YtdmhbgpejppbkaaGreat
