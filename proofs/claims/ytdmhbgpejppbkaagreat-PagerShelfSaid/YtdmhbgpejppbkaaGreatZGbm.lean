/- maps.Copy of images; slices.Backward over savepoints. slices.Backward over savepoints. pager: memory behind Back's stores. -/
import Derived.Test.YtdmhbgpejppbkaaGreatZGbl
import Derived.Lib.SlMapMerge
import Derived.RangeFuncCalls
import Derived.RangeFuncWrites
import Derived.Lib.SlKeysI
import Derived.Shelf.AbstractIn
import Derived.RangeFuncMany
import Derived.RangeFuncStops
import Derived.RangeFuncLeaves
import Derived.OwnWalkIn
import Derived.TacticsInMore
import Derived.RegionIn
import Derived.LoopNIn
import Derived.LoopIn
set_option maxRecDepth 100000
set_option maxHeartbeats 4000000
namespace Go.Proofs.YtdmhbgpejppbkaaGreat
open Go.Lib (hid)
open Go.RowKit Go.Maps Go.Shelf
def tM (q:Int × By):Lit × DataW Unit:=(bR q.1,qV q.2)
def eP (K K2:List (Int × By)):List (Int × By):=K2.foldl (fun K q=>aV K q.1 q.2) K
theorem kZ {D:DataW Unit}:∀ (K2:List (Int × By)) {D:DataW Unit} {K:List (Int × By)},MpOf bR qV D K→MpOf bR qV ((K2.map tM).foldl (fun D p=>D.put p.1 p.2) D) (eP K K2)
 | [],_,_,h=>h
 | q :: K2,_,_,h=>kZ (D:=D) K2 (h.put sD q.1 q.2)
theorem kG {α β:Type}:∀ {L:List (α × β)},L.Pairwise (fun p q=>p.1≠q.1)→∀ {x y:α × β},x ∈ L→y ∈ L→x.1=y.1→x=y
 | [],_,_,_,hx,_,_=>by cases hx
 | z :: L,hn,x,y,hx,hy,e=>by
   rw [List.pairwise_cons] at hn;rcases List.mem_cons.1 hx with rfl | hx' <;> rcases List.mem_cons.1 hy with rfl | hy'
   ·rfl
   ·exact (hn.1 _ hy' e).elim
   ·exact (hn.1 _ hx' e.symm).elim
   ·exact kG hn.2 hx' hy' e
theorem qv {w:World} {g n:Nat} {D:DataW Unit} {K:List (Int × By)} (hm:MpOf bR qV D K) (ho:w.ownsMap Tryz.prog 3 sx g n D):∃ K2:List (Int × By),K2.Perm K∧D=.map (K2.map tM):=by
 obtain ⟨es,hD,hpw,hlit⟩:=ho.entries bQ;subst hD
 have hint:∀ p ∈ es,∃ x,p.1=.int .i64 x:=fun p hp=>by
  obtain ⟨es',hD',hko⟩:=ho.keysOf;obtain rfl:es=es':=by simpa using hD'
  obtain ⟨v,hv⟩:=hko p hp;obtain ⟨x,_,hx,_⟩:=Maps.keyOf_i64 Tryz.underlying3 hv;exact ⟨x,hx⟩
 have hsame:∀ p ∈ es,has (.map es) p.1=true:=fun p hp=>by
  rw [has_eq,List.any_eq_true];exact ⟨p,hp,by obtain ⟨x,hx⟩:=hint p hp;rw [hx];simp [Lit.sameKey]⟩
 have hat:∀ p ∈ es,∀ z,(DataW.map es).atKey p.1 z=p.2:=fun p hp z=>by
  unfold DataW.atKey;cases hf:es.find? (fun q=>q.1.sameKey p.1) with
  | none=> have:=List.find?_eq_none.1 hf p hp;obtain ⟨x,hx⟩:=hint p hp;rw [hx] at this;simp [Lit.sameKey] at this
  | some q=>
    have h1:=List.mem_of_find?_eq_some hf;have h2:=List.find?_some hf;obtain ⟨x,hx⟩:=hint p hp;obtain ⟨y,hy⟩:=hint q h1;rw [hx,hy] at h2;have e:y=x:=by simpa [Lit.sameKey] using h2
    have:q=p:=kG hpw h1 hp (by rw [hx,hy,e]);simp only [hf];exact congrArg Prod.snd this
 have hq:∀ p ∈ es,∃ q ∈ K,p=tM q:=fun p hp=>by
  by_cases hex:∃ q ∈ K,p.1=bR q.1
  ·obtain ⟨q,hqK,e⟩:=hex;refine ⟨q,hqK,Prod.ext e ?_⟩;have h1:=hm.yes q hqK (.map []);rw [← e,hat p hp] at h1;exact h1
  ·have:=hm.no p.1 fun q hq e=>hex ⟨q,hq,e⟩
   rw [hsame p hp] at this;cases this
 obtain ⟨K2,rfl,hK2⟩:∃ K2:List (Int × By),es=K2.map tM∧∀ q ∈ K2,q ∈ K:=by
  clear hpw hlit hsame hat hm ho hint
  induction es with
  | nil=>exact ⟨[],rfl,fun _ h=>by cases h⟩
  | cons p es ih=>
    obtain ⟨q,h1,rfl⟩:=hq p (by simp);obtain ⟨K2,rfl,h2⟩:=ih fun p hp=>hq p (List.mem_cons_of_mem _ hp)
    exact ⟨q :: K2,rfl,fun x hx=>(List.mem_cons.1 hx).elim (fun e=>e ▸ h1) (h2 x)⟩
 refine ⟨K2,?_,rfl⟩;have hn1:K2.Nodup:=by rw [List.pairwise_map] at hpw;exact hpw.imp fun h e=>h (by rw [e])
 have hn2:K.Nodup:=List.Pairwise.of_map _ (fun a b hh e=>hh (congrArg _ e)) hm.nd;refine (List.perm_ext_iff_of_nodup hn1 hn2).2 fun q=>⟨hK2 q,fun hqK=>?_⟩
 have h1:=hm.has sD q.1;rw [bD hm.nd (show (q.1,q.2) ∈ K from hqK)] at h1;have h1:has (DataW.map (K2.map tM)) (bR q.1)=true:=h1;rw [has_eq,List.any_eq_true] at h1;obtain ⟨p,hp,hs⟩:=h1;obtain ⟨q',hq',rfl⟩:=List.mem_map.1 hp;have e:q'.1=q.1:=by simpa [tM,bR,Lit.sameKey] using hs
 have e2:=bD hm.nd (show (q'.1,q'.2) ∈ K from hK2 q' hq');rw [e,bD hm.nd (show (q.1,q.2) ∈ K from hqK)] at e2;injection e2 with e2
 have:q=q':=Prod.ext e.symm e2;exact this ▸ hq'
theorem mr (K K2:List (Int × By)):(eP K K2).length≤K.length+K2.length:=by
 induction K2 generalizing K with
 | nil=>exact Nat.le_refl _
 | cons q K2 ih=> have h1:=ih (aV K q.1 q.2);have h2:=ik (K:=K) (a:=q.1) (b:=q.2);show (eP (aV K q.1 q.2) K2).length≤_;rw [List.length_cons];omega
theorem oL (gd gs:Nat) (w:World) {K K2:List (Int × By)} (hd:fI w gd K) (hs:fI w gs K2) (hne:gd≠gs) (hroom:K.length+K2.length≤1000000):
  Calls Tryz.prog 96 #[.map (some gd),.map (some gs)] w fun e w'=>e=.returned (.tuple #[])∧∃ K3,K3.Perm K2∧fI w' gd (eP K K3)∧w.grownBy w' (some gd):=by
 obtain ⟨Dd,od,md⟩:=hd;obtain ⟨Ds,os,ms⟩:=hs;obtain ⟨K3,hp,hD⟩:=qv ms os;have hsz:Maps.size Ds=K2.length:=ms.size;refine (AnyX.maps_Copy Tryz.copyI bQ sx gd gs K.length K2.length Dd Ds w od os hne (by rw [hsz];unfold maxLen;omega)).mono ?_;rintro e w' ⟨rfl,h1,-,hg⟩;refine ⟨rfl,K3,hp,?_,hg⟩;have hm:MpOf bR qV (Lib.mergeD Dd Ds) (eP K K3):=by rw [hD];exact kZ (D:=Dd) K3 md
 exact ⟨_,eM h1 hm.size,hm⟩
def ux (zs:List (He × Nat)) (i:Fin zs.length):Array Value:=#[.int .i64 i.1,pq (zs[i.1]'i.2)]
def oQ (n:Nat):(d:Nat)→d≤n→List (Fin n)
 | 0,_=>[]
 | d+1,h=>oQ n d (Nat.le_of_succ_le h) ++ [⟨n - (d+1),by omega⟩]
theorem kw (n:Nat):∀ (d:Nat) (h:d≤n),(oQ n d h).length=d
 | 0,_=>rfl
 | d+1,h=>by unfold oQ;rw [List.length_append,kw n d];rfl
structure BwAt (W:World) (Bs b off cap:Nat) (zs:List (He × Nat)):Prop where
 box:W.cell? ⟨Bs,0,none⟩=some (.slice (some ⟨b,off,none⟩) zs.length cap)
 row:∀ (i:Nat) (hi:i<zs.length) (j:Nat) (u:Value),(je zs[i])[j]?=some u→W.cell? ⟨b,off+i * 7+j,none⟩=some u
theorem sb (F:Fence) (n:Nat) (h7:F.fn 143) (hro:F.round=none) (hn:1≤n) (l Bs b off cap:Nat) (zs:List (He × Nat)) (hlen:zs.length≤1000) (Kp:World→World→Prop) (hKt:∀ {A B C:World},Kp A B→Kp B C→Kp A C) (J Jx:List (Fin zs.length)→World→Prop)
  (hY:∀ pre x W,J pre W→pre.length<zs.length→YieldAt F (n - 1) Tryz.prog l (ux zs x) W fun e W'=>(e=.returned (.bool true)∧J (pre ++ [x]) W'∧Kp W W')∨(e=.returned (.bool false)∧Jx (pre ++ [x]) W'))
  (W:World) (hK0:Kp W W) (hat:∀ W',Kp W W'→BwAt W' Bs b off cap zs) (h0:J [] W):
  CallsIn F n Tryz.prog 143 #[.func (.yield l) #[] #[],.pointer (some ⟨Bs,0,none⟩)] W fun e W'=>(∃ v,e=.returned v)∧((∃ ys,ys=oQ zs.length zs.length (Nat.le_refl _)∧J ys W')∨(∃ pre,Jx pre W')):=by
 have HAT:=hid hat;have hbx:=(hat W hK0).box;have hwl:IntKind.i64.wrap ((zs.length:Int) - 1)=(zs.length:Int) - 1:=by rw [IntKind.wrap_i64];omega
 clear hat;refine callsIn_of_wp Tryz.func143 rfl h7 ?_ hro;simp only [Tryz.ntmps143,List.size_toArray,List.length_cons,List.length_nil,Nat.reduceAdd,Nat.reduceSub,Array.replicate_succ,Array.replicate_zero,List.push_toArray,List.append_toArray,List.nil_append,List.cons_append];gi_wp2;gi_loopw [3] (fun iv wr=>∃ (d:Nat) (hd:d≤zs.length),iv=.int .i64 ((zs.length:Int) - 1 - d)∧J (oQ zs.length d hd) wr∧Kp W wr) (fun iv _=>(intOf iv+1).toNat)
 case atStart=>exact ⟨0,Nat.zero_le _,by simp,h0,hK0⟩
 case round=>
  obtain ⟨d,hd,rfl,hJs,hnx⟩:=hrel;by_cases hdl:d=zs.length
  ·subst hdl;have hiv:((zs.length:Int) - 1 - zs.length)=-1:=by omega
   rw [hiv];gi_wp2;go_end0;exact ⟨⟨_,rfl⟩,.inl ⟨_,rfl,hJs⟩⟩
  ·have hd1:d+1≤zs.length:=by omega
   obtain ⟨i,hi2⟩:∃ i,i=zs.length - (d+1):=⟨_,rfl⟩;have hi:i<zs.length:=by omega
   have hup:oQ zs.length (d+1) hd1=oQ zs.length d hd ++ [⟨i,hi⟩]:=by subst hi2;rfl
   obtain ⟨fn,tmps,assign,body,hy,hR⟩:=hY _ ⟨i,hi⟩ wr hJs (by rw [kw];omega);have hA:=HAT.out wr hnx;have hbw:=hA.box;have hrow:=hA.row i hi;have hiv:((zs.length:Int) - 1 - d)=(i:Int):=by omega
   have hiv2:(i:Int) - 1=((zs.length:Int) - 1 - ((d+1:Nat):Int)):=by omega
   have HI:=hid (And.intro hd1 (And.intro hi hiv2));rw [← hup] at hR;unfold ux at hy;simp only at hy;generalize zs[i]=x at *;have e0:wr.cell? ⟨b,off+i * 7,none⟩=some (.int .i64 x.1.mode):=hrow 0 _ rfl;have e1:wr.cell? ⟨b,off+i * 7+1,none⟩=some (.int .i64 x.1.pages):=hrow 1 _ rfl;have e2:wr.cell? ⟨b,off+i * 7+2,none⟩=some (.int .i64 x.1.trunk):=hrow 2 _ rfl;have e3:wr.cell? ⟨b,off+i * 7+3,none⟩=some (.int .i64 x.1.spare):=hrow 3 _ rfl;have e4:wr.cell? ⟨b,off+i * 7+4,none⟩=some (.int .i64 x.1.root):=hrow 4 _ rfl;have e5:wr.cell? ⟨b,off+i * 7+5,none⟩=some (.int .u64 x.1.change):=hrow 5 _ rfl;have e6:wr.cell? ⟨b,off+i * 7+6,none⟩=some (.map (some x.2)):=hrow 6 _ rfl;have hi0:(0:Int)≤(i:Int):=by omega
   have hi1:(i:Int)<(zs.length:Int):=by omega
   have hwi:IntKind.i64.wrap ((i:Int) - 1)=(i:Int) - 1:=by rw [IntKind.wrap_i64];omega
   rw [hiv];unfold pq at hy;clear hrow hA hJs hup hi2 hiv2 hiv hdl;gi_wp2;refine hR.mono ?_;rintro e W3 (⟨rfl,hJ3,hk3⟩ | ⟨rfl,hJx3⟩)
   ·gi_wp2;go_roundw
    case rel=>exact ⟨d+1,HI.out.1,by rw [HI.out.2.2],hJ3,hKt hnx hk3⟩
    case measure=>simp [intOf]
   ·gi_wp2;refine bodyPost_ret (results_none rfl _ _ _) rfl ?_;exact ⟨⟨_,rfl⟩,.inr ⟨_,hJx3⟩⟩
def BwK (n₀ Bs:Nat) (W W':World):Prop:=Below n₀ W W'∧∀ c t,W.heap[Bs]?=some (.cells c t (0,0))→W'.heap[Bs]?=some (.cells c t (0,0))
theorem BwK.trans {n₀ Bs:Nat} {A B C:World} (h:BwK n₀ Bs A B) (k:BwK n₀ Bs B C):BwK n₀ Bs A C:=⟨h.1.trans k.1,fun c t e=>k.2 c t (h.2 c t e)⟩
theorem BwK.put {n₀ Bs:Nat} {w:World} (hn:n₀≤w.heap.size) (W:World) (l:Nat) (o o':Obj) (hl:w.heap.size≤l) (h:W.heap[l]?=some o) (h1:o.isCells=false) (h2:o.isWalk=false):BwK n₀ Bs W (W.putObj l o'):=by
 refine ⟨belowK_b hn W l o o' hl h h1 h2,fun c t e=>?_⟩;have hne:l≠Bs:=fun e2=>by rw [e2,e] at h;injection h with h;rw [← h] at h1;cases h1
 exact ((grownBy_putObj' W l o').block Bs (aK e) (fun e2=>by injection e2 with e2;exact hne e2.symm)).trans e
theorem oP (F:Fence) (n:Nat) (h7:F.fn 143) (hro:F.round=none) (hn:1≤n) (Bs n₀ b off cap:Nat) (zs:List (He × Nat)) (hlen:zs.length≤1000) (w:World) (hb:b<n₀) (hn0:n₀≤w.heap.size)
  (hbox:w.heap[Bs]?=some (.cells #[.slice (some ⟨b,off,none⟩) zs.length cap] 75 (0,0))) (hrow:∀ (i:Nat) (hi:i<zs.length) (j:Nat) (u:Value),(je zs[i])[j]?=some u→w.cell? ⟨b,off+i * 7+j,none⟩=some u):
  SeqStopsK F n Tryz.prog 143 #[.pointer (some ⟨Bs,0,none⟩)] (ux zs) (BwK n₀ Bs) (fun ys=>ys=oQ zs.length zs.length (Nat.le_refl _)) (fun _=>True) zs.length w:=fun l J Jx W hW _ _ hY h0=>
 (sb F n h7 hro hn l Bs b off cap zs hlen (BwK n₀ Bs) BwK.trans J Jx hY W ⟨Below.refl _ _,fun _ _ e=>e⟩ (fun W' hk=>⟨by
   have h1:W.heap[Bs]?=_:=(hW.block Bs (aK hbox)).trans hbox;have h2:=hk.2 _ _ h1;exact aa h2 0,fun i hi j u hu=>(hk.1.cell (p:=⟨b,off+i * 7+j,none⟩) hb).trans ((hW.cell (p:=⟨b,off+i * 7+j,none⟩) (by simp only;omega)).trans (hrow i hi j u hu))⟩) h0).mono fun _ _ ⟨h1,h2⟩=>⟨h1,h2.elim .inl fun ⟨p,hp⟩=>.inr ⟨p,trivial,hp⟩⟩
theorem rZ (v:Value) (w:World) (hv:∃ A n c,v=.slice A n c):
  Calls Tryz.prog 95 #[v] w fun e w'=>e=.returned (.func (.func 143) #[] #[.pointer (some ⟨w.heap.size,0,none⟩)])∧w'=w.alloc (.cells #[v] 75):=by
 obtain ⟨A,n,c,rfl⟩:=hv;go_enter Tryz.func95,Tryz.ntmps95;go_wp2_with fail;go_ret;exact ⟨rfl,rfl⟩
end Go.Proofs.YtdmhbgpejppbkaaGreat
namespace Go.Proofs.YtdmhbgpejppbkaaGreat
open Go.RowKit Go.Maps
def jR:Sv:=⟨⟨0,0,0,0,0,0⟩,[]⟩
def Pgr.backTo (P:Pgr) (k:Nat):Pgr:={ P with work:=(P.saves.getD k jR).head,saves:=(P.saves.take k) ++ [⟨(P.saves.getD k jR).head,[]⟩] }
theorem fJ {α β:Type}:∀ (k:Nat) (l:List α) (r:List β),(l.take k).zip (r.take k)=(l.zip r).take k
 | 0,_,_=>by simp
 | k+1,[],_=>by simp
 | k+1,_ :: _,[]=>by simp
 | k+1,a :: l,b :: r=>by simp only [List.take_succ_cons,List.zip_cons_cons,fJ k l r]
theorem oA (xs:List (He × Nat)) {k:Nat} (hk:k<xs.length) (g:Nat):((xs.take (k+1)).flatMap je).set (k * 7+6) (.map (some g))=(xs.take k ++ [(xs[k].1,g)]).flatMap je:=by
 rw [List.take_succ_eq_append_getElem hk,List.flatMap_append,List.flatMap_append];have hl:((xs.take k).flatMap je).length=k * 7:=by rw [di je 7 cN,List.length_take,Nat.min_eq_left (by omega)]
 rw [List.set_append_right _ _ (by omega),hl,Nat.add_sub_cancel_left];rfl
theorem SvIs.base {w:World} {v:Value} {gs:List Nat} {l:List Sv} (h:SvIs w v gs l) {k:Nat} (hk:l.length=k+1):∃ b c,v=.slice (some ⟨b,0,none⟩) (k+1) c∧k+1≤c∧b<w.heap.size:=by
 have hz:((l.map (·.head)).zip gs).length=k+1:=by rw [List.length_zip,List.length_map,h.len,Nat.min_self,hk]
 obtain ⟨A,c,hv,hc⟩:=cq h.row;rw [hz] at hv hc;rcases h.row.2 with ⟨hv2,h0⟩ | ⟨g,cap,cur,hv2,hb,hg,hn,hm,hcs,ht⟩
 ·omega
 ·rw [hv] at hv2;injection hv2 with e1 e2 e3
  exact ⟨g,c,by rw [hv,e1],hc,af hg⟩
theorem SvIs.row7 {w:World} {b c m:Nat} {gs:List Nat} {l:List Sv} (h:SvIs w (.slice (some ⟨b,0,none⟩) (m+1) c) gs l) {i:Nat} (hi:i<((l.map (·.head)).zip gs).length) (j:Nat) (u:Value) (hu:(je ((l.map (·.head)).zip gs)[i])[j]?=some u):w.cell? ⟨b,i * 7+j,none⟩=some u:=by
 obtain ⟨b',off,c',he,-,hc⟩:=(h.row.sl cN).at1 hi;injection he with e1 _ _
 injection e1 with e1
 injection e1 with e1 e2 _
 subst e1 e2;have:=hc j u hu
 rwa [Nat.zero_add] at this
section
variable {w w1 w2 w3:World} {L:PgL} {P:Pgr} {b c m k gN:Nat}
theorem SvIs.back {gs:List Nat} {l:List Sv} (h:SvIs w (.slice (some ⟨b,0,none⟩) (m+1) c) gs l) (hl:l.length=m+1) (hk:k≤m) (hg:w.heap.size≤gN) (hb:Below w.heap.size w w1) (hm:fI w1 gN []):
  SvIs (w1.setCell ⟨b,k * 7+6,none⟩ (.map (some gN))) (.slice (some ⟨b,0,none⟩) (k+1) c) (gs.take k ++ [gN]) (l.take k ++ [⟨(l.getD k jR).head,[]⟩]):=by
 have hgl:=h.len;have hz:((l.map (·.head)).zip gs).length=m+1:=by rw [List.length_zip,List.length_map,hgl,Nat.min_self,hl]
 have hkl:k<l.length:=by omega
 have hd:l.getD k jR=l[k]:=by rw [List.getD_eq_getElem?_getD,List.getElem?_eq_getElem hkl,Option.getD_some]
 have hbs:b<w.heap.size:=h.lt (.inl rfl);have hc:Ch (fun j=>j=b) w1 (w1.setCell ⟨b,k * 7+6,none⟩ (.map (some gN))):=(Ch.refl (fun j=>j=b) w1).setCell (p:=⟨b,k * 7+6,none⟩) rfl _;have hsz:=hb.size;have hgi:∀ j ∈ gs,j<w.heap.size:=fun j hj=>h.lt (.inr hj)
 have hlt:(gs.take k).length=k:=by rw [List.length_take];omega
 have hlt2:(l.take k).length=k:=by rw [List.length_take];omega
 refine ⟨?_,by simp [hlt,hlt2],fun p hp=>?_,?_,fun j hj e=>?_⟩
 ·have h1:=(h.row.below hb).take' cN (i:=k+1) (by omega);have hl1:(((l.map (·.head)).zip gs).take (k+1)).length=k+1:=by rw [List.length_take];omega
  unfold Own at h1;rw [hl1] at h1;have h2:=World.ownsRow.stored h1 (k * 7+6) (.map (some gN));rw [oA _ (by omega)] at h2;have e:((l.take k ++ [(⟨(l.getD k jR).head,[]⟩:Sv)]).map (·.head)).zip (gs.take k ++ [gN])=((l.map (·.head)).zip gs).take k ++ [(((l.map (·.head)).zip gs)[k].1,gN)]:=by rw [List.map_append,List.zip_append (by rw [List.length_map,hlt,hlt2]),List.map_take,hd,fJ];congr 1;simp
  rw [e];have e2:k+1=(((l.map (·.head)).zip gs).take k ++ [(((l.map (·.head)).zip gs)[k].1,gN)]).length:=by rw [List.length_append,List.length_take];simp only [List.length_cons,List.length_nil];omega
  have h3:=h2.1;unfold Own;rw [← e2];exact h3
 ·rw [List.zip_append (by rw [hlt,hlt2])] at hp;rcases List.mem_append.1 hp with hp | hp
  ·rw [fJ] at hp;have hp:=List.mem_of_mem_take hp;have h1:=h.im p hp;exact (h1.ch (S:=fun _=>False) (Ch.of_below hb) id).ch hc fun e=>h.ne _ (List.of_mem_zip hp).1 (by rw [e];rfl)
  ·simp only [List.zip_cons_cons,List.zip_nil_right,List.mem_singleton] at hp;rw [hp];exact hm.ch hc fun e=>by omega
 ·rw [List.nodup_append];exact ⟨h.nd.sublist (List.take_sublist _ _),by simp,fun x hx y hy e=>by rw [List.mem_singleton.1 hy] at e;have:=hgi x (List.mem_of_mem_take hx);omega⟩
 ·have e:b=j:=by injection e
  rcases List.mem_append.1 hj with hj | hj
  ·exact h.ne j (List.mem_of_mem_take hj) (by rw [← e];rfl)
  ·rw [List.mem_singleton.1 hj] at e;omega
def nk (w:World) (g:Nat) (h:He) (v:Value):World:=((((((w.setCell ⟨g,15,none⟩ (.int .i64 h.mode)).setCell ⟨g,16,none⟩ (.int .i64 h.pages)).setCell ⟨g,17,none⟩ (.int .i64 h.trunk)).setCell ⟨g,18,none⟩ (.int .i64 h.spare)).setCell ⟨g,19,none⟩ (.int .i64 h.root)).setCell ⟨g,20,none⟩ (.int .u64 h.change)).setCell ⟨g,21,none⟩ v
theorem PgIs.backSv (h:PgIs w L P) (hv:L.vs=.slice (some ⟨b,0,none⟩) (m+1) c) (hl:P.saves.length=m+1) (hk:k≤m) (hwp:(P.saves.getD k jR).head.pages≤4096)
  (h1:w1=nk w L.gp (P.saves.getD k jR).head (.slice (some ⟨b,0,none⟩) (k+1) c)) (h2:w2=w1.alloc (.map #[] 0)) (h3:w3=w2.setCell ⟨b,k * 7+6,none⟩ (.map (some w1.heap.size))):PTo w L (P.backTo k) w3:=by
 have hA:=h.apart;have hc1:Ch (fun j=>j=L.gp) w w1:=by rw [h1];exact (((((((Ch.refl (fun j=>j=L.gp) w).setCell (p:=⟨L.gp,15,none⟩) rfl _).setCell (p:=⟨L.gp,16,none⟩) rfl _).setCell (p:=⟨L.gp,17,none⟩) rfl _).setCell (p:=⟨L.gp,18,none⟩) rfl _).setCell (p:=⟨L.gp,19,none⟩) rfl _).setCell (p:=⟨L.gp,20,none⟩) rfl _).setCell (p:=⟨L.gp,21,none⟩) rfl _
 have hs1:w1.heap.size=w.heap.size:=by rw [h1];simp [nk]
 have hb2:Below w1.heap.size w1 w2:=by rw [h2];exact (Below.refl _ w1).alloc (Nat.le_refl _) _
 have hbk:w1.heap[L.gp]?=some (co { L with vs:=.slice (some ⟨b,0,none⟩) (k+1) c,gs:=L.gs.take k ++ [w1.heap.size] } (P.backTo k)):=by rw [h1];exact ae (dH h.blk (P.saves.getD k jR).head) 21 (.slice (some ⟨b,0,none⟩) (k+1) c)
 have a1:=h.sep.upd (l1:=[]) (b:=Ob.blk L.gp (co { L with vs:=.slice (some ⟨b,0,none⟩) (k+1) c,gs:=L.gs.take k ++ [w1.heap.size] } (P.backTo k))) hc1 (fun j hj=>hj) hbk (fun j hj=>.inl hj);have hsv1:SvIs w1 (.slice (some ⟨b,0,none⟩) (m+1) c) L.gs P.saves:=by rw [← hv];exact h.sv.ch hc1 fun j hj e=>hA.ps (e ▸ hj)
 have hmN:fI w2 w1.heap.size []:=by rw [h2];exact MpIs.made w1
 have hsv3:=hsv1.back (k:=k) (gN:=w1.heap.size) hl hk (Nat.le_refl _) hb2 hmN;rw [← h3] at hsv3;have hbF:jS L.vs L.gs b:=.inl (by rw [hv];rfl);have hc3:Ch (fun j=>j=b) w1 w3:=by rw [h3];exact (Ch.of_below hb2).trans ((Ch.refl (fun j=>j=b) w2).setCell (p:=⟨b,k * 7+6,none⟩) rfl _)
 have hF:∀ j,jS (.slice (some ⟨b,0,none⟩) (k+1) c) (L.gs.take k ++ [w1.heap.size]) j→jS L.vs L.gs j∨w1.heap.size≤j:=fun j hj=>by
  rcases hj with hj | hj
  ·exact .inl (.inl (by rw [hv];exact hj))
  ·rcases List.mem_append.1 hj with hj | hj
   ·exact .inl (.inr (List.mem_of_mem_take hj))
   ·rw [List.mem_singleton.1 hj];exact .inr (Nat.le_refl _)
 have a3:=a1.upd (l1:=[Ob.blk L.gp (co { L with vs:=.slice (some ⟨b,0,none⟩) (k+1) c,gs:=L.gs.take k ++ [w1.heap.size] } (P.backTo k)),gJ L.D P.d,gK L.Fc L.vc P.size P.ca,iw L.D.gd L.N P.notes]) (a:=iu L.vs L.gs P.saves) (b:=iu (.slice (some ⟨b,0,none⟩) (k+1) c) (L.gs.take k ++ [w1.heap.size]) (P.backTo k).saves) hc3 (fun j e=>e ▸ hbF) hsv3 hF;refine ⟨{ L with vs:=.slice (some ⟨b,0,none⟩) (k+1) c,gs:=L.gs.take k ++ [w1.heap.size] },rfl,⟨a3,⟨h.ok.s1,h.ok.s2,h.ok.base,h.ok.hp,hwp,?_⟩,h.gd⟩,fun j hj=>?_,(hc1.mono fun j _ e=>.inl e).trans (hc3.mono fun j _ e=>.inr (.inr (.inr (.inr (e ▸ hbF)))))⟩
 ·show (P.saves.take k ++ [_]).length≤16;have:=h.ok.nos;rw [List.length_append,List.length_take];simp only [List.length_cons,List.length_nil];omega
 ·rcases hj with hj | hj | hj | hj | hj
  ·exact .inl (.inl hj)
  ·exact .inl (.inr (.inl hj))
  ·exact .inl (.inr (.inr (.inl hj)))
  ·exact .inl (.inr (.inr (.inr (.inl hj))))
  ·rcases hF j hj with e | e
   ·exact .inl (.inr (.inr (.inr (.inr e))))
   ·right;rw [← hs1];exact e
end
theorem sc {α:Type} {n:Nat} (l:List α) (df:α) (hn:n=l.length):∀ (d:Nat) (h:d≤n),(oQ n d h).map (fun i=>l.getD i.1 df)=l.reverse.take d:=by
 subst hn;intro d
 induction d with
 | zero=>intro _;rfl
 | succ d ih=> intro h;unfold oQ;rw [List.map_append,ih,List.take_succ_eq_append_getElem (by rw [List.length_reverse];omega),List.getElem_reverse];congr 1;simp only [List.map_cons,List.map_nil];rw [List.getD_eq_getElem?_getD,List.getElem?_eq_getElem (by omega),Option.getD_some];congr 2;omega
theorem mz {α:Type} (l:List α) (k i:Nat) (df:α):(l.drop k).getD i df=l.getD (k+i) df:=by rw [List.getD_eq_getElem?_getD,List.getD_eq_getElem?_getD,List.getElem?_drop]
inductive Mrg:List Sv→List (Int × By)→Prop
 | nil:Mrg [] []
 | snoc {l:List Sv} {s:Sv} {K K3:List (Int × By)}:Mrg l K→K3.Perm s.im→Mrg (l ++ [s]) (eP K K3)
theorem Mrg.of_pre {P:Pgr} {k n:Nat} {K:List (Int × By)} (hn:n=(P.saves.drop k).length) (h:Mrg ((oQ n n (Nat.le_refl _)).map fun i=>P.saves.getD (k+i.1) jR) K):Mrg (P.saves.drop k).reverse K:=by
 have e:(oQ n n (Nat.le_refl _)).map (fun i=>P.saves.getD (k+i.1) jR)=(P.saves.drop k).reverse:=by rw [show (fun i:Fin n=>P.saves.getD (k+i.1) jR)=fun i:Fin n=>(P.saves.drop k).getD i.1 jR from funext fun i=>(mz _ _ _ _).symm,sc _ _ hn,List.take_of_length_le (by rw [List.length_reverse];omega)]
 rwa [e] at h
def Pgr.restores (P:Pgr) (K:List (Int × By)) (l:List Int):Pgr:=l.foldl (fun Q n=>Q.restore n.toNat ((aQ K n).getD [])) P
def Pgr.back (P:Pgr) (k:Nat) (K:List (Int × By)):Pgr:=(P.backTo k).restores K (ii (K.map (·.1)))
theorem kR (P:Pgr) (K:List (Int × By)) (l:List Int) {j:Nat} (h:j<l.length):P.restores K (l.take (j+1))=(P.restores K (l.take j)).restore (l[j]).toNat ((aQ K l[j]).getD []):=by unfold Pgr.restores;rw [List.take_succ_eq_append_getElem h,List.foldl_append];rfl
structure CanBack (P:Pgr) (k:Nat):Prop where
 lt:k<P.saves.length
 im:∀ s ∈ P.saves,s.im.length≤10000
 wp:(P.saves.getD k jR).head.pages≤4096
 rs:∀ K,Mrg (P.saves.drop k).reverse K→∀ (j:Nat) (n:Int),(ii (K.map (·.1)))[j]?=some n→0≤n∧CanRestore ((P.backTo k).restores K ((ii (K.map (·.1))).take j)) n.toNat ((aQ K n).getD [])
theorem PTo.putD {w w1:World} {L L':PgL} {P:Pgr} {D:Nat} {o:Obj} (h1:L'.gp=L.gp) (h2:PgIs w1 L' P) (h3:∀ k,L'.F k→L.F k∨w.heap.size≤k) (h4:Ch L.F w w1) (hD:¬ L'.F D) (hDl:w.heap.size≤D):PTo w L P (w1.putObj D o):=by
 have hc:Ch (fun k=>k=D) w1 (w1.putObj D o):=Ch.of_grown (grownBy_putObj' w1 D o) fun k hk=>by injection hk with hk;exact hk.symm
 exact ⟨L',h1,h2.ch hc fun k hk e=>hD (e ▸ hk),h3,h4.then hc fun k e=>.inr (e ▸ hDl)⟩
end Go.Proofs.YtdmhbgpejppbkaaGreat
