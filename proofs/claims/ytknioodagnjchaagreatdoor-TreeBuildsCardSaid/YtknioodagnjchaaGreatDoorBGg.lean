/- node: bytes, Size, Encode. node: Size, Encode. node's reader: part, size, page, cell. chain: page, Cell. node.Decode: the state of its loop; a part read and appended. node.Decode. -/
import Derived.Test.YtknioodagnjchaaGreatDoorBGf
import Derived.Test.YtknioodagnjchaaGreatDoorBGb
import Derived.Test.YtknioodagnjchaaGreatDoorBGa
import Derived.Test.YtknioodagnjchaaGreatDoorBGd
import Derived.Deep.RegionLaw
import Derived.Deep.Cut
import Derived.Deep.CutRange
set_option maxRecDepth 100000
set_option maxHeartbeats 4000000
namespace Go.Proofs.YtknioodagnjchaaGreatDoor
open List renaming length_append->Bt,take_succ_eq_append_getElem->Bw,getElem_mem->Bx,length_take->Bz,mem_cons_self->BA,length_cons->BB,mem_cons_of_mem->BC,mem_of_mem_take->BD,take_of_length_le->BE,length_tail->BG
open Nat renaming le_of_lt->Bv,lt_of_lt_of_le->BF,le_succ->BH
open Go.Lib renaming hid->Z
open Go.RowKit
theorem Bu.kept {B b:Nat} {l:List UInt8} {w w':World} (h:Bu B b l w) (hb:Below w.heap.size w w'):Bu B b l w':=by
 have key:∀ p,Lib.BuilderAt 206 5 B b p (Lib.byteCells l) w->Lib.BuilderAt 206 5 B b p (Lib.byteCells l) w':=fun p ⟨h1,v,h2,h3,h4⟩=>
  ⟨h1,v,af h2 hb,World.ownsRow.kept (row:=none) h3 ⟨hb.os,hb.tape,hb.output,hb.size,fun k hk _=>hb.block k hk⟩ (by by_cases h0:v.ownBlock=none;exact .inl h0;exact .inr h0),h4⟩
 rcases h with h | h
 ·exact .inl (key _ h)
 ·exact .inr (key _ h)
structure BySt (w:World) (n:Nd) (vk vc vd:Value) (acc:List UInt8) (wr:World):Prop where
 g:wr.heap[w.heap.size]?=some (ar n vk vc vd)
 u:Bu (w.heap.size+1) (w.heap.size+1) acc wr
 b:Below w.heap.size w wr
 sz:w.heap.size+1<wr.heap.size
section
variable {w wr wr':World} {n:Nd} {vk vc vd:Value} {acc s:List UInt8}
theorem BySt.quiet (h:BySt w n vk vc vd acc wr) (hb:Below wr.heap.size wr wr'):BySt w n vk vc vd acc wr':=
 ⟨af h.g hb,h.u.kept hb,h.b.trans (hb.mono h.b.size),BF h.sz hb.size⟩
theorem BySt.wrote (h:BySt w n vk vc vd acc wr) (hu:Bu (w.heap.size+1) (w.heap.size+1) (acc ++ s) wr') (hb:Below (w.heap.size+1) wr wr'):BySt w n vk vc vd (acc ++ s) wr':=
 ⟨(hb.block _ (Nat.lt_succ_self _)).trans h.g,hu,h.b.trans (hb.mono (BH _)),BF h.sz hb.size⟩
end
def cH (n:Nd) (k:Nat):By:=(if n.leaf then 1 else 2) :: (aR 2 n.keys.length ++ if n.leaf then bC (n.keys.take k) (n.cells.take k) else aR 4 (n.kids.getD 0 0).toNat ++ eX (n.keys.take k) (n.kids.tail.take k))
theorem nH {n:Nd} (h:aD n=true):cH n n.keys.length=aw n:=by
 unfold cH aw;rw [List.take_length];cases hl:n.leaf
 ·obtain ⟨_,_,h2,_⟩:=aQ h hl;rw [if_neg (by simp),if_neg (by simp),if_neg (by simp),BE (l:=n.kids.tail) (by rw [BG];omega)]
 ·obtain ⟨_,h2,_⟩:=cD h hl;rw [if_pos rfl,if_pos rfl,if_pos rfl,BE (l:=n.cells) (by omega)]
theorem pf {n:Nd} (hl:n.leaf=true) {k:Nat} (hk:k<n.keys.length) (hc:k<n.cells.length):cH n (k+1)=cH n k ++ bD n.keys[k].length ++ n.keys[k] ++ gR n.cells[k]:=by unfold cH;rw [hl,if_pos rfl,if_pos rfl,if_pos rfl,Bw hk,Bw hc,eq _ _ _ _ (by rw [Bz,Bz];omega)];simp [bC,gE]
theorem nG {n:Nd} (hl:n.leaf=false) {k:Nat} (hk:k<n.keys.length) (hd:k+1<n.kids.length):cH n (k+1)=cH n k ++ bD n.keys[k].length ++ n.keys[k] ++ aR 4 n.kids[k+1].toNat:=by
 unfold cH;have ht:k<n.kids.tail.length:=by rw [BG];omega
 rw [hl,if_neg (by simp),if_neg (by simp),if_neg (by simp),Bw hk,Bw ht,ra _ _ _ _ (by rw [Bz,Bz];omega)];simp [eX,gE]
theorem jl {n:Nd} (h:aD n=true) (k:Nat):(cH n k).length<=7+107 * k:=by
 unfold cH;cases hl:n.leaf
 ·obtain ⟨hr,_,h2,_⟩:=aQ h hl;rw [if_neg (by simp),if_neg (by simp)];have hs:∀ (ks:List By) (ds:List Int),(∀ x ∈ ks,x.length<=64)->(eX ks ds).length<=107 * ks.length:=by
   intro ks
   induction ks with
   | nil=>intro ds _;simp [eX]
   | cons a l ih=>
     intro ds hx;cases ds with
     | nil=>simp [eX]
     | cons d ds=>
       have:=ih ds fun x hx'=>hx x (BC _ hx')
       have:=dI (hx a BA);have:=hx a BA;simp only [eX,Bt,aF,BB];omega
  have:=hs (n.keys.take k) (n.kids.tail.take k) fun x hx=>bQ hr x (BD hx)
  rw [Bz] at this;simp only [BB,Bt,aF];omega
 ·obtain ⟨hr,h2,_,hg⟩:=cD h hl;rw [if_pos rfl,if_pos rfl];have hs:∀ (ks:List By) (cs:List Ce),(∀ x ∈ ks,x.length<=64)->(∀ c ∈ cs,aI c=true)->(bC ks cs).length<=107 * ks.length:=by
   intro ks
   induction ks with
   | nil=>intro ds _ _;simp [bC]
   | cons a l ih=>
     intro cs hx hc;cases cs with
     | nil=>simp [bC]
     | cons c cs=> have:=ih cs (fun x hx'=>hx x (BC _ hx')) (fun c hc'=>hc c (BC _ hc'));have:=dI (hx a BA);have:=hx a BA;have:=nz (hc c BA);simp only [bC,Bt,BB];omega
  have:=hs (n.keys.take k) (n.cells.take k) (fun x hx=>bQ hr x (BD hx)) (fun c hc=>hg c (BD hc));rw [Bz] at this;simp only [BB,Bt,aF];omega
theorem oX (n:Nd) (v:Value) (w:World) (h:NdV w v n) (hb:n.Bd) (hg:aD n=true):Calls Tryz.prog 167 #[v] w fun e w'=>e=.returned (.string (ap (aw n)))/\Below w.heap.size w w':=by
 obtain ⟨vk,vc,vd,rfl,hs⟩:=h;obtain ⟨A1,c1,rfl⟩:=Sl.zM hs.k;obtain ⟨A2,c2,rfl⟩:=Sl.zM hs.c;obtain ⟨A3,c3,rfl⟩:=Sl.zM hs.d;have HS:=Z hs;have HT0:=Z (show BySt w n (.slice A1 n.keys.length c1) (.slice A2 n.cells.length c2) (.slice A3 n.kids.length c3) [] ((w.alloc (ar n (.slice A1 n.keys.length c1) (.slice A2 n.cells.length c2) (.slice A3 n.kids.length c3))).alloc (.cells #[.pointer none,.slice none 0 0] 206)) from
  ⟨am (ag rfl) _,Bu.new (ag (by simp)) (by simp),((Below.refl _ w).alloc (Nat.le_refl _) _).alloc (by simp) _,by simp⟩)
 have HG:=Z hg;have HB:=Z hb;have HE:=Z (nH hg);have hk2:=hb.k;have hc2:=hb.c;have hd2:=hb.d;obtain ⟨nl,nk,nc,nd⟩:=n;simp only at hk2 hc2 hd2 HS HT0 HE;clear hs hb hg;go_enter Tryz.func167,Tryz.ntmps167;go_upto_region 2 with fail
 generalize hw1:(w.alloc (.cells #[.bool nl,.slice A1 nk.length c1,.slice A2 nc.length c2,.slice A3 nd.length c3] 110)).alloc (.cells #[.pointer none,.slice none 0 0] 206)=w1 at *;have hw2:(w.alloc (ar ⟨nl,nk,nc,nd⟩ (.slice A1 nk.length c1) (.slice A2 nc.length c2) (.slice A3 nd.length c3))).alloc (.cells #[.pointer none,.slice none 0 0] 206)=w1:=hw1;rw [hw2] at HT0;clear hw1 hw2;have HT1:=HT0;clear HT0;obtain ⟨a0,a1,a2,a3,a4⟩:=aa HT1.out.g;simp only at a0 a1 a2 a3;cases nl
 ·
  go_wp2_with fail;refine (nX _ _ [] 2 w1 HT1.out.u (by simp) (Bv HT1.out.sz)).mono ?_;rintro e w2 ⟨rfl,hu,hb⟩;have HT2:=Z (HT1.out.wrote hu hb);clear hu hb a0 a1 a2 a3 a4;obtain ⟨a0,a1,a2,a3,a4⟩:=aa HT2.out.g;simp only at a0 a1 a2 a3;obtain ⟨hr,hk0,hdl,-,-,hpg⟩:=aQ HG.out rfl;have HR:=Z (bQ hr);have HPG:=Z hpg;simp only at hdl HR HPG;clear hr hk0 hpg;have hd0:0<nd.length:=by omega
  obtain ⟨b,off,c',he,hbl,hce⟩:=HS.out.d.zQ hd0;injection he with he1 he2 he3
  subst he1 he3;have HE0:=Z (show w.cell? ⟨b,off,none⟩=some (.int .i64 nd[0]) by simpa using hce 0 _ rfl);have HBL:=Z hbl;clear he2 hce hbl;obtain ⟨m0,hm0⟩:∃ m:Nat,nd[0]=(m:Int):=⟨nd[0].toNat,by
   have:=HPG.out _ (Bx hd0);simp [cI] at this;omega⟩
  have hm0b:m0<4096:=by have:=HPG.out _ (Bx hd0);simp [cI] at this;omega
  have HM0:=Z hm0;rw [hm0] at HE0;clear hm0;go_wp2_with fail;refine (jx nk.length 2 w2 (by omega) (by omega) (by omega)).mono ?_;rintro e w3 ⟨rfl,hb⟩;have HT3:=Z (HT2.out.quiet hb);clear hb;clear a0 a1 a2 a3 a4;obtain ⟨a0,a1,a2,a3,a4⟩:=aa HT3.out.g;simp only at a0 a1 a2 a3;go_wp2_with fail;refine (dQ _ _ ([] ++ [2]) (aR 2 nk.length) w3 HT3.out.u (by simp) (by rw [aF];omega) (Bv HT3.out.sz)).mono ?_;rintro e w4 ⟨rfl,hu,hb⟩;have HT4:=Z (HT3.out.wrote hu hb);clear hu hb;clear a0 a1 a2 a3 a4;obtain ⟨a0,a1,a2,a3,a4⟩:=aa HT4.out.g;simp only at a0 a1 a2 a3;have hx0:w4.cell? ⟨b,off,none⟩=some (.int .i64 m0):=(HT4.out.b.cell (p:=⟨b,off,none⟩) HBL.out).trans HE0.out;have hx1:b<w4.heap.size:=by have:=HT4.out.b.size;have:=HBL.out;omega
  go_wp2_with fail;refine (fx m0 w4 (by omega)).mono ?_;rintro e w5 ⟨rfl,hb⟩;have HT5:=Z (HT4.out.quiet hb);clear hb;clear a0 a1 a2 a3 a4 hx0 hx1;obtain ⟨a0,a1,a2,a3,a4⟩:=aa HT5.out.g;simp only at a0 a1 a2 a3;go_wp2_with fail;refine (dQ _ _ ([] ++ [2] ++ aR 2 nk.length) (aR 4 m0) w5 HT5.out.u (by simp [aF]) (by rw [aF];omega) (Bv HT5.out.sz)).mono ?_;rintro e w6 ⟨rfl,hu,hb⟩;have HT6:=Z (HT5.out.wrote hu hb);clear hu hb;clear a0 a1 a2 a3 a4;have HT7:=Z (show BySt w ⟨false,nk,nc,nd⟩ (.slice A1 nk.length c1) (.slice A2 nc.length c2) (.slice (some ⟨b,off,none⟩) nd.length c3) (cH ⟨false,nk,nc,nd⟩ 0) w6 from by
   have:=HT6.out;have e:cH ⟨false,nk,nc,nd⟩ 0=[] ++ [2] ++ aR 2 nk.length ++ aR 4 m0:=by simp [cH,eX,List.getElem?_eq_getElem hd0,HM0.out]
   rw [e];exact this)
  clear HT1 HT2 HT3 HT4 HT5 HT6;obtain ⟨a0,a1,a2,a3,a4⟩:=aa HT7.out.g;simp only at a0 a1 a2 a3;go_wp2_with fail;clear a0 a1 a2 a3 a4;go_loopw [31] (fun i wr=>∃ k:Nat,k<=nk.length/\i=.int .i64 k/\BySt w ⟨false,nk,nc,nd⟩ (.slice A1 nk.length c1) (.slice A2 nc.length c2) (.slice (some ⟨b,off,none⟩) nd.length c3) (cH ⟨false,nk,nc,nd⟩ k) wr) (fun i _=>nk.length - (intOf i).toNat)
  case atStart=>exact ⟨0,Nat.zero_le _,rfl,HT7.out⟩
  case round=>
   obtain ⟨k,hk,rfl,ht⟩:=hrel;have HT1:=Z ht;clear ht;obtain ⟨a0,a1,a2,a3,a4⟩:=aa HT1.out.g;simp only at a0 a1 a2 a3;by_cases hlt:k<nk.length
   ·obtain ⟨b1,off1,rfl,hbl1,-,hc⟩:=(HS.out.k.keep HT1.out.b).key hlt;obtain ⟨b',off',c',he,hbl',hce⟩:=(HS.out.d.keep HT1.out.b).zQ (show k+1<nd.length by omega);injection he with he1 he2 he3
    injection he1 with he1
    injection he1 with he4 he5
    subst he4 he5 he3;clear he2;obtain ⟨m,hm⟩:∃ m:Nat,nd[k+1]=(m:Int):=⟨nd[k+1].toNat,by
     have:=HPG.out _ (Bx (show k+1<nd.length by omega));simp [cI] at this;omega⟩
    have hmb:m<4096:=by have:=HPG.out _ (Bx (show k+1<nd.length by omega));simp [cI] at this;omega
    have HCE:=Z (show w.cell? ⟨b,off+(k+1),none⟩=some (.int .i64 m) by
     obtain ⟨b2,off2,c2',he,hb2,hce2⟩:=HS.out.d.zQ (show k+1<nd.length by omega);injection he with he1 he2 he3
     injection he1 with he1
     injection he1 with he4 he5
     subst he4 he5 he3;rw [<- hm];simpa using hce2 0 _ rfl)
    have h64:nk[k].length<=64:=HR.out _ (Bx hlt);have hsz:(ap nk[k]).size=nk[k].length:=au _;have HNX:=Z (show cH ⟨false,nk,nc,nd⟩ (k+1)=cH ⟨false,nk,nc,nd⟩ k ++ bD (ap nk[k]).size ++ nk[k] ++ aR 4 m by
     rw [nG (n:=⟨false,nk,nc,nd⟩) rfl hlt (show k+1<nd.length by omega),hsz];simp only [hm,Int.toNat_natCast])
    have hlen:=jl HG.out k;have hvl:(bD (ap nk[k]).size).length<=2:=by rw [dC];split <;> omega
    have hszb:(ap nk[k]).size<=64:=by omega
    clear hce hsz hm;generalize cH ⟨false,nk,nc,nd⟩ k=acc at *;generalize nk[k]=key at *;go_wp2_with fail;refine (lQ (ap key).size wr (by omega)).mono ?_;rintro e w2 ⟨rfl,hb⟩;have HT2:=Z (HT1.out.quiet hb);clear hb;go_wp2_with fail;refine (dQ _ _ (acc) (bD (ap key).size) w2 HT2.out.u (by omega) (by omega) (Bv HT2.out.sz)).mono ?_;rintro e w3 ⟨rfl,hu,hb⟩;have HT3:=Z (HT2.out.wrote hu hb);clear hu hb;go_wp2_with fail;refine (dQ _ _ (acc ++ bD (ap key).size) (key) w3 HT3.out.u (by simp only [Bt];omega) (by omega) (Bv HT3.out.sz)).mono ?_;rintro e w4 ⟨rfl,hu,hb⟩;have HT4:=Z (HT3.out.wrote hu hb);clear hu hb;clear a0 a1 a2 a3 a4;obtain ⟨a0,a1,a2,a3,a4⟩:=aa HT4.out.g;simp only at a0 a1 a2 a3;have hx0:w4.cell? ⟨b,off+(k+1),none⟩=some (.int .i64 m):=(HT4.out.b.cell (p:=⟨b,off+(k+1),none⟩) HBL.out).trans HCE.out;have hx1:b<w4.heap.size:=by have:=HT4.out.b.size;have:=HBL.out;omega
    have hx2:((k:Int)+1)<(nd.length:Int):=by omega
    go_wp2_with fail;refine (fx m w4 (by omega)).mono ?_;rintro e w5 ⟨rfl,hb⟩;have HT5:=Z (HT4.out.quiet hb);clear hb;clear a0 a1 a2 a3 a4 hx0 hx1;go_wp2_with fail;refine (dQ _ _ (acc ++ bD (ap key).size ++ key) (aR 4 m) w5 HT5.out.u (by simp only [Bt];omega) (by rw [aF];omega) (Bv HT5.out.sz)).mono ?_;rintro e w6 ⟨rfl,hu,hb⟩;have HT6:=Z (HT5.out.wrote hu hb);clear hu hb;rw [<- HNX.out] at HT6;go_wp2_with fail;go_roundw
    case rel=>exact ⟨k+1,by omega,by go_num,HT6.out⟩
    case measure=>simp [intOf];omega
   ·obtain rfl:k=nk.length:=by omega
    have HE2:=Z (show cH ⟨false,nk,nc,nd⟩ nk.length=aw ⟨false,nk,nc,nd⟩ from HE.out);clear a0 a1 a2 a3 a4;go_wp2_with fail;refine (Tryz.Builder_String_any (w.heap.size+1) (w.heap.size+1) (cH ⟨false,nk,nc,nd⟩ nk.length) wr HT1.out.u (Bv HT1.out.sz)).mono ?_;rintro e w2 ⟨rfl,hb⟩;have HW2:=Z (HT1.out.b.trans (hb.mono (BH _)));clear hb;go_wp2_with fail;go_ret;exact ⟨by rw [<- HE2.out];rfl,HW2.out⟩
 ·
  obtain ⟨hr,hcl,-,hgc⟩:=cD HG.out rfl;have HR:=Z (bQ hr);have HGC:=Z hgc;simp only at hcl HR HGC;clear hr hgc;have hcl1:nc.length<=nk.length:=by omega
  have hcl2:nk.length<=nc.length:=by omega
  clear hcl;go_wp2_with fail;refine (nX _ _ [] 1 w1 HT1.out.u (by simp) (Bv HT1.out.sz)).mono ?_;rintro e w2 ⟨rfl,hu,hb⟩;have HT2:=Z (HT1.out.wrote hu hb);clear hu hb a0 a1 a2 a3 a4;obtain ⟨a0,a1,a2,a3,a4⟩:=aa HT2.out.g;simp only at a0 a1 a2 a3;go_wp2_with fail;refine (jx nk.length 2 w2 (by omega) (by omega) (by omega)).mono ?_;rintro e w3 ⟨rfl,hb⟩;have HT3:=Z (HT2.out.quiet hb);clear hb;clear a0 a1 a2 a3 a4;obtain ⟨a0,a1,a2,a3,a4⟩:=aa HT3.out.g;simp only at a0 a1 a2 a3;go_wp2_with fail;refine (dQ _ _ ([] ++ [1]) (aR 2 nk.length) w3 HT3.out.u (by simp) (by rw [aF];omega) (Bv HT3.out.sz)).mono ?_;rintro e w4 ⟨rfl,hu,hb⟩;have HT4:=Z (HT3.out.wrote hu hb);clear hu hb;clear a0 a1 a2 a3 a4;have HT7:=Z (show BySt w ⟨true,nk,nc,nd⟩ (.slice A1 nk.length c1) (.slice A2 nc.length c2) (.slice A3 nd.length c3) (cH ⟨true,nk,nc,nd⟩ 0) w4 from by
   have:=HT4.out;have e:cH ⟨true,nk,nc,nd⟩ 0=[] ++ [1] ++ aR 2 nk.length:=by simp [cH,bC]
   rw [e];exact this)
  clear HT1 HT2 HT3 HT4;obtain ⟨a0,a1,a2,a3,a4⟩:=aa HT7.out.g;simp only at a0 a1 a2 a3;go_wp2_with fail;clear a0 a1 a2 a3 a4;go_loopw [31] (fun i wr=>∃ k:Nat,k<=nk.length/\i=.int .i64 k/\BySt w ⟨true,nk,nc,nd⟩ (.slice A1 nk.length c1) (.slice A2 nc.length c2) (.slice A3 nd.length c3) (cH ⟨true,nk,nc,nd⟩ k) wr) (fun i _=>nk.length - (intOf i).toNat)
  case atStart=>exact ⟨0,Nat.zero_le _,rfl,HT7.out⟩
  case round=>
   obtain ⟨k,hk,rfl,ht⟩:=hrel;have HT1:=Z ht;clear ht;obtain ⟨a0,a1,a2,a3,a4⟩:=aa HT1.out.g;simp only at a0 a1 a2 a3;by_cases hlt:k<nk.length
   ·obtain ⟨b1,off1,rfl,hbl1,-,hc⟩:=(HS.out.k.keep HT1.out.b).key hlt;obtain ⟨b,off,rfl,hbl,-,hc0,hc1,hc2⟩:=HS.out.c.zT (show k<nc.length by omega);have HC:=Z (And.intro hbl (And.intro hc0 (And.intro hc1 hc2)));clear hbl hc0 hc1 hc2;have h64:nk[k].length<=64:=HR.out _ (Bx hlt);have hsz:(ap nk[k]).size=nk[k].length:=au _;have HGK:=Z (HGC.out _ (Bx (show k<nc.length by omega)))
    have HNX:=Z (show cH ⟨true,nk,nc,nd⟩ (k+1)=cH ⟨true,nk,nc,nd⟩ k ++ bD (ap nk[k]).size ++ nk[k] ++ gR (nc[k]'(by omega)) by
     rw [pf (n:=⟨true,nk,nc,nd⟩) rfl hlt (show k<nc.length by omega),hsz])
    have hlen:=jl HG.out k;have hvl:(bD (ap nk[k]).size).length<=2:=by rw [dC];split <;> omega
    have hszb:(ap nk[k]).size<=64:=by omega
    clear hsz;have hk0:(k:Int)<(nc.length:Int):=by omega
    generalize cH ⟨true,nk,nc,nd⟩ k=acc at *;generalize nk[k]=key at *;generalize nc[k]'(by omega)=ce at *;obtain ⟨sz,da,pg⟩:=ce;simp only at HC;obtain ⟨s,hs⟩:∃ s:Nat,sz=(s:Int):=⟨sz.toNat,by
     have:=HGK.out;by_cases h:40<sz
     ·omega
     ·have:=(fJ this h).1;simp only at this;omega⟩
    subst hs;go_wp2_with fail;refine (lQ (ap key).size wr (by omega)).mono ?_;rintro e w2 ⟨rfl,hb⟩;have HT2:=Z (HT1.out.quiet hb);clear hb;go_wp2_with fail;refine (dQ _ _ (acc) (bD (ap key).size) w2 HT2.out.u (by omega) (by omega) (Bv HT2.out.sz)).mono ?_;rintro e w3 ⟨rfl,hu,hb⟩;have HT3:=Z (HT2.out.wrote hu hb);clear hu hb;go_wp2_with fail;refine (dQ _ _ (acc ++ bD (ap key).size) (key) w3 HT3.out.u (by simp only [Bt];omega) (by omega) (Bv HT3.out.sz)).mono ?_;rintro e w4 ⟨rfl,hu,hb⟩;have HT4:=Z (HT3.out.wrote hu hb);clear hu hb;clear a0 a1 a2 a3 a4;obtain ⟨a0,a1,a2,a3,a4⟩:=aa HT4.out.g;simp only at a0 a1 a2 a3;have hx0:w4.cell? ⟨b,off+k * 3,none⟩=some (.int .i64 s):=(HT4.out.b.cell (p:=⟨b,off+k * 3,none⟩) HC.out.1).trans HC.out.2.1;have hx1:b<w4.heap.size:=by have:=HT4.out.b.size;have:=HC.out.1;omega
    by_cases h40:40<s
    ·have h40b:(40:Int)<(s:Int):=by omega
     obtain ⟨g1,g2,g3,g4⟩:=fw HGK.out h40b;simp only at g1 g2 g3 g4;subst g1;obtain ⟨p,hp⟩:∃ p:Nat,pg=(p:Int):=⟨pg.toNat,by omega⟩;subst hp;have HNX2:=Z (show cH ⟨true,nk,nc,nd⟩ (k+1)=acc ++ bD (ap key).size ++ key ++ bD s ++ aR 4 p by
      rw [HNX.out];unfold gR;simp only;rw [if_pos h40b];simp)
     have hvs:(bD s).length<=2:=by rw [dC];split <;> omega
     go_wp2_with fail;refine (lQ s w4 (by omega)).mono ?_;rintro e w5 ⟨rfl,hb⟩;have HT5:=Z (HT4.out.quiet hb);clear hb;clear a0 a1 a2 a3 a4 hx0 hx1;go_wp2_with fail;refine (dQ _ _ (acc ++ bD (ap key).size ++ key) (bD s) w5 HT5.out.u (by simp only [Bt];omega) (by omega) (Bv HT5.out.sz)).mono ?_;rintro e w6 ⟨rfl,hu,hb⟩;have HT6:=Z (HT5.out.wrote hu hb);clear hu hb;obtain ⟨a0,a1,a2,a3,a4⟩:=aa HT6.out.g;simp only at a0 a1 a2 a3;have hx0:w6.cell? ⟨b,off+k * 3+2,none⟩=some (.int .i64 p):=(HT6.out.b.cell (p:=⟨b,off+k * 3+2,none⟩) HC.out.1).trans HC.out.2.2.2;have hx1:b<w6.heap.size:=by have:=HT6.out.b.size;have:=HC.out.1;omega
     go_wp2_with fail;refine (fx p w6 (by omega)).mono ?_;rintro e w7 ⟨rfl,hb⟩;have HT7:=Z (HT6.out.quiet hb);clear hb;clear a0 a1 a2 a3 a4 hx0 hx1;go_wp2_with fail;refine (dQ _ _ (acc ++ bD (ap key).size ++ key ++ bD s) (aR 4 p) w7 HT7.out.u (by simp only [Bt];omega) (by rw [aF];omega) (Bv HT7.out.sz)).mono ?_;rintro e w8 ⟨rfl,hu,hb⟩;have HT8:=Z (HT7.out.wrote hu hb);clear hu hb;rw [<- HNX2.out] at HT8;go_wp2_with fail;go_roundw
     case rel=>exact ⟨k+1,by omega,by go_num,HT8.out⟩
     case measure=>simp [intOf];omega
    ·have h40b:(s:Int)<=40:=by omega
     obtain ⟨g1,g2,g3⟩:=fJ HGK.out (show ¬ 40<(s:Int) by omega);simp only at g1 g2 g3;subst g3;have HNX2:=Z (show cH ⟨true,nk,nc,nd⟩ (k+1)=acc ++ bD (ap key).size ++ key ++ bD s ++ da by
      rw [HNX.out];unfold gR;simp only;rw [if_neg (by omega)];simp)
     have hvs:(bD s).length<=2:=by rw [dC];split <;> omega
     have hda:da.length<=40:=by omega
     clear g2;go_wp2_with fail;refine (lQ s w4 (by omega)).mono ?_;rintro e w5 ⟨rfl,hb⟩;have HT5:=Z (HT4.out.quiet hb);clear hb;clear a0 a1 a2 a3 a4 hx0 hx1;go_wp2_with fail;refine (dQ _ _ (acc ++ bD (ap key).size ++ key) (bD s) w5 HT5.out.u (by simp only [Bt];omega) (by omega) (Bv HT5.out.sz)).mono ?_;rintro e w6 ⟨rfl,hu,hb⟩;have HT6:=Z (HT5.out.wrote hu hb);clear hu hb;obtain ⟨a0,a1,a2,a3,a4⟩:=aa HT6.out.g;simp only at a0 a1 a2 a3;have hx0:w6.cell? ⟨b,off+k * 3+1,none⟩=some (.string (ap da)):=(HT6.out.b.cell (p:=⟨b,off+k * 3+1,none⟩) HC.out.1).trans HC.out.2.2.1;have hx1:b<w6.heap.size:=by have:=HT6.out.b.size;have:=HC.out.1;omega
     go_wp2_with fail;refine (dQ _ _ (acc ++ bD (ap key).size ++ key ++ bD s) (da) w6 HT6.out.u (by simp only [Bt];omega) (by omega) (Bv HT6.out.sz)).mono ?_;rintro e w7 ⟨rfl,hu,hb⟩;have HT7:=Z (HT6.out.wrote hu hb);clear hu hb;clear a0 a1 a2 a3 a4 hx0 hx1;rw [<- HNX2.out] at HT7;go_wp2_with fail;go_roundw
     case rel=>exact ⟨k+1,by omega,by go_num,HT7.out⟩
     case measure=>simp [intOf];omega
   ·obtain rfl:k=nk.length:=by omega
    have HE2:=Z (show cH ⟨true,nk,nc,nd⟩ nk.length=aw ⟨true,nk,nc,nd⟩ from HE.out);clear a0 a1 a2 a3 a4;go_wp2_with fail;refine (Tryz.Builder_String_any (w.heap.size+1) (w.heap.size+1) (cH ⟨true,nk,nc,nd⟩ nk.length) wr HT1.out.u (Bv HT1.out.sz)).mono ?_;rintro e w2 ⟨rfl,hb⟩;have HW2:=Z (HT1.out.b.trans (hb.mono (BH _)));clear hb;go_wp2_with fail;go_ret;exact ⟨by rw [<- HE2.out];rfl,HW2.out⟩
end Go.Proofs.YtknioodagnjchaaGreatDoor
namespace Go.Proofs.YtknioodagnjchaaGreatDoor
open List renaming take_of_length_le->Bt,replicate->Bw,length_drop->Bx,length_replicate->BC,length_take->BF
open Go.Proofs.Tryz renaming prog->Bv,results70->BA,results153->BG
open Go renaming bodyPost_ret->Bz,World->BB,results->BD,Value->BE,Calls->BH
open Go.Lib renaming hid->Z
open Go.RowKit
theorem vG (n:Nd) (v:BE) (w:BB) (h:NdV w v n) (hb:n.Bd):BH Bv 208 #[v] w fun e w'=>e=.returned (.int .i64 (iP n))/\Below w.heap.size w w':=by
 obtain ⟨vk,vc,vd,rfl,hs⟩:=h;have HW0:=Z ((Below.refl _ w).alloc (Nat.le_refl _) (ar n vk vc vd));have HG0:=Z (ag (w0:=w) (g:=w.heap.size) (o:=ar n vk vc vd) rfl);have HS0:=Z (hs.keep HW0.out);have HB:=Z hb;clear hs hb;go_enter Tryz.func208,Tryz.ntmps208;go_upto_region 1 with fail
 generalize hw1:w.alloc (.cells #[.bool n.leaf,vk,vc,vd] 110)=w1 at *;have hw2:w.alloc (ar n vk vc vd)=w1:=hw1;rw [hw2] at HW0 HG0 HS0;clear hw1 hw2;obtain ⟨a0,a1,a2,a3,a4⟩:=aa HG0.out;go_wp2_with fail;refine (kr n _ w1 ⟨vk,vc,vd,rfl,HS0.out⟩ HB.out).mono ?_;cases hg:aD n
 ·have HV:=Z (show iP n=0 by unfold iP;rw [hg];rfl);clear hg;rintro e w2 ⟨rfl,hb⟩;have HW2:=Z (HW0.out.trans (hb.mono HW0.out.size));have HG2:=Z (af HG0.out hb);have HS2:=Z (HS0.out.keep hb);clear hb a0 a1 a2 a3 a4;obtain ⟨a0,a1,a2,a3,a4⟩:=aa HG2.out;go_wp2_with fail;go_ret;exact ⟨by rw [HV.out];rfl,HW2.out⟩
 ·have HV:=Z (show iP n=(aw n).length by unfold iP;rw [hg];rfl);have HGD:=Z hg;clear hg;rintro e w2 ⟨rfl,hb⟩;have HW2:=Z (HW0.out.trans (hb.mono HW0.out.size));have HG2:=Z (af HG0.out hb);have HS2:=Z (HS0.out.keep hb);clear hb a0 a1 a2 a3 a4;obtain ⟨a0,a1,a2,a3,a4⟩:=aa HG2.out;go_wp2_with fail;refine (oX n _ w2 ⟨vk,vc,vd,rfl,HS2.out⟩ HB.out HGD.out).mono ?_;have hsz:=au (aw n);have HSZ:=Z hsz;clear hsz;rintro e w3 ⟨rfl,hb⟩;have HW3:=Z (HW2.out.trans (hb.mono HW2.out.size));have HG3:=Z (af HG2.out hb);have HS3:=Z (HS2.out.keep hb);clear hb a0 a1 a2 a3 a4;obtain ⟨a0,a1,a2,a3,a4⟩:=aa HG3.out;go_wp2_with fail;go_ret;exact ⟨by rw [HV.out,<- HSZ.out];rfl,HW3.out⟩
def dX (n:Nd):Int:=if aD n then if 232<(aw n).length then 47 else 0 else 1
def eI (n:Nd):By:=if dX n=0 then aK (aw n) else []
theorem jM (n:Nd) (v:BE) (w:BB) (h:NdV w v n) (hb:n.Bd):BH Bv 120 #[v] w fun e w'=>e=.returned (.tuple #[.string (ap (eI n)),.int .i64 (dX n)])/\Below w.heap.size w w':=by
 obtain ⟨vk,vc,vd,rfl,hs⟩:=h;have HW0:=Z ((Below.refl _ w).alloc (Nat.le_refl _) (ar n vk vc vd));have HG0:=Z (ag (w0:=w) (g:=w.heap.size) (o:=ar n vk vc vd) rfl);have HS0:=Z (hs.keep HW0.out);have HB:=Z hb;clear hs hb;go_enter Tryz.func120,Tryz.ntmps120;go_upto_region 1 with fail
 generalize hw1:w.alloc (.cells #[.bool n.leaf,vk,vc,vd] 110)=w1 at *;have hw2:w.alloc (ar n vk vc vd)=w1:=hw1;rw [hw2] at HW0 HG0 HS0;clear hw1 hw2;obtain ⟨a0,a1,a2,a3,a4⟩:=aa HG0.out;go_wp2_with fail;refine (kr n _ w1 ⟨vk,vc,vd,rfl,HS0.out⟩ HB.out).mono ?_;cases hg:aD n
 ·have HV:=Z (show dX n=1/\eI n=[] by
   have:dX n=1:=by unfold dX;rw [hg];rfl
   unfold eI;rw [this];exact ⟨rfl,rfl⟩)
  clear hg;rintro e w2 ⟨rfl,hb⟩;have HW2:=Z (HW0.out.trans (hb.mono HW0.out.size));have HG2:=Z (af HG0.out hb);have HS2:=Z (HS0.out.keep hb);clear hb a0 a1 a2 a3 a4;obtain ⟨a0,a1,a2,a3,a4⟩:=aa HG2.out;go_wp2_with fail;go_ret2;exact ⟨by rw [HV.out.1,HV.out.2];rfl,HW2.out⟩
 ·have HGD:=Z hg;rintro e w2 ⟨rfl,hb⟩;have HW2:=Z (HW0.out.trans (hb.mono HW0.out.size));have HG2:=Z (af HG0.out hb);have HS2:=Z (HS0.out.keep hb);clear hb a0 a1 a2 a3 a4;obtain ⟨a0,a1,a2,a3,a4⟩:=aa HG2.out;go_wp2_with fail;refine (oX n _ w2 ⟨vk,vc,vd,rfl,HS2.out⟩ HB.out HGD.out).mono ?_;have hsz:=au (aw n);have HBL:=Z (jl HGD.out n.keys.length);rw [nH HGD.out] at HBL;have hkk:=HB.out.k;have hbl:=HBL.out;by_cases h232:232<(aw n).length
  ·have HV:=Z (show dX n=47/\eI n=[] by
    have:dX n=47:=by unfold dX;rw [hg,if_pos rfl,if_pos h232]
    unfold eI;rw [this];exact ⟨rfl,rfl⟩)
   have hc:(232:Int)<((ap (aw n)).size:Int):=by rw [hsz];omega
   clear hg hsz h232 hbl hkk;generalize aw n=l at *;rintro e w3 ⟨rfl,hb⟩;have HW3:=Z (HW2.out.trans (hb.mono HW2.out.size));have HG3:=Z (af HG2.out hb);have HS3:=Z (HS2.out.keep hb);clear hb a0 a1 a2 a3 a4;obtain ⟨a0,a1,a2,a3,a4⟩:=aa HG3.out;go_wp2_with fail;go_ret2;exact ⟨by rw [HV.out.1,HV.out.2];rfl,HW3.out⟩
  ·have HV:=Z (show dX n=0/\eI n=aK (aw n) by
    have:dX n=0:=by unfold dX;rw [hg,if_pos rfl,if_neg h232]
    unfold eI;rw [this,if_pos rfl];exact ⟨rfl,rfl⟩)
   have hc:((ap (aw n)).size:Int)<=232:=by rw [hsz];omega
   obtain ⟨r,hr⟩:∃ r:Nat,r=232 - (aw n).length:=⟨_,rfl⟩;have hr2:(232:Int) - ((ap (aw n)).size:Int)=(r:Int):=by rw [hsz];omega
   have hr3:r<=232:=by omega
   have HS2':=Z (show ap (aw n) ++ ap (Bw r 0)=ap (aK (aw n)) by
    rw [cE,bA,bA,hr,lx (by omega)])
   have hc2:(ap (aw n)).size<=232:=by omega
   clear hg hsz h232 hr hbl hkk;generalize aK (aw n)=F at *;generalize ap (aw n)=x at *;rintro e w3 ⟨rfl,hb⟩;have HW3:=Z (HW2.out.trans (hb.mono HW2.out.size));have HG3:=Z (af HG2.out hb);have HS3:=Z (HS2.out.keep hb);clear hb a0 a1 a2 a3 a4;obtain ⟨a0,a1,a2,a3,a4⟩:=aa HG3.out;have s4:=au (Bw r 0);rw [BC] at s4;have hs5:(ap (Bw r 0)).size<=232:=by omega
   clear s4;go_wp2_with fail;refine (gH r w3 hr3).mono ?_;rintro e w4 ⟨rfl,hb⟩;have HW4:=Z (HW3.out.trans (hb.mono HW3.out.size));clear hb;go_wp2_with fail;go_ret2;rw [HS2'.out];exact ⟨by rw [HV.out.1,HV.out.2];rfl,HW4.out⟩
def ol (r:Rd):Obj:=.cells #[.string (ap r.rest),.bool r.bad] 215 (0,0)
theorem gw {w:BB} {g:Nat} {r:Rd} (hh:w.heap[g]?=some (ol r)):w.cell? ⟨g,0,none⟩=some (.string (ap r.rest))/\w.cell? ⟨g,1,none⟩=some (.bool r.bad)/\g<w.heap.size/\w.frozen? ⟨g,0,none⟩=false/\w.frozen? ⟨g,1,none⟩=false:=
 ⟨ae hh 0,ae hh 1,aj hh,ab hh 0,ab hh 1⟩
theorem kN (r:Rd) (n g:Nat) (w:BB) (h:w.heap[g]?=some (ol r)) (hl:r.rest.length<=1000000):
  BH Bv 151 #[.pointer (some ⟨g,0,none⟩),.int .i64 n] w fun e w'=>e=.returned (.string (ap (cP r n).1))/\w'.heap[g]?=some (ol (cP r n).2)/\Ch (fun k=>k=g) w w':=by
 obtain ⟨rr,rb⟩:=r;simp only at hl;obtain ⟨a0,a1,a2,a3,a4⟩:=gw h;have H:=Z h;have hsz:(ap rr).size=rr.length:=au rr;clear h;simp only at a0 a1;go_enter Tryz.func151,Tryz.ntmps151;by_cases hlt:rr.length<n
 ·have HV:=Z (show cP ⟨rr,rb⟩ n=([],⟨rr,true⟩) by unfold cP;rw [if_pos hlt]);have hc:((ap rr).size:Int)<(n:Int):=by omega
  have hc2:(ap rr).size<n:=by omega
  have HX:=Z (show (w.setCell ⟨g,1,none⟩ (.bool true)).heap[g]?=some (ol ⟨rr,true⟩) from ai H.out 1 (.bool true));have HC:=Z ((Ch.refl (fun j=>j=g) w).setCell (p:=⟨g,1,none⟩) rfl (.bool true));clear hsz hlt;go_wp2_with fail;go_ret;exact ⟨by rw [HV.out];rfl,by rw [HV.out];exact HX.out,HC.out⟩
 ·have HV:=Z (show cP ⟨rr,rb⟩ n=(rr.take n,⟨rr.drop n,rb⟩) by unfold cP;rw [if_neg hlt]);have hc:(n:Int)<=((ap rr).size:Int):=by omega
  have hc2:n<=(ap rr).size:=by omega
  have HE1:=Z (show (ap rr).extract 0 n=ap (rr.take n) by rw [dM,bA];simp);have HE2:=Z (show (ap rr).extract n (ap rr).size=ap (rr.drop n) by
   rw [dM,bA,Bt (by rw [Bx];omega)])
  have HX:=Z (fun v:BE=>(show (w.setCell ⟨g,0,none⟩ v).heap[g]?=some (.cells #[v,.bool rb] 215 (0,0)) from ai H.out 0 v));have HC:=Z (fun v:BE=>((Ch.refl (fun j=>j=g) w).setCell (p:=⟨g,0,none⟩) rfl v));clear hsz hlt;go_wp2_with fail;go_ret;refine ⟨by rw [HV.out,<- HE1.out];rfl,?_,HC.out _⟩;rw [HV.out];unfold ol;simp only;rw [<- HE2.out];exact HX.out _
theorem qd:∀ (l:List UInt8) (i n:Nat),(ik i n l).2.2=0->(ik i n l).2.1<=i+l.length
 | [],i,n,h=>by rw [iM] at h;cases h
 | b :: r,i,n,h=>by
   by_cases h1:(i=9/\1<b.toNat)\/(0<i/\b.toNat=0)
   ·rw [iN h1] at h;cases h
   ·by_cases h2:b.toNat<128
    ·rw [gi h1 h2];simp
    ·rw [jo h1 h2] at h ⊢;have:=qd r (i+1) _ h;simp only [List.length_cons];omega
theorem lR {l:List UInt8} (h:(iE l).2.2=0):(iE l).2.1<=l.length:=by have:=qd l 0 0 h;unfold iE;omega
theorem oo (r:Rd) (g:Nat) (w:BB) (h:w.heap[g]?=some (ol r)) (hl:r.rest.length<=1000000):
  BH Bv 152 #[.pointer (some ⟨g,0,none⟩)] w fun e w'=>e=.returned (.int .i64 (bK r).1)/\w'.heap[g]?=some (ol (bK r).2)/\Ch (fun k=>k=g) w w':=by
 obtain ⟨rr,rb⟩:=r;simp only at hl;obtain ⟨a0,a1,a2,a3,a4⟩:=gw h;have H:=Z h;have hsz:(ap rr).size=rr.length:=au rr;have HUL:=Z (lR (l:=rr));obtain ⟨⟨n,k,ee⟩,hx⟩:∃ x,iE rr=x:=⟨_,rfl⟩;rw [hx] at HUL;have HRS:=Z (show bK ⟨rr,rb⟩=if ee≠0\/5000<n then (0,⟨rr,true⟩) else (n,⟨rr.drop k,rb⟩) by unfold bK;rw [hx]);have HX:=Z hx;clear h hx;simp only at a0 a1;go_enter Tryz.func152,Tryz.ntmps152;go_wp2_with fail;refine (tY (ap rr) w).mono ?_;rw [bA,HX.out,show zu (n,k,ee)=.tuple #[.int .u64 n,.int .i64 k,.int .i64 ee] from rfl];rintro e w1 ⟨rfl,hb⟩;have HB:=Z hb;have H1:=Z (af H.out hb);clear hb a0 a1 a2 a3 a4;obtain ⟨a0,a1,a2,a3,a4⟩:=gw H1.out;simp only at a0 a1;have HX1:=Z (show (w1.setCell ⟨g,1,none⟩ (.bool true)).heap[g]?=some (ol ⟨rr,true⟩) from ai H1.out 1 (.bool true));have HC1:=Z ((Ch.zK (S:=fun j=>j=g) HB.out).setCell (p:=⟨g,1,none⟩) rfl (.bool true));by_cases he:ee=0
 ·subst he;by_cases h5:5000<n
  ·have HV:=Z (show bK ⟨rr,rb⟩=(0,⟨rr,true⟩) by rw [HRS.out,if_pos (.inr h5)]);have h5b:decide ((5000:Int)<(n:Int))=true:=decide_eq_true (by omega);clear hsz;go_wp2_with fail;go_ret;exact ⟨by rw [HV.out];rfl,by rw [HV.out];exact HX1.out,HC1.out⟩
  ·have HV:=Z (show bK ⟨rr,rb⟩=(n,⟨rr.drop k,rb⟩) by rw [HRS.out,if_neg (by omega)]);have h5b:decide ((5000:Int)<(n:Int))=false:=decide_eq_false (by omega);have h5c:n<=5000:=by omega
   have h5d:(n:Int)<=5000:=by omega
   have h5e:IntKind.i64.wrap (n:Int)=(n:Int):=IntWalk.i64_in _ (by omega);have hk1:k<=rr.length:=HUL.out rfl;have hk2:k<=(ap rr).size:=by omega
   have hk3:(k:Int)<=((ap rr).size:Int):=by omega
   have HE2:=Z (show (ap rr).extract k (ap rr).size=ap (rr.drop k) by
    rw [dM,bA,Bt (by rw [Bx];omega)])
   have HX2:=Z (fun v:BE=>(show (w1.setCell ⟨g,0,none⟩ v).heap[g]?=some (.cells #[v,.bool rb] 215 (0,0)) from ai H1.out 0 v));have HC2:=Z (fun v:BE=>((Ch.zK (S:=fun j=>j=g) HB.out).setCell (p:=⟨g,0,none⟩) rfl v));clear hsz;go_wp2_with fail;go_ret;refine ⟨by rw [HV.out];rfl,?_,HC2.out _⟩;rw [HV.out];unfold ol;simp only;rw [<- HE2.out];exact HX2.out _
 ·have hee:(ee == 0)=false:=by simpa using he
  have HV:=Z (show bK ⟨rr,rb⟩=(0,⟨rr,true⟩) by rw [HRS.out,if_pos (.inl he)]);clear hsz;go_wp2_with fail;go_ret;exact ⟨by rw [HV.out];rfl,by rw [HV.out];exact HX1.out,HC1.out⟩
theorem kP (r:Rd) (g:Nat) (w:BB) (h:w.heap[g]?=some (ol r)) (hl:r.rest.length<=1000000):
  BH Bv 149 #[.pointer (some ⟨g,0,none⟩)] w fun e w'=>e=.returned (.int .i64 (dK r).1)/\w'.heap[g]?=some (ol (dK r).2)/\Ch (fun k=>k=g) w w':=by
 have H:=Z h;clear h;have HL:(cP r 4).1.length=4\/(cP r 4).1=[]:=by
  unfold cP
  split
  ·exact .inr rfl
  ·rename_i h;exact .inl (by rw [BF];omega)
 have HV:=Z (show dK r=(cw (cP r 4).1,(cP r 4).2) from rfl);go_enter Tryz.func149,Tryz.ntmps149;go_wp2_with fail;refine (kN r 4 g w H.out hl).mono ?_;obtain ⟨⟨l,r2⟩,hx⟩:∃ x,cP r 4=x:=⟨_,rfl⟩;rw [hx] at HL HV ⊢;simp only at HL HV ⊢;clear hx;rintro e w1 ⟨rfl,h1,hc⟩;have H1:=Z h1;have HC1:=Z hc;clear h1 hc;rcases HL with hl4 | rfl
 ·have hlt:cw l<4294967296:=Nat.lt_of_lt_of_le (il l) (by rw [hl4];decide);go_wp2_with fail;refine (gG (ap l) w1 (by rw [au];omega) (by rw [au];omega)).mono ?_;rw [bA];generalize cw l=m at *;rintro e w2 ⟨rfl,hb⟩;have H2:=Z (af H1.out hb);have HC2:=Z (HC1.out.trans (Ch.zK hb));clear hb hl4;go_wp2_with fail;go_ret;exact ⟨by rw [HV.out];rfl,by rw [HV.out];exact H2.out,HC2.out⟩
 ·go_wp2_with fail;refine (pm (ap []) w1 (.inl (by rw [au];decide))).mono ?_;rintro e w2 ⟨rfl,rfl⟩;go_wp2_with fail;go_ret;exact ⟨by rw [HV.out];rfl,by rw [HV.out];exact H1.out,HC1.out⟩
theorem aN {w:BB} {g:Nat} {c:Ce} (hh:w.heap[g]?=some (dj c)):w.cell? ⟨g,0,none⟩=some (.int .i64 c.size)/\w.cell? ⟨g,1,none⟩=some (.string (ap c.data))/\w.cell? ⟨g,2,none⟩=some (.int .i64 c.page)/\g<w.heap.size/\w.frozen? ⟨g,0,none⟩=false/\w.frozen? ⟨g,1,none⟩=false/\w.frozen? ⟨g,2,none⟩=false:=
 ⟨ae hh 0,ae hh 1,ae hh 2,aj hh,ab hh 0,ab hh 1,ab hh 2⟩
theorem uj (r:Rd) (g:Nat) (w:BB) (h:w.heap[g]?=some (ol r)) (hl:r.rest.length<=1000000):
  BH Bv 153 #[.pointer (some ⟨g,0,none⟩)] w fun e w'=>e=.returned (.agg #[.int .i64 (ed r).1.size,.string (ap (ed r).1.data),.int .i64 (ed r).1.page])/\w'.heap[g]?=some (ol (ed r).2)/\Ch (fun k=>k=g) w w':=by
 have hgl:=aj h;have HL1:=Z (show (bK r).2.rest.length<=1000000 by
  unfold bK
  split
  ·exact hl
  ·simp only [Bx];omega)
 have HV:=Z (show ed r=if 40<(bK r).1 then (⟨(bK r).1,[],(dK (bK r).2).1⟩,(dK (bK r).2).2)
  else (⟨(bK r).1,(cP (bK r).2 (bK r).1).1,0⟩,(cP (bK r).2 (bK r).1).2) from rfl)
 have HA:=Z (ag (w0:=w) (g:=w.heap.size) (o:=dj ⟨0,[],0⟩) rfl);have H:=Z (am h (dj ⟨0,[],0⟩));have HC0:=Z (Ch.alloc (Ch.refl (fun k=>k=g) w) (dj ⟨0,[],0⟩));clear h;go_enter Tryz.func153,Tryz.ntmps153;go_upto_region 1 with fail
 generalize hw1:w.alloc (.cells #[.int .i64 0,.string ⟨#[]⟩,.int .i64 0] 119)=w1 at *;have hw2:w.alloc (dj ⟨0,[],0⟩)=w1:=hw1;rw [hw2] at HA H HC0;clear hw1 hw2;go_wp2_with fail;refine (oo r g w1 H.out hl).mono ?_;obtain ⟨⟨s,r2⟩,hx⟩:∃ x,bK r=x:=⟨_,rfl⟩;rw [hx] at HV HL1 ⊢;simp only at HV HL1 ⊢;clear hx;rintro e w2 ⟨rfl,h1,hc⟩;have HA2:=Z (hc.keep HA.out (by omega));have H2:=Z (am h1 (dj ⟨s,[],0⟩));have HB2:=Z (ag (w0:=w2) (g:=w2.heap.size) (o:=dj ⟨s,[],0⟩) rfl);have HA3:=Z (am HA2.out (dj ⟨s,[],0⟩));have HC2:=Z ((HC0.out.trans hc).alloc (dj ⟨s,[],0⟩));have hs2:w.heap.size<w2.heap.size:=aj HA2.out;clear h1 hc;go_upto_region 2 with fail
 generalize hw1:w2.alloc (.cells #[.int .i64 s,.string ⟨#[]⟩,.int .i64 0] 119)=w3 at *;have hw2:w2.alloc (dj ⟨s,[],0⟩)=w3:=hw1;rw [hw2] at H2 HB2 HA3 HC2;generalize w2.heap.size=gc at *;clear hw1 hw2;obtain ⟨b0,b1,b2,b3,b4,b5,b6⟩:=aN HB2.out;simp only at b0 b1 b2;by_cases h40:40<s
 ·have h40b:(40:Int)<(s:Int):=by omega
  rw [if_pos h40] at HV;go_wp2_with fail;refine (kP r2 g w3 H2.out HL1.out).mono ?_;obtain ⟨⟨p,r3⟩,hx⟩:∃ x,dK r2=x:=⟨_,rfl⟩;rw [hx] at HV ⊢;simp only at HV ⊢;clear hx;rintro e w4 ⟨rfl,h1,hc⟩;have HA4:=Z (hc.keep HA3.out (by omega));have HB4:=Z (hc.keep HB2.out (by omega));have hne:gc≠w.heap.size:=by omega
  have hne2:g≠gc:=by omega
  have hne3:g≠w.heap.size:=by omega
  have HC4:=Z ((HC2.out.trans hc).then ((Ch.refl (fun j=>j=gc) w4).setCell (p:=⟨gc,2,none⟩) rfl (.int .i64 p)) (fun i e=>.inr (by omega)));have HX5:=Z (show (w4.setCell ⟨gc,2,none⟩ (.int .i64 p)).heap[gc]?=some (dj ⟨s,[],p⟩) from ai HB4.out 2 (.int .i64 p));have HA5:=Z (cN HA4.out (a:=⟨gc,2,none⟩) hne (.int .i64 p));have H5:=Z (cN h1 (a:=⟨gc,2,none⟩) (show gc≠g by omega) (.int .i64 p));clear h1 hc b0 b1 b2 b3 b4 b5 b6;obtain ⟨b0,b1,b2,b3,b4,b5,b6⟩:=aN HB4.out;simp only at b0 b1 b2;go_upto_region 5 with fail
  generalize w4.setCell ⟨gc,2,none⟩ (.int .i64 p)=w5 at *;clear b0 b1 b2 b3 b4 b5 b6;obtain ⟨b0,b1,b2,b3,b4,b5,b6⟩:=aN HX5.out;obtain ⟨d0,d1,d2,d3,d4,d5,d6⟩:=aN HA5.out;simp only at b0 b1 b2 d0 d1 d2;go_wp2_with fail;have hf:=ai (ai (ai HA5.out 0 (.int .i64 (⟨s,[],p⟩:Ce).size)) 1 (.string (ap (⟨s,[],p⟩:Ce).data))) 2 (.int .i64 (⟨s,[],p⟩:Ce).page);obtain ⟨q0,q1,q2,q3,-,-,-⟩:=aN (c:=⟨s,[],p⟩) hf;simp only at q0 q1 q2
  exact Bz (v:=.agg #[.int .i64 (⟨s,[],p⟩:Ce).size,.string (ap (⟨s,[],p⟩:Ce).data),.int .i64 (⟨s,[],p⟩:Ce).page]) (by simp [BD,BG,go_sem,q0,q1,q2]) rfl
   ⟨by rw [HV.out],by rw [HV.out];exact cN (cN (cN H5.out (a:=⟨w.heap.size,0,none⟩) hne3.symm _) (a:=⟨w.heap.size,1,none⟩) hne3.symm _) (a:=⟨w.heap.size,2,none⟩) hne3.symm _,
    HC4.out.then ((((Ch.refl (fun j=>j=w.heap.size) w5).setCell (p:=⟨w.heap.size,0,none⟩) rfl _).setCell (p:=⟨w.heap.size,1,none⟩) rfl _).setCell (p:=⟨w.heap.size,2,none⟩) rfl _) (fun i e=>.inr (by omega))⟩
 ·have h40b:(s:Int)<=40:=by omega
  rw [if_neg h40] at HV;go_wp2_with fail;refine (kN r2 s g w3 H2.out HL1.out).mono ?_;obtain ⟨⟨d,r3⟩,hx⟩:∃ x,cP r2 s=x:=⟨_,rfl⟩;rw [hx] at HV ⊢;simp only at HV ⊢;clear hx;rintro e w4 ⟨rfl,h1,hc⟩;have HA4:=Z (hc.keep HA3.out (by omega));have HB4:=Z (hc.keep HB2.out (by omega));have hne:gc≠w.heap.size:=by omega
  have hne2:g≠gc:=by omega
  have hne3:g≠w.heap.size:=by omega
  have HC4:=Z ((HC2.out.trans hc).then ((Ch.refl (fun j=>j=gc) w4).setCell (p:=⟨gc,1,none⟩) rfl (.string (ap d))) (fun i e=>.inr (by omega)));have HX5:=Z (show (w4.setCell ⟨gc,1,none⟩ (.string (ap d))).heap[gc]?=some (dj ⟨s,d,0⟩) from ai HB4.out 1 (.string (ap d)));have HA5:=Z (cN HA4.out (a:=⟨gc,1,none⟩) hne (.string (ap d)));have H5:=Z (cN h1 (a:=⟨gc,1,none⟩) (show gc≠g by omega) (.string (ap d)));clear h1 hc b0 b1 b2 b3 b4 b5 b6;obtain ⟨b0,b1,b2,b3,b4,b5,b6⟩:=aN HB4.out;simp only at b0 b1 b2;go_upto_region 5 with fail
  generalize w4.setCell ⟨gc,1,none⟩ (.string (ap d))=w5 at *;clear b0 b1 b2 b3 b4 b5 b6;obtain ⟨b0,b1,b2,b3,b4,b5,b6⟩:=aN HX5.out;obtain ⟨d0,d1,d2,d3,d4,d5,d6⟩:=aN HA5.out;simp only at b0 b1 b2 d0 d1 d2;go_wp2_with fail;have hf:=ai (ai (ai HA5.out 0 (.int .i64 (⟨s,d,0⟩:Ce).size)) 1 (.string (ap (⟨s,d,0⟩:Ce).data))) 2 (.int .i64 (⟨s,d,0⟩:Ce).page);obtain ⟨q0,q1,q2,q3,-,-,-⟩:=aN (c:=⟨s,d,0⟩) hf;simp only at q0 q1 q2
  exact Bz (v:=.agg #[.int .i64 (⟨s,d,0⟩:Ce).size,.string (ap (⟨s,d,0⟩:Ce).data),.int .i64 (⟨s,d,0⟩:Ce).page]) (by simp [BD,BG,go_sem,q0,q1,q2]) rfl
   ⟨by rw [HV.out],by rw [HV.out];exact cN (cN (cN H5.out (a:=⟨w.heap.size,0,none⟩) hne3.symm _) (a:=⟨w.heap.size,1,none⟩) hne3.symm _) (a:=⟨w.heap.size,2,none⟩) hne3.symm _,
    HC4.out.then ((((Ch.refl (fun j=>j=w.heap.size) w5).setCell (p:=⟨w.heap.size,0,none⟩) rfl _).setCell (p:=⟨w.heap.size,1,none⟩) rfl _).setCell (p:=⟨w.heap.size,2,none⟩) rfl _) (fun i e=>.inr (by omega))⟩
def co (gs:Nat):BE:=.iface 24 (.pointer (some ⟨gs,0,none⟩))
theorem xN (a:Addr) (w:BB):(nilAhead 415 24 (.pointer (some a)) "Put").run Bv w=.ok (some false) w:=by kernel_rfl
theorem xS (a:Addr) (w:BB):(method 415 24 (.pointer (some a)) "Put").run Bv w=.ok (19,.pointer (some a)) w:=by kernel_rfl
theorem vX (part:By) (next:Nat) (w:BB) (hl:part.length<=227) (hn:next<4294967296):
  BH Bv 124 #[.string (ap part),.int .i64 next] w fun e w'=>e=.returned (.string (ap (fb part next)))/\Below w.heap.size w w':=by
 have hg:IntKind.u64.wrap (next:Int)=(next:Int):=IntWalk.u64_in _ (by omega);have s0:=au part;have s1:=au (aR 4 next);rw [aF] at s1;obtain ⟨r,hr⟩:∃ r:Nat,r=227 - part.length:=⟨_,rfl⟩;have hr2:(227:Int) - (part.length:Int)=(r:Int):=by omega
 have HR:=Z hr;have hr3:r<=232:=by omega
 have s4:=au (Bw r 0);rw [BC] at s4;clear hr;go_enter Tryz.func124,Tryz.ntmps124;go_wp2_with fail;refine (fx next w (by omega)).mono ?_;rintro e w1 ⟨rfl,hb1⟩;have HB1:=Z hb1;clear hb1;go_wp2_with fail;refine (gH r w1 hr3).mono ?_;rintro e w2 ⟨rfl,hb2⟩;have HB2:=Z (HB1.out.trans (hb2.mono HB1.out.size))
 have HS:=Z (show ({ data:=#[3] }:ByteArray) ++ ap (aR 4 next) ++ ap part ++ ap (Bw r 0)=ap (fb part next) by
  rw [cE,cE,cE];simp only [bA];show ap ((([3] ++ aR 4 next) ++ part) ++ Bw r 0)=_;unfold fb;rw [HR.out];simp)
 clear hb2;go_wp2_with fail;go_ret;exact ⟨by rw [HS.out];rfl,HB2.out⟩
def kF (c:Ce):BE:=.agg #[.int .i64 c.size,.string (ap c.data),.int .i64 c.page]
def vi:Ans Ce->BE
 | .ok c=>.tuple #[kF c,.int .i64 0]
 | .err e=>.tuple #[kF ⟨0,[],0⟩,.int .i64 e]
theorem xO {s:Sf} (h:s.Ok):0<=bR s/\bR s<4096:=by
 unfold bR
 split
 ·rename_i he
  unfold br at he
  split at he
  ·cases he
  ·split at he
   ·cases he
   ·have:=iO h.h h.l he;exact ⟨this.2.2.1,this.2.2.2⟩
 ·exact ⟨by decide,by decide⟩
theorem nw (v:By) (gs gm:Nat) (s:Sf) (w:BB) (h:ShIs w gs gm s) (hl:v.length<=1000000):
  BH Bv 70 #[co gs,.string (ap v)] w fun e w'=>e=.returned (vi ((cy v).run s).2)/\ShIs w' gs gm ((cy v).run s).1/\Ch (fun k=>k=gs\/k=gm) w w':=by
 have s0:=au v;have HA:=Z (h.ch (S:=fun _=>False) (Ch.alloc (Ch.refl _ w) (dj ⟨0,[],0⟩)) id id);have HX:=Z (ag (w0:=w) (g:=w.heap.size) (o:=dj ⟨0,[],0⟩) rfl);have HC:=Z (Ch.alloc (Ch.refl (fun k=>k=gs\/k=gm) w) (dj ⟨0,[],0⟩));have hgs:=aj h.blk;have hgm:=h.book.lt;clear h;unfold co;go_enter Tryz.func70,Tryz.ntmps70;go_upto_region 1 with fail
 generalize hw1:w.alloc (.cells #[.int .i64 0,.string ⟨#[]⟩,.int .i64 0] 119)=w1 at *;have hw2:w.alloc (dj ⟨0,[],0⟩)=w1:=hw1;rw [hw2] at HA HX HC;clear hw1 hw2;by_cases h5:5000<v.length
 ·have h5b:(5000:Int)<(v.length:Int):=by omega
  obtain ⟨b0,b1,b2,b3,b4,b5,b6⟩:=aN HX.out;simp only at b0 b1 b2;have HV:=Z (show (cy v).run s=(s,.err 47) by unfold cy;rw [if_pos h5];rfl);go_wp2_with fail;have hf:((((w1).setCell ⟨w.heap.size,0,none⟩ (.int .i64 (⟨0,[],0⟩:Ce).size)).setCell ⟨w.heap.size,1,none⟩ (.string ⟨#[]⟩)).setCell ⟨w.heap.size,2,none⟩ (.int .i64 (⟨0,[],0⟩:Ce).page)).heap[w.heap.size]?=some (dj ⟨0,[],0⟩):=ai (ai (ai HX.out 0 (.int .i64 (⟨0,[],0⟩:Ce).size)) 1 (.string ⟨#[]⟩)) 2 (.int .i64 (⟨0,[],0⟩:Ce).page);obtain ⟨q0,q1,q2,q3,-,-,-⟩:=aN (c:=⟨0,[],0⟩) hf;simp only at q0 q1 q2;have HC0:=Z (((Ch.refl (fun j=>j=w.heap.size) w1).setCell (p:=⟨w.heap.size,0,none⟩) rfl (.int .i64 (⟨0,[],0⟩:Ce).size)).setCell (p:=⟨w.heap.size,1,none⟩) rfl (.string ⟨#[]⟩) |>.setCell (p:=⟨w.heap.size,2,none⟩) rfl (.int .i64 (⟨0,[],0⟩:Ce).page))
  exact Bz (v:=.tuple #[kF ⟨0,[],0⟩,.int .i64 47]) (by simp [BD,BA,go_sem,q0,q1,q2,kF]) rfl
   ⟨by rw [HV.out];rfl,by rw [HV.out];exact HA.out.ch HC0.out (by omega) (by omega),HC.out.then HC0.out (fun i e=>.inr (by omega))⟩
 ·have h5b:(v.length:Int)<=5000:=by omega
  by_cases h40:v.length<=40
  ·have h4b:(v.length:Int)<=40:=by omega
   obtain ⟨b0,b1,b2,b3,b4,b5,b6⟩:=aN HX.out;simp only at b0 b1 b2;have HV:=Z (show (cy v).run s=(s,.ok ⟨v.length,v,0⟩) by unfold cy;rw [if_neg h5,if_pos h40];rfl);go_wp2_with fail;have hf:((((w1).setCell ⟨w.heap.size,0,none⟩ (.int .i64 (⟨v.length,v,0⟩:Ce).size)).setCell ⟨w.heap.size,1,none⟩ (.string (ap v))).setCell ⟨w.heap.size,2,none⟩ (.int .i64 (⟨v.length,v,0⟩:Ce).page)).heap[w.heap.size]?=some (dj ⟨v.length,v,0⟩):=ai (ai (ai HX.out 0 (.int .i64 (⟨v.length,v,0⟩:Ce).size)) 1 (.string (ap v))) 2 (.int .i64 (⟨v.length,v,0⟩:Ce).page);obtain ⟨q0,q1,q2,q3,-,-,-⟩:=aN (c:=⟨v.length,v,0⟩) hf;simp only at q0 q1 q2;have HC0:=Z (((Ch.refl (fun j=>j=w.heap.size) w1).setCell (p:=⟨w.heap.size,0,none⟩) rfl (.int .i64 (⟨v.length,v,0⟩:Ce).size)).setCell (p:=⟨w.heap.size,1,none⟩) rfl (.string (ap v)) |>.setCell (p:=⟨w.heap.size,2,none⟩) rfl (.int .i64 (⟨v.length,v,0⟩:Ce).page))
   exact Bz (v:=.tuple #[kF ⟨v.length,v,0⟩,.int .i64 0]) (by simp [BD,BA,go_sem,q0,q1,q2,kF]) rfl
    ⟨by rw [HV.out];rfl,by rw [HV.out];exact HA.out.ch HC0.out (by omega) (by omega),HC.out.then HC0.out (fun i e=>.inr (by omega))⟩
  ·have h4b:(40:Int)<(v.length:Int):=by omega
   obtain ⟨q,hq⟩:∃ q,q=(v.length - 1) / 227:=⟨_,rfl⟩;have hq1:((v.length:Int) - 1).tdiv 227=(q:Int):=by rw [Int.tdiv_eq_ediv_of_nonneg (by omega)];omega
   have hq2:q<=22:=by omega
   have hq3:IntKind.i64.wrap ((q:Int) * 227)=(q:Int) * 227:=IntWalk.i64_in _ (by omega);go_wp2_with fail;obtain ⟨J,hJ⟩:∃ J,J=q+1:=⟨_,rfl⟩;have hJ2:(q:Int) * 227=(J:Int) * 227 - 227:=by omega
   have HV0:=Z (show cy v=(jD v J 0).bind fun p=>.pure ⟨v.length,[],p⟩ by unfold cy;rw [if_neg h5,if_neg h40,hJ,hq]);have HJ:=Z (show (J:Int) * 227<=v.length+226/\v.length<=J * 227/\J<=23 by omega);clear hJ;go_loopw [6,7] (fun nv iv wr=>∃ (j next:Nat) (s1:Sf),j<=J/\next<4096/\nv=.int .i64 next/\iv=.int .i64 ((j:Int) * 227 - 227)/\(jD v j next).run s1=(jD v J 0).run s/\ShIs wr gs gm s1/\Ch (fun k=>k=gs\/k=gm) w1 wr) (fun _ iv _=>(intOf iv+227).toNat)
   case atStart=>exact ⟨J,0,s,Nat.le_refl _,by decide,rfl,by rw [<- hJ2];go_num,rfl,HA.out,Ch.refl _ _⟩
   case round=>
    obtain ⟨j,next,s1,hj,hn,rfl,rfl,hrun,hs,hch⟩:=hrel;have HRUN:=Z hrun;have HSR:=Z hs;have HCH:=Z hch;have HCR:=Z (HC.out.trans (hch.mono (fun _ _ e=>e)));have HXR:=Z (hch.keep HX.out (by omega));clear hrun hs hch;cases j with
    | zero=>
      have HV:=Z (show (cy v).run s=(s1,.ok ⟨v.length,[],next⟩) by rw [HV0.out];exact ah (by rw [<- HRUN.out];rfl));have HAR:=Z HSR.out;obtain ⟨b0,b1,b2,b3,b4,b5,b6⟩:=aN HXR.out;simp only at b0 b1 b2;go_wp2_with fail;have hf:((((wr).setCell ⟨w.heap.size,0,none⟩ (.int .i64 (⟨v.length,[],next⟩:Ce).size)).setCell ⟨w.heap.size,1,none⟩ (.string ⟨#[]⟩)).setCell ⟨w.heap.size,2,none⟩ (.int .i64 (⟨v.length,[],next⟩:Ce).page)).heap[w.heap.size]?=some (dj ⟨v.length,[],next⟩):=ai (ai (ai HXR.out 0 (.int .i64 (⟨v.length,[],next⟩:Ce).size)) 1 (.string ⟨#[]⟩)) 2 (.int .i64 (⟨v.length,[],next⟩:Ce).page);obtain ⟨q0,q1,q2,q3,-,-,-⟩:=aN (c:=⟨v.length,[],next⟩) hf;simp only at q0 q1 q2;have HC0:=Z (((Ch.refl (fun j=>j=w.heap.size) wr).setCell (p:=⟨w.heap.size,0,none⟩) rfl (.int .i64 (⟨v.length,[],next⟩:Ce).size)).setCell (p:=⟨w.heap.size,1,none⟩) rfl (.string ⟨#[]⟩) |>.setCell (p:=⟨w.heap.size,2,none⟩) rfl (.int .i64 (⟨v.length,[],next⟩:Ce).page))
      exact Bz (v:=.tuple #[kF ⟨v.length,[],next⟩,.int .i64 0]) (by simp [BD,BA,go_sem,q0,q1,q2,kF]) rfl
       ⟨by rw [HV.out];rfl,by rw [HV.out];exact HAR.out.ch HC0.out (by omega) (by omega),HCR.out.then HC0.out (fun i e=>.inr (by omega))⟩
    | succ j=>
      have hjj:((j+1:Nat):Int) * 227 - 227=(j:Int) * 227:=by omega
      have hj2:=HJ.out;rw [hjj];have hi0:(0:Int)<=(j:Int) * 227:=by omega
      have hwA:IntKind.i64.wrap ((j:Int) * 227+227)=(j:Int) * 227+227:=IntWalk.i64_in _ (by omega);have HNB:=Z (xO HSR.out.ok);go_wp2_with fail;refine (eO gs gm s1 wr HSR.out).mono ?_;rintro e w5 ⟨rfl,hs5,hc5⟩;have HS5:=Z hs5;have HC5:=Z (HCR.out.trans hc5);have HX5:=Z (hc5.keep HXR.out (by omega));have HCS:=Z hc5;clear hs5 hc5;obtain ⟨b0,b1,b2,b3,b4,b5,b6⟩:=aN HX5.out;simp only at b0 b1 b2;by_cases hne:br s1=0
      ·obtain ⟨at_,hat⟩:∃ a:Nat,bR s1=a:=⟨(bR s1).toNat,by have:=HNB.out;omega⟩;have hat4:at_<4096:=by have:=HNB.out;omega
       obtain ⟨pg,hpg⟩:∃ x,fb ((v.drop (j * 227)).take 227) next=x:=⟨_,rfl⟩
       obtain ⟨pe,hpe⟩:∃ x,kV (aJ s1) at_ pg=x:=⟨_,rfl⟩;obtain ⟨s3,hs3⟩:∃ x,kU (aJ s1) at_ pg=x:=⟨_,rfl⟩;have HRR:=Z (show (jD v (j+1) next).run s1=if pe=0 then (jD v j at_).run s3 else (s3,.err pe) by
        show (if br s1=0 then (if kV (aJ s1) (bR s1) (fb ((v.drop (j * 227)).take 227) next)=0 then _ else _) else _)=_;rw [if_pos hne,hat,hpg,hpe,hs3])
       have HPG:=Z hpg;have HPE:=Z hpe;have HPS:=Z hs3;clear hpg hpe hs3;rw [hat,hne];obtain ⟨m,hm⟩:∃ m,m=min (j * 227+227) v.length:=⟨_,rfl⟩;have hmin:min ((j:Int) * 227+227) (v.length:Int)=(m:Int):=by omega
       have hm1:(j:Int) * 227<=(m:Int):=by omega
       have hm2:(m:Int)<=(v.length:Int):=by omega
       have HE:=Z (show (ap v).extract ((j:Int) * 227).toNat m=ap ((v.drop (j * 227)).take 227) by
        rw [show ((j:Int) * 227).toNat=j * 227 by omega,dM,bA];congr 1;rw [hm];rcases Nat.le_total (j * 227+227) v.length with h | h
        ·rw [Nat.min_eq_left h,Nat.add_sub_cancel_left]
        ·rw [Nat.min_eq_right h,Bt (by rw [Bx];omega),Bt (by rw [Bx];omega)])
       have hpl:((v.drop (j * 227)).take 227).length<=227:=by rw [BF];omega
       clear hm;have hme:=fun w=>xS ⟨gs,0,none⟩ w
       have hna:=fun w=>xN ⟨gs,0,none⟩ w
       have hmf:∀ (fn:Fn) (first cap:Array BE) (w:BB),(Instr.makeFunc fn first cap).run Bv w=.ok (.func fn first cap) w:=fun _ _ _ _=>rfl
       go_upto_region 12 with fail
       go_region_law (first
        | (go_simp
           go_at_call 124;rw [HE.out];refine (vX ((v.drop (j * 227)).take 227) next _ hpl (by omega)).mono ?_;rw [HPG.out];rintro e w6 ⟨rfl,hb⟩;have HS6:=Z (HS5.out.ch (S:=fun _=>False) (((Ch.refl (fun _=>False) w5).drew).trans (Ch.zK hb)) id id);have HC6:=Z ((Ch.refl (fun k=>k=gs\/k=gm) w5).drew.trans (Ch.zK hb));clear hb)
        | (go_simp
           go_at_call 19;refine (qi at_ (ap pg) gs gm (aJ s1) _ HS6.out).mono ?_;rw [bA,HPE.out,HPS.out];rintro e w7 ⟨rfl,hs,hc⟩;have HS7:=Z hs;have HC7:=Z (HC6.out.trans hc);clear hs hc))
       all_goals
        have HCZ:=Z (HC5.out.trans (HC7.out.mono (fun _ _ e=>e)));have HCY:=Z (((HCH.out.trans HCS.out).trans HC7.out));have HXZ:=Z (HC7.out.keep HX5.out (by omega));clear b0 b1 b2 b3 b4 b5 b6 HC6 HC7 HS6 hna hme hmf hmin hm1 hm2 hwA;by_cases hpz:pe=0
        ·have HRY:=Z (show (jD v j at_).run s3=(jD v J 0).run s by rw [<- HRUN.out,HRR.out,if_pos hpz]);subst hpz;clear HRR;go_wp2_with fail;go_roundw
         case rel=>exact ⟨j,at_,s3,by omega,hat4,rfl,by go_num,HRY.out,HS7.out,HCY.out⟩
         case measure=>simp [intOf];omega
        ·have HV:=Z (show (cy v).run s=(s3,.err pe) by
          rw [HV0.out];refine aq ?_;rw [<- HRUN.out,HRR.out,if_neg hpz])
         have hpz2:(pe == 0)=false:=by simpa using hpz
         have HAZ:=Z HS7.out;clear HRR;obtain ⟨b0,b1,b2,b3,b4,b5,b6⟩:=aN HXZ.out;simp only at b0 b1 b2;go_wp2_with fail;have hf:((((w7).setCell ⟨w.heap.size,0,none⟩ (.int .i64 (⟨0,[],0⟩:Ce).size)).setCell ⟨w.heap.size,1,none⟩ (.string ⟨#[]⟩)).setCell ⟨w.heap.size,2,none⟩ (.int .i64 (⟨0,[],0⟩:Ce).page)).heap[w.heap.size]?=some (dj ⟨0,[],0⟩):=ai (ai (ai HXZ.out 0 (.int .i64 (⟨0,[],0⟩:Ce).size)) 1 (.string ⟨#[]⟩)) 2 (.int .i64 (⟨0,[],0⟩:Ce).page);obtain ⟨q0,q1,q2,q3,-,-,-⟩:=aN (c:=⟨0,[],0⟩) hf;simp only at q0 q1 q2;have HC0:=Z (((Ch.refl (fun j=>j=w.heap.size) w7).setCell (p:=⟨w.heap.size,0,none⟩) rfl (.int .i64 (⟨0,[],0⟩:Ce).size)).setCell (p:=⟨w.heap.size,1,none⟩) rfl (.string ⟨#[]⟩) |>.setCell (p:=⟨w.heap.size,2,none⟩) rfl (.int .i64 (⟨0,[],0⟩:Ce).page))
         exact Bz (v:=.tuple #[kF ⟨0,[],0⟩,.int .i64 pe]) (by simp [BD,BA,go_sem,q0,q1,q2,kF]) rfl
          ⟨by rw [HV.out];rfl,by rw [HV.out];exact HAZ.out.ch HC0.out (by omega) (by omega),HCZ.out.then HC0.out (fun i e=>.inr (by omega))⟩
      ·have HV:=Z (show (cy v).run s=(aJ s1,.err (br s1)) by
        rw [HV0.out];refine aq ?_;rw [<- HRUN.out];show (if br s1=0 then _ else _)=_;rw [if_neg hne])
       generalize br s1=ne at *;generalize bR s1=nn at *;generalize aJ s1=s2 at *;have hne2:(ne == 0)=false:=by simpa using hne
       have HA5:=Z HS5.out;go_wp2_with fail;have hf:((((w5).setCell ⟨w.heap.size,0,none⟩ (.int .i64 (⟨0,[],0⟩:Ce).size)).setCell ⟨w.heap.size,1,none⟩ (.string ⟨#[]⟩)).setCell ⟨w.heap.size,2,none⟩ (.int .i64 (⟨0,[],0⟩:Ce).page)).heap[w.heap.size]?=some (dj ⟨0,[],0⟩):=ai (ai (ai HX5.out 0 (.int .i64 (⟨0,[],0⟩:Ce).size)) 1 (.string ⟨#[]⟩)) 2 (.int .i64 (⟨0,[],0⟩:Ce).page);obtain ⟨q0,q1,q2,q3,-,-,-⟩:=aN (c:=⟨0,[],0⟩) hf;simp only at q0 q1 q2;have HC0:=Z (((Ch.refl (fun j=>j=w.heap.size) w5).setCell (p:=⟨w.heap.size,0,none⟩) rfl (.int .i64 (⟨0,[],0⟩:Ce).size)).setCell (p:=⟨w.heap.size,1,none⟩) rfl (.string ⟨#[]⟩) |>.setCell (p:=⟨w.heap.size,2,none⟩) rfl (.int .i64 (⟨0,[],0⟩:Ce).page))
       exact Bz (v:=.tuple #[kF ⟨0,[],0⟩,.int .i64 ne]) (by simp [BD,BA,go_sem,q0,q1,q2,kF]) rfl
        ⟨by rw [HV.out];rfl,by rw [HV.out];exact HA5.out.ch HC0.out (by omega) (by omega),HC5.out.then HC0.out (fun i e=>.inr (by omega))⟩
end Go.Proofs.YtknioodagnjchaaGreatDoor
namespace Go.Proofs.YtknioodagnjchaaGreatDoor
open Go.RowKit
theorem gT:ElemT Tryz.prog 22 9 sC 1 16:=
 ElemT.mk' (z:=.string ⟨#[]⟩) Tryz.underlying22 (by kernel_rfl) rfl (by decide) aG (fun x u hu=>by rw [List.mem_singleton.1 hu];rfl)
theorem iL:ElemT Tryz.prog 108 119 cC 3 32:=
 ElemT.mk' (z:=.agg #[.int .i64 0,.string ⟨#[]⟩,.int .i64 0]) Tryz.underlying108 (by kernel_rfl) rfl (by decide) bx (fun x u hu=>by
  simp only [cC,List.mem_cons,List.not_mem_nil,or_false] at hu;rcases hu with rfl | rfl | rfl <;> rfl)
structure DSt (b3 gn gr:Nat) (rd:Rd) (n:Nd) (vk vc vd:Value) (w:World):Prop where
 g:w.heap[gn]?=some (ar n vk vc vd)
 r:w.heap[gr]?=some (ol rd)
 k:Own sC 1 9 b3 w vk n.keys
 c:Own cC 3 119 b3 w vc n.cells
 d:Own iC 1 3 b3 w vd n.kids
 kc:Dis vk vc
 kd:Dis vk vd
 cd:Dis vc vd
 h1:gn<b3
 h2:gr<b3
 h3:gn≠gr
section
variable {b3 gn gr:Nat} {rd rd':Rd} {n:Nd} {vk vc vd v':Value} {w w' w5:World}
theorem DSt.reader (h:DSt b3 gn gr rd n vk vc vd w) (hc:Ch (fun k=>k=gr) w w') (hr:w'.heap[gr]?=some (ol rd')):DSt b3 gn gr rd' n vk vc vd w':=
 ⟨hc.keep h.g h.h3,hr,h.k.ch hc (fun j hj e=>by have:=(h.k.lt j hj).1;have:=h.h2;omega),h.c.ch hc (fun j hj e=>by have:=(h.c.lt j hj).1;have:=h.h2;omega),h.d.ch hc (fun j hj e=>by have:=(h.d.lt j hj).1;have:=h.h2;omega),h.kc,h.kd,h.cd,h.h1,h.h2,h.h3⟩
theorem DSt.draw (h:DSt b3 gn gr rd n vk vc vd w):DSt b3 gn gr rd n vk vc vd w.drew:=⟨h.g,h.r,h.k,h.c,h.d,h.kc,h.kd,h.cd,h.h1,h.h2,h.h3⟩
theorem DSt.alloc (h:DSt b3 gn gr rd n vk vc vd w) (o:Obj):DSt b3 gn gr rd n vk vc vd (w.alloc o):=
 ⟨am h.g o,am h.r o,h.k.alloc o,h.c.alloc o,h.d.alloc o,h.kc,h.kd,h.cd,h.h1,h.h2,h.h3⟩
theorem DSt.below (h:DSt b3 gn gr rd n vk vc vd w) (hb:Below w.heap.size w w'):DSt b3 gn gr rd n vk vc vd w':=
 ⟨af h.g hb,af h.r hb,h.k.below hb,h.c.below hb,h.d.below hb,h.kc,h.kd,h.cd,h.h1,h.h2,h.h3⟩
theorem bb {g:Nat} {o:Obj} {row:Value} (h:w.heap[g]?=some o) (hg:w.grownBy w' row.ownBlock) (hb:∀ k,row.ownBlock=some k->b3<=k) (hlt:g<b3):w'.heap[g]?=some o:=
 (hg.block g (aj h) (fun e=>by have:=hb g e.symm;omega)).trans h
theorem DSt.AV (h:DSt b3 gn gr rd n vk vc vd w) {x:By} (ho:Own sC 1 9 b3 w5 v' (n.keys ++ [x])) (hg:w.grownBy w5 vk.ownBlock) (hat:v'.ownBlock=vk.ownBlock\/v'.ownBlock=some w.heap.size):
  DSt b3 gn gr rd { n with keys:=n.keys ++ [x] } v' vc vd (w5.setCell ⟨gn,1,none⟩ v'):=by
 have hb:∀ k,vk.ownBlock=some k->b3<=k:=fun k hk=>(h.k.lt k hk).1
 have hg5:=bb h.g hg hb h.h1;have hr5:=bb h.r hg hb h.h2;have hc:Ch (fun j=>j=gn) w5 (w5.setCell ⟨gn,1,none⟩ v'):=(Ch.refl (fun j=>j=gn) w5).setCell (p:=⟨gn,1,none⟩) rfl v';have hc5:=h.c.dis hg (h.kc.symm);have hd5:=h.d.dis hg (h.kd.symm)
 exact ⟨ai hg5 1 v',hc.keep hr5 h.h3.symm,ho.ch hc (fun j hj e=>by have:=(ho.lt j hj).1;have:=h.h1;omega),hc5.ch hc (fun j hj e=>by have:=(hc5.lt j hj).1;have:=h.h1;omega),hd5.ch hc (fun j hj e=>by have:=(hd5.lt j hj).1;have:=h.h1;omega),
  h.kc.app hat h.c,h.kd.app hat h.d,h.cd,h.h1,h.h2,h.h3⟩
theorem DSt.AW (h:DSt b3 gn gr rd n vk vc vd w) {x:Ce} (ho:Own cC 3 119 b3 w5 v' (n.cells ++ [x])) (hg:w.grownBy w5 vc.ownBlock) (hat:v'.ownBlock=vc.ownBlock\/v'.ownBlock=some w.heap.size):
  DSt b3 gn gr rd { n with cells:=n.cells ++ [x] } vk v' vd (w5.setCell ⟨gn,2,none⟩ v'):=by
 have hb:∀ k,vc.ownBlock=some k->b3<=k:=fun k hk=>(h.c.lt k hk).1
 have hg5:=bb h.g hg hb h.h1;have hr5:=bb h.r hg hb h.h2;have hc:Ch (fun j=>j=gn) w5 (w5.setCell ⟨gn,2,none⟩ v'):=(Ch.refl (fun j=>j=gn) w5).setCell (p:=⟨gn,2,none⟩) rfl v';have hk5:=h.k.dis hg h.kc;have hd5:=h.d.dis hg (h.cd.symm)
 exact ⟨ai hg5 2 v',hc.keep hr5 h.h3.symm,hk5.ch hc (fun j hj e=>by have:=(hk5.lt j hj).1;have:=h.h1;omega),ho.ch hc (fun j hj e=>by have:=(ho.lt j hj).1;have:=h.h1;omega),hd5.ch hc (fun j hj e=>by have:=(hd5.lt j hj).1;have:=h.h1;omega),
  (h.kc.symm.app hat h.k).symm,h.kd,h.cd.app hat h.d,h.h1,h.h2,h.h3⟩
theorem DSt.AE (h:DSt b3 gn gr rd n vk vc vd w) {x:Int} (ho:Own iC 1 3 b3 w5 v' (n.kids ++ [x])) (hg:w.grownBy w5 vd.ownBlock) (hat:v'.ownBlock=vd.ownBlock\/v'.ownBlock=some w.heap.size):
  DSt b3 gn gr rd { n with kids:=n.kids ++ [x] } vk vc v' (w5.setCell ⟨gn,3,none⟩ v'):=by
 have hb:∀ k,vd.ownBlock=some k->b3<=k:=fun k hk=>(h.d.lt k hk).1
 have hg5:=bb h.g hg hb h.h1;have hr5:=bb h.r hg hb h.h2;have hc:Ch (fun j=>j=gn) w5 (w5.setCell ⟨gn,3,none⟩ v'):=(Ch.refl (fun j=>j=gn) w5).setCell (p:=⟨gn,3,none⟩) rfl v';have hk5:=h.k.dis hg h.kd;have hc5:=h.c.dis hg h.cd
 exact ⟨ai hg5 3 v',hc.keep hr5 h.h3.symm,hk5.ch hc (fun j hj e=>by have:=(hk5.lt j hj).1;have:=h.h1;omega),hc5.ch hc (fun j hj e=>by have:=(hc5.lt j hj).1;have:=h.h1;omega),ho.ch hc (fun j hj e=>by have:=(ho.lt j hj).1;have:=h.h1;omega),
  h.kc,(h.kd.symm.app hat h.k).symm,(h.cd.symm.app hat h.c).symm,h.h1,h.h2,h.h3⟩
end
structure RSz (rd:Rd) (n:Nd):Prop where
 rest:rd.rest.length<=232
 sum:n.keys.length+(if rd.bad then 0 else rd.rest.length+1)<=234
 c:n.cells.length<=n.keys.length
 d:n.kids.length<=n.keys.length+1
 kl:∀ k ∈ n.keys,k.length<=232
 cl:∀ c ∈ n.cells,c.data.length<=232
theorem fh (r:Rd) (n:Nat):(cP r n).2.rest.length<=r.rest.length/\(cP r n).1.length<=r.rest.length/\((cP r n).2.bad=false->r.bad=false):=by
 unfold cP
 split
 ·exact ⟨Nat.le_refl _,Nat.zero_le _,fun h=>by cases h⟩
 ·exact ⟨by simp only [List.length_drop];omega,by simp only [List.length_take];omega,id⟩
theorem mp:∀ (l:List UInt8) (i n:Nat),(ik i n l).2.2=0->i<(ik i n l).2.1
 | [],i,n,h=>by rw [iM] at h;cases h
 | b :: r,i,n,h=>by
   by_cases h1:(i=9/\1<b.toNat)\/(0<i/\b.toNat=0)
   ·rw [iN h1] at h;cases h
   ·by_cases h2:b.toNat<128
    ·rw [gi h1 h2];simp
    ·rw [jo h1 h2] at h ⊢;have:=mp r (i+1) _ h;omega
theorem im (r:Rd):(bK r).2.rest.length<=r.rest.length/\((bK r).2.bad=false->r.bad=false/\(bK r).2.rest.length+1<=r.rest.length):=by
 unfold bK
 split
 ·exact ⟨Nat.le_refl _,fun h=>by cases h⟩
 ·rename_i h
  have h0:(iE r.rest).2.2=0:=by omega
  have h1:0<(iE r.rest).2.1:=mp r.rest 0 0 h0;have h2:=lR h0;exact ⟨by simp only [List.length_drop];omega,fun h=>⟨h,by simp only [List.length_drop];omega⟩⟩
theorem ot (r:Rd):(ep r).2.rest.length<=r.rest.length/\(ep r).1.length<=r.rest.length/\((ep r).2.bad=false->r.bad=false/\(ep r).2.rest.length+1<=r.rest.length):=by unfold ep;obtain ⟨h1,h2⟩:=im r;obtain ⟨h3,h4,h5⟩:=fh (bK r).2 (bK r).1;refine ⟨by omega,by omega,fun h=>?_⟩;have h6:=h2 (h5 h);exact ⟨h6.1,by omega⟩
theorem io (r:Rd):(dK r).2.rest.length<=r.rest.length/\((dK r).2.bad=false->r.bad=false):=⟨(fh r 4).1,(fh r 4).2.2⟩
theorem mE (r:Rd):(ed r).2.rest.length<=r.rest.length/\(ed r).1.data.length<=r.rest.length/\((ed r).2.bad=false->r.bad=false):=by
 obtain ⟨h1,h2⟩:=im r;unfold ed
 split
 ·obtain ⟨h3,h4⟩:=io (bK r).2;exact ⟨by simp only;omega,Nat.zero_le _,fun h=>(h2 (h4 h)).1⟩
 ·obtain ⟨h3,h4,h5⟩:=fh (bK r).2 (bK r).1;exact ⟨by simp only;omega,by simp only;omega,fun h=>(h2 (h5 h)).1⟩
theorem RSz.leaf {r:Rd} {n:Nd} (h:RSz r n) (hb:r.bad=false):RSz (ed (ep r).2).2 { n with keys:=n.keys ++ [(ep r).1],cells:=n.cells ++ [(ed (ep r).2).1] }:=by
 obtain ⟨a1,a2,a3⟩:=ot r;obtain ⟨b1,b2,b3⟩:=mE (ep r).2;have hs:=h.sum;have hr:=h.rest;rw [hb,if_neg (by simp)] at hs;refine ⟨by omega,?_,by have:=h.c;simp;omega,by have:=h.d;simp;omega,fun k hk=>?_,fun c hc=>?_⟩
 ·simp only [List.length_append,List.length_cons,List.length_nil]
  split
  ·omega
  ·rename_i hb2
   have:=a3 (b3 (by simpa using hb2));omega
 ·rcases List.mem_append.1 hk with hk | hk
  ·exact h.kl k hk
  ·rw [List.mem_singleton.1 hk];omega
 ·rcases List.mem_append.1 hc with hc | hc
  ·exact h.cl c hc
  ·rw [List.mem_singleton.1 hc];omega
theorem RSz.inner {r:Rd} {n:Nd} (h:RSz r n) (hb:r.bad=false):RSz (dK (ep r).2).2 { n with keys:=n.keys ++ [(ep r).1],kids:=n.kids ++ [((dK (ep r).2).1:Int)] }:=by
 obtain ⟨a1,a2,a3⟩:=ot r;obtain ⟨b1,b3⟩:=io (ep r).2;have hs:=h.sum;have hr:=h.rest;rw [hb,if_neg (by simp)] at hs;refine ⟨by omega,?_,by have:=h.c;simp;omega,by have:=h.d;simp;omega,fun k hk=>?_,h.cl⟩
 ·simp only [List.length_append,List.length_cons,List.length_nil]
  split
  ·omega
  ·rename_i hb2
   have:=a3 (b3 (by simpa using hb2));omega
 ·rcases List.mem_append.1 hk with hk | hk
  ·exact h.kl k hk
  ·rw [List.mem_singleton.1 hk];omega
theorem RSz.bd {r:Rd} {n:Nd} (h:RSz r n):n.Bd:=by have:=h.sum;exact ⟨by omega,by have:=h.c;omega,by have:=h.d;omega,fun k hk=>by have:=h.kl k hk;omega,fun c hc=>by have:=h.cl c hc;omega⟩
end Go.Proofs.YtknioodagnjchaaGreatDoor
namespace Go.Proofs.YtknioodagnjchaaGreatDoor
open Go.Proofs.Tryz renaming results109->Bt
open List renaming length_drop->Bv,length_nil->Bx
open Go renaming bodyPost_ret->Bw,results->Bz
open Go.Lib renaming hid->Z
open Go.RowKit
theorem rD {b3:Nat} {w5:World} {v':Value} {l:List By} {x:By} (h:Own sC 1 9 b3 w5 v' (l ++ [x])):∃ A c,v'=.slice A (l.length+1) c:=by obtain ⟨A,c,e⟩:=Sl.zM (h.sl aG);exact ⟨A,c,by rw [e];simp⟩
theorem rE {b3:Nat} {w5:World} {v':Value} {l:List Ce} {x:Ce} (h:Own cC 3 119 b3 w5 v' (l ++ [x])):∃ A c,v'=.slice A (l.length+1) c:=by obtain ⟨A,c,e⟩:=Sl.zM (h.sl bx);exact ⟨A,c,by rw [e];simp⟩
theorem kE {b3:Nat} {w5:World} {v':Value} {l:List Int} {x:Int} (h:Own iC 1 3 b3 w5 v' (l ++ [x])):∃ A c,v'=.slice A (l.length+1) c:=by obtain ⟨A,c,e⟩:=Sl.zM (h.sl ax);exact ⟨A,c,by rw [e];simp⟩
def NdO (base:Nat) (w:World) (v:Value) (n:Nd):Prop:=∃ vk vc vd,v=.agg #[.bool n.leaf,vk,vc,vd]/\Own sC 1 9 base w vk n.keys/\Own cC 3 119 base w vc n.cells/\Own iC 1 3 base w vd n.kids/\Dis vk vc/\Dis vk vd/\Dis vc vd
def zr (base:Nat) (w:World) (v:Value) (c:Int) (o:Option Nd):Prop:=match o with
 | some n=>c=0/\NdO base w v n
 | none=>c=4/\v=.agg #[.bool false,.slice none 0 0,.slice none 0 0,.slice none 0 0]
theorem sG {l:By} {rd:Rd} {n:Nd} (h:dY l=(rd,n)):dO l=if rd.bad=false/\dX n=0/\eI n=l then some n else none:=by
 unfold dO mi eI dX;rw [h];simp only;cases rd.bad <;> cases aD n <;> by_cases h2:232<(aw n).length
 all_goals simp [h2]
 all_goals (try omega)
 all_goals (try (have h3:(aw n).length<=232:=by omega);simp [h3])
theorem uQ {l:By} {lf:Bool} (h:lf=decide (l.getD 0 0=1)) (hl:(l.drop 3).length=229):RSz (aX l).1 (aX l).2/\(aX l).2.leaf=lf:=by
 unfold aX
 split
 ·rename_i h1
  exact ⟨⟨by simp only;omega,by simp only [Bx];split <;> omega,by simp,by simp,by simp,by simp⟩,by rw [h,decide_eq_true h1]⟩
 ·rename_i h1
  have h2:=(io ⟨l.drop 3,false⟩).1;simp only at h2;exact ⟨⟨by simp only;omega,by simp only [Bx];split <;> omega,by simp,by simp,by simp,by simp⟩,by rw [h,decide_eq_false h1]⟩
theorem sE (l:By) (hl:l.length=232) (w:World):Calls Tryz.prog 109 #[.string (ap l)] w fun e w'=>∃ v c,e=.returned (.tuple #[v,.int .i64 c])/\zr w.heap.size w' v c (dO l)/\Below w.heap.size w w':=by
 have hsz:(ap l).size=l.length:=au l;have hs1:(ap l).size=232:=hsz.trans hl;clear hsz;have hs0:((ap l).size:Int)=232:=by rw [hs1];rfl
 have hb0:(ap l)[0]'(by rw [hs1];decide)=l.getD 0 0:=by rw [List.getD_eq_getElem?_getD,List.getElem?_eq_getElem (by omega),Option.getD_some];rfl
 obtain ⟨lf,hlf⟩:∃ lf:Bool,lf=decide (l.getD 0 0=1):=⟨_,rfl⟩
 have hb1:((((ap l)[0]'(by rw [hs1];decide)).toNat:Int) == 1)=lf:=by
  rw [hb0,hlf];by_cases h:l.getD 0 0=1
  ·rw [h];rfl
  ·rw [decide_eq_false h];refine beq_eq_false_iff_ne.2 fun e=>h ?_
   apply UInt8.toNat_inj.1;show (l.getD 0 0).toNat=1;omega
 have HE3:=Z (show (ap l).extract 3 232=ap (l.drop 3) by
  rw [dM,bA,List.take_of_length_le (by rw [Bv];omega)])
 have HE13:=Z (show (ap l).extract 1 3=ap ((l.drop 1).take 2) by rw [dM,bA]);have HLF:=Z hlf;clear hb0 hlf;go_enter Tryz.func109,Tryz.ntmps109;go_upto_region 5 with fail
 rw [HE3.out];have HS3:=Z (show DSt (w.heap.size+3) (w.heap.size+1) (w.heap.size+1+1) ⟨l.drop 3,false⟩ ⟨lf,[],[],[]⟩ (.slice none 0 0) (.slice none 0 0) (.slice none 0 0) (((w.alloc (ar Nd.zero (.slice none 0 0) (.slice none 0 0) (.slice none 0 0))).alloc (ar ⟨lf,[],[],[]⟩ (.slice none 0 0) (.slice none 0 0) (.slice none 0 0))).alloc (ol ⟨l.drop 3,false⟩)) from
  ⟨am (ag (by simp)) _,ag (by simp),Own.nil,Own.nil,Own.nil,Dis.nil,Dis.nil,Dis.nil,by omega,by omega,by omega⟩)
 have HZ3:=Z (show (((w.alloc (ar Nd.zero (.slice none 0 0) (.slice none 0 0) (.slice none 0 0))).alloc (ar ⟨lf,[],[],[]⟩ (.slice none 0 0) (.slice none 0 0) (.slice none 0 0))).alloc (ol ⟨l.drop 3,false⟩)).heap[w.heap.size]?=some (ar Nd.zero (.slice none 0 0) (.slice none 0 0) (.slice none 0 0)) from
  am (am (ag rfl) _) _)
 have HW3:=Z ((((Below.refl _ w).alloc (Nat.le_refl _) (ar Nd.zero (.slice none 0 0) (.slice none 0 0) (.slice none 0 0))).alloc (by simp) (ar ⟨lf,[],[],[]⟩ (.slice none 0 0) (.slice none 0 0) (.slice none 0 0))).alloc (by simp;omega) (ol ⟨l.drop 3,false⟩));have HH3:(((w.alloc (ar Nd.zero (.slice none 0 0) (.slice none 0 0) (.slice none 0 0))).alloc (ar ⟨lf,[],[],[]⟩ (.slice none 0 0) (.slice none 0 0) (.slice none 0 0))).alloc (ol ⟨l.drop 3,false⟩)).heap.size=w.heap.size+3:=by simp
 generalize hw1:((w.alloc (.cells #[.bool false,.slice none 0 0,.slice none 0 0,.slice none 0 0] 110)).alloc (.cells #[.bool lf,.slice none 0 0,.slice none 0 0,.slice none 0 0] 110)).alloc (.cells #[.string (ap (l.drop 3)),.bool false] 215)=w3 at *;have hw2:((w.alloc (ar Nd.zero (.slice none 0 0) (.slice none 0 0) (.slice none 0 0))).alloc (ar ⟨lf,[],[],[]⟩ (.slice none 0 0) (.slice none 0 0) (.slice none 0 0))).alloc (ol ⟨l.drop 3,false⟩)=w3:=hw1;rw [hw2] at HS3 HZ3 HW3 HH3;clear hw1 hw2;have HH:=Z HH3;rw [<- HH3] at HS3;have hx3:w.heap.size+1<w3.heap.size:=by omega
 have hy3:w.heap.size+1+1<w3.heap.size:=by omega
 clear HH3;have HDR:=Z (show dY l=kB (cw ((l.drop 1).take 2)) (aX l).1 (aX l).2 from rfl);have hrl:(l.drop 3).length<=1000000:=by rw [Bv];omega
 have HRL:=Z (show (l.drop 3).length=229 by rw [Bv];omega);have HRS:=Z (show RSz (aX l).1 (aX l).2/\(aX l).2.leaf=lf from uQ HLF.out HRL.out);clear hb1;obtain ⟨a0,a1,a2,a3,a4⟩:=aa HS3.out.g;simp only at a0;go_upto_if 24 with fail
 clear a0 a1 a2 a3 a4;go_cut [] from 10 to 31 (fun wc=>∃ vd,DSt w3.heap.size (w.heap.size+1) (w.heap.size+1+1) (aX l).1 (aX l).2 (.slice none 0 0) (.slice none 0 0) vd wc/\Ch (fun k=>k=w.heap.size+1\/k=w.heap.size+1+1) w3 wc)
 case first=>
  cases lf
  ·
   obtain ⟨⟨p,rd2⟩,hx⟩:∃ x,dK ⟨l.drop 3,false⟩=x:=⟨_,rfl⟩;have HST:=Z (show aX l=(rd2,⟨false,[],[],[(p:Int)]⟩) by
    unfold aX;rw [if_neg (by have:=HLF.out;simpa using this.symm),hx])
   have HPG:=Z hx;clear hx;go_upto_region 6 with fail
   obtain ⟨a0,a1,a2,a3,a4⟩:=aa HS3.out.g;obtain ⟨r0,r1,r2,r3,r4⟩:=gw HS3.out.r;have fz3:=ab HS3.out.g 3;go_region_law (first
    | (refine ct (by rfl) (by rfl) bI (by rfl) (by rfl) (HS4.out.d.alloc _) (Sl.one (p:Int) (by simp) ax (by rfl)) (by simp [maxLen]) (by simp) (by have:=aj HS4.out.g;simp;have:=HCH4.out.size;omega) ?_
       intro v' w5 ho hg hat;have HG5:=Z (bb (HS4.out.alloc _).g hg (fun k hk=>(HS4.out.d.lt k hk).1) HS4.out.h1);have HS5:=Z ((HS4.out.alloc _).AE ho hg hat);obtain ⟨A5,c5,h5⟩:=kE ho;simp only [Bx,Nat.zero_add] at h5;subst h5;obtain ⟨e0,e1,e2,e3,e4⟩:=aa HG5.out;have ez:=ab HG5.out 3;have HCH5:=Z ((HCH4.out.alloc _).then (Ch.zL (S:=fun k=>w3.heap.size<=k) hg (fun k hk=>(HS4.out.d.lt k hk).1)) (fun i e=>.inr e));clear ho hg hat)
    | (go_simp
       go_at_call 149;refine (kP ⟨l.drop 3,false⟩ (w.heap.size+1+1) _ HS3.out.draw.r hrl).mono ?_;rw [HPG.out];rintro e w4 ⟨rfl,hr,hc⟩;have HS4:=Z (HS3.out.draw.reader hc hr);have HCH4:=Z (((Ch.refl (fun k=>k=w.heap.size+1\/k=w.heap.size+1+1) w3).drew).trans (hc.mono (fun _ _ e=>.inr e)));obtain ⟨d0,d1,d2,d3,d4⟩:=aa HS4.out.g;have dz:=ab HS4.out.g 3;clear hr hc))
   all_goals
    go_wp2_with fail;go_meet
    case rel=> rw [HST.out];exact ⟨_,HS5.out,HCH5.out.then ((Ch.refl (fun j=>j=w.heap.size+1) w5).setCell (p:=⟨w.heap.size+1,3,none⟩) rfl _) (fun i e=>.inl (.inl e))⟩
  ·have HST:=Z (show aX l=(⟨l.drop 3,false⟩,⟨true,[],[],[]⟩) by
    unfold aX;rw [if_pos (by have:=HLF.out;simpa using this.symm)])
   go_wp2_with fail;go_meet
   case rel=> rw [HST.out];exact ⟨_,HS3.out,Ch.refl _ _⟩
 case rest=>
  obtain ⟨vd,hs5,hc5⟩:=hcut;have HS5:=Z hs5;have HCH5:=Z hc5;clear hs5 hc5;have hL2:((l.drop 1).take 2).length=2:=by rw [List.length_take,Bv];omega
  have HM:=Z (show cw ((l.drop 1).take 2)<=65535 by have:=il ((l.drop 1).take 2);rw [hL2] at this;omega);go_wp2_with fail;rw [HE13.out];refine (gG (ap ((l.drop 1).take 2)) wc (by rw [au,hL2];decide) (by rw [au,hL2];decide)).mono ?_;clear hL2;rw [bA];rintro e w6 ⟨rfl,hb⟩;have HS6:=Z (HS5.out.below hb);have HCH6:=Z (HCH5.out.trans (Ch.zK hb));clear hb HS5 HCH5 HS3 HE3 HE13 hs0 hs1;generalize cw ((l.drop 1).take 2)=m at *;generalize (aX l).1=rd0 at *;generalize (aX l).2=n0 at *;go_wp2_with fail;go_loopw [6] (fun cv wr=>∃ (c:Nat) (rd:Rd) (n:Nd) (vk vc vd:Value),cv=.int .u64 c/\c<=65535/\kB c rd n=dY l/\RSz rd n/\n.leaf=lf/\DSt w3.heap.size (w.heap.size+1) (w.heap.size+1+1) rd n vk vc vd wr/\Ch (fun k=>k=w.heap.size+1\/k=w.heap.size+1+1) w3 wr) (fun cv _=>(intOf cv).toNat)
  case atStart=>exact ⟨m,rd0,n0,_,_,_,rfl,HM.out,HDR.out.symm,HRS.out.1,HRS.out.2,HS6.out,HCH6.out⟩
  case round=>
   obtain ⟨c,rd,n,vk,vc,vd',rfl,hcm,hdg,hsz,hlf,hst,hch⟩:=hrel;clear HM HDR HRS HS6 HCH6;have HDG:=Z hdg;have HSZ:=Z hsz;have HST:=Z hst;have HCH:=Z hch;clear hdg hsz hst hch;obtain ⟨A1,c1,rfl⟩:=Sl.zM (HST.out.k.sl aG);obtain ⟨A2,c2,rfl⟩:=Sl.zM (HST.out.c.sl bx);obtain ⟨A3,c3,rfl⟩:=Sl.zM (HST.out.d.sl ax);obtain ⟨r0,r1,r2,r3,r4⟩:=gw HST.out.r;cases c with
   | zero=>
     have HRAW:=Z (show dY l=(rd,n) from HDG.out.symm);clear HDG;have HNV:=Z (show NdV wr (.agg #[.bool lf,.slice A1 n.keys.length c1,.slice A2 n.cells.length c2,.slice A3 n.kids.length c3]) n from ⟨_,_,_,by rw [hlf],HST.out.k.sl aG,HST.out.c.sl bx,HST.out.d.sl ax⟩);obtain ⟨a0,a1,a2,a3,a4⟩:=aa HST.out.g;go_wp2_with fail;refine (jM n _ _ HNV.out HSZ.out.bd).mono ?_;rintro e w7 ⟨rfl,hb⟩;have HS7:=Z (HST.out.below hb);have HCH7:=Z (HCH.out.trans (Ch.zK hb));have HZ7:=Z (HCH7.out.keep HZ3.out (by omega));clear hb a0 a1 a2 a3 a4 r0 r1 r2 r3 r4;obtain ⟨a0,a1,a2,a3,a4⟩:=aa HS7.out.g;obtain ⟨r0,r1,r2,r3,r4⟩:=gw HS7.out.r;obtain ⟨o0,o1,o2,o3,o4⟩:=aa HZ7.out;have q0:=ab HZ7.out 0;have q1:=ab HZ7.out 1;have q2:=ab HZ7.out 2;have q3:=ab HZ7.out 3;simp only [Nd.zero] at o0;have HDE:=Z (sG HRAW.out);have HL:=Z hlf;clear hlf;generalize dX n=ec at *;generalize eI n=el at *;by_cases hbx:rd.bad=true
     ·rw [hbx] at r1;have HV:=Z (show dO l=none by rw [HDE.out,if_neg (by rw [hbx];simp)]);go_wp2_with fail;have hf:=ai (ai (ai (ai HZ7.out 0 (.bool false)) 1 (.slice none 0 0)) 2 (.slice none 0 0)) 3 (.slice none 0 0);obtain ⟨z0,z1,z2,z3,-⟩:=aa (n:=Nd.zero) hf;simp only [Nd.zero] at z0;have HC0:=Z ((((Ch.refl (fun j=>j=w.heap.size) w7).setCell (p:=⟨w.heap.size,0,none⟩) rfl (.bool false)).setCell (p:=⟨w.heap.size,1,none⟩) rfl (.slice none 0 0)).setCell (p:=⟨w.heap.size,2,none⟩) rfl (.slice none 0 0) |>.setCell (p:=⟨w.heap.size,3,none⟩) rfl (.slice none 0 0))
      exact Bw (v:=.tuple #[.agg #[.bool false,.slice none 0 0,.slice none 0 0,.slice none 0 0],.int .i64 4]) (by simp [Bz,Bt,go_sem,z0,z1,z2,z3]) rfl
       ⟨_,_,rfl,by rw [HV.out];exact ⟨rfl,rfl⟩,(HW3.out.trans (HCH7.out.below (B:=w.heap.size) (by omega) (by omega))).trans (HC0.out.below (B:=w.heap.size) (by have:=HCH7.out.size;omega) (by omega))⟩
     ·have hbf:rd.bad=false:=by simpa using hbx
      rw [hbf] at r1;by_cases hec:ec=0
      ·subst hec;by_cases hel:el=l
       ·subst hel;have HV:=Z (show dO el=some n by rw [HDE.out,if_pos ⟨hbf,rfl,rfl⟩]);go_wp2_with fail;have hf:=ai (ai (ai (ai HZ7.out 0 (.bool n.leaf)) 1 (.slice A1 n.keys.length c1)) 2 (.slice A2 n.cells.length c2)) 3 (.slice A3 n.kids.length c3);obtain ⟨z0,z1,z2,z3,-⟩:=aa (n:=n) hf;have HC0:=Z ((((Ch.refl (fun j=>j=w.heap.size) w7).setCell (p:=⟨w.heap.size,0,none⟩) rfl (.bool n.leaf)).setCell (p:=⟨w.heap.size,1,none⟩) rfl (.slice A1 n.keys.length c1)).setCell (p:=⟨w.heap.size,2,none⟩) rfl (.slice A2 n.cells.length c2) |>.setCell (p:=⟨w.heap.size,3,none⟩) rfl (.slice A3 n.kids.length c3))
        exact Bw (v:=.tuple #[.agg #[.bool n.leaf,.slice A1 n.keys.length c1,.slice A2 n.cells.length c2,.slice A3 n.kids.length c3],.int .i64 0]) (by simp [Bz,Bt,go_sem,z0,z1,z2,z3]) rfl
         ⟨_,_,rfl,by rw [HV.out];exact ⟨rfl,_,_,_,rfl,(HS7.out.k.base (by omega)).ch HC0.out (fun j hj e=>by have:=(HS7.out.k.lt j hj).1;omega),(HS7.out.c.base (by omega)).ch HC0.out (fun j hj e=>by have:=(HS7.out.c.lt j hj).1;omega),(HS7.out.d.base (by omega)).ch HC0.out (fun j hj e=>by have:=(HS7.out.d.lt j hj).1;omega),HS7.out.kc,HS7.out.kd,HS7.out.cd⟩,
          (HW3.out.trans (HCH7.out.below (B:=w.heap.size) (by omega) (by omega))).trans (HC0.out.below (B:=w.heap.size) (by have:=HCH7.out.size;omega) (by omega))⟩
       ·have hel2:((ap el).toList == (ap l).toList)=false:=by rw [ay,ay];simpa using hel
        have HV:=Z (show dO l=none by rw [HDE.out,if_neg (fun h=>hel h.2.2)]);go_wp2_with fail;have hf:=ai (ai (ai (ai HZ7.out 0 (.bool false)) 1 (.slice none 0 0)) 2 (.slice none 0 0)) 3 (.slice none 0 0);obtain ⟨z0,z1,z2,z3,-⟩:=aa (n:=Nd.zero) hf;simp only [Nd.zero] at z0;have HC0:=Z ((((Ch.refl (fun j=>j=w.heap.size) w7).setCell (p:=⟨w.heap.size,0,none⟩) rfl (.bool false)).setCell (p:=⟨w.heap.size,1,none⟩) rfl (.slice none 0 0)).setCell (p:=⟨w.heap.size,2,none⟩) rfl (.slice none 0 0) |>.setCell (p:=⟨w.heap.size,3,none⟩) rfl (.slice none 0 0))
        exact Bw (v:=.tuple #[.agg #[.bool false,.slice none 0 0,.slice none 0 0,.slice none 0 0],.int .i64 4]) (by simp [Bz,Bt,go_sem,z0,z1,z2,z3]) rfl
         ⟨_,_,rfl,by rw [HV.out];exact ⟨rfl,rfl⟩,(HW3.out.trans (HCH7.out.below (B:=w.heap.size) (by omega) (by omega))).trans (HC0.out.below (B:=w.heap.size) (by have:=HCH7.out.size;omega) (by omega))⟩
      ·have hec2:(ec == 0)=false:=by simpa using hec
       have HV:=Z (show dO l=none by rw [HDE.out,if_neg (fun h=>hec h.2.1)]);go_wp2_with fail;have hf:=ai (ai (ai (ai HZ7.out 0 (.bool false)) 1 (.slice none 0 0)) 2 (.slice none 0 0)) 3 (.slice none 0 0);obtain ⟨z0,z1,z2,z3,-⟩:=aa (n:=Nd.zero) hf;simp only [Nd.zero] at z0;have HC0:=Z ((((Ch.refl (fun j=>j=w.heap.size) w7).setCell (p:=⟨w.heap.size,0,none⟩) rfl (.bool false)).setCell (p:=⟨w.heap.size,1,none⟩) rfl (.slice none 0 0)).setCell (p:=⟨w.heap.size,2,none⟩) rfl (.slice none 0 0) |>.setCell (p:=⟨w.heap.size,3,none⟩) rfl (.slice none 0 0))
       exact Bw (v:=.tuple #[.agg #[.bool false,.slice none 0 0,.slice none 0 0,.slice none 0 0],.int .i64 4]) (by simp [Bz,Bt,go_sem,z0,z1,z2,z3]) rfl
        ⟨_,_,rfl,by rw [HV.out];exact ⟨rfl,rfl⟩,(HW3.out.trans (HCH7.out.below (B:=w.heap.size) (by omega) (by omega))).trans (HC0.out.below (B:=w.heap.size) (by have:=HCH7.out.size;omega) (by omega))⟩
   | succ c=>
     have hc0:(0:Int)<((c+1:Nat):Int):=by omega
     cases hbad:rd.bad
     ·rw [hbad] at r1;obtain ⟨⟨sz,rda⟩,hx⟩:∃ x,bK rd=x:=⟨_,rfl⟩;obtain ⟨⟨key,rdb⟩,hy⟩:∃ x,cP rda sz=x:=⟨_,rfl⟩;have HKY:=Z (show ep rd=(key,rdb) by unfold ep;rw [hx];exact hy);have HBAD:=Z hbad;have hl1:rd.rest.length<=1000000:=by have:=HSZ.out.rest;omega
      have hl2:rda.rest.length<=1000000:=by have:=(im rd).1;rw [hx] at this;simp only at this;omega
      have hl3:rdb.rest.length<=1000000:=by have:=(fh rda sz).1;rw [hy] at this;simp only at this;omega
      have HX:=Z hx;have HY:=Z hy;clear hx hy hbad;go_upto_region 10 with fail
      obtain ⟨a0,a1,a2,a3,a4⟩:=aa HST.out.g;have az:=ab HST.out.g 1;have hnk:n.keys.length<=1000:=by have:=HSZ.out.sum;omega
      go_region_law (first
       | (refine ct (by rfl) (by rfl) gT (by rfl) (by rfl) (HS7.out.k.alloc _) (Sl.one key (by simp) aG (by rfl)) (by simp [maxLen];omega) (by simp;omega) (by have:=HCH7.out.size;simp;omega) ?_
          intro v' w8 ho hg hat;have HG8:=Z (bb (HS7.out.alloc _).g hg (fun k hk=>(HS7.out.k.lt k hk).1) HS7.out.h1);have HS8:=Z ((HS7.out.alloc _).AV ho hg hat);obtain ⟨A8,c8,h8⟩:=rD ho;subst h8;obtain ⟨e0,e1,e2,e3,e4⟩:=aa HG8.out;have ez:=ab HG8.out 1;have HCH8:=Z ((HCH7.out.alloc _).then (Ch.zL (S:=fun k=>w3.heap.size<=k) hg (fun k hk=>(HS7.out.k.lt k hk).1)) (fun i e=>.inr e));clear ho hg hat)
       | (go_simp
          go_at_call 152;refine (oo rd (w.heap.size+1+1) _ HST.out.draw.r hl1).mono ?_;rw [HX.out];rintro e w7 ⟨rfl,hr,hc⟩;have HS6:=Z (HST.out.draw.reader hc hr);have HCH6:=Z (HCH.out.drew.trans (hc.mono (fun _ _ e=>.inr e)));obtain ⟨b0,b1,b2,b3,b4⟩:=aa HS6.out.g;have bz:=ab HS6.out.g 1;clear hr hc)
       | (go_simp
          go_at_call 151;refine (kN rda sz (w.heap.size+1+1) _ HS6.out.r hl2).mono ?_;rw [HY.out];rintro e w7 ⟨rfl,hr,hc⟩;have HS7:=Z (HS6.out.reader hc hr);have HCH7:=Z (HCH6.out.trans (hc.mono (fun _ _ e=>.inr e)));obtain ⟨d0,d1,d2,d3,d4⟩:=aa HS7.out.g;have dz:=ab HS7.out.g 1;clear hr hc))
      all_goals
       have HCH9:=Z (HCH8.out.then ((Ch.refl (fun j=>j=w.heap.size+1) w8).setCell (p:=⟨w.heap.size+1,1,none⟩) rfl (.slice A8 (n.keys.length+1) c8)) (fun i e=>.inl (.inl e)));clear HS6 HS7 HCH6 HCH7 HCH8 HG8 HST HCH a0 a1 a2 a3 a4 az b0 b1 b2 b3 b4 bz d0 d1 d2 d3 d4 dz e0 e1 e2 e3 e4 ez r0 r1 r2 r3 r4;go_upto_region 11 with fail
       generalize w8.setCell ⟨w.heap.size+1,1,none⟩ (.slice A8 (n.keys.length+1) c8)=w9 at *;obtain ⟨a0,a1,a2,a3,a4⟩:=aa HS8.out.g;simp only at a0;cases hv:n.leaf <;> rw [hv] at a0
       ·obtain ⟨⟨p,rdc⟩,hx⟩:∃ x,dK rdb=x:=⟨_,rfl⟩
        have HD1:=Z (show kB c rdc { n with keys:=n.keys ++ [key],kids:=n.kids ++ [(p:Int)] }=dY l by
         rw [<- HDG.out,kB,if_neg (by rw [HBAD.out];simp),if_neg (by rw [hv];simp)];simp only [HKY.out,hx])
        have HSZ1:=Z (show RSz rdc { n with keys:=n.keys ++ [key],kids:=n.kids ++ [(p:Int)] } by
         have:=HSZ.out.inner HBAD.out;simp only [HKY.out,hx] at this;exact this)
        have HZ:=Z hx;clear hx;go_upto_region 13 with fail
        have az:=ab HS8.out.g 3;have hnk:n.kids.length<=1000:=by have:=HSZ.out.sum;have:=HSZ.out.d;omega
        go_region_law (first
         | (refine ct (by rfl) (by rfl) bI (by rfl) (by rfl) (HS10.out.d.alloc _) (Sl.one (p:Int) (by simp) ax (by rfl)) (by simp [maxLen];omega) (by simp;omega) (by have:=HCH10.out.size;simp;omega) ?_
            intro v' w11 ho hg hat;have HG11:=Z (bb (HS10.out.alloc _).g hg (fun k hk=>(HS10.out.d.lt k hk).1) HS10.out.h1);have HS11:=Z ((HS10.out.alloc _).AE ho hg hat);obtain ⟨A11,c11,h11⟩:=kE ho;subst h11;obtain ⟨e0,e1,e2,e3,e4⟩:=aa HG11.out;have ez:=ab HG11.out 3;have HCH11:=Z ((HCH10.out.alloc _).then (Ch.zL (S:=fun k=>w3.heap.size<=k) hg (fun k hk=>(HS10.out.d.lt k hk).1)) (fun i e=>.inr e));clear ho hg hat)
         | (go_simp
            go_at_call 149;refine (kP rdb (w.heap.size+1+1) _ HS8.out.draw.r hl3).mono ?_;rw [HZ.out];rintro e w10 ⟨rfl,hr,hc⟩;have HS10:=Z (HS8.out.draw.reader hc hr);have HCH10:=Z (HCH9.out.drew.trans (hc.mono (fun _ _ e=>.inr e)));obtain ⟨d0,d1,d2,d3,d4⟩:=aa HS10.out.g;have dz:=ab HS10.out.g 3;clear hr hc))
        all_goals
         go_wp2_with fail;go_roundw
         case rel=>exact ⟨c,rdc,_,_,_,_,by go_num,by omega,HD1.out,HSZ1.out,hlf,HS11.out,HCH11.out.then ((Ch.refl (fun j=>j=w.heap.size+1) w11).setCell (p:=⟨w.heap.size+1,3,none⟩) rfl _) (fun i e=>.inl (.inl e))⟩
         case measure=>simp [intOf]
       ·obtain ⟨⟨ce,rdc⟩,hx⟩:∃ x,ed rdb=x:=⟨_,rfl⟩
        have HD1:=Z (show kB c rdc { n with keys:=n.keys ++ [key],cells:=n.cells ++ [ce] }=dY l by
         rw [<- HDG.out,kB,if_neg (by rw [HBAD.out];simp),if_pos hv];simp only [HKY.out,hx])
        have HSZ1:=Z (show RSz rdc { n with keys:=n.keys ++ [key],cells:=n.cells ++ [ce] } by
         have:=HSZ.out.leaf HBAD.out;simp only [HKY.out,hx] at this;exact this)
        have HZ:=Z hx;clear hx;go_upto_region 12 with fail
        have az:=ab HS8.out.g 2;have hnk:n.cells.length<=1000:=by have:=HSZ.out.sum;have:=HSZ.out.c;omega
        go_region_law (first
         | (refine ct (by rfl) (by rfl) iL (by rfl) (by rfl) (HS10.out.c.alloc _) (Sl.one ce (by simp) bx (by rfl)) (by simp [maxLen];omega) (by simp;omega) (by have:=HCH10.out.size;simp;omega) ?_
            intro v' w11 ho hg hat;have HG11:=Z (bb (HS10.out.alloc _).g hg (fun k hk=>(HS10.out.c.lt k hk).1) HS10.out.h1);have HS11:=Z ((HS10.out.alloc _).AW ho hg hat);obtain ⟨A11,c11,h11⟩:=rE ho;subst h11;obtain ⟨e0,e1,e2,e3,e4⟩:=aa HG11.out;have ez:=ab HG11.out 2;have HCH11:=Z ((HCH10.out.alloc _).then (Ch.zL (S:=fun k=>w3.heap.size<=k) hg (fun k hk=>(HS10.out.c.lt k hk).1)) (fun i e=>.inr e));clear ho hg hat)
         | (go_simp
            go_at_call 153;refine (uj rdb (w.heap.size+1+1) _ HS8.out.draw.r hl3).mono ?_;rw [HZ.out];rintro e w10 ⟨rfl,hr,hc⟩;have HS10:=Z (HS8.out.draw.reader hc hr);have HCH10:=Z (HCH9.out.drew.trans (hc.mono (fun _ _ e=>.inr e)));obtain ⟨d0,d1,d2,d3,d4⟩:=aa HS10.out.g;have dz:=ab HS10.out.g 2;clear hr hc))
        all_goals
         go_wp2_with fail;go_roundw
         case rel=>exact ⟨c,rdc,_,_,_,_,by go_num,by omega,HD1.out,HSZ1.out,hlf,HS11.out,HCH11.out.then ((Ch.refl (fun j=>j=w.heap.size+1) w11).setCell (p:=⟨w.heap.size+1,2,none⟩) rfl _) (fun i e=>.inl (.inl e))⟩
         case measure=>simp [intOf]
     ·rw [hbad] at r1;have HRAW:=Z (show dY l=(rd,n) by rw [<- HDG.out];unfold kB;rw [if_pos hbad]);clear HDG;have HNV:=Z (show NdV wr (.agg #[.bool lf,.slice A1 n.keys.length c1,.slice A2 n.cells.length c2,.slice A3 n.kids.length c3]) n from ⟨_,_,_,by rw [hlf],HST.out.k.sl aG,HST.out.c.sl bx,HST.out.d.sl ax⟩);obtain ⟨a0,a1,a2,a3,a4⟩:=aa HST.out.g;go_wp2_with fail;refine (jM n _ _ HNV.out HSZ.out.bd).mono ?_;rintro e w7 ⟨rfl,hb⟩;have HS7:=Z (HST.out.below hb);have HCH7:=Z (HCH.out.trans (Ch.zK hb));have HZ7:=Z (HCH7.out.keep HZ3.out (by omega));clear hb a0 a1 a2 a3 a4 r0 r1 r2 r3 r4;obtain ⟨a0,a1,a2,a3,a4⟩:=aa HS7.out.g;obtain ⟨r0,r1,r2,r3,r4⟩:=gw HS7.out.r;obtain ⟨o0,o1,o2,o3,o4⟩:=aa HZ7.out;have q0:=ab HZ7.out 0;have q1:=ab HZ7.out 1;have q2:=ab HZ7.out 2;have q3:=ab HZ7.out 3;simp only [Nd.zero] at o0;have HDE:=Z (sG HRAW.out);have HL:=Z hlf;clear hlf;generalize dX n=ec at *;generalize eI n=el at *;rw [hbad] at r1;have HV:=Z (show dO l=none by rw [HDE.out,if_neg (by rw [hbad];simp)]);go_wp2_with fail;have hf:=ai (ai (ai (ai HZ7.out 0 (.bool false)) 1 (.slice none 0 0)) 2 (.slice none 0 0)) 3 (.slice none 0 0);obtain ⟨z0,z1,z2,z3,-⟩:=aa (n:=Nd.zero) hf;simp only [Nd.zero] at z0;have HC0:=Z ((((Ch.refl (fun j=>j=w.heap.size) w7).setCell (p:=⟨w.heap.size,0,none⟩) rfl (.bool false)).setCell (p:=⟨w.heap.size,1,none⟩) rfl (.slice none 0 0)).setCell (p:=⟨w.heap.size,2,none⟩) rfl (.slice none 0 0) |>.setCell (p:=⟨w.heap.size,3,none⟩) rfl (.slice none 0 0))
      exact Bw (v:=.tuple #[.agg #[.bool false,.slice none 0 0,.slice none 0 0,.slice none 0 0],.int .i64 4]) (by simp [Bz,Bt,go_sem,z0,z1,z2,z3]) rfl
       ⟨_,_,rfl,by rw [HV.out];exact ⟨rfl,rfl⟩,(HW3.out.trans (HCH7.out.below (B:=w.heap.size) (by omega) (by omega))).trans (HC0.out.below (B:=w.heap.size) (by have:=HCH7.out.size;omega) (by omega))⟩
end Go.Proofs.YtknioodagnjchaaGreatDoor
