/- node: bytes, Size, Encode. node: Size, Encode. node's reader: part, size, page, cell. node.Decode: the state of its loop; a part read and appended. -/
import Derived.Test.YtknioodagnjchaaGreatDoorRNo
import Derived.Test.YtknioodagnjchaaGreatDoorRNu
import Derived.Test.YtknioodagnjchaaGreatDoorRBa
import Derived.Deep.RegionLaw
set_option maxRecDepth 100000
set_option maxHeartbeats 2000000
namespace Go.Proofs.YtknioodagnjchaaGreatDoor
open Go.Lib (hid)
open Go.RowKit
theorem Bu.kept {B b:Nat} {l:List UInt8} {w w':World} (h:Bu B b l w) (hb:Below w.heap.size w w'):Bu B b l w':=by
 have key:∀ p,Lib.BuilderAt 206 5 B b p (Lib.byteCells l) w→Lib.BuilderAt 206 5 B b p (Lib.byteCells l) w':=fun p ⟨h1,v,h2,h3,h4⟩=>
  ⟨h1,v,ae h2 hb,World.ownsRow.kept (row:=none) h3 ⟨hb.os,hb.tape,hb.output,hb.size,fun k hk _=>hb.block k hk⟩ (by by_cases h0:v.ownBlock=none;exact .inl h0;exact .inr h0),h4⟩
 rcases h with h | h
 ·exact .inl (key _ h)
 ·exact .inr (key _ h)
structure BySt (w:World) (n:Nd) (vk vc vd:Value) (acc:List UInt8) (wr:World):Prop where
 g:wr.heap[w.heap.size]?=some (ap n vk vc vd)
 u:Bu (w.heap.size+1) (w.heap.size+1) acc wr
 b:Below w.heap.size w wr
 sz:w.heap.size+1<wr.heap.size
section
variable {w wr wr':World} {n:Nd} {vk vc vd:Value} {acc s:List UInt8}
theorem BySt.quiet (h:BySt w n vk vc vd acc wr) (hb:Below wr.heap.size wr wr'):BySt w n vk vc vd acc wr':=
 ⟨ae h.g hb,h.u.kept hb,h.b.trans (hb.mono h.b.size),Nat.lt_of_lt_of_le h.sz hb.size⟩
theorem BySt.wrote (h:BySt w n vk vc vd acc wr) (hu:Bu (w.heap.size+1) (w.heap.size+1) (acc ++ s) wr') (hb:Below (w.heap.size+1) wr wr'):BySt w n vk vc vd (acc ++ s) wr':=
 ⟨(hb.block _ (Nat.lt_succ_self _)).trans h.g,hu,h.b.trans (hb.mono (Nat.le_succ _)),Nat.lt_of_lt_of_le h.sz hb.size⟩
end
def b9 (n:Nd) (k:Nat):By:=(if n.leaf then 1 else 2) :: (aK 2 n.keys.length ++ if n.leaf then bC (n.keys.take k) (n.cells.take k) else aK 4 (n.kids.getD 0 0).toNat ++ dR (n.keys.take k) (n.kids.tail.take k))
theorem kF {n:Nd} (h:aB n=true):b9 n n.keys.length=ar n:=by
 unfold b9 ar;rw [List.take_length];cases hl:n.leaf
 ·obtain ⟨_,_,h2,_⟩:=aI h hl;rw [if_neg (by simp),if_neg (by simp),if_neg (by simp),List.take_of_length_le (l:=n.kids.tail) (by rw [List.length_tail];omega)]
 ·obtain ⟨_,h2,_⟩:=bS h hl;rw [if_pos rfl,if_pos rfl,if_pos rfl,List.take_of_length_le (l:=n.cells) (by omega)]
theorem lN {n:Nd} (hl:n.leaf=true) {k:Nat} (hk:k<n.keys.length) (hc:k<n.cells.length):b9 n (k+1)=b9 n k ++ bh n.keys[k].length ++ n.keys[k] ++ fA n.cells[k]:=by unfold b9;rw [hl,if_pos rfl,if_pos rfl,if_pos rfl,List.take_succ_eq_append_getElem hk,List.take_succ_eq_append_getElem hc,dZ _ _ _ _ (by rw [List.length_take,List.length_take];omega)];simp [bC,e9]
theorem kE {n:Nd} (hl:n.leaf=false) {k:Nat} (hk:k<n.keys.length) (hd:k+1<n.kids.length):b9 n (k+1)=b9 n k ++ bh n.keys[k].length ++ n.keys[k] ++ aK 4 n.kids[k+1].toNat:=by
 unfold b9;have ht:k<n.kids.tail.length:=by rw [List.length_tail];omega
 rw [hl,if_neg (by simp),if_neg (by simp),if_neg (by simp),List.take_succ_eq_append_getElem hk,List.take_succ_eq_append_getElem ht,nb _ _ _ _ (by rw [List.length_take,List.length_take];omega)];simp [dR,e9]
theorem gJ {n:Nd} (h:aB n=true) (k:Nat):(b9 n k).length≤7+107 * k:=by
 unfold b9;cases hl:n.leaf
 ·obtain ⟨hr,_,h2,_⟩:=aI h hl;rw [if_neg (by simp),if_neg (by simp)];have hs:∀ (ks:List By) (ds:List Int),(∀ x ∈ ks,x.length≤64)→(dR ks ds).length≤107 * ks.length:=by
   intro ks
   induction ks with
   | nil=>intro ds _;simp [dR]
   | cons a l ih=>
     intro ds hx;cases ds with
     | nil=>simp [dR]
     | cons d ds=>
       have:=ih ds fun x hx'=>hx x (List.mem_cons_of_mem _ hx')
       have:=dx (hx a List.mem_cons_self);have:=hx a List.mem_cons_self;simp only [dR,List.length_append,ay,List.length_cons];omega
  have:=hs (n.keys.take k) (n.kids.tail.take k) fun x hx=>bF hr x (List.mem_of_mem_take hx)
  rw [List.length_take] at this;simp only [List.length_cons,List.length_append,ay];omega
 ·obtain ⟨hr,h2,_,hg⟩:=bS h hl;rw [if_pos rfl,if_pos rfl];have hs:∀ (ks:List By) (cs:List Ce),(∀ x ∈ ks,x.length≤64)→(∀ c ∈ cs,aE c=true)→(bC ks cs).length≤107 * ks.length:=by
   intro ks
   induction ks with
   | nil=>intro ds _ _;simp [bC]
   | cons a l ih=>
     intro cs hx hc;cases cs with
     | nil=>simp [bC]
     | cons c cs=> have:=ih cs (fun x hx'=>hx x (List.mem_cons_of_mem _ hx')) (fun c hc'=>hc c (List.mem_cons_of_mem _ hc'));have:=dx (hx a List.mem_cons_self);have:=hx a List.mem_cons_self;have:=nE (hc c List.mem_cons_self);simp only [bC,List.length_append,List.length_cons];omega
  have:=hs (n.keys.take k) (n.cells.take k) (fun x hx=>bF hr x (List.mem_of_mem_take hx)) (fun c hc=>hg c (List.mem_of_mem_take hc));rw [List.length_take] at this;simp only [List.length_cons,List.length_append,ay];omega
theorem lJ (n:Nd) (v:Value) (w:World) (h:NdV w v n) (hb:n.Bd) (hg:aB n=true):Calls Tryz.prog 167 #[v] w fun e w'=>e=.returned (.string (al (ar n)))∧Below w.heap.size w w':=by
 obtain ⟨vk,vc,vd,rfl,hs⟩:=h;obtain ⟨A1,c1,rfl⟩:=Sl.len' hs.k;obtain ⟨A2,c2,rfl⟩:=Sl.len' hs.c;obtain ⟨A3,c3,rfl⟩:=Sl.len' hs.d;have HS:=hid hs;have HT0:=hid (show BySt w n (.slice A1 n.keys.length c1) (.slice A2 n.cells.length c2) (.slice A3 n.kids.length c3) [] ((w.alloc (ap n (.slice A1 n.keys.length c1) (.slice A2 n.cells.length c2) (.slice A3 n.kids.length c3))).alloc (.cells #[.pointer none,.slice none 0 0] 206)) from
  ⟨ai (ag rfl) _,Bu.new (ag (by simp)) (by simp),((Below.refl _ w).alloc (Nat.le_refl _) _).alloc (by simp) _,by simp⟩)
 have HG:=hid hg;have HB:=hid hb;have HE:=hid (kF hg);have hk2:=hb.k;have hc2:=hb.c;have hd2:=hb.d;obtain ⟨nl,nk,nc,nd⟩:=n;simp only at hk2 hc2 hd2 HS HT0 HE;clear hs hb hg;go_enter Tryz.func167,Tryz.ntmps167;go_upto_region 2 with fail
 generalize hw1:(w.alloc (.cells #[.bool nl,.slice A1 nk.length c1,.slice A2 nc.length c2,.slice A3 nd.length c3] 110)).alloc (.cells #[.pointer none,.slice none 0 0] 206)=w1 at *;have hw2:(w.alloc (ap ⟨nl,nk,nc,nd⟩ (.slice A1 nk.length c1) (.slice A2 nc.length c2) (.slice A3 nd.length c3))).alloc (.cells #[.pointer none,.slice none 0 0] 206)=w1:=hw1;rw [hw2] at HT0;clear hw1 hw2;have HT1:=HT0;clear HT0;obtain ⟨a0,a1,a2,a3,a4⟩:=aa HT1.out.g;simp only at a0 a1 a2 a3;cases nl
 ·
  go_wp2_with fail;refine (kU _ _ [] 2 w1 HT1.out.u (by simp) (Nat.le_of_lt HT1.out.sz)).mono ?_;rintro e w2 ⟨rfl,hu,hb⟩;have HT2:=hid (HT1.out.wrote hu hb);clear hu hb a0 a1 a2 a3 a4;obtain ⟨a0,a1,a2,a3,a4⟩:=aa HT2.out.g;simp only at a0 a1 a2 a3;obtain ⟨hr,hk0,hdl,-,-,hpg⟩:=aI HG.out rfl;have HR:=hid (bF hr);have HPG:=hid hpg;simp only at hdl HR HPG;clear hr hk0 hpg;have hd0:0<nd.length:=by omega
  obtain ⟨b,off,c',he,hbl,hce⟩:=HS.out.d.at1 hd0;injection he with he1 he2 he3
  subst he1 he3;have HE0:=hid (show w.cell? ⟨b,off,none⟩=some (.int .i64 nd[0]) by simpa using hce 0 _ rfl);have HBL:=hid hbl;clear he2 hce hbl;obtain ⟨m0,hm0⟩:∃ m:Nat,nd[0]=(m:Int):=⟨nd[0].toNat,by
   have:=HPG.out _ (List.getElem_mem hd0);simp [cm] at this;omega⟩
  have hm0b:m0<4096:=by have:=HPG.out _ (List.getElem_mem hd0);simp [cm] at this;omega
  have HM0:=hid hm0;rw [hm0] at HE0;clear hm0;go_wp2_with fail;refine (gS nk.length 2 w2 (by omega) (by omega) (by omega)).mono ?_;rintro e w3 ⟨rfl,hb⟩;have HT3:=hid (HT2.out.quiet hb);clear hb;clear a0 a1 a2 a3 a4;obtain ⟨a0,a1,a2,a3,a4⟩:=aa HT3.out.g;simp only at a0 a1 a2 a3;go_wp2_with fail;refine (cS _ _ ([] ++ [2]) (aK 2 nk.length) w3 HT3.out.u (by simp) (by rw [ay];omega) (Nat.le_of_lt HT3.out.sz)).mono ?_;rintro e w4 ⟨rfl,hu,hb⟩;have HT4:=hid (HT3.out.wrote hu hb);clear hu hb;clear a0 a1 a2 a3 a4;obtain ⟨a0,a1,a2,a3,a4⟩:=aa HT4.out.g;simp only at a0 a1 a2 a3;have hx0:w4.cell? ⟨b,off,none⟩=some (.int .i64 m0):=(HT4.out.b.cell (p:=⟨b,off,none⟩) HBL.out).trans HE0.out;have hx1:b<w4.heap.size:=by have:=HT4.out.b.size;have:=HBL.out;omega
  go_wp2_with fail;refine (ea m0 w4 (by omega)).mono ?_;rintro e w5 ⟨rfl,hb⟩;have HT5:=hid (HT4.out.quiet hb);clear hb;clear a0 a1 a2 a3 a4 hx0 hx1;obtain ⟨a0,a1,a2,a3,a4⟩:=aa HT5.out.g;simp only at a0 a1 a2 a3;go_wp2_with fail;refine (cS _ _ ([] ++ [2] ++ aK 2 nk.length) (aK 4 m0) w5 HT5.out.u (by simp [ay]) (by rw [ay];omega) (Nat.le_of_lt HT5.out.sz)).mono ?_;rintro e w6 ⟨rfl,hu,hb⟩;have HT6:=hid (HT5.out.wrote hu hb);clear hu hb;clear a0 a1 a2 a3 a4;have HT7:=hid (show BySt w ⟨false,nk,nc,nd⟩ (.slice A1 nk.length c1) (.slice A2 nc.length c2) (.slice (some ⟨b,off,none⟩) nd.length c3) (b9 ⟨false,nk,nc,nd⟩ 0) w6 from by
   have:=HT6.out;have e:b9 ⟨false,nk,nc,nd⟩ 0=[] ++ [2] ++ aK 2 nk.length ++ aK 4 m0:=by simp [b9,dR,List.getElem?_eq_getElem hd0,HM0.out]
   rw [e];exact this)
  clear HT1 HT2 HT3 HT4 HT5 HT6;obtain ⟨a0,a1,a2,a3,a4⟩:=aa HT7.out.g;simp only at a0 a1 a2 a3;go_wp2_with fail;clear a0 a1 a2 a3 a4;go_loopw [31] (fun i wr=>∃ k:Nat,k≤nk.length∧i=.int .i64 k∧BySt w ⟨false,nk,nc,nd⟩ (.slice A1 nk.length c1) (.slice A2 nc.length c2) (.slice (some ⟨b,off,none⟩) nd.length c3) (b9 ⟨false,nk,nc,nd⟩ k) wr) (fun i _=>nk.length - (intOf i).toNat)
  case atStart=>exact ⟨0,Nat.zero_le _,rfl,HT7.out⟩
  case round=>
   obtain ⟨k,hk,rfl,ht⟩:=hrel;have HT1:=hid ht;clear ht;obtain ⟨a0,a1,a2,a3,a4⟩:=aa HT1.out.g;simp only at a0 a1 a2 a3;by_cases hlt:k<nk.length
   ·obtain ⟨b1,off1,rfl,hbl1,-,hc⟩:=(HS.out.k.keep HT1.out.b).key hlt;obtain ⟨b',off',c',he,hbl',hce⟩:=(HS.out.d.keep HT1.out.b).at1 (show k+1<nd.length by omega);injection he with he1 he2 he3
    injection he1 with he1
    injection he1 with he4 he5
    subst he4 he5 he3;clear he2;obtain ⟨m,hm⟩:∃ m:Nat,nd[k+1]=(m:Int):=⟨nd[k+1].toNat,by
     have:=HPG.out _ (List.getElem_mem (show k+1<nd.length by omega));simp [cm] at this;omega⟩
    have hmb:m<4096:=by have:=HPG.out _ (List.getElem_mem (show k+1<nd.length by omega));simp [cm] at this;omega
    have HCE:=hid (show w.cell? ⟨b,off+(k+1),none⟩=some (.int .i64 m) by
     obtain ⟨b2,off2,c2',he,hb2,hce2⟩:=HS.out.d.at1 (show k+1<nd.length by omega);injection he with he1 he2 he3
     injection he1 with he1
     injection he1 with he4 he5
     subst he4 he5 he3;rw [← hm];simpa using hce2 0 _ rfl)
    have h64:nk[k].length≤64:=HR.out _ (List.getElem_mem hlt);have hsz:(al nk[k]).size=nk[k].length:=aq _;have HNX:=hid (show b9 ⟨false,nk,nc,nd⟩ (k+1)=b9 ⟨false,nk,nc,nd⟩ k ++ bh (al nk[k]).size ++ nk[k] ++ aK 4 m by
     rw [kE (n:=⟨false,nk,nc,nd⟩) rfl hlt (show k+1<nd.length by omega),hsz];simp only [hm,Int.toNat_natCast])
    have hlen:=gJ HG.out k;have hvl:(bh (al nk[k]).size).length≤2:=by rw [cJ];split <;> omega
    have hszb:(al nk[k]).size≤64:=by omega
    clear hce hsz hm;generalize b9 ⟨false,nk,nc,nd⟩ k=acc at *;generalize nk[k]=key at *;go_wp2_with fail;refine (jz (al key).size wr (by omega)).mono ?_;rintro e w2 ⟨rfl,hb⟩;have HT2:=hid (HT1.out.quiet hb);clear hb;go_wp2_with fail;refine (cS _ _ (acc) (bh (al key).size) w2 HT2.out.u (by omega) (by omega) (Nat.le_of_lt HT2.out.sz)).mono ?_;rintro e w3 ⟨rfl,hu,hb⟩;have HT3:=hid (HT2.out.wrote hu hb);clear hu hb;go_wp2_with fail;refine (cS _ _ (acc ++ bh (al key).size) (key) w3 HT3.out.u (by simp only [List.length_append];omega) (by omega) (Nat.le_of_lt HT3.out.sz)).mono ?_;rintro e w4 ⟨rfl,hu,hb⟩;have HT4:=hid (HT3.out.wrote hu hb);clear hu hb;clear a0 a1 a2 a3 a4;obtain ⟨a0,a1,a2,a3,a4⟩:=aa HT4.out.g;simp only at a0 a1 a2 a3;have hx0:w4.cell? ⟨b,off+(k+1),none⟩=some (.int .i64 m):=(HT4.out.b.cell (p:=⟨b,off+(k+1),none⟩) HBL.out).trans HCE.out;have hx1:b<w4.heap.size:=by have:=HT4.out.b.size;have:=HBL.out;omega
    have hx2:((k:Int)+1)<(nd.length:Int):=by omega
    go_wp2_with fail;refine (ea m w4 (by omega)).mono ?_;rintro e w5 ⟨rfl,hb⟩;have HT5:=hid (HT4.out.quiet hb);clear hb;clear a0 a1 a2 a3 a4 hx0 hx1;go_wp2_with fail;refine (cS _ _ (acc ++ bh (al key).size ++ key) (aK 4 m) w5 HT5.out.u (by simp only [List.length_append];omega) (by rw [ay];omega) (Nat.le_of_lt HT5.out.sz)).mono ?_;rintro e w6 ⟨rfl,hu,hb⟩;have HT6:=hid (HT5.out.wrote hu hb);clear hu hb;rw [← HNX.out] at HT6;go_wp2_with fail;go_roundw
    case rel=>exact ⟨k+1,by omega,by go_num,HT6.out⟩
    case measure=>simp [intOf];omega
   ·obtain rfl:k=nk.length:=by omega
    have HE2:=hid (show b9 ⟨false,nk,nc,nd⟩ nk.length=ar ⟨false,nk,nc,nd⟩ from HE.out);clear a0 a1 a2 a3 a4;go_wp2_with fail;refine (Tryz.Builder_String_any (w.heap.size+1) (w.heap.size+1) (b9 ⟨false,nk,nc,nd⟩ nk.length) wr HT1.out.u (Nat.le_of_lt HT1.out.sz)).mono ?_;rintro e w2 ⟨rfl,hb⟩;have HW2:=hid (HT1.out.b.trans (hb.mono (Nat.le_succ _)));clear hb;go_wp2_with fail;go_ret;exact ⟨by rw [← HE2.out];rfl,HW2.out⟩
 ·
  obtain ⟨hr,hcl,-,hgc⟩:=bS HG.out rfl;have HR:=hid (bF hr);have HGC:=hid hgc;simp only at hcl HR HGC;clear hr hgc;have hcl1:nc.length≤nk.length:=by omega
  have hcl2:nk.length≤nc.length:=by omega
  clear hcl;go_wp2_with fail;refine (kU _ _ [] 1 w1 HT1.out.u (by simp) (Nat.le_of_lt HT1.out.sz)).mono ?_;rintro e w2 ⟨rfl,hu,hb⟩;have HT2:=hid (HT1.out.wrote hu hb);clear hu hb a0 a1 a2 a3 a4;obtain ⟨a0,a1,a2,a3,a4⟩:=aa HT2.out.g;simp only at a0 a1 a2 a3;go_wp2_with fail;refine (gS nk.length 2 w2 (by omega) (by omega) (by omega)).mono ?_;rintro e w3 ⟨rfl,hb⟩;have HT3:=hid (HT2.out.quiet hb);clear hb;clear a0 a1 a2 a3 a4;obtain ⟨a0,a1,a2,a3,a4⟩:=aa HT3.out.g;simp only at a0 a1 a2 a3;go_wp2_with fail;refine (cS _ _ ([] ++ [1]) (aK 2 nk.length) w3 HT3.out.u (by simp) (by rw [ay];omega) (Nat.le_of_lt HT3.out.sz)).mono ?_;rintro e w4 ⟨rfl,hu,hb⟩;have HT4:=hid (HT3.out.wrote hu hb);clear hu hb;clear a0 a1 a2 a3 a4;have HT7:=hid (show BySt w ⟨true,nk,nc,nd⟩ (.slice A1 nk.length c1) (.slice A2 nc.length c2) (.slice A3 nd.length c3) (b9 ⟨true,nk,nc,nd⟩ 0) w4 from by
   have:=HT4.out;have e:b9 ⟨true,nk,nc,nd⟩ 0=[] ++ [1] ++ aK 2 nk.length:=by simp [b9,bC]
   rw [e];exact this)
  clear HT1 HT2 HT3 HT4;obtain ⟨a0,a1,a2,a3,a4⟩:=aa HT7.out.g;simp only at a0 a1 a2 a3;go_wp2_with fail;clear a0 a1 a2 a3 a4;go_loopw [31] (fun i wr=>∃ k:Nat,k≤nk.length∧i=.int .i64 k∧BySt w ⟨true,nk,nc,nd⟩ (.slice A1 nk.length c1) (.slice A2 nc.length c2) (.slice A3 nd.length c3) (b9 ⟨true,nk,nc,nd⟩ k) wr) (fun i _=>nk.length - (intOf i).toNat)
  case atStart=>exact ⟨0,Nat.zero_le _,rfl,HT7.out⟩
  case round=>
   obtain ⟨k,hk,rfl,ht⟩:=hrel;have HT1:=hid ht;clear ht;obtain ⟨a0,a1,a2,a3,a4⟩:=aa HT1.out.g;simp only at a0 a1 a2 a3;by_cases hlt:k<nk.length
   ·obtain ⟨b1,off1,rfl,hbl1,-,hc⟩:=(HS.out.k.keep HT1.out.b).key hlt;obtain ⟨b,off,rfl,hbl,-,hc0,hc1,hc2⟩:=HS.out.c.cell3 (show k<nc.length by omega);have HC:=hid (And.intro hbl (And.intro hc0 (And.intro hc1 hc2)));clear hbl hc0 hc1 hc2;have h64:nk[k].length≤64:=HR.out _ (List.getElem_mem hlt);have hsz:(al nk[k]).size=nk[k].length:=aq _;have HGK:=hid (HGC.out _ (List.getElem_mem (show k<nc.length by omega)))
    have HNX:=hid (show b9 ⟨true,nk,nc,nd⟩ (k+1)=b9 ⟨true,nk,nc,nd⟩ k ++ bh (al nk[k]).size ++ nk[k] ++ fA (nc[k]'(by omega)) by
     rw [lN (n:=⟨true,nk,nc,nd⟩) rfl hlt (show k<nc.length by omega),hsz])
    have hlen:=gJ HG.out k;have hvl:(bh (al nk[k]).size).length≤2:=by rw [cJ];split <;> omega
    have hszb:(al nk[k]).size≤64:=by omega
    clear hsz;have hk0:(k:Int)<(nc.length:Int):=by omega
    generalize b9 ⟨true,nk,nc,nd⟩ k=acc at *;generalize nk[k]=key at *;generalize nc[k]'(by omega)=ce at *;obtain ⟨sz,da,pg⟩:=ce;simp only at HC;obtain ⟨s,hs⟩:∃ s:Nat,sz=(s:Int):=⟨sz.toNat,by
     have:=HGK.out;by_cases h:40<sz
     ·omega
     ·have:=(eS this h).1;simp only at this;omega⟩
    subst hs;go_wp2_with fail;refine (jz (al key).size wr (by omega)).mono ?_;rintro e w2 ⟨rfl,hb⟩;have HT2:=hid (HT1.out.quiet hb);clear hb;go_wp2_with fail;refine (cS _ _ (acc) (bh (al key).size) w2 HT2.out.u (by omega) (by omega) (Nat.le_of_lt HT2.out.sz)).mono ?_;rintro e w3 ⟨rfl,hu,hb⟩;have HT3:=hid (HT2.out.wrote hu hb);clear hu hb;go_wp2_with fail;refine (cS _ _ (acc ++ bh (al key).size) (key) w3 HT3.out.u (by simp only [List.length_append];omega) (by omega) (Nat.le_of_lt HT3.out.sz)).mono ?_;rintro e w4 ⟨rfl,hu,hb⟩;have HT4:=hid (HT3.out.wrote hu hb);clear hu hb;clear a0 a1 a2 a3 a4;obtain ⟨a0,a1,a2,a3,a4⟩:=aa HT4.out.g;simp only at a0 a1 a2 a3;have hx0:w4.cell? ⟨b,off+k * 3,none⟩=some (.int .i64 s):=(HT4.out.b.cell (p:=⟨b,off+k * 3,none⟩) HC.out.1).trans HC.out.2.1;have hx1:b<w4.heap.size:=by have:=HT4.out.b.size;have:=HC.out.1;omega
    by_cases h40:40<s
    ·have h40b:(40:Int)<(s:Int):=by omega
     obtain ⟨g1,g2,g3,g4⟩:=eR HGK.out h40b;simp only at g1 g2 g3 g4;subst g1;obtain ⟨p,hp⟩:∃ p:Nat,pg=(p:Int):=⟨pg.toNat,by omega⟩;subst hp;have HNX2:=hid (show b9 ⟨true,nk,nc,nd⟩ (k+1)=acc ++ bh (al key).size ++ key ++ bh s ++ aK 4 p by
      rw [HNX.out];unfold fA;simp only;rw [if_pos h40b];simp)
     have hvs:(bh s).length≤2:=by rw [cJ];split <;> omega
     go_wp2_with fail;refine (jz s w4 (by omega)).mono ?_;rintro e w5 ⟨rfl,hb⟩;have HT5:=hid (HT4.out.quiet hb);clear hb;clear a0 a1 a2 a3 a4 hx0 hx1;go_wp2_with fail;refine (cS _ _ (acc ++ bh (al key).size ++ key) (bh s) w5 HT5.out.u (by simp only [List.length_append];omega) (by omega) (Nat.le_of_lt HT5.out.sz)).mono ?_;rintro e w6 ⟨rfl,hu,hb⟩;have HT6:=hid (HT5.out.wrote hu hb);clear hu hb;obtain ⟨a0,a1,a2,a3,a4⟩:=aa HT6.out.g;simp only at a0 a1 a2 a3;have hx0:w6.cell? ⟨b,off+k * 3+2,none⟩=some (.int .i64 p):=(HT6.out.b.cell (p:=⟨b,off+k * 3+2,none⟩) HC.out.1).trans HC.out.2.2.2;have hx1:b<w6.heap.size:=by have:=HT6.out.b.size;have:=HC.out.1;omega
     go_wp2_with fail;refine (ea p w6 (by omega)).mono ?_;rintro e w7 ⟨rfl,hb⟩;have HT7:=hid (HT6.out.quiet hb);clear hb;clear a0 a1 a2 a3 a4 hx0 hx1;go_wp2_with fail;refine (cS _ _ (acc ++ bh (al key).size ++ key ++ bh s) (aK 4 p) w7 HT7.out.u (by simp only [List.length_append];omega) (by rw [ay];omega) (Nat.le_of_lt HT7.out.sz)).mono ?_;rintro e w8 ⟨rfl,hu,hb⟩;have HT8:=hid (HT7.out.wrote hu hb);clear hu hb;rw [← HNX2.out] at HT8;go_wp2_with fail;go_roundw
     case rel=>exact ⟨k+1,by omega,by go_num,HT8.out⟩
     case measure=>simp [intOf];omega
    ·have h40b:(s:Int)≤40:=by omega
     obtain ⟨g1,g2,g3⟩:=eS HGK.out (show ¬ 40<(s:Int) by omega);simp only at g1 g2 g3;subst g3;have HNX2:=hid (show b9 ⟨true,nk,nc,nd⟩ (k+1)=acc ++ bh (al key).size ++ key ++ bh s ++ da by
      rw [HNX.out];unfold fA;simp only;rw [if_neg (by omega)];simp)
     have hvs:(bh s).length≤2:=by rw [cJ];split <;> omega
     have hda:da.length≤40:=by omega
     clear g2;go_wp2_with fail;refine (jz s w4 (by omega)).mono ?_;rintro e w5 ⟨rfl,hb⟩;have HT5:=hid (HT4.out.quiet hb);clear hb;clear a0 a1 a2 a3 a4 hx0 hx1;go_wp2_with fail;refine (cS _ _ (acc ++ bh (al key).size ++ key) (bh s) w5 HT5.out.u (by simp only [List.length_append];omega) (by omega) (Nat.le_of_lt HT5.out.sz)).mono ?_;rintro e w6 ⟨rfl,hu,hb⟩;have HT6:=hid (HT5.out.wrote hu hb);clear hu hb;obtain ⟨a0,a1,a2,a3,a4⟩:=aa HT6.out.g;simp only at a0 a1 a2 a3;have hx0:w6.cell? ⟨b,off+k * 3+1,none⟩=some (.string (al da)):=(HT6.out.b.cell (p:=⟨b,off+k * 3+1,none⟩) HC.out.1).trans HC.out.2.2.1;have hx1:b<w6.heap.size:=by have:=HT6.out.b.size;have:=HC.out.1;omega
     go_wp2_with fail;refine (cS _ _ (acc ++ bh (al key).size ++ key ++ bh s) (da) w6 HT6.out.u (by simp only [List.length_append];omega) (by omega) (Nat.le_of_lt HT6.out.sz)).mono ?_;rintro e w7 ⟨rfl,hu,hb⟩;have HT7:=hid (HT6.out.wrote hu hb);clear hu hb;clear a0 a1 a2 a3 a4 hx0 hx1;rw [← HNX2.out] at HT7;go_wp2_with fail;go_roundw
     case rel=>exact ⟨k+1,by omega,by go_num,HT7.out⟩
     case measure=>simp [intOf];omega
   ·obtain rfl:k=nk.length:=by omega
    have HE2:=hid (show b9 ⟨true,nk,nc,nd⟩ nk.length=ar ⟨true,nk,nc,nd⟩ from HE.out);clear a0 a1 a2 a3 a4;go_wp2_with fail;refine (Tryz.Builder_String_any (w.heap.size+1) (w.heap.size+1) (b9 ⟨true,nk,nc,nd⟩ nk.length) wr HT1.out.u (Nat.le_of_lt HT1.out.sz)).mono ?_;rintro e w2 ⟨rfl,hb⟩;have HW2:=hid (HT1.out.b.trans (hb.mono (Nat.le_succ _)));clear hb;go_wp2_with fail;go_ret;exact ⟨by rw [← HE2.out];rfl,HW2.out⟩
end Go.Proofs.YtknioodagnjchaaGreatDoor
namespace Go.Proofs.YtknioodagnjchaaGreatDoor
open Go.Lib (hid)
open Go.RowKit
theorem qB (n:Nd) (v:Value) (w:World) (h:NdV w v n) (hb:n.Bd):Calls Tryz.prog 208 #[v] w fun e w'=>e=.returned (.int .i64 (g8 n))∧Below w.heap.size w w':=by
 obtain ⟨vk,vc,vd,rfl,hs⟩:=h;have HW0:=hid ((Below.refl _ w).alloc (Nat.le_refl _) (ap n vk vc vd));have HG0:=hid (ag (w0:=w) (g:=w.heap.size) (o:=ap n vk vc vd) rfl);have HS0:=hid (hs.keep HW0.out);have HB:=hid hb;clear hs hb;go_enter Tryz.func208,Tryz.ntmps208;go_upto_region 1 with fail
 generalize hw1:w.alloc (.cells #[.bool n.leaf,vk,vc,vd] 110)=w1 at *;have hw2:w.alloc (ap n vk vc vd)=w1:=hw1;rw [hw2] at HW0 HG0 HS0;clear hw1 hw2;obtain ⟨a0,a1,a2,a3,a4⟩:=aa HG0.out;go_wp2_with fail;refine (iy n _ w1 ⟨vk,vc,vd,rfl,HS0.out⟩ HB.out).mono ?_;cases hg:aB n
 ·have HV:=hid (show g8 n=0 by unfold g8;rw [hg];rfl);clear hg;rintro e w2 ⟨rfl,hb⟩;have HW2:=hid (HW0.out.trans (hb.mono HW0.out.size));have HG2:=hid (ae HG0.out hb);have HS2:=hid (HS0.out.keep hb);clear hb a0 a1 a2 a3 a4;obtain ⟨a0,a1,a2,a3,a4⟩:=aa HG2.out;go_wp2_with fail;go_ret;exact ⟨by rw [HV.out];rfl,HW2.out⟩
 ·have HV:=hid (show g8 n=(ar n).length by unfold g8;rw [hg];rfl);have HGD:=hid hg;clear hg;rintro e w2 ⟨rfl,hb⟩;have HW2:=hid (HW0.out.trans (hb.mono HW0.out.size));have HG2:=hid (ae HG0.out hb);have HS2:=hid (HS0.out.keep hb);clear hb a0 a1 a2 a3 a4;obtain ⟨a0,a1,a2,a3,a4⟩:=aa HG2.out;go_wp2_with fail;refine (lJ n _ w2 ⟨vk,vc,vd,rfl,HS2.out⟩ HB.out HGD.out).mono ?_;have hsz:=aq (ar n);have HSZ:=hid hsz;clear hsz;rintro e w3 ⟨rfl,hb⟩;have HW3:=hid (HW2.out.trans (hb.mono HW2.out.size));have HG3:=hid (ae HG2.out hb);have HS3:=hid (HS2.out.keep hb);clear hb a0 a1 a2 a3 a4;obtain ⟨a0,a1,a2,a3,a4⟩:=aa HG3.out;go_wp2_with fail;go_ret;exact ⟨by rw [HV.out,← HSZ.out];rfl,HW3.out⟩
def db (n:Nd):Int:=if aB n then if 232<(ar n).length then 47 else 0 else 1
def dD (n:Nd):By:=if db n=0 then aD (ar n) else []
theorem ib (n:Nd) (v:Value) (w:World) (h:NdV w v n) (hb:n.Bd):Calls Tryz.prog 120 #[v] w fun e w'=>e=.returned (.tuple #[.string (al (dD n)),.int .i64 (db n)])∧Below w.heap.size w w':=by
 obtain ⟨vk,vc,vd,rfl,hs⟩:=h;have HW0:=hid ((Below.refl _ w).alloc (Nat.le_refl _) (ap n vk vc vd));have HG0:=hid (ag (w0:=w) (g:=w.heap.size) (o:=ap n vk vc vd) rfl);have HS0:=hid (hs.keep HW0.out);have HB:=hid hb;clear hs hb;go_enter Tryz.func120,Tryz.ntmps120;go_upto_region 1 with fail
 generalize hw1:w.alloc (.cells #[.bool n.leaf,vk,vc,vd] 110)=w1 at *;have hw2:w.alloc (ap n vk vc vd)=w1:=hw1;rw [hw2] at HW0 HG0 HS0;clear hw1 hw2;obtain ⟨a0,a1,a2,a3,a4⟩:=aa HG0.out;go_wp2_with fail;refine (iy n _ w1 ⟨vk,vc,vd,rfl,HS0.out⟩ HB.out).mono ?_;cases hg:aB n
 ·have HV:=hid (show db n=1∧dD n=[] by
   have:db n=1:=by unfold db;rw [hg];rfl
   unfold dD;rw [this];exact ⟨rfl,rfl⟩)
  clear hg;rintro e w2 ⟨rfl,hb⟩;have HW2:=hid (HW0.out.trans (hb.mono HW0.out.size));have HG2:=hid (ae HG0.out hb);have HS2:=hid (HS0.out.keep hb);clear hb a0 a1 a2 a3 a4;obtain ⟨a0,a1,a2,a3,a4⟩:=aa HG2.out;go_wp2_with fail;go_ret2;exact ⟨by rw [HV.out.1,HV.out.2];rfl,HW2.out⟩
 ·have HGD:=hid hg;rintro e w2 ⟨rfl,hb⟩;have HW2:=hid (HW0.out.trans (hb.mono HW0.out.size));have HG2:=hid (ae HG0.out hb);have HS2:=hid (HS0.out.keep hb);clear hb a0 a1 a2 a3 a4;obtain ⟨a0,a1,a2,a3,a4⟩:=aa HG2.out;go_wp2_with fail;refine (lJ n _ w2 ⟨vk,vc,vd,rfl,HS2.out⟩ HB.out HGD.out).mono ?_;have hsz:=aq (ar n);have HBL:=hid (gJ HGD.out n.keys.length);rw [kF HGD.out] at HBL;have hkk:=HB.out.k;have hbl:=HBL.out;by_cases h232:232<(ar n).length
  ·have HV:=hid (show db n=47∧dD n=[] by
    have:db n=47:=by unfold db;rw [hg,if_pos rfl,if_pos h232]
    unfold dD;rw [this];exact ⟨rfl,rfl⟩)
   have hc:(232:Int)<((al (ar n)).size:Int):=by rw [hsz];omega
   clear hg hsz h232 hbl hkk;generalize ar n=l at *;rintro e w3 ⟨rfl,hb⟩;have HW3:=hid (HW2.out.trans (hb.mono HW2.out.size));have HG3:=hid (ae HG2.out hb);have HS3:=hid (HS2.out.keep hb);clear hb a0 a1 a2 a3 a4;obtain ⟨a0,a1,a2,a3,a4⟩:=aa HG3.out;go_wp2_with fail;go_ret2;exact ⟨by rw [HV.out.1,HV.out.2];rfl,HW3.out⟩
  ·have HV:=hid (show db n=0∧dD n=aD (ar n) by
    have:db n=0:=by unfold db;rw [hg,if_pos rfl,if_neg h232]
    unfold dD;rw [this,if_pos rfl];exact ⟨rfl,rfl⟩)
   have hc:((al (ar n)).size:Int)≤232:=by rw [hsz];omega
   obtain ⟨r,hr⟩:∃ r:Nat,r=232 - (ar n).length:=⟨_,rfl⟩;have hr2:(232:Int) - ((al (ar n)).size:Int)=(r:Int):=by rw [hsz];omega
   have hr3:r≤232:=by omega
   have HS2':=hid (show al (ar n) ++ al (List.replicate r 0)=al (aD (ar n)) by
    rw [bU,aW,aW,hr,jg (by omega)])
   have hc2:(al (ar n)).size≤232:=by omega
   clear hg hsz h232 hr hbl hkk;generalize aD (ar n)=F at *;generalize al (ar n)=x at *;rintro e w3 ⟨rfl,hb⟩;have HW3:=hid (HW2.out.trans (hb.mono HW2.out.size));have HG3:=hid (ae HG2.out hb);have HS3:=hid (HS2.out.keep hb);clear hb a0 a1 a2 a3 a4;obtain ⟨a0,a1,a2,a3,a4⟩:=aa HG3.out;have s4:=aq (List.replicate r 0);rw [List.length_replicate] at s4;have hs5:(al (List.replicate r 0)).size≤232:=by omega
   clear s4;go_wp2_with fail;refine (eX r w3 hr3).mono ?_;rintro e w4 ⟨rfl,hb⟩;have HW4:=hid (HW3.out.trans (hb.mono HW3.out.size));clear hb;go_wp2_with fail;go_ret2;rw [HS2'.out];exact ⟨by rw [HV.out.1,HV.out.2];rfl,HW4.out⟩
def k9 (r:Rd):Obj:=.cells #[.string (al r.rest),.bool r.bad] 215 (0,0)
theorem eO {w:World} {g:Nat} {r:Rd} (hh:w.heap[g]?=some (k9 r)):w.cell? ⟨g,0,none⟩=some (.string (al r.rest))∧w.cell? ⟨g,1,none⟩=some (.bool r.bad)∧g<w.heap.size∧w.frozen? ⟨g,0,none⟩=false∧w.frozen? ⟨g,1,none⟩=false:=
 ⟨ac hh 0,ac hh 1,aj hh,ab hh 0,ab hh 1⟩
theorem iP (r:Rd) (n g:Nat) (w:World) (h:w.heap[g]?=some (k9 r)) (hl:r.rest.length≤1000000):
  Calls Tryz.prog 151 #[.pointer (some ⟨g,0,none⟩),.int .i64 n] w fun e w'=>e=.returned (.string (al (cg r n).1))∧w'.heap[g]?=some (k9 (cg r n).2)∧Ch (fun k=>k=g) w w':=by
 obtain ⟨rr,rb⟩:=r;simp only at hl;obtain ⟨a0,a1,a2,a3,a4⟩:=eO h;have H:=hid h;have hsz:(al rr).size=rr.length:=aq rr;clear h;simp only at a0 a1;go_enter Tryz.func151,Tryz.ntmps151;by_cases hlt:rr.length<n
 ·have HV:=hid (show cg ⟨rr,rb⟩ n=([],⟨rr,true⟩) by unfold cg;rw [if_pos hlt]);have hc:((al rr).size:Int)<(n:Int):=by omega
  have hc2:(al rr).size<n:=by omega
  have HX:=hid (show (w.setCell ⟨g,1,none⟩ (.bool true)).heap[g]?=some (k9 ⟨rr,true⟩) from ah H.out 1 (.bool true));have HC:=hid ((Ch.refl (fun j=>j=g) w).setCell (p:=⟨g,1,none⟩) rfl (.bool true));clear hsz hlt;go_wp2_with fail;go_ret;exact ⟨by rw [HV.out];rfl,by rw [HV.out];exact HX.out,HC.out⟩
 ·have HV:=hid (show cg ⟨rr,rb⟩ n=(rr.take n,⟨rr.drop n,rb⟩) by unfold cg;rw [if_neg hlt]);have hc:(n:Int)≤((al rr).size:Int):=by omega
  have hc2:n≤(al rr).size:=by omega
  have HE1:=hid (show (al rr).extract 0 n=al (rr.take n) by rw [cR,aW];simp);have HE2:=hid (show (al rr).extract n (al rr).size=al (rr.drop n) by
   rw [cR,aW,List.take_of_length_le (by rw [List.length_drop];omega)])
  have HX:=hid (fun v:Value=>(show (w.setCell ⟨g,0,none⟩ v).heap[g]?=some (.cells #[v,.bool rb] 215 (0,0)) from ah H.out 0 v));have HC:=hid (fun v:Value=>((Ch.refl (fun j=>j=g) w).setCell (p:=⟨g,0,none⟩) rfl v));clear hsz hlt;go_wp2_with fail;go_ret;refine ⟨by rw [HV.out,← HE1.out];rfl,?_,HC.out _⟩;rw [HV.out];unfold k9;simp only;rw [← HE2.out];exact HX.out _
theorem mu:∀ (l:List UInt8) (i n:Nat),(fG i n l).2.2=0→(fG i n l).2.1≤i+l.length
 | [],i,n,h=>by rw [f9] at h;cases h
 | b :: r,i,n,h=>by
   by_cases h1:(i=9∧1<b.toNat)∨(0<i∧b.toNat=0)
   ·rw [ge h1] at h;cases h
   ·by_cases h2:b.toNat<128
    ·rw [eL h1 h2];simp
    ·rw [gL h1 h2] at h ⊢;have:=mu r (i+1) _ h;simp only [List.length_cons];omega
theorem jA {l:List UInt8} (h:(fU l).2.2=0):(fU l).2.1≤l.length:=by have:=mu l 0 0 h;unfold fU;omega
theorem lg (r:Rd) (g:Nat) (w:World) (h:w.heap[g]?=some (k9 r)) (hl:r.rest.length≤1000000):
  Calls Tryz.prog 152 #[.pointer (some ⟨g,0,none⟩)] w fun e w'=>e=.returned (.int .i64 (bn r).1)∧w'.heap[g]?=some (k9 (bn r).2)∧Ch (fun k=>k=g) w w':=by
 obtain ⟨rr,rb⟩:=r;simp only at hl;obtain ⟨a0,a1,a2,a3,a4⟩:=eO h;have H:=hid h;have hsz:(al rr).size=rr.length:=aq rr;have HUL:=hid (jA (l:=rr));obtain ⟨⟨n,k,ee⟩,hx⟩:∃ x,fU rr=x:=⟨_,rfl⟩;rw [hx] at HUL;have HRS:=hid (show bn ⟨rr,rb⟩=if ee≠0∨5000<n then (0,⟨rr,true⟩) else (n,⟨rr.drop k,rb⟩) by unfold bn;rw [hx]);have HX:=hid hx;clear h hx;simp only at a0 a1;go_enter Tryz.func152,Tryz.ntmps152;go_wp2_with fail;refine (po (al rr) w).mono ?_;rw [aW,HX.out,show tX (n,k,ee)=.tuple #[.int .u64 n,.int .i64 k,.int .i64 ee] from rfl];rintro e w1 ⟨rfl,hb⟩;have HB:=hid hb;have H1:=hid (ae H.out hb);clear hb a0 a1 a2 a3 a4;obtain ⟨a0,a1,a2,a3,a4⟩:=eO H1.out;simp only at a0 a1;have HX1:=hid (show (w1.setCell ⟨g,1,none⟩ (.bool true)).heap[g]?=some (k9 ⟨rr,true⟩) from ah H1.out 1 (.bool true));have HC1:=hid ((Ch.of_below (S:=fun j=>j=g) HB.out).setCell (p:=⟨g,1,none⟩) rfl (.bool true));by_cases he:ee=0
 ·subst he;by_cases h5:5000<n
  ·have HV:=hid (show bn ⟨rr,rb⟩=(0,⟨rr,true⟩) by rw [HRS.out,if_pos (.inr h5)]);have h5b:decide ((5000:Int)<(n:Int))=true:=decide_eq_true (by omega);clear hsz;go_wp2_with fail;go_ret;exact ⟨by rw [HV.out];rfl,by rw [HV.out];exact HX1.out,HC1.out⟩
  ·have HV:=hid (show bn ⟨rr,rb⟩=(n,⟨rr.drop k,rb⟩) by rw [HRS.out,if_neg (by omega)]);have h5b:decide ((5000:Int)<(n:Int))=false:=decide_eq_false (by omega);have h5c:n≤5000:=by omega
   have h5d:(n:Int)≤5000:=by omega
   have h5e:IntKind.i64.wrap (n:Int)=(n:Int):=IntWalk.i64_in _ (by omega);have hk1:k≤rr.length:=HUL.out rfl;have hk2:k≤(al rr).size:=by omega
   have hk3:(k:Int)≤((al rr).size:Int):=by omega
   have HE2:=hid (show (al rr).extract k (al rr).size=al (rr.drop k) by
    rw [cR,aW,List.take_of_length_le (by rw [List.length_drop];omega)])
   have HX2:=hid (fun v:Value=>(show (w1.setCell ⟨g,0,none⟩ v).heap[g]?=some (.cells #[v,.bool rb] 215 (0,0)) from ah H1.out 0 v));have HC2:=hid (fun v:Value=>((Ch.of_below (S:=fun j=>j=g) HB.out).setCell (p:=⟨g,0,none⟩) rfl v));clear hsz;go_wp2_with fail;go_ret;refine ⟨by rw [HV.out];rfl,?_,HC2.out _⟩;rw [HV.out];unfold k9;simp only;rw [← HE2.out];exact HX2.out _
 ·have hee:(ee == 0)=false:=by simpa using he
  have HV:=hid (show bn ⟨rr,rb⟩=(0,⟨rr,true⟩) by rw [HRS.out,if_pos (.inl he)]);clear hsz;go_wp2_with fail;go_ret;exact ⟨by rw [HV.out];rfl,by rw [HV.out];exact HX1.out,HC1.out⟩
theorem iR (r:Rd) (g:Nat) (w:World) (h:w.heap[g]?=some (k9 r)) (hl:r.rest.length≤1000000):
  Calls Tryz.prog 149 #[.pointer (some ⟨g,0,none⟩)] w fun e w'=>e=.returned (.int .i64 (cO r).1)∧w'.heap[g]?=some (k9 (cO r).2)∧Ch (fun k=>k=g) w w':=by
 have H:=hid h;clear h;have HL:(cg r 4).1.length=4∨(cg r 4).1=[]:=by
  unfold cg
  split
  ·exact .inr rfl
  ·rename_i h;exact .inl (by rw [List.length_take];omega)
 have HV:=hid (show cO r=(bM (cg r 4).1,(cg r 4).2) from rfl);go_enter Tryz.func149,Tryz.ntmps149;go_wp2_with fail;refine (iP r 4 g w H.out hl).mono ?_;obtain ⟨⟨l,r2⟩,hx⟩:∃ x,cg r 4=x:=⟨_,rfl⟩;rw [hx] at HL HV ⊢;simp only at HL HV ⊢;clear hx;rintro e w1 ⟨rfl,h1,hc⟩;have H1:=hid h1;have HC1:=hid hc;clear h1 hc;rcases HL with hl4 | rfl
 ·have hlt:bM l<4294967296:=Nat.lt_of_lt_of_le (fH l) (by rw [hl4];decide);go_wp2_with fail;refine (eW (al l) w1 (by rw [aq];omega) (by rw [aq];omega)).mono ?_;rw [aW];generalize bM l=m at *;rintro e w2 ⟨rfl,hb⟩;have H2:=hid (ae H1.out hb);have HC2:=hid (HC1.out.trans (Ch.of_below hb));clear hb hl4;go_wp2_with fail;go_ret;exact ⟨by rw [HV.out];rfl,by rw [HV.out];exact H2.out,HC2.out⟩
 ·go_wp2_with fail;refine (lQ (al []) w1 (.inl (by rw [aq];decide))).mono ?_;rintro e w2 ⟨rfl,rfl⟩;go_wp2_with fail;go_ret;exact ⟨by rw [HV.out];rfl,by rw [HV.out];exact H1.out,HC1.out⟩
theorem aF {w:World} {g:Nat} {c:Ce} (hh:w.heap[g]?=some (cF c)):w.cell? ⟨g,0,none⟩=some (.int .i64 c.size)∧w.cell? ⟨g,1,none⟩=some (.string (al c.data))∧w.cell? ⟨g,2,none⟩=some (.int .i64 c.page)∧g<w.heap.size∧w.frozen? ⟨g,0,none⟩=false∧w.frozen? ⟨g,1,none⟩=false∧w.frozen? ⟨g,2,none⟩=false:=
 ⟨ac hh 0,ac hh 1,ac hh 2,aj hh,ab hh 0,ab hh 1,ab hh 2⟩
theorem pG (r:Rd) (g:Nat) (w:World) (h:w.heap[g]?=some (k9 r)) (hl:r.rest.length≤1000000):
  Calls Tryz.prog 153 #[.pointer (some ⟨g,0,none⟩)] w fun e w'=>e=.returned (.agg #[.int .i64 (dg r).1.size,.string (al (dg r).1.data),.int .i64 (dg r).1.page])∧w'.heap[g]?=some (k9 (dg r).2)∧Ch (fun k=>k=g) w w':=by
 have hgl:=aj h;have HL1:=hid (show (bn r).2.rest.length≤1000000 by
  unfold bn
  split
  ·exact hl
  ·simp only [List.length_drop];omega)
 have HV:=hid (show dg r=if 40<(bn r).1 then (⟨(bn r).1,[],(cO (bn r).2).1⟩,(cO (bn r).2).2)
  else (⟨(bn r).1,(cg (bn r).2 (bn r).1).1,0⟩,(cg (bn r).2 (bn r).1).2) from rfl)
 have HA:=hid (ag (w0:=w) (g:=w.heap.size) (o:=cF ⟨0,[],0⟩) rfl);have H:=hid (ai h (cF ⟨0,[],0⟩));have HC0:=hid (Ch.alloc (Ch.refl (fun k=>k=g) w) (cF ⟨0,[],0⟩));clear h;go_enter Tryz.func153,Tryz.ntmps153;go_upto_region 1 with fail
 generalize hw1:w.alloc (.cells #[.int .i64 0,.string ⟨#[]⟩,.int .i64 0] 119)=w1 at *;have hw2:w.alloc (cF ⟨0,[],0⟩)=w1:=hw1;rw [hw2] at HA H HC0;clear hw1 hw2;go_wp2_with fail;refine (lg r g w1 H.out hl).mono ?_;obtain ⟨⟨s,r2⟩,hx⟩:∃ x,bn r=x:=⟨_,rfl⟩;rw [hx] at HV HL1 ⊢;simp only at HV HL1 ⊢;clear hx;rintro e w2 ⟨rfl,h1,hc⟩;have HA2:=hid (hc.keep HA.out (by omega));have H2:=hid (ai h1 (cF ⟨s,[],0⟩));have HB2:=hid (ag (w0:=w2) (g:=w2.heap.size) (o:=cF ⟨s,[],0⟩) rfl);have HA3:=hid (ai HA2.out (cF ⟨s,[],0⟩));have HC2:=hid ((HC0.out.trans hc).alloc (cF ⟨s,[],0⟩));have hs2:w.heap.size<w2.heap.size:=aj HA2.out;clear h1 hc;go_upto_region 2 with fail
 generalize hw1:w2.alloc (.cells #[.int .i64 s,.string ⟨#[]⟩,.int .i64 0] 119)=w3 at *;have hw2:w2.alloc (cF ⟨s,[],0⟩)=w3:=hw1;rw [hw2] at H2 HB2 HA3 HC2;generalize w2.heap.size=gc at *;clear hw1 hw2;obtain ⟨b0,b1,b2,b3,b4,b5,b6⟩:=aF HB2.out;simp only at b0 b1 b2;by_cases h40:40<s
 ·have h40b:(40:Int)<(s:Int):=by omega
  rw [if_pos h40] at HV;go_wp2_with fail;refine (iR r2 g w3 H2.out HL1.out).mono ?_;obtain ⟨⟨p,r3⟩,hx⟩:∃ x,cO r2=x:=⟨_,rfl⟩;rw [hx] at HV ⊢;simp only at HV ⊢;clear hx;rintro e w4 ⟨rfl,h1,hc⟩;have HA4:=hid (hc.keep HA3.out (by omega));have HB4:=hid (hc.keep HB2.out (by omega));have hne:gc≠w.heap.size:=by omega
  have hne2:g≠gc:=by omega
  have hne3:g≠w.heap.size:=by omega
  have HC4:=hid ((HC2.out.trans hc).then ((Ch.refl (fun j=>j=gc) w4).setCell (p:=⟨gc,2,none⟩) rfl (.int .i64 p)) (fun i e=>.inr (by omega)));have HX5:=hid (show (w4.setCell ⟨gc,2,none⟩ (.int .i64 p)).heap[gc]?=some (cF ⟨s,[],p⟩) from ah HB4.out 2 (.int .i64 p));have HA5:=hid (bY HA4.out (a:=⟨gc,2,none⟩) hne (.int .i64 p));have H5:=hid (bY h1 (a:=⟨gc,2,none⟩) (show gc≠g by omega) (.int .i64 p));clear h1 hc b0 b1 b2 b3 b4 b5 b6;obtain ⟨b0,b1,b2,b3,b4,b5,b6⟩:=aF HB4.out;simp only at b0 b1 b2;go_upto_region 5 with fail
  generalize w4.setCell ⟨gc,2,none⟩ (.int .i64 p)=w5 at *;clear b0 b1 b2 b3 b4 b5 b6;obtain ⟨b0,b1,b2,b3,b4,b5,b6⟩:=aF HX5.out;obtain ⟨d0,d1,d2,d3,d4,d5,d6⟩:=aF HA5.out;simp only at b0 b1 b2 d0 d1 d2;go_wp2_with fail;have hf:=ah (ah (ah HA5.out 0 (.int .i64 (⟨s,[],p⟩:Ce).size)) 1 (.string (al (⟨s,[],p⟩:Ce).data))) 2 (.int .i64 (⟨s,[],p⟩:Ce).page);obtain ⟨q0,q1,q2,q3,-,-,-⟩:=aF (c:=⟨s,[],p⟩) hf;simp only at q0 q1 q2
  exact bodyPost_ret (v:=.agg #[.int .i64 (⟨s,[],p⟩:Ce).size,.string (al (⟨s,[],p⟩:Ce).data),.int .i64 (⟨s,[],p⟩:Ce).page]) (by simp [results,Tryz.results153,go_sem,q0,q1,q2]) rfl
   ⟨by rw [HV.out],by rw [HV.out];exact bY (bY (bY H5.out (a:=⟨w.heap.size,0,none⟩) hne3.symm _) (a:=⟨w.heap.size,1,none⟩) hne3.symm _) (a:=⟨w.heap.size,2,none⟩) hne3.symm _,
    HC4.out.then ((((Ch.refl (fun j=>j=w.heap.size) w5).setCell (p:=⟨w.heap.size,0,none⟩) rfl _).setCell (p:=⟨w.heap.size,1,none⟩) rfl _).setCell (p:=⟨w.heap.size,2,none⟩) rfl _) (fun i e=>.inr (by omega))⟩
 ·have h40b:(s:Int)≤40:=by omega
  rw [if_neg h40] at HV;go_wp2_with fail;refine (iP r2 s g w3 H2.out HL1.out).mono ?_;obtain ⟨⟨d,r3⟩,hx⟩:∃ x,cg r2 s=x:=⟨_,rfl⟩;rw [hx] at HV ⊢;simp only at HV ⊢;clear hx;rintro e w4 ⟨rfl,h1,hc⟩;have HA4:=hid (hc.keep HA3.out (by omega));have HB4:=hid (hc.keep HB2.out (by omega));have hne:gc≠w.heap.size:=by omega
  have hne2:g≠gc:=by omega
  have hne3:g≠w.heap.size:=by omega
  have HC4:=hid ((HC2.out.trans hc).then ((Ch.refl (fun j=>j=gc) w4).setCell (p:=⟨gc,1,none⟩) rfl (.string (al d))) (fun i e=>.inr (by omega)));have HX5:=hid (show (w4.setCell ⟨gc,1,none⟩ (.string (al d))).heap[gc]?=some (cF ⟨s,d,0⟩) from ah HB4.out 1 (.string (al d)));have HA5:=hid (bY HA4.out (a:=⟨gc,1,none⟩) hne (.string (al d)));have H5:=hid (bY h1 (a:=⟨gc,1,none⟩) (show gc≠g by omega) (.string (al d)));clear h1 hc b0 b1 b2 b3 b4 b5 b6;obtain ⟨b0,b1,b2,b3,b4,b5,b6⟩:=aF HB4.out;simp only at b0 b1 b2;go_upto_region 5 with fail
  generalize w4.setCell ⟨gc,1,none⟩ (.string (al d))=w5 at *;clear b0 b1 b2 b3 b4 b5 b6;obtain ⟨b0,b1,b2,b3,b4,b5,b6⟩:=aF HX5.out;obtain ⟨d0,d1,d2,d3,d4,d5,d6⟩:=aF HA5.out;simp only at b0 b1 b2 d0 d1 d2;go_wp2_with fail;have hf:=ah (ah (ah HA5.out 0 (.int .i64 (⟨s,d,0⟩:Ce).size)) 1 (.string (al (⟨s,d,0⟩:Ce).data))) 2 (.int .i64 (⟨s,d,0⟩:Ce).page);obtain ⟨q0,q1,q2,q3,-,-,-⟩:=aF (c:=⟨s,d,0⟩) hf;simp only at q0 q1 q2
  exact bodyPost_ret (v:=.agg #[.int .i64 (⟨s,d,0⟩:Ce).size,.string (al (⟨s,d,0⟩:Ce).data),.int .i64 (⟨s,d,0⟩:Ce).page]) (by simp [results,Tryz.results153,go_sem,q0,q1,q2]) rfl
   ⟨by rw [HV.out],by rw [HV.out];exact bY (bY (bY H5.out (a:=⟨w.heap.size,0,none⟩) hne3.symm _) (a:=⟨w.heap.size,1,none⟩) hne3.symm _) (a:=⟨w.heap.size,2,none⟩) hne3.symm _,
    HC4.out.then ((((Ch.refl (fun j=>j=w.heap.size) w5).setCell (p:=⟨w.heap.size,0,none⟩) rfl _).setCell (p:=⟨w.heap.size,1,none⟩) rfl _).setCell (p:=⟨w.heap.size,2,none⟩) rfl _) (fun i e=>.inr (by omega))⟩
end Go.Proofs.YtknioodagnjchaaGreatDoor
namespace Go.Proofs.YtknioodagnjchaaGreatDoor
open Go.RowKit
theorem f8:ElemT Tryz.prog 22 9 sC 1 16:=
 ElemT.mk' (z:=.string ⟨#[]⟩) Tryz.underlying22 (by kernel_rfl) rfl (by decide) aP (fun x u hu=>by rw [List.mem_singleton.1 hu];rfl)
theorem gE:ElemT Tryz.prog 108 119 cC 3 32:=
 ElemT.mk' (z:=.agg #[.int .i64 0,.string ⟨#[]⟩,.int .i64 0]) Tryz.underlying108 (by kernel_rfl) rfl (by decide) bu (fun x u hu=>by
  simp only [cC,List.mem_cons,List.not_mem_nil,or_false] at hu;rcases hu with rfl | rfl | rfl <;> rfl)
structure DSt (b3 gn gr:Nat) (rd:Rd) (n:Nd) (vk vc vd:Value) (w:World):Prop where
 g:w.heap[gn]?=some (ap n vk vc vd)
 r:w.heap[gr]?=some (k9 rd)
 k:Own sC 1 9 b3 w vk n.keys
 c:Own cC 3 119 b3 w vc n.cells
 d:Own iC 1 3 b3 w vd n.kids
 kc:Dis vk vc
 kd:Dis vk vd
 cd:Dis vc vd
 h1:gn<b3
 h2:gr<b3
 h3:gn≠gr
section
variable {b3 gn gr:Nat} {rd rd':Rd} {n:Nd} {vk vc vd v':Value} {w w' w5:World}
theorem DSt.reader (h:DSt b3 gn gr rd n vk vc vd w) (hc:Ch (fun k=>k=gr) w w') (hr:w'.heap[gr]?=some (k9 rd')):DSt b3 gn gr rd' n vk vc vd w':=
 ⟨hc.keep h.g h.h3,hr,h.k.ch hc (fun j hj e=>by have:=(h.k.lt j hj).1;have:=h.h2;omega),h.c.ch hc (fun j hj e=>by have:=(h.c.lt j hj).1;have:=h.h2;omega),h.d.ch hc (fun j hj e=>by have:=(h.d.lt j hj).1;have:=h.h2;omega),h.kc,h.kd,h.cd,h.h1,h.h2,h.h3⟩
theorem DSt.draw (h:DSt b3 gn gr rd n vk vc vd w):DSt b3 gn gr rd n vk vc vd w.drew:=⟨h.g,h.r,h.k,h.c,h.d,h.kc,h.kd,h.cd,h.h1,h.h2,h.h3⟩
theorem DSt.alloc (h:DSt b3 gn gr rd n vk vc vd w) (o:Obj):DSt b3 gn gr rd n vk vc vd (w.alloc o):=
 ⟨ai h.g o,ai h.r o,h.k.alloc o,h.c.alloc o,h.d.alloc o,h.kc,h.kd,h.cd,h.h1,h.h2,h.h3⟩
theorem DSt.below (h:DSt b3 gn gr rd n vk vc vd w) (hb:Below w.heap.size w w'):DSt b3 gn gr rd n vk vc vd w':=
 ⟨ae h.g hb,ae h.r hb,h.k.below hb,h.c.below hb,h.d.below hb,h.kc,h.kd,h.cd,h.h1,h.h2,h.h3⟩
theorem ba {g:Nat} {o:Obj} {row:Value} (h:w.heap[g]?=some o) (hg:w.grownBy w' row.ownBlock) (hb:∀ k,row.ownBlock=some k→b3≤k) (hlt:g<b3):w'.heap[g]?=some o:=
 (hg.block g (aj h) (fun e=>by have:=hb g e.symm;omega)).trans h
theorem DSt.addK (h:DSt b3 gn gr rd n vk vc vd w) {x:By} (ho:Own sC 1 9 b3 w5 v' (n.keys ++ [x])) (hg:w.grownBy w5 vk.ownBlock) (hat:v'.ownBlock=vk.ownBlock∨v'.ownBlock=some w.heap.size):
  DSt b3 gn gr rd { n with keys:=n.keys ++ [x] } v' vc vd (w5.setCell ⟨gn,1,none⟩ v'):=by
 have hb:∀ k,vk.ownBlock=some k→b3≤k:=fun k hk=>(h.k.lt k hk).1
 have hg5:=ba h.g hg hb h.h1;have hr5:=ba h.r hg hb h.h2;have hc:Ch (fun j=>j=gn) w5 (w5.setCell ⟨gn,1,none⟩ v'):=(Ch.refl (fun j=>j=gn) w5).setCell (p:=⟨gn,1,none⟩) rfl v';have hc5:=h.c.dis hg (h.kc.symm);have hd5:=h.d.dis hg (h.kd.symm)
 exact ⟨ah hg5 1 v',hc.keep hr5 h.h3.symm,ho.ch hc (fun j hj e=>by have:=(ho.lt j hj).1;have:=h.h1;omega),hc5.ch hc (fun j hj e=>by have:=(hc5.lt j hj).1;have:=h.h1;omega),hd5.ch hc (fun j hj e=>by have:=(hd5.lt j hj).1;have:=h.h1;omega),
  h.kc.app hat h.c,h.kd.app hat h.d,h.cd,h.h1,h.h2,h.h3⟩
theorem DSt.addC (h:DSt b3 gn gr rd n vk vc vd w) {x:Ce} (ho:Own cC 3 119 b3 w5 v' (n.cells ++ [x])) (hg:w.grownBy w5 vc.ownBlock) (hat:v'.ownBlock=vc.ownBlock∨v'.ownBlock=some w.heap.size):
  DSt b3 gn gr rd { n with cells:=n.cells ++ [x] } vk v' vd (w5.setCell ⟨gn,2,none⟩ v'):=by
 have hb:∀ k,vc.ownBlock=some k→b3≤k:=fun k hk=>(h.c.lt k hk).1
 have hg5:=ba h.g hg hb h.h1;have hr5:=ba h.r hg hb h.h2;have hc:Ch (fun j=>j=gn) w5 (w5.setCell ⟨gn,2,none⟩ v'):=(Ch.refl (fun j=>j=gn) w5).setCell (p:=⟨gn,2,none⟩) rfl v';have hk5:=h.k.dis hg h.kc;have hd5:=h.d.dis hg (h.cd.symm)
 exact ⟨ah hg5 2 v',hc.keep hr5 h.h3.symm,hk5.ch hc (fun j hj e=>by have:=(hk5.lt j hj).1;have:=h.h1;omega),ho.ch hc (fun j hj e=>by have:=(ho.lt j hj).1;have:=h.h1;omega),hd5.ch hc (fun j hj e=>by have:=(hd5.lt j hj).1;have:=h.h1;omega),
  (h.kc.symm.app hat h.k).symm,h.kd,h.cd.app hat h.d,h.h1,h.h2,h.h3⟩
theorem DSt.addD (h:DSt b3 gn gr rd n vk vc vd w) {x:Int} (ho:Own iC 1 3 b3 w5 v' (n.kids ++ [x])) (hg:w.grownBy w5 vd.ownBlock) (hat:v'.ownBlock=vd.ownBlock∨v'.ownBlock=some w.heap.size):
  DSt b3 gn gr rd { n with kids:=n.kids ++ [x] } vk vc v' (w5.setCell ⟨gn,3,none⟩ v'):=by
 have hb:∀ k,vd.ownBlock=some k→b3≤k:=fun k hk=>(h.d.lt k hk).1
 have hg5:=ba h.g hg hb h.h1;have hr5:=ba h.r hg hb h.h2;have hc:Ch (fun j=>j=gn) w5 (w5.setCell ⟨gn,3,none⟩ v'):=(Ch.refl (fun j=>j=gn) w5).setCell (p:=⟨gn,3,none⟩) rfl v';have hk5:=h.k.dis hg h.kd;have hc5:=h.c.dis hg h.cd
 exact ⟨ah hg5 3 v',hc.keep hr5 h.h3.symm,hk5.ch hc (fun j hj e=>by have:=(hk5.lt j hj).1;have:=h.h1;omega),hc5.ch hc (fun j hj e=>by have:=(hc5.lt j hj).1;have:=h.h1;omega),ho.ch hc (fun j hj e=>by have:=(ho.lt j hj).1;have:=h.h1;omega),
  h.kc,(h.kd.symm.app hat h.k).symm,(h.cd.symm.app hat h.c).symm,h.h1,h.h2,h.h3⟩
end
structure RSz (rd:Rd) (n:Nd):Prop where
 rest:rd.rest.length≤232
 sum:n.keys.length+(if rd.bad then 0 else rd.rest.length+1)≤234
 c:n.cells.length≤n.keys.length
 d:n.kids.length≤n.keys.length+1
 kl:∀ k ∈ n.keys,k.length≤232
 cl:∀ c ∈ n.cells,c.data.length≤232
theorem dY (r:Rd) (n:Nat):(cg r n).2.rest.length≤r.rest.length∧(cg r n).1.length≤r.rest.length∧((cg r n).2.bad=false→r.bad=false):=by
 unfold cg
 split
 ·exact ⟨Nat.le_refl _,Nat.zero_le _,fun h=>by cases h⟩
 ·exact ⟨by simp only [List.length_drop];omega,by simp only [List.length_take];omega,id⟩
theorem jM:∀ (l:List UInt8) (i n:Nat),(fG i n l).2.2=0→i<(fG i n l).2.1
 | [],i,n,h=>by rw [f9] at h;cases h
 | b :: r,i,n,h=>by
   by_cases h1:(i=9∧1<b.toNat)∨(0<i∧b.toNat=0)
   ·rw [ge h1] at h;cases h
   ·by_cases h2:b.toNat<128
    ·rw [eL h1 h2];simp
    ·rw [gL h1 h2] at h ⊢;have:=jM r (i+1) _ h;omega
theorem fI (r:Rd):(bn r).2.rest.length≤r.rest.length∧((bn r).2.bad=false→r.bad=false∧(bn r).2.rest.length+1≤r.rest.length):=by
 unfold bn
 split
 ·exact ⟨Nat.le_refl _,fun h=>by cases h⟩
 ·rename_i h
  have h0:(fU r.rest).2.2=0:=by omega
  have h1:0<(fU r.rest).2.1:=jM r.rest 0 0 h0;have h2:=jA h0;exact ⟨by simp only [List.length_drop];omega,fun h=>⟨h,by simp only [List.length_drop];omega⟩⟩
theorem lh (r:Rd):(dq r).2.rest.length≤r.rest.length∧(dq r).1.length≤r.rest.length∧((dq r).2.bad=false→r.bad=false∧(dq r).2.rest.length+1≤r.rest.length):=by unfold dq;obtain ⟨h1,h2⟩:=fI r;obtain ⟨h3,h4,h5⟩:=dY (bn r).2 (bn r).1;refine ⟨by omega,by omega,fun h=>?_⟩;have h6:=h2 (h5 h);exact ⟨h6.1,by omega⟩
theorem fJ (r:Rd):(cO r).2.rest.length≤r.rest.length∧((cO r).2.bad=false→r.bad=false):=⟨(dY r 4).1,(dY r 4).2.2⟩
theorem jV (r:Rd):(dg r).2.rest.length≤r.rest.length∧(dg r).1.data.length≤r.rest.length∧((dg r).2.bad=false→r.bad=false):=by
 obtain ⟨h1,h2⟩:=fI r;unfold dg
 split
 ·obtain ⟨h3,h4⟩:=fJ (bn r).2;exact ⟨by simp only;omega,Nat.zero_le _,fun h=>(h2 (h4 h)).1⟩
 ·obtain ⟨h3,h4,h5⟩:=dY (bn r).2 (bn r).1;exact ⟨by simp only;omega,by simp only;omega,fun h=>(h2 (h5 h)).1⟩
theorem RSz.leaf {r:Rd} {n:Nd} (h:RSz r n) (hb:r.bad=false):RSz (dg (dq r).2).2 { n with keys:=n.keys ++ [(dq r).1],cells:=n.cells ++ [(dg (dq r).2).1] }:=by
 obtain ⟨a1,a2,a3⟩:=lh r;obtain ⟨b1,b2,b3⟩:=jV (dq r).2;have hs:=h.sum;have hr:=h.rest;rw [hb,if_neg (by simp)] at hs;refine ⟨by omega,?_,by have:=h.c;simp;omega,by have:=h.d;simp;omega,fun k hk=>?_,fun c hc=>?_⟩
 ·simp only [List.length_append,List.length_cons,List.length_nil]
  split
  ·omega
  ·rename_i hb2
   have:=a3 (b3 (by simpa using hb2));omega
 ·rcases List.mem_append.1 hk with hk | hk
  ·exact h.kl k hk
  ·rw [List.mem_singleton.1 hk];omega
 ·rcases List.mem_append.1 hc with hc | hc
  ·exact h.cl c hc
  ·rw [List.mem_singleton.1 hc];omega
theorem RSz.inner {r:Rd} {n:Nd} (h:RSz r n) (hb:r.bad=false):RSz (cO (dq r).2).2 { n with keys:=n.keys ++ [(dq r).1],kids:=n.kids ++ [((cO (dq r).2).1:Int)] }:=by
 obtain ⟨a1,a2,a3⟩:=lh r;obtain ⟨b1,b3⟩:=fJ (dq r).2;have hs:=h.sum;have hr:=h.rest;rw [hb,if_neg (by simp)] at hs;refine ⟨by omega,?_,by have:=h.c;simp;omega,by have:=h.d;simp;omega,fun k hk=>?_,h.cl⟩
 ·simp only [List.length_append,List.length_cons,List.length_nil]
  split
  ·omega
  ·rename_i hb2
   have:=a3 (b3 (by simpa using hb2));omega
 ·rcases List.mem_append.1 hk with hk | hk
  ·exact h.kl k hk
  ·rw [List.mem_singleton.1 hk];omega
theorem RSz.bd {r:Rd} {n:Nd} (h:RSz r n):n.Bd:=by have:=h.sum;exact ⟨by omega,by have:=h.c;omega,by have:=h.d;omega,fun k hk=>by have:=h.kl k hk;omega,fun c hc=>by have:=h.cl c hc;omega⟩
end Go.Proofs.YtknioodagnjchaaGreatDoor
