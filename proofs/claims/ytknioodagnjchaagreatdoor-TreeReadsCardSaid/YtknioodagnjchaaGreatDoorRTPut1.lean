/- tree: what Put and Del do to a leaf. -/
import Derived.Test.YtknioodagnjchaaGreatDoorRTSettle
set_option maxRecDepth 100000
set_option maxHeartbeats 8000000
namespace Go.Proofs.YtknioodagnjchaaGreatDoor
open Go.Lib (hid)
open Go.RowKit
structure Lf (base gn:Nat) (n:Nd) (w:World):Prop where
 is:∃ vk vc vd,w.heap[gn]?=some (ap n vk vc vd)∧Own sC 1 9 base w vk n.keys∧Own cC 3 119 base w vc n.cells∧Own iC 1 3 base w vd n.kids∧Dis vk vc∧Dis vk vd∧Dis vc vd∧Ne vk gn∧Ne vc gn∧Ne vd gn
def uc (gn:Nat) (w:World):Prop:=∃ (m:Nd) (A1:Option Addr) (n1 c1:Nat) (A2:Option Addr) (n2 c2:Nat) (A3:Option Addr) (n3 c3:Nat),w.heap[gn]?=some (ap m (.slice A1 n1 c1) (.slice A2 n2 c2) (.slice A3 n3 c3))
def gK (base gs gm:Nat):Nat→Prop:=fun k=>k=gs∨k=gm∨base≤k
def DoP (base gn:Nat) (w:World) (e:Ending):Ans (Option Nd)→Prop
 | .ok (some n)=>e=.returned (.tuple #[.bool true,.int .i64 0])∧Lf base gn n w∧n.Sm 231∧n.Fit
 | .ok none=>e=.returned (.tuple #[.bool false,.int .i64 0])∧uc gn w
 | .err x=>e=.returned (.tuple #[.bool false,.int .i64 x])∧uc gn w
theorem Lf.any {base gn:Nat} {n:Nd} {w:World} (h:Lf base gn n w):uc gn w:=by obtain ⟨vk,vc,vd,h0,h1,h2,h3,_⟩:=h.is;obtain ⟨A1,c1,rfl⟩:=h1.form;obtain ⟨A2,c2,rfl⟩:=h2.form;obtain ⟨A3,c3,rfl⟩:=h3.form;exact ⟨n,A1,_,c1,A2,_,c2,A3,_,c3,h0⟩
theorem Lf.ch {base gn:Nat} {n:Nd} {w w':World} {S:Nat→Prop} (h:Lf base gn n w) (hc:Ch S w w') (hs:∀ k,base≤k→¬ S k) (hg:¬ S gn):Lf base gn n w':=by obtain ⟨vk,vc,vd,h0,h1,h2,h3,h4⟩:=h.is;exact ⟨vk,vc,vd,hc.keep h0 hg,h1.ch hc (fun k hk=>hs k (h1.lt k hk).1),h2.ch hc (fun k hk=>hs k (h2.lt k hk).1),h3.ch hc (fun k hk=>hs k (h3.lt k hk).1),h4⟩
theorem Lf.keep {base gn:Nat} {n:Nd} {w w':World} (h:Lf base gn n w) (hb:Below w.heap.size w w'):Lf base gn n w':=h.ch (S:=fun _=>False) (Ch.of_below hb) (fun _ _=>id) id
theorem Lf.lt {base gn:Nat} {n:Nd} {w:World} (h:Lf base gn n w):gn<w.heap.size:=by obtain ⟨_,_,_,h0,_⟩:=h.is;exact aj h0
theorem Lf.forms {base gn:Nat} {n:Nd} {w:World} (h:Lf base gn n w):∃ A1 c1 A2 c2 A3 c3,w.heap[gn]?=some (ap n (.slice A1 n.keys.length c1) (.slice A2 n.cells.length c2) (.slice A3 n.kids.length c3))∧Own sC 1 9 base w (.slice A1 n.keys.length c1) n.keys∧Own cC 3 119 base w (.slice A2 n.cells.length c2) n.cells∧Own iC 1 3 base w (.slice A3 n.kids.length c3) n.kids∧
  Dis (.slice A1 n.keys.length c1) (.slice A2 n.cells.length c2)∧Dis (.slice A1 n.keys.length c1) (.slice A3 n.kids.length c3)∧Dis (.slice A2 n.cells.length c2) (.slice A3 n.kids.length c3)∧Ne (.slice A1 n.keys.length c1) gn∧Ne (.slice A2 n.cells.length c2) gn∧Ne (.slice A3 n.kids.length c3) gn:=by
 obtain ⟨vk,vc,vd,h0,h1,h2,h3,h4⟩:=h.is;obtain ⟨A1,c1,rfl⟩:=h1.form;obtain ⟨A2,c2,rfl⟩:=h2.form;obtain ⟨A3,c3,rfl⟩:=h3.form;exact ⟨A1,c1,A2,c2,A3,c3,h0,h1,h2,h3,h4⟩
theorem NdV.of_own {w:World} {n:Nd} {base:Nat} {vk vc vd:Value} (h1:Own sC 1 9 base w vk n.keys) (h2:Own cC 3 119 base w vc n.cells) (h3:Own iC 1 3 base w vd n.kids):NdV w (.agg #[.bool n.leaf,vk,vc,vd]) n:=⟨vk,vc,vd,rfl,h1.sl aP,h2.sl bu,h3.sl aA⟩
structure Cap (base g1 g2 gs gm:Nat) (k:By) (w:World):Prop where
 k:w.heap[g1]?=some (.cells #[.string (al k)] 9 (0,0))
 p:w.heap[g2]?=some (.cells #[bV gs] 107 (0,0))
 l1:g1<base
 l2:g2<base
 n1:g1≠gs
 n2:g1≠gm
 n3:g2≠gs
 n4:g2≠gm
theorem Cap.ch {base g1 g2 gs gm:Nat} {k:By} {w w':World} {S:Nat→Prop} (h:Cap base g1 g2 gs gm k w) (hc:Ch S w w') (h1:¬ S g1) (h2:¬ S g2):Cap base g1 g2 gs gm k w':=⟨hc.keep h.k h1,hc.keep h.p h2,h.l1,h.l2,h.n1,h.n2,h.n3,h.n4⟩
theorem Cap.mono {base base' g1 g2 gs gm:Nat} {k:By} {w:World} (h:Cap base g1 g2 gs gm k w) (hb:base≤base'):Cap base' g1 g2 gs gm k w:=⟨h.k,h.p,Nat.lt_of_lt_of_le h.l1 hb,Nat.lt_of_lt_of_le h.l2 hb,h.n1,h.n2,h.n3,h.n4⟩
theorem sO {n:Nd} {k:By} (h:fO n.keys k=true) (hf:n.Fit) (hl:n.leaf=true):bB n.keys k<n.keys.length∧bB n.keys k<n.cells.length:=by have:=(eE h).1;have:=(hf.c hl).1;exact ⟨by omega,by omega⟩
theorem oT (n:Nd) (k:By):bB n.keys k≤n.keys.length:=(List.takeWhile_sublist _).length_le
theorem i7 {α:Type} {l:List α} {i:Nat} {x:α} (h:x ∈ l.eraseIdx i):x ∈ l:=(List.eraseIdx_sublist l i).mem h
theorem tm {n:Nd} {i:Nat} (h:n.Sm 230):Nd.Sm 231 { n with keys:=n.keys.eraseIdx i,cells:=n.cells.eraseIdx i }:=by have h1:=h.k;have h2:=h.c;have h3:=h.d;have e1:=(List.eraseIdx_sublist n.keys i).length_le;have e2:=(List.eraseIdx_sublist n.cells i).length_le;exact ⟨by simp only;omega,by simp only;omega,by simp only;omega,fun k hk=>h.kl k (i7 hk),fun c hc=>h.cl c (i7 hc)⟩
theorem sw {n:Nd} {i:Nat} (h:n.Fit) (hl:n.leaf=true) (hi:i<n.keys.length):Nd.Fit { n with keys:=n.keys.eraseIdx i,cells:=n.cells.eraseIdx i }:=by
 have h1:=h.c hl;refine ⟨fun _=>⟨?_,h1.2⟩,fun hh=>?_⟩
 ·simp only;rw [List.length_eraseIdx_of_lt (by omega),List.length_eraseIdx_of_lt hi];omega
 ·simp only at hh;rw [hl] at hh;cases hh
theorem rp (n:Nd) (k:By) (base g1 g2 gs gm gn:Nat) (s:Sf) (w:World) (hS:ShIs w gs gm s) (hC:Cap base g1 g2 gs gm k w) (hL:Lf base gn n w) (hg:aB n=true) (hl:n.leaf=true) (hn:n.Sm 230)
  (h1:gs<base) (h2:gm<base) (h3:base≤gn):
  Calls Tryz.prog 73 #[.pointer (some ⟨gn,0,none⟩),.pointer (some ⟨g1,0,none⟩),.pointer (some ⟨g2,0,none⟩)] w fun e w'=>DoP base gn w' e ((aQ k n).run s).2∧ShIs w' gs gm ((aQ k n).run s).1∧Ch (gK base gs gm) w w':=by
 have HS:=hid hS;have HC:=hid hC;have HL:=hid hL;have HSN:=hid hn;have HFT:=hid (cB hg);have hkk:=hn.k;have hkc:=hn.c;have hgn:=hL.lt;have HLE:=hid (oT n k);have HIL:=hid (fun (h:fO n.keys k=true)=>sO h (cB hg) hl);obtain ⟨A1,c1,A2,c2,A3,c3,e0,e1,e2,e3,d1,d2,d3,x1,x2,x3⟩:=hL.forms;have HB:=hid e0;have HO1:=hid e1;have HO2:=hid e2;have HO3:=hid e3;have HD1:=hid d1;have HD2:=hid d2;have HD3:=hid d3;have HX1:=hid x1;have HX2:=hid x2;have HX3:=hid x3;have HFI:=hid (fun (y:Up w)=>iB n k _ y.w ((NdV.of_own e1 e2 e3).keep y.h) (hn.bd (by decide)) hg);have HLF:=hid hl;have a0:=aU (ac e0 0) hgn;have a1:=aU (ac e0 1) hgn;have a2:=aU (ac e0 2) hgn;have a3:=aU (ac e0 3) hgn;have hl1:=aj hC.k;have hl2:=aj hC.p;have b1:=aU (ac hC.k 0) hl1;have b2:=aU (ac hC.p 0) hl2;clear e0 e1 e2 e3 d1 d2 d3 x1 x2 x3 hS hC hL hn hl hg;go_enter Tryz.func73,Tryz.ntmps73;go_wp2_with fail;refine aJ (by kernel_rfl) (by kernel_rfl) ?_
 repeat (go_big_quiet_step (first | (go_at_call 60;exact eg (HFI.out _))))
 refine wpQuiet_nil ?_;rintro w2 ⟨⟨_,hb⟩,rfl⟩;have HS2:=hid (HS.out.ch (S:=fun _=>False) (Ch.of_below hb) id id);have HL2:=hid (HL.out.keep hb);have HC2:=hid (HC.out.ch (S:=fun _=>False) (Ch.of_below hb) id id);have HH2:=hid (show Ch (gK base gs gm) w w2 from Ch.of_below hb);clear hb a0 a1 a2 a3 b1 b2 hl1 hl2 HFI HB HO1 HO2 HO3 HD1 HD2 HD3 HX1 HX2 HX3;have hle:=HLE.out;cases his:fO n.keys k
 ·have HV:=hid (show aQ k n=.pure none by unfold aQ;rw [his];rfl);go_wp2_with fail;go_ret2;rw [HV.out];exact ⟨⟨rfl,HL2.out.any⟩,HS2.out,HH2.out⟩
 ·obtain ⟨hlk,hlc⟩:=HIL.out his;have HV:=hid (show aQ k n=(cf (n.cells.getD (bB n.keys k) ⟨0,[],0⟩)).bind fun _=>.pure (some { n with keys:=n.keys.eraseIdx (bB n.keys k),cells:=n.cells.eraseIdx (bB n.keys k) }) by unfold aQ;rw [his];rfl);clear HIL HLE his;generalize bB n.keys k=i at *;obtain ⟨c,hcc⟩:∃ c,n.cells[i]=c:=⟨_,rfl⟩;have hcl:c.data.length≤40:=by rw [← hcc];exact HSN.out.cl _ (List.getElem_mem hlc)
  rw [List.getD_eq_getElem?_getD,List.getElem?_eq_getElem hlc,hcc,Option.getD_some] at HV;obtain ⟨A1,c1,A2,c2,A3,c3,e0,e1,e2,e3,d1,d2,d3,x1,x2,x3⟩:=HL2.out.forms;obtain ⟨gk,c1',ee,hgk,hgk'⟩:=e1.form2 (by intro e;rw [e] at hlk;simp at hlk);injection ee with y1 y2 y3
  subst y1 y3;obtain ⟨gc,c2',ee,hgc,hgc'⟩:=e2.form2 (by intro e;rw [e] at hlc;simp at hlc);injection ee with y1 y2 y3
  subst y1 y3;clear y2;obtain ⟨b,off,he,hbl,hn',f0,f1,f2⟩:=(e2.sl bu).cell3 hlc;injection he with he
  injection he with he he2
  subst he he2;rw [hcc,Nat.zero_add] at f0 f1 f2;obtain ⟨n0,n1,n2,n3,n4⟩:=aa e0;have b2:=ac HC2.out.p 0;have hl2:=aj HC2.out.p;have hi0:(0:Int)≤(i:Int):=by omega
  have hi1:(i:Int)<(n.cells.length:Int):=by omega
  clear e0 e1 e2 e3 d1 d2 d3 x1 x2 x3 hcc hn';have HCF:=hid (lG c gs gm s w2.drew (HS2.out.ch (S:=fun _=>False) (Ch.refl _ w2).drew id id) (by omega));unfold jj bV at HCF;unfold bV at b2;go_upto_if 18 with fail
  go_wp2_with fail;go_cut [8] from 19 to 29 (fun ev wc=>ev=dj ((cf c).run s).2∧ShIs wc gs gm ((cf c).run s).1∧Ch (fun k=>k=gs∨k=gm) w2 wc)
  case first=>
   go_region_law (first
    | (go_simp
       go_at_call 69;refine HCF.out.mono ?_;rintro e w5 ⟨rfl,hs,hc⟩;have HS5:=hid hs;have HH5:=hid ((Ch.refl _ w2).drew.trans hc);clear hs hc))
   all_goals
    go_wp2_with fail;go_meet
    case rel=>exact ⟨rfl,HS5.out,HH5.out⟩
  case rest=>
  obtain ⟨rfl,hs5,hh5⟩:=hcut;have HS5:=hid hs5;have HL5:=hid (HL2.out.ch hh5 (fun k hk e=>by omega) (by omega));have HH5:=hid (HH2.out.trans (hh5.mono (S':=gK base gs gm) (fun _ _ e=>e.elim .inl (fun e=>.inr (.inl e)))));clear hs5 hh5 n0 n1 n2 n3 n4 f0 f1 f2 b2 hl2 HCF;have hnz:=Pro.NZ.run (cf c) s;obtain ⟨⟨s5,a⟩,hx⟩:∃ x,(cf c).run s=x:=⟨_,rfl⟩;rw [hx] at HS5 hnz ⊢;rcases a with u | x
  case err=>
   have hx0:¬ x=0:=hnz x (gT _) rfl;have hx1:(x == 0)=false:=by simpa using hx0
   have HW:=hid (show (aQ k n).run s=(s5,.err x) by rw [HV.out];exact ak hx);simp only [dj];go_wp2_with fail;go_ret2;rw [HW.out];exact ⟨⟨rfl,HL5.out.any⟩,HS5.out,HH5.out⟩
  have HW:=hid (show (aQ k n).run s=(s5,.ok (some { n with keys:=n.keys.eraseIdx i,cells:=n.cells.eraseIdx i })) by rw [HV.out];exact af hx);simp only [dj];clear hnz hx;obtain ⟨A1,c1,A2,c2,A3,c3,e0,e1,e2,e3,d1,d2,d3,x1,x2,x3⟩:=HL5.out.forms;obtain ⟨gk,c1',ee,hgk,hgk'⟩:=e1.form2 (by intro e;rw [e] at hlk;simp at hlk);injection ee with y1 y2 y3
  subst y1 y3;obtain ⟨gc,c2',ee,hgc,hgc'⟩:=e2.form2 (by intro e;rw [e] at hlc;simp at hlc);injection ee with y1 y2 y3
  subst y1 y3;clear y2;have H0:=hid e0;have HO2:=hid e2;have HO3:=hid e3;have HD1:=hid d1;have HD2:=hid d2;have HD3:=hid d3;have hnk:gk≠gn:=x1 gk rfl;have hnc:gc≠gn:=x2 gc rfl;have HX3:=hid x3;have hkc:gk≠gc:=fun e=>d1 gk rfl (by rw [e];rfl)
  obtain ⟨n0,n1,n2,n3,n4⟩:=aa e0;have HDE:=hid (nq n.keys i base gk c1 wc e1 hlk (by omega));have hw1:IntKind.i64.wrap ((i:Int)+1)=(i:Int)+1:=by rw [IntKind.wrap_i64];omega
  clear e0 e1 e2 e3 d1 d2 d3 x1 x2 x3;go_wp2_with fail;refine HDE.out.mono ?_;rintro e w6 ⟨rfl,ho,hg⟩;have HO61:=hid ho;have H6:=hid (show w6.heap[gn]?=_ from (hg.block gn n4 (fun e=>hnk (by injection e with e;exact e.symm))).trans H0.out);have HO62:=hid (HO2.out.dis (v2:=.slice (some ⟨gk,0,none⟩) n.keys.length c1) hg HD1.out.symm);have HO63:=hid (HO3.out.dis (v2:=.slice (some ⟨gk,0,none⟩) n.keys.length c1) hg HD2.out.symm);have HG6:=hid (Ch.of_grown (S:=gK base gs gm) hg (fun k e=>by injection e with e;exact .inr (.inr (by omega))));have HS6:=hid (HS5.out.ch (S:=fun k=>base≤k) (Ch.of_grown hg (fun k e=>by injection e with e;omega)) (by omega) (by omega));have hsz6:=hg.size;clear ho hg HDE HO2 HO3 n0 n1 n2 n3 n4;obtain ⟨n0,n1,n2,n3,n4⟩:=aa H6.out;have fn:=ab H6.out;generalize hL1:n.keys.length - 1=L1 at *;have HC7:=hid ((Ch.refl (fun k=>k=gn) w6).setCell (p:=⟨gn,1,none⟩) rfl (.slice (some ⟨gk,0,none⟩) L1 c1));have H7:=hid (show (w6.setCell ⟨gn,1,none⟩ (.slice (some ⟨gk,0,none⟩) L1 c1)).heap[gn]?=some (ap n (.slice (some ⟨gk,0,none⟩) L1 c1) (.slice (some ⟨gc,0,none⟩) n.cells.length c2) (.slice A3 n.kids.length c3)) from ah H6.out 1 _);clear hL1;go_upto_region 8 with fail
  generalize w6.setCell ⟨gn,1,none⟩ (.slice (some ⟨gk,0,none⟩) L1 c1)=w7 at *;have HO71:=hid (HO61.out.ch HC7.out (fun k hk e=>by have hk:some gk=some k:=hk;injection hk with hk;omega));have HO72:=hid (HO62.out.ch HC7.out (fun k hk e=>by have hk:some gc=some k:=hk;injection hk with hk;omega));have HO73:=hid (HO63.out.ch HC7.out (fun k hk e=>HX3.out k hk e));have HS7:=hid (HS6.out.ch HC7.out (by omega) (by omega));have HH7:=hid ((HH5.out.trans HG6.out).trans (HC7.out.mono (S':=gK base gs gm) (fun k _ e=>.inr (.inr (by omega)))));clear n0 n1 n2 n3 n4 fn HO61 HO62 HO63 HS6 HG6 HC7 H6;obtain ⟨n0,n1,n2,n3,n4⟩:=aa H7.out;have HDE:=hid (ro n.cells i base gc c2 w7 HO72.out hlc (by omega));go_wp2_with fail;refine HDE.out.mono ?_;rintro e w8 ⟨rfl,ho,hg⟩;have HO82:=hid ho;have H8:=hid (show w8.heap[gn]?=_ from (hg.block gn n4 (fun e=>hnc (by injection e with e;exact e.symm))).trans H7.out);have HO81:=hid (HO71.out.dis (v2:=.slice (some ⟨gc,0,none⟩) n.cells.length c2) hg HD1.out);have HO83:=hid (HO73.out.dis (v2:=.slice (some ⟨gc,0,none⟩) n.cells.length c2) hg HD3.out.symm);have HG8:=hid (Ch.of_grown (S:=gK base gs gm) hg (fun k e=>by injection e with e;exact .inr (.inr (by omega))));have HS8:=hid (HS7.out.ch (S:=fun k=>base≤k) (Ch.of_grown hg (fun k e=>by injection e with e;omega)) (by omega) (by omega));clear ho hg HDE n0 n1 n2 n3 n4;obtain ⟨n0,n1,n2,n3,n4⟩:=aa H8.out;have fn:=ab H8.out;generalize hL2:n.cells.length - 1=L2 at *;have HC9:=hid ((Ch.refl (fun k=>k=gn) w8).setCell (p:=⟨gn,2,none⟩) rfl (.slice (some ⟨gc,0,none⟩) L2 c2));have H9:=hid (show (w8.setCell ⟨gn,2,none⟩ (.slice (some ⟨gc,0,none⟩) L2 c2)).heap[gn]?=some (ap n (.slice (some ⟨gk,0,none⟩) L1 c1) (.slice (some ⟨gc,0,none⟩) L2 c2) (.slice A3 n.kids.length c3)) from ah H8.out 2 _);clear hL2;go_wp2_with fail;go_ret2;generalize w8.setCell ⟨gn,2,none⟩ (.slice (some ⟨gc,0,none⟩) L2 c2)=w9 at *;rw [HW.out];have hc9:=HC9.out
  refine ⟨⟨rfl,⟨⟨_,_,_,H9.out,HO81.out.ch hc9 (fun k hk e=>by have hk:some gk=some k:=hk;injection hk with hk;omega),HO82.out.ch hc9 (fun k hk e=>by have hk:some gc=some k:=hk;injection hk with hk;omega),HO83.out.ch hc9 (fun k hk e=>HX3.out k hk e),HD1.out,HD2.out,HD3.out,
   fun k hk e=>by have hk:some gk=some k:=hk;injection hk with hk;omega,fun k hk e=>by have hk:some gc=some k:=hk;injection hk with hk;omega,HX3.out⟩⟩,tm HSN.out,sw HFT.out HLF.out hlk⟩,HS8.out.ch hc9 (by omega) (by omega),(HH7.out.trans HG8.out).trans (hc9.mono (S':=gK base gs gm) (fun k _ e=>.inr (.inr (by omega))))⟩
theorem sZ {n:Nd} {i:Nat} {k:By} {c:Ce} (h:n.Sm 230) (hk:k.length≤64) (hc:c.data.length≤40) (hi:i≤n.keys.length) (hi2:i≤n.cells.length):Nd.Sm 231 { n with keys:=n.keys.insertIdx i k,cells:=n.cells.insertIdx i c }:=by
 have h1:=h.k;have h2:=h.c;have h3:=h.d;refine ⟨by simp only;rw [List.length_insertIdx_of_le_length hi];omega,by simp only;rw [List.length_insertIdx_of_le_length hi2];omega,by simp only;omega,fun x hx=>?_,fun x hx=>?_⟩
 ·simp only at hx;rw [fP _ _ _ hi] at hx;rcases List.mem_append.1 hx with hx | hx
  ·exact h.kl x (List.mem_of_mem_take hx)
  ·rcases List.mem_cons.1 hx with rfl | hx
   ·exact hk
   ·exact h.kl x (List.mem_of_mem_drop hx)
 ·simp only at hx;rw [fP _ _ _ hi2] at hx;rcases List.mem_append.1 hx with hx | hx
  ·exact h.cl x (List.mem_of_mem_take hx)
  ·rcases List.mem_cons.1 hx with rfl | hx
   ·exact hc
   ·exact h.cl x (List.mem_of_mem_drop hx)
theorem rR {n:Nd} {i:Nat} {k:By} {c:Ce} (h:n.Fit) (hl:n.leaf=true) (hi:i≤n.keys.length):Nd.Fit { n with keys:=n.keys.insertIdx i k,cells:=n.cells.insertIdx i c }:=by
 have h1:=h.c hl;refine ⟨fun _=>⟨?_,h1.2⟩,fun hh=>?_⟩
 ·simp only;rw [List.length_insertIdx_of_le_length hi,List.length_insertIdx_of_le_length (by omega)];omega
 ·simp only at hh;rw [hl] at hh;cases hh
theorem sY {n:Nd} {i:Nat} {c:Ce} (h:n.Sm 230) (hc:c.data.length≤40):Nd.Sm 231 { n with cells:=n.cells.set i c }:=by
 have h1:=h.k;have h2:=h.c;have h3:=h.d;refine ⟨by simp only;omega,by simp only;rw [List.length_set];omega,by simp only;omega,h.kl,fun x hx=>?_⟩;rcases List.mem_or_eq_of_mem_set hx with hx | rfl
 ·exact h.cl x hx
 ·exact hc
theorem rN {n:Nd} {i:Nat} {c:Ce} (h:n.Fit) (hl:n.leaf=true):Nd.Fit { n with cells:=n.cells.set i c }:=by
 refine ⟨fun hh=>?_,fun hh=>?_⟩
 ·have:=h.c hl;simp only;rw [List.length_set];exact this
 ·simp only at hh;rw [hl] at hh;cases hh
theorem kB {v:By} {s s':Sf} {c:Ce} (h:(cH v).run s=(s',.ok c)):c.data.length≤40:=by
 unfold cH at h
 split at h
 ·cases h
 ·split at h
  ·rename_i hl
   injection h with _ h
   injection h with h
   rw [← h];exact hl
  ·rw [run_bind] at h
   split at h
   ·injection h with _ h
    injection h with h
    rw [← h];exact Nat.zero_le _
   ·cases h
theorem oV (v:By):∀ (j:Nat) (n:Int),(ix v j n).NZ
 | 0,_=>trivial
 | j+1,_=>fun m=>oV v j m
theorem iG (v:By):(cH v).NZ:=by
 unfold cH
 split
 ·exact show (47:Int)≠0 by decide
 ·split
  ·trivial
  ·exact Pro.NZ.bind _ _ (oV v _ _) (fun _=>trivial)
end Go.Proofs.YtknioodagnjchaaGreatDoor
