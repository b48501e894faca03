/- head: isFit, Encode of a head that is not fit. pager: Commit where the head is not fit. pager: Release. pager: Save where there are sixteen savepoints, Back and Release of a savepoint that is not there. pager: Release as it is seen from without; Save, Back, Release whole. -/
import Derived.Test.YtdmhbgpejppbkaaGreatXGaq
import Derived.Test.YtdmhbgpejppbkaaGreatXGbr
import Derived.Test.YtdmhbgpejppbkaaGreatXGbo
import Derived.Test.YtdmhbgpejppbkaaGreatXGbg
import Derived.Test.YtdmhbgpejppbkaaGreatXGbt
set_option maxRecDepth 100000
set_option maxHeartbeats 4000000
namespace Go.Proofs.YtdmhbgpejppbkaaGreat
open Go.Lib (hid)
open Go.RowKit
structure He.Fit (h:He):Prop where
 root:h.root<h.pages
 spare:h.spare<h.pages
 both:h.spare=0↔h.trunk=0
theorem jV (n p:Nat) (g:Nat) (w:World) (hp:w.cell? ⟨g,1,none⟩=some (.int .i64 p)) (hn:p≤n):
  Calls Tryz.prog 218 #[.int .i64 n,.pointer (some ⟨g,0,none⟩)] w fun e w'=>e=.returned (.bool false)∧w=w':=by
 have h0:(0:Int)≤(n:Int):=by omega
 have h1:¬ ((n:Int)<(p:Int)):=by omega
 go_enter Tryz.func218,Tryz.ntmps218;go_wp2_with fail;go_ret;exact ⟨rfl,rfl⟩
theorem so (h:He) (w:World) (g1:h.mode=1∨h.mode=2) (g2:h.pages≤4096) (g3:h.trunk<h.pages) (hn:¬ h.Fit):Calls Tryz.prog 164 #[fJ h] w fun e w'=>e=.returned (.bool false)∧Below w.heap.size w w':=by
 obtain ⟨m,p,t,s,r,c⟩:=h;simp only at *;unfold fJ lN;have hp:(p:Int)≤4096:=by omega
 go_enter Tryz.func164,Tryz.ntmps164;rcases g1 with rfl | rfl
 case inl=>
  have HW:=hid (fun (n:Nat) (hn:n<p)=>fw n p w.heap.size (w.alloc (.cells #[.int .i64 1,.int .i64 p,.int .i64 t,.int .i64 s,.int .i64 r,.int .u64 c] 38 (0,0))) (aa (af rfl) 1) hn);have HWF:=hid (fun (n:Nat) (hn:p≤n)=>jV n p w.heap.size (w.alloc (.cells #[.int .i64 1,.int .i64 p,.int .i64 t,.int .i64 s,.int .i64 r,.int .u64 c] 38 (0,0))) (aa (af rfl) 1) hn);have HT:=hid g3;have HB:=hid ((Below.refl w.heap.size w).alloc (Nat.le_refl _) (dP ⟨1,p,t,s,r,c⟩));by_cases hr:r<p
  case neg=> have HR:=hid (Nat.le_of_not_lt hr);clear g2 g3 hr hn;go_wp2_with fail;refine (HW.out t HT.out).mono ?_;rintro e w1 ⟨rfl,rfl⟩;go_wp2_with fail;refine (HWF.out r HR.out).mono ?_;rintro e w1 ⟨rfl,rfl⟩;go_wp2_with fail;go_ret;exact ⟨rfl,HB.out⟩
  case pos=>
   by_cases hs:s<p
   case neg=> have HR:=hid hr;have HS:=hid (Nat.le_of_not_lt hs);clear g2 g3 hr hs hn;go_wp2_with fail;refine (HW.out t HT.out).mono ?_;rintro e w1 ⟨rfl,rfl⟩;go_wp2_with fail;refine (HW.out r HR.out).mono ?_;rintro e w1 ⟨rfl,rfl⟩;go_wp2_with fail;refine (HWF.out s HS.out).mono ?_;rintro e w1 ⟨rfl,rfl⟩;go_wp2_with fail;go_ret;exact ⟨rfl,HB.out⟩
   case pos=>
    have hb:(((s:Int) == 0) == ((t:Int) == 0))=false:=by
     have h6:¬ (s=0↔t=0):=fun e=>hn ⟨hr,hs,e⟩
     by_cases h1:s=0 <;> by_cases h2:t=0
     ·exact (h6 ⟨fun _=>h2,fun _=>h1⟩).elim
     ·have e1:((s:Int) == 0)=true:=by simp;omega
      have e2:((t:Int) == 0)=false:=by simp;omega
      rw [e1,e2];rfl
     ·have e1:((s:Int) == 0)=false:=by simp;omega
      have e2:((t:Int) == 0)=true:=by simp;omega
      rw [e1,e2];rfl
     ·exact (h6 ⟨fun h=>(h1 h).elim,fun h=>(h2 h).elim⟩).elim
    have HR:=hid hr;have HS:=hid hs;clear g2 g3 hr hs hn;go_wp2_with fail;refine (HW.out t HT.out).mono ?_;rintro e w1 ⟨rfl,rfl⟩;go_wp2_with fail;refine (HW.out r HR.out).mono ?_;rintro e w1 ⟨rfl,rfl⟩;go_wp2_with fail;refine (HW.out s HS.out).mono ?_;rintro e w1 ⟨rfl,rfl⟩;go_wp2_with fail;go_ret;exact ⟨rfl,HB.out⟩
 case inr=>
  have HW:=hid (fun (n:Nat) (hn:n<p)=>fw n p w.heap.size (w.alloc (.cells #[.int .i64 2,.int .i64 p,.int .i64 t,.int .i64 s,.int .i64 r,.int .u64 c] 38 (0,0))) (aa (af rfl) 1) hn);have HWF:=hid (fun (n:Nat) (hn:p≤n)=>jV n p w.heap.size (w.alloc (.cells #[.int .i64 2,.int .i64 p,.int .i64 t,.int .i64 s,.int .i64 r,.int .u64 c] 38 (0,0))) (aa (af rfl) 1) hn);have HT:=hid g3;have HB:=hid ((Below.refl w.heap.size w).alloc (Nat.le_refl _) (dP ⟨2,p,t,s,r,c⟩));by_cases hr:r<p
  case neg=> have HR:=hid (Nat.le_of_not_lt hr);clear g2 g3 hr hn;go_wp2_with fail;refine (HW.out t HT.out).mono ?_;rintro e w1 ⟨rfl,rfl⟩;go_wp2_with fail;refine (HWF.out r HR.out).mono ?_;rintro e w1 ⟨rfl,rfl⟩;go_wp2_with fail;go_ret;exact ⟨rfl,HB.out⟩
  case pos=>
   by_cases hs:s<p
   case neg=> have HR:=hid hr;have HS:=hid (Nat.le_of_not_lt hs);clear g2 g3 hr hs hn;go_wp2_with fail;refine (HW.out t HT.out).mono ?_;rintro e w1 ⟨rfl,rfl⟩;go_wp2_with fail;refine (HW.out r HR.out).mono ?_;rintro e w1 ⟨rfl,rfl⟩;go_wp2_with fail;refine (HWF.out s HS.out).mono ?_;rintro e w1 ⟨rfl,rfl⟩;go_wp2_with fail;go_ret;exact ⟨rfl,HB.out⟩
   case pos=>
    have hb:(((s:Int) == 0) == ((t:Int) == 0))=false:=by
     have h6:¬ (s=0↔t=0):=fun e=>hn ⟨hr,hs,e⟩
     by_cases h1:s=0 <;> by_cases h2:t=0
     ·exact (h6 ⟨fun _=>h2,fun _=>h1⟩).elim
     ·have e1:((s:Int) == 0)=true:=by simp;omega
      have e2:((t:Int) == 0)=false:=by simp;omega
      rw [e1,e2];rfl
     ·have e1:((s:Int) == 0)=false:=by simp;omega
      have e2:((t:Int) == 0)=true:=by simp;omega
      rw [e1,e2];rfl
     ·exact (h6 ⟨fun h=>(h1 h).elim,fun h=>(h2 h).elim⟩).elim
    have HR:=hid hr;have HS:=hid hs;clear g2 g3 hr hs hn;go_wp2_with fail;refine (HW.out t HT.out).mono ?_;rintro e w1 ⟨rfl,rfl⟩;go_wp2_with fail;refine (HW.out r HR.out).mono ?_;rintro e w1 ⟨rfl,rfl⟩;go_wp2_with fail;refine (HW.out s HS.out).mono ?_;rintro e w1 ⟨rfl,rfl⟩;go_wp2_with fail;go_ret;exact ⟨rfl,HB.out⟩
theorem uK (h:He) (w:World) (g1:h.mode=1∨h.mode=2) (g2:h.pages≤4096) (g3:h.trunk<h.pages) (hn:¬ h.Fit):Calls Tryz.prog 110 #[fJ h] w fun e w'=>e=.returned (.tuple #[.string ⟨#[]⟩,.int .i64 1])∧Below w.heap.size w w':=by have HI:=hid (fun w=>so h w g1 g2 g3 hn);obtain ⟨m,p,t,s,r,c⟩:=h;clear g1 g2 g3 hn;unfold fJ lN at HI ⊢;simp only at HI ⊢;go_enter Tryz.func110,Tryz.ntmps110;go_wp2_with fail;refine (HI.out _).mono ?_;rintro e w1 ⟨rfl,hb⟩;have HB1:=hid (((Below.refl w.heap.size w).alloc (Nat.le_refl _) (dP ⟨m,p,t,s,r,c⟩)).trans (hb.mono (by simp)));clear hb;go_wp2_with fail;go_ret2;exact ⟨rfl,HB1.out⟩
theorem wV {h:He} (g1:h.mode=1∨h.mode=2) (g2:h.pages≤4096) (g3:h.trunk<h.pages) (hc:h.change<18446744073709551616) (hf:h.Fit):h.Good:=⟨g1,g2,g3,hf.spare,hf.root,hf.both,hc⟩
instance (h:He):Decidable h.Fit:=decidable_of_iff (h.root<h.pages∧h.spare<h.pages∧(h.spare=0↔h.trunk=0)) ⟨fun ⟨a,b,c⟩=>⟨a,b,c⟩,fun h=>⟨h.1,h.2,h.3⟩⟩
end Go.Proofs.YtdmhbgpejppbkaaGreat
namespace Go.Proofs.YtdmhbgpejppbkaaGreat
open Go.Lib (hid)
open Go.RowKit Go.Maps
structure Unfit (P:Pgr):Prop where
 m:P.work.mode=1∨P.work.mode=2
 p:P.work.pages≤4096
 t:P.work.trunk<P.work.pages
 n:¬ P.bump.work.Fit
 ch:P.work.change+1<18446744073709551616
theorem oA (w:World) {L:PgL} {P Q:Pgr} (h:PgIs w L P) (hx:Unfit P) (hc:UndoP P.bump Q) (hd:Q.d.down=false):
  Calls Tryz.prog 57 #[ai L.gp] w fun e w'=>e=.returned (.int .i64 50)∧PTo w L Q w':=by
 have HC:=hid (And.intro hx (And.intro hc hd));have hC:=ag h.blk;have hl:=hC.lt;have c20:=hC.c20;have z20:=hC.fz 20;have hwr:IntKind.u64.wrap ((P.work.change:Int)+1)=(P.work.change:Int)+1:=IntWalk.u64_in _ (by have:=hx.ch;omega);have hto:PTo w L P.bump (w.setCell ⟨L.gp,20,none⟩ (.int .u64 ((P.work.change:Int)+1))):=h.cell 20 (.int .u64 ((P.work.change:Int)+1)) (by
  have:=ae h.blk 20 (.int .u64 ((P.work.change:Int)+1));exact this) rfl rfl rfl rfl rfl ⟨h.ok.s1,h.ok.s2,h.ok.base,h.ok.hp,h.ok.wp,h.ok.nos⟩
 unfold ai at *;clear h hc hC hx hd;go_enter Tryz.func57,Tryz.ntmps57;go_upto_region 2 with fail
 generalize w.setCell ⟨L.gp,20,none⟩ (.int .u64 ((P.work.change:Int)+1))=w1 at *;obtain ⟨L1,g1,p1,f1,k1⟩:=hto;have HP1:=hid (And.intro p1 (And.intro g1 (And.intro f1 k1)));have hC:=ag p1.blk;have hl:=hC.lt;have c15:=hC.c15;have c16:=hC.c16;have c17:=hC.c17;have c18:=hC.c18;have c19:=hC.c19;have c20:=hC.c20;rw [g1] at hl c15 c16 c17 c18 c19 c20;have HEN:=hid (uK P.bump.work w1 HC.out.1.m HC.out.1.p HC.out.1.t HC.out.1.n);unfold fJ lN at HEN;obtain ⟨W,hW⟩:∃ W,P.bump.work=W:=⟨_,rfl⟩;have HWW:=hid hW;rw [hW] at HEN c15 c16 c17 c18 c19 c20;clear hC g1 p1 f1 k1 hW z20 hwr;go_wp2_with fail;refine HEN.out.mono ?_;rintro e w2 ⟨rfl,hb2⟩;have HB2:=hid hb2;have HFA:=hid (mV w2 (HP1.out.1.below hb2) HC.out.2.1 HC.out.2.2);rw [HP1.out.2.1] at HFA;unfold ai at HFA;clear hb2 c15 c16 c17 c18 c19 c20 hl;go_wp2_with fail;refine HFA.out.mono ?_;rintro e w3 ⟨rfl,hr⟩;have HR:=hid (show PTo w L Q w3 from PTo.and HP1.out.2.1 HP1.out.2.2.1 HP1.out.2.2.2 (PTo.pre hr HB2.out));clear hr;go_wp2_with fail;go_ret;exact ⟨rfl,HR.out⟩
theorem oD (w:World) {L:PgL} {P Q:Pgr} (h:PgIs w L P) (hu:P.Up) (hb:P.busy=true) (hwr:P.wrote=true) (hx:Unfit P) (hc:UndoP P.bump Q) (hd:Q.d.down=false):
  Calls Tryz.prog 36 #[ai L.gp] w fun e w'=>e=.returned (.int .i64 50)∧PTo w L Q w':=by
 have HCC:=hid (And.intro hwr (And.intro hx (And.intro hc hd)));clear hc hwr hx hd;have hA:Below w.heap.size w (w.alloc (.cells #[.bool true] 4)):=(Below.refl _ w).alloc (Nat.le_refl _) _;have hX:(w.alloc (.cells #[.bool true] 4)).heap[w.heap.size]?=some (.cells #[.bool true] 4 (0,0)):=af rfl;have HB:=hid (ak true w.heap.size _ (h.below hA) hu (aa hX 0) (ab hX));rw [hb,show bV (some true) true=0 from rfl] at HB;have HA:=hid hA;have HH:=hid h;have HU:=hid (And.intro hu hb);unfold ai at *;clear h hu hb hA hX;go_enter Tryz.func36,Tryz.ntmps36;go_wp2_with fail;refine HB.out.mono ?_;rintro e w1 ⟨rfl,hb1⟩;have HB1:=hid (HA.out.trans (hb1.mono HA.out.size));have HP1:=hid (HH.out.below HB1.out);have hC:=ag HP1.out.blk;have hlt:=hC.lt;have c14:=hC.c14;rw [HCC.out.1] at c14;have HCM:=hid (oA w1 HP1.out HCC.out.2.1 HCC.out.2.2.1 HCC.out.2.2.2);unfold ai at HCM;clear hb1 hC;go_wp2_with fail;refine HCM.out.mono ?_;rintro e w2 ⟨rfl,hr⟩;have HR:=hid (PTo.pre hr HB1.out);clear hr;go_wp2_with fail;go_ret;exact ⟨rfl,HR.out⟩
theorem UndoP.bump {P Q:Pgr} (h:UndoP P Q):UndoP P.bump { Q with work:=P.bump.work }:=by
 cases h with
 | none h1 h2 h3=>exact .none (P:=P.bump) h1 h2 h3
 | drop h1 h2 h3 h4=>exact .drop (P:=P.bump) h1 h2 h3 h4
 | back salt its h1 h3 h4=>exact .back (P:=P.bump) salt its h1 h3 ⟨h4.1,h4.2,h4.3,h4.4,h4.5,h4.6,h4.7,h4.8,h4.9⟩
 | log l mk h1 h2 h3 h4 h5 h6=>exact .log (P:=P.bump) l mk h1 h2 h3 h4 h5 h6
end Go.Proofs.YtdmhbgpejppbkaaGreat
namespace Go.Proofs.YtdmhbgpejppbkaaGreat
open Go.Lib (hid)
open Go.RowKit Go.Maps Go.Shelf
attribute [local go_sem] Oper.semAt_some
def Pgr.relTo (P:Pgr) (k:Nat) (K:List (Int × By)):Pgr:={ P with saves:=(P.saves.take k) ++ [⟨(P.saves.getD k gF).head,K⟩] }
section
variable {w w1 w2 w3:World} {L:PgL} {P:Pgr} {b c m k gN:Nat} {im:List (Int × By)}
theorem SvIs.rel {gs:List Nat} {l:List Sv} (h:SvIs w (.slice (some ⟨b,0,none⟩) (m+1) c) gs l) (hl:l.length=m+1) (hk:k≤m) (hg:w.heap.size≤gN) (hb:Below w.heap.size w w1) (hm:fu w1 gN im):
  SvIs (w1.setCell ⟨b,k * 7+6,none⟩ (.map (some gN))) (.slice (some ⟨b,0,none⟩) (k+1) c) (gs.take k ++ [gN]) (l.take k ++ [⟨(l.getD k gF).head,im⟩]):=by
 have hgl:=h.len;have hz:((l.map (·.head)).zip gs).length=m+1:=by rw [List.length_zip,List.length_map,hgl,Nat.min_self,hl]
 have hkl:k<l.length:=by omega
 have hd:l.getD k gF=l[k]:=by rw [List.getD_eq_getElem?_getD,List.getElem?_eq_getElem hkl,Option.getD_some]
 have hbs:b<w.heap.size:=h.lt (.inl rfl);have hc:Ch (fun j=>j=b) w1 (w1.setCell ⟨b,k * 7+6,none⟩ (.map (some gN))):=(Ch.refl (fun j=>j=b) w1).setCell (p:=⟨b,k * 7+6,none⟩) rfl _;have hsz:=hb.size;have hgi:∀ j ∈ gs,j<w.heap.size:=fun j hj=>h.lt (.inr hj)
 have hlt:(gs.take k).length=k:=by rw [List.length_take];omega
 have hlt2:(l.take k).length=k:=by rw [List.length_take];omega
 refine ⟨?_,by simp [hlt,hlt2],fun p hp=>?_,?_,fun j hj e=>?_⟩
 ·have h1:=(h.row.below hb).take' cL (i:=k+1) (by omega);have hl1:(((l.map (·.head)).zip gs).take (k+1)).length=k+1:=by rw [List.length_take];omega
  unfold Own at h1;rw [hl1] at h1;have h2:=World.ownsRow.stored h1 (k * 7+6) (.map (some gN));rw [nF _ (by omega)] at h2;have e:((l.take k ++ [(⟨(l.getD k gF).head,im⟩:Sv)]).map (·.head)).zip (gs.take k ++ [gN])=((l.map (·.head)).zip gs).take k ++ [(((l.map (·.head)).zip gs)[k].1,gN)]:=by rw [List.map_append,List.zip_append (by rw [List.length_map,hlt,hlt2]),List.map_take,hd,eN];congr 1;simp
  rw [e];have e2:k+1=(((l.map (·.head)).zip gs).take k ++ [(((l.map (·.head)).zip gs)[k].1,gN)]).length:=by rw [List.length_append,List.length_take];simp only [List.length_cons,List.length_nil];omega
  have h3:=h2.1;unfold Own;rw [← e2];exact h3
 ·rw [List.zip_append (by rw [hlt,hlt2])] at hp;rcases List.mem_append.1 hp with hp | hp
  ·rw [eN] at hp;have hp:=List.mem_of_mem_take hp;have h1:=h.im p hp;exact (h1.ch (S:=fun _=>False) (Ch.of_below hb) id).ch hc fun e=>h.ne _ (List.of_mem_zip hp).1 (by rw [e];rfl)
  ·simp only [List.zip_cons_cons,List.zip_nil_right,List.mem_singleton] at hp;rw [hp];exact hm.ch hc fun e=>by omega
 ·rw [List.nodup_append];exact ⟨h.nd.sublist (List.take_sublist _ _),by simp,fun x hx y hy e=>by rw [List.mem_singleton.1 hy] at e;have:=hgi x (List.mem_of_mem_take hx);omega⟩
 ·have e:b=j:=by injection e
  rcases List.mem_append.1 hj with hj | hj
  ·exact h.ne j (List.mem_of_mem_take hj) (by rw [← e];rfl)
  ·rw [List.mem_singleton.1 hj] at e;omega
theorem PgIs.relSv (h:PgIs w L P) (hb:Below w.heap.size w w1) (hv:L.vs=.slice (some ⟨b,0,none⟩) (m+1) c) (hl:P.saves.length=m+1) (hk:k≤m) (hm:fu w1 w.heap.size im)
  (h2:w2=w1.setCell ⟨b,k * 7+6,none⟩ (.map (some w.heap.size))) (h3:w3=w2.setCell ⟨L.gp,21,none⟩ (.slice (some ⟨b,0,none⟩) (k+1) c)):∃ L',L'.gp=L.gp∧PgIs w3 L' (P.relTo k im)∧(∀ j,L'.F j→L.F j∨j=w.heap.size)∧Ch L.F w w3:=by
 have hA:=h.apart;have hsv:=h.sv;rw [hv] at hsv;have hsv2:=hsv.rel hl hk (Nat.le_refl _) hb hm;rw [← h2] at hsv2;have hbF:kk L.vs L.gs b:=.inl (by rw [hv];rfl);have hc2:Ch (fun j=>j=b) w w2:=by rw [h2];exact (Ch.of_below hb).trans ((Ch.refl (fun j=>j=b) w1).setCell (p:=⟨b,k * 7+6,none⟩) rfl _)
 have hF0:∀ j,kk (.slice (some ⟨b,0,none⟩) (k+1) c) (L.gs.take k ++ [w.heap.size]) j→kk L.vs L.gs j∨j=w.heap.size:=fun j hj=>by
  rcases hj with hj | hj
  ·exact .inl (.inl (by rw [hv];exact hj))
  ·rcases List.mem_append.1 hj with hj | hj
   ·exact .inl (.inr (List.mem_of_mem_take hj))
   ·rw [List.mem_singleton.1 hj];exact .inr rfl
 have a1:=h.sep.upd (l1:=[Ob.blk L.gp (bX L P),gZ L.D P.d,hO L.Fc L.vc P.size P.ca,gY L.D.gd L.N P.notes]) (a:=gy L.vs L.gs P.saves) (b:=gy (.slice (some ⟨b,0,none⟩) (k+1) c) (L.gs.take k ++ [w.heap.size]) (P.relTo k im).saves) hc2 (fun j e=>e ▸ hbF) hsv2 (fun j hj=>(hF0 j hj).imp id fun e=>by rw [e];exact Nat.le_refl _);have hb2:w2.heap[L.gp]?=some (bX L P):=hc2.keep h.blk fun e=>hA.ps (e ▸ hbF)
 have hc3:Ch (fun j=>j=L.gp) w2 w3:=by rw [h3];exact (Ch.refl (fun j=>j=L.gp) w2).setCell (p:=⟨L.gp,21,none⟩) rfl _
 have hbk:w3.heap[L.gp]?=some (bX { L with vs:=.slice (some ⟨b,0,none⟩) (k+1) c,gs:=L.gs.take k ++ [w.heap.size] } (P.relTo k im)):=by rw [h3];exact ae hb2 21 (.slice (some ⟨b,0,none⟩) (k+1) c)
 have a3:=a1.upd (l1:=[]) (b:=Ob.blk L.gp (bX { L with vs:=.slice (some ⟨b,0,none⟩) (k+1) c,gs:=L.gs.take k ++ [w.heap.size] } (P.relTo k im))) hc3 (fun j hj=>hj) hbk (fun j hj=>.inl hj);refine ⟨{ L with vs:=.slice (some ⟨b,0,none⟩) (k+1) c,gs:=L.gs.take k ++ [w.heap.size] },rfl,⟨a3,⟨h.ok.s1,h.ok.s2,h.ok.base,h.ok.hp,h.ok.wp,?_⟩,h.gd⟩,fun j hj=>?_,(hc2.mono fun j _ e=>.inr (.inr (.inr (.inr (.inl (e ▸ hbF)))))).trans (hc3.mono fun j _ e=>.inl e)⟩
 ·show (P.saves.take k ++ [_]).length≤16;have:=h.ok.nos;rw [List.length_append,List.length_take];simp only [List.length_cons,List.length_nil];omega
 ·rcases hj with hj | hj | hj | hj | hj | hj
  ·exact .inl (.inl hj)
  ·exact .inl (.inr (.inl hj))
  ·exact .inl (.inr (.inr (.inl hj)))
  ·exact .inl (.inr (.inr (.inr (.inl hj))))
  ·exact (hF0 j hj).imp (fun e=>.inr (.inr (.inr (.inr (.inl e))))) id
  ·exact .inl (.inr (.inr (.inr (.inr (.inr hj)))))
theorem PgIs.relSv0 (h:PgIs w L P) (hv:L.vs=.slice (some ⟨b,0,none⟩) (m+1) c) (h3:w3=w.setCell ⟨L.gp,21,none⟩ (.slice (some ⟨b,0,none⟩) 0 c)):PTo w L { P with saves:=[] } w3:=by
 have hsv:=h.sv;rw [hv] at hsv;have hsv2:SvIs w (.slice (some ⟨b,0,none⟩) 0 c) [] []:=⟨hsv.row.take' cL (i:=0) (Nat.zero_le _),rfl,fun _ h=>absurd h List.not_mem_nil,List.nodup_nil,fun _ h=>absurd h List.not_mem_nil⟩
 have hF0:∀ j,kk (.slice (some ⟨b,0,none⟩) 0 c) [] j→kk L.vs L.gs j:=fun j hj=>by
  rcases hj with hj | hj
  ·exact .inl (by rw [hv];exact hj)
  ·exact absurd hj List.not_mem_nil
 have a1:=h.sep.as (l1:=[Ob.blk L.gp (bX L P),gZ L.D P.d,hO L.Fc L.vc P.size P.ca,gY L.D.gd L.N P.notes]) (a:=gy L.vs L.gs P.saves) (b:=gy (.slice (some ⟨b,0,none⟩) 0 c) [] []) hsv2 hF0;have hc3:Ch (fun j=>j=L.gp) w w3:=by rw [h3];exact (Ch.refl (fun j=>j=L.gp) w).setCell (p:=⟨L.gp,21,none⟩) rfl _
 have hbk:w3.heap[L.gp]?=some (bX { L with vs:=.slice (some ⟨b,0,none⟩) 0 c,gs:=[] } { P with saves:=[] }):=by rw [h3];exact ae h.blk 21 (.slice (some ⟨b,0,none⟩) 0 c)
 have a3:=a1.upd (l1:=[]) (b:=Ob.blk L.gp (bX { L with vs:=.slice (some ⟨b,0,none⟩) 0 c,gs:=[] } { P with saves:=[] })) hc3 (fun j hj=>hj) hbk (fun j hj=>.inl hj);refine ⟨{ L with vs:=.slice (some ⟨b,0,none⟩) 0 c,gs:=[] },rfl,⟨a3,⟨h.ok.s1,h.ok.s2,h.ok.base,h.ok.hp,h.ok.wp,Nat.zero_le _⟩,h.gd⟩,fun j hj=>?_,hc3.mono fun j _ e=>.inl e⟩;rcases hj with hj | hj | hj | hj | hj | hj
 ·exact .inl (.inl hj)
 ·exact .inl (.inr (.inl hj))
 ·exact .inl (.inr (.inr (.inl hj)))
 ·exact .inl (.inr (.inr (.inr (.inl hj))))
 ·exact .inl (.inr (.inr (.inr (.inr (.inl (hF0 j hj))))))
 ·exact .inl (.inr (.inr (.inr (.inr (.inr hj)))))
end
structure CanRel (P:Pgr) (k:Nat):Prop where
 lt:k+1<P.saves.length
 im:∀ s ∈ P.saves,s.im.length≤10000
theorem mz (k:Nat) (w:World) {L:PgL} {P:Pgr} (h:PgIs w L P) (hu:P.Up) (hb:P.busy=true) (hcb:CanRel P k):
  Calls Tryz.prog 50 #[ai L.gp,.int .i64 ((k:Int)+2)] w fun e w'=>e=.returned (.int .i64 0)∧∃ K,Mrg (P.saves.drop k).reverse K∧PTo w L (P.relTo k K) w':=by
 have HK:=hid hcb.lt;have HCB:=hid hcb;have hmm:=@run_makeMap Tryz.prog;clear hcb;have hA:Below w.heap.size w (w.alloc (.cells #[.bool true] 4)):=(Below.refl _ w).alloc (Nat.le_refl _) _;have hX:(w.alloc (.cells #[.bool true] 4)).heap[w.heap.size]?=some (.cells #[.bool true] 4 (0,0)):=af rfl;have HB:=hid (ak true w.heap.size _ (h.below hA) hu (aa hX 0) (ab hX));rw [hb,show bV (some true) true=0 from rfl] at HB;have HA:=hid hA;have HH:=hid h;have HU:=hid (And.intro hu hb);unfold ai at *;clear h hu hb hA hX;refine (callsIn_wide (n:=7)).1 (callsIn_of_wp_marks Tryz.func50 rfl trivial ?_ rfl);simp only [Tryz.ntmps50,List.size_toArray,List.length_cons,List.length_nil,Nat.reduceAdd,Nat.reduceSub,Array.replicate_succ,Array.replicate_zero,List.push_toArray,List.append_toArray,List.nil_append,List.cons_append];refine wpIn_wide.2 ?_;go_wp2_with fail;refine HB.out.mono ?_;rintro e w1 ⟨rfl,hb1⟩;have HB1:=hid (HA.out.trans (hb1.mono HA.out.size));have HP1:=hid (HH.out.below HB1.out);have hC:=ag HP1.out.blk;have hlt:=hC.lt;obtain ⟨m,hm⟩:∃ m,P.saves.length=m+1:=⟨P.saves.length - 1,by have:=HK.out;omega⟩;obtain ⟨b,c,hv,hcc,hbl⟩:=HP1.out.sv.base hm;have c21:=hC.c21;rw [hv] at c21;have hc1:((m:Int)+1)≤(c:Int):=by omega
 have hc2:(k:Int)≤(c:Int):=by have:=HK.out;omega
 have hkm:=HK.out;have hnos:=HP1.out.ok.nos;rw [hm] at hkm hnos;have hk0:(0:Int)≤(k:Int):=by omega
 have hk1:(1:Int)≤(k:Int)+2:=by omega
 have hk2:(k:Int)+2≤(m:Int)+1:=by omega
 have hk7:(1:Int)<(k:Int)+2:=by omega
 have hk3:(k:Int)≤(m:Int)+1:=by omega
 have hk4:(k:Int)<(m:Int)+1:=by omega
 have hwk:IntKind.i64.wrap (k:Int)=(k:Int):=by rw [IntKind.wrap_i64];omega
 have hwk1:IntKind.i64.wrap ((k:Int)+2 - 2)=(k:Int):=by rw [IntKind.wrap_i64];omega
 have hk5:¬ m<k:=by omega
 have hk6:k≤m:=by omega
 have hkd:decide ((k:Int)+2<1)=false:=decide_eq_false (by omega);have hkd2:decide ((m:Int)+1<(k:Int)+2)=false:=decide_eq_false (by omega);have hwk2:IntKind.i64.wrap ((k:Int)+2 - 1)=(k:Int)+1:=by rw [IntKind.wrap_i64];omega
 have HM:=hid (And.intro hm hv);clear hb1 hC hv hm;go_wp2_with fail;refine (tF _ _ ⟨_,_,_,rfl⟩).mono ?_;rintro e w2 ⟨rfl,rfl⟩;go_wp2_with fail;have hz0:((P.saves.map (·.head)).zip L.gs).length=P.saves.length:=by rw [List.length_zip,List.length_map,HP1.out.sv.len,Nat.min_self]
 obtain ⟨zs,hzs⟩:∃ zs,zs=((P.saves.map (·.head)).zip L.gs).drop k:=⟨_,rfl⟩;have hzl:zs.length=m+1 - k:=by rw [hzs,List.length_drop,hz0,HM.out.1]
 have HBB:=hid (show Below w1.heap.size w1 (((w1.alloc (.map #[] 0)).alloc (po w1.heap.size)).alloc (qZ b (k * 7) (m+1 - k) (c - k))) from (((Below.refl _ w1).alloc (Nat.le_refl _) _).alloc (by simp) _).alloc (by simp;omega) _);have hsB:(((w1.alloc (.map #[] 0)).alloc (po w1.heap.size)).alloc (qZ b (k * 7) (m+1 - k) (c - k))).heap.size=w1.heap.size+3:=by simp
 have hm0:fu (((w1.alloc (.map #[] 0)).alloc (po w1.heap.size)).alloc (qZ b (k * 7) (m+1 - k) (c - k))) w1.heap.size []:=((MpIs.made w1).ch (S:=fun _=>False) (Ch.alloc (Ch.refl _ _) _) id).ch (S:=fun _=>False) (Ch.alloc (Ch.refl _ _) _) id;have hi0:(((w1.alloc (.map #[] 0)).alloc (po w1.heap.size)).alloc (qZ b (k * 7) (m+1 - k) (c - k))).heap[w1.heap.size+1]?=some (po w1.heap.size):=ar (af (by simp)) _;have hx0:(((w1.alloc (.map #[] 0)).alloc (po w1.heap.size)).alloc (qZ b (k * 7) (m+1 - k) (c - k))).heap[w1.heap.size+2]?=some (qZ b (k * 7) (m+1 - k) (c - k)):=af (by simp);change Code.wp _ _ _ _ (((w1.alloc (.map #[] 0)).alloc (po w1.heap.size)).alloc (qZ b (k * 7) (m+1 - k) (c - k)));generalize ((w1.alloc (.map #[] 0)).alloc (po w1.heap.size)).alloc (qZ b (k * 7) (m+1 - k) (c - k))=wB at *;have hmk:m+1 - k≤16:=by omega
 have hsvs:=HP1.out.sv;rw [HM.out.2] at hsvs
 have HS:=hid (show SeqStopsK Fence.wide 5 Tryz.prog 143 #[.pointer (some ⟨w1.heap.size+2,0,none⟩)] (AJ zs) (BwK w1.heap.size (w1.heap.size+2)) (fun ys=>ys=mK zs.length zs.length (Nat.le_refl _)) (fun _=>True) zs.length wB from
  nX Fence.wide 5 trivial rfl (by omega) (w1.heap.size+2) w1.heap.size b (k * 7) (c - k) zs (by omega) wB hbl (by omega) (by rw [hzl];exact hx0) (fun i hi j u hu=>by
   have hi2:k+i<((P.saves.map (·.head)).zip L.gs).length:=by rw [hz0,HM.out.1];omega
   have e1:zs[i]=((P.saves.map (·.head)).zip L.gs)[k+i]:=by subst hzs;exact List.getElem_drop
   rw [e1] at hu;have h1:=hsvs.row7 hi2 j u hu;rw [show k * 7+i * 7+j=(k+i) * 7+j by omega];exact (HBB.out.cell (p:=⟨b,(k+i) * 7+j,none⟩) hbl).trans h1))
 have HZ:=hid (show ∀ x:Fin zs.length,∃ hx:k+x.1<P.saves.length,(P.saves.getD (k+x.1) gF)=P.saves[k+x.1]∧L.gs[k+x.1]?=some (zs[x.1]'x.2).2∧(zs[x.1]'x.2).1=P.saves[k+x.1].head from fun x=>by
  have hx:k+x.1<P.saves.length:=by have:=x.2;rw [HM.out.1];omega
  have hg:k+x.1<L.gs.length:=by rw [HP1.out.sv.len];exact hx
  have e1:zs[x.1]'x.2=((P.saves.map (·.head)).zip L.gs)[k+x.1]'(by rw [hz0];exact hx):=by subst hzs;exact List.getElem_drop
  refine ⟨hx,by rw [List.getD_eq_getElem?_getD,List.getElem?_eq_getElem hx,Option.getD_some],?_,?_⟩
  ·rw [e1,List.getElem_zip,List.getElem?_eq_getElem hg]
  ·rw [e1,List.getElem_zip,List.getElem_map])
 have HZL:=hid (And.intro hzl hz0);have HWB:=hid (And.intro hsB (And.intro hm0 (And.intro hi0 hx0)));clear hzs hzl hz0 hsB hm0 hi0 hx0 hsvs hmm;obtain ⟨act,hact⟩:∃ act:Fin zs.length→Nat→Act,act=(fun (x:Fin zs.length) (gs:Nat)=>({ tmps:=#[.pointer (some ⟨L.gp,0,none⟩),.int .i64 ((k:Int)+2),undef,undef,.int .i64 0,.int .i64 0,.pointer (some ⟨w1.heap.size+1,0,none⟩),undef,.pointer (some ⟨gs,0,none⟩),.pointer (some ⟨L.gp,0,none⟩),.slice (some ⟨w.heap.size,0,none⟩) 1 1,.int .i64 0,.bool false,.int .i64 0,.bool false,undef,.bool false,.int .i64 ((k:Int)+2),.bool false,.bool false,.int .i64 ((k:Int)+2),.pointer (some ⟨L.gp,0,none⟩),.pointer (some ⟨L.gp,0,none⟩),.pointer (some ⟨L.gp,21,none⟩),.slice (some ⟨b,0,none⟩) (m+1) c,.int .i64 ((m:Int)+1),.bool false,.bool false,.int .i64 ((k:Int)+2),.bool true,.map (some w1.heap.size),.pointer (some ⟨L.gp,0,none⟩),.pointer (some ⟨L.gp,0,none⟩),.pointer (some ⟨L.gp,21,none⟩),.slice (some ⟨b,0,none⟩) (m+1) c,.int .i64 ((k:Int)+2),.int .i64 (k:Int),.slice (some ⟨b,k * 7,none⟩) (m+1 - k) (c - k),.func (.func 143) #[] #[.pointer (some ⟨w1.heap.size+1+1,0,none⟩)],.int .i64 (x.1:Int),sV (zs[x.1]'x.2),undef,undef,undef,undef,undef,undef,undef,undef,undef,undef,undef,undef,undef,undef,undef,undef,undef,undef,undef,undef,undef,undef,undef],defers:=[] }:Act)):=⟨_,rfl⟩;have HACT:=hid hact;clear hact;refine (wpIn_wide (n:=6)).1 ?_
 refine wpIn_rangeFunc_ownH rfl (by omega) (gf:=143) (lb:=#[.pointer (some ⟨w1.heap.size+2,0,none⟩)]) rfl trivial (enters_of Tryz.func143 (by kernel_rfl) rfl)
  HS.out BwK.trans (BwK.put (by have:=HWB.out.1;omega)) (Below.refl _ _) (fun _=>rfl)
  (BkI P w1 k zs.length) (fun _ _ _=>False) (BkI.own (by have:=HWB.out.1;omega)) (fun _ _ _ _ _ hs _ _=>hs) ⟨⟨[],Mrg.nil,Nat.zero_le _,HWB.out.2.1⟩,HWB.out.2.2.1,HBB.out,by rw [HWB.out.1];exact Nat.le_refl _⟩
  (fun x a' W=>∃ gs,a'=act x gs∧wB.heap.size≤gs∧W.heap[gs]?=some (pD (zs[x.1]'x.2))) ?ax ?assign ?body ?done ?stop
 case assign=>
  intro l pre x W K hI hK;unfold AJ sV;have hWs:wB.heap.size≤W.heap.size:=by have:=hI.2.2.2;have:=HWB.out.1;omega
  have HAL:=hid (show Below W.heap.size W (W.alloc (pD (zs[x.1]'x.2))) from (Below.refl _ W).alloc (Nat.le_refl _) _);have HNW:=hid (show (W.alloc (pD (zs[x.1]'x.2))).heap[W.heap.size]?=some (pD (zs[x.1]'x.2)) from af rfl);have HIW:=hid hI;clear hI;gi_wp2;obtain ⟨gs,hgs⟩:∃ gs,gs=W.heap.size:=⟨_,rfl⟩;rw [← hgs] at HNW;rw [← hgs];obtain ⟨⟨K',h1,h2,h3⟩,h4,h5,h6⟩:=HIW.out;have hbw:w1.heap.size≤W.heap.size:=h5.size;have hc:Ch (fun _=>False) W (W.alloc (pD (zs[x.1]'x.2))):=Ch.of_below HAL.out;refine hK _ _ (KeepsFrom.of_grownBy (row:=none) (World.grownBy_alloc W _ none) (fun j e=>by cases e)) ⟨HAL.out.mono hbw,fun c t e=>hc.keep e id⟩ ⟨⟨K',h1,h2,h3.ch hc id⟩,hc.keep h4 id,h5.trans (HAL.out.mono hbw),Nat.le_trans h6 hc.size⟩ ⟨gs,by rw [HACT.out];rfl,?_,HNW.out⟩;rw [hgs];exact hWs
 case ax=>
  intro x a' u W W' row h hg hr;obtain ⟨gs,e,h1,h2⟩:=h
  exact ⟨gs,e,h1,(Ch.of_grown (S:=fun j=>row=some j) hg fun j hj=>hj).keep h2 fun e2=>by
   obtain ⟨-,o,ho,hc⟩:=hr gs e2;rw [h2] at ho;injection ho with ho
   rw [← ho] at hc;cases hc⟩
 case body=>
  intro l pre x a' W hl hr hI hA hlen;obtain ⟨gs,rfl,hgs,hsb⟩:=hA;rw [HACT.out];unfold sV;dsimp only;obtain ⟨⟨K,h1,h2,h3⟩,h4,h5,h6⟩:=hI;obtain ⟨hx,hgd,hgx,-⟩:=HZ.out x
  have him:=(HP1.out.below h5).sv.im (L.gs[k+x.1]'(by rw [HP1.out.sv.len];exact hx),P.saves[k+x.1]) (by
   rw [← List.getElem_zip (h:=by rw [List.length_zip,HP1.out.sv.len,Nat.min_self];exact hx)];exact List.getElem_mem _)
  have hgx2:L.gs[k+x.1]'(by rw [HP1.out.sv.len];exact hx)=(zs[x.1]'x.2).2:=by rw [List.getElem?_eq_getElem (by rw [HP1.out.sv.len];exact hx)] at hgx;injection hgx
  simp only at him;rw [hgx2] at him;have hgo:(zs[x.1]'x.2).2<w1.heap.size:=by rw [← hgx2];exact HP1.out.sv.lt (.inr (List.getElem_mem _))
  have hlim:=HCB.out.im _ (List.getElem_mem hx);have hpl:pre.length≤16:=by have:=HZL.out.1;omega
  have HCP:=hid (nT w1.heap.size (zs[x.1]'x.2).2 W h3 him (by omega) (by omega));have d0:W.cell? ⟨w1.heap.size+1,0,none⟩=some (.map (some w1.heap.size)):=aa h4 0;have dl:=ab h4;have d6:W.cell? ⟨gs,6,none⟩=some (.map (some (zs[x.1]'x.2).2)):=aa hsb 6;have dl6:=ab hsb;have HI:=hid (And.intro h1 (And.intro h2 (And.intro h4 (And.intro h5 (And.intro hgd (And.intro hlim (And.intro dl h6)))))));clear h1 h2 h3 h4 h5 h6 hgx him hgx2 hgo hlim hpl hsb hgd hl hr hlen;gi_wp2_with (refine ⟨trivial,?_⟩;gi_at_call 96;refine (CallsIn.inRound l (callsIn_wide.2 HCP.out)).mono ?_;rintro e W2 ⟨rfl,K3,hp,him2,hgr⟩);obtain ⟨h1,h2,h4,h5,hgd,hlim,dl,h6⟩:=HI.out;have hc:Ch (fun j=>j=w1.heap.size) W W2:=Ch.of_grown hgr fun j hj=>by injection hj with hj;exact hj.symm
  have hb:Below w1.heap.size W W2:=(Below.refl w1.heap.size W).grown hgr h5.size fun j hj=>by injection hj with hj;omega
  refine ⟨KeepsFrom.of_grownBy hgr (fun j hj=>by injection hj with hj;have:=HWB.out.1;omega),⟨hb,fun c t e=>hc.keep e (by omega)⟩,⟨dS K K3,?_,?_,him2⟩,hc.keep h4 (by omega),h5.trans hb,Nat.le_trans h6 hc.size⟩
  ·rw [List.map_append,List.map_cons,List.map_nil];exact Mrg.snoc h1 (by rw [hgd];exact hp)
  ·have:=lj K K3;have:=hp.length_eq;rw [List.length_append];simp only [List.length_cons,List.length_nil];omega
 case stop=> rintro D c pre W _ _ h _;exact h.elim
 case done=>
  intro D ys W hDw hys hI hD;subst hys;obtain ⟨⟨K,h1,h2,h3⟩,h4,h5,h6⟩:=hI;have hzd:zs.length=(P.saves.drop k).length:=by rw [List.length_drop,HM.out.1];exact HZL.out.1
  have hM:=h1.of_pre hzd;rw [je] at h2;have HI:=hid (And.intro hM (And.intro h2 (And.intro h3 (And.intro h4 (And.intro h5 (And.intro hD h6))))));have HPW:=hid (HP1.out.below h5);clear h1 h2 h3 h4 h5 h6 hD hM hzd;have hC:=ag HPW.out.blk;have v21:=hC.c21;have vl:=hC.lt;have z21:=hC.fz 21;rw [HM.out.2] at v21;have hsvW:=HPW.out.sv;rw [HM.out.2] at hsvW;have hzW:k<((P.saves.map (·.head)).zip L.gs).length:=by rw [HZL.out.2,HM.out.1];omega
  obtain ⟨u6,e6⟩:∃ u,W.cell? ⟨b,k * 7+6,none⟩=some u:=⟨_,hsvW.row7 hzW 6 _ rfl⟩;have bl:b<W.heap.size:=hsvW.lt (.inl rfl);have hbz:W.frozen? ⟨b,k * 7+6,none⟩=false:=hsvW.row.frozen7 _;have hgb:b≠L.gp:=fun e=>HPW.out.apart.ps (.inl (by rw [HM.out.2,← e];rfl))
  have d0:W.cell? ⟨w1.heap.size+1,0,none⟩=some (.map (some w1.heap.size)):=aa HI.out.2.2.2.1 0;have dl:=ab HI.out.2.2.2.1;have hc4:Ch (fun j=>j=b) W (W.setCell ⟨b,k * 7+6,none⟩ (.map (some w1.heap.size))):=(Ch.refl (fun j=>j=b) W).setCell (p:=⟨b,k * 7+6,none⟩) rfl _;have y21:=hc4.cell v21 hgb.symm;have yl:L.gp<(W.setCell ⟨b,k * 7+6,none⟩ (.map (some w1.heap.size))).heap.size:=Nat.lt_of_lt_of_le vl hc4.size;have yz:(W.setCell ⟨b,k * 7+6,none⟩ (.map (some w1.heap.size))).frozen? ⟨L.gp,21,none⟩=false:=by rw [World.frozen?_of_block (a:=⟨L.gp,21,none⟩) (hc4.block L.gp vl hgb.symm)];exact z21
  have HBK:=hid (show ∀ w3,w3=(W.setCell ⟨b,k * 7+6,none⟩ (.map (some w1.heap.size))).setCell ⟨L.gp,21,none⟩ (.slice (some ⟨b,0,none⟩) (k+1) c)→∃ L',L'.gp=L.gp∧PgIs w3 L' (P.relTo k K)∧(∀ j,L'.F j→L.F j∨j=w1.heap.size)∧Ch L.F w1 w3 from fun w3 h3=>HP1.out.relSv HI.out.2.2.2.2.1 HM.out.2 HM.out.1 hk6 HI.out.2.2.1 rfl h3);have hc5:((k:Int)+1)≤(c:Int):=by omega
  have HC4:=hid hc4;clear hC hsvW hzW hgb hc4;go_upto_region 11 with fail
  go_region;generalize W.setCell ⟨b,k * 7+6,none⟩ (.map (some w1.heap.size))=W2 at *;clear d0 dl v21 vl z21 e6 bl hbz;go_wp2_with fail;obtain ⟨L3,g3,p3,f3,c3⟩:=HBK.out _ rfl;obtain ⟨hM,hKl,him,hgi,hB5,hD,hW3⟩:=HI.out;have hLl:∀ j,L.F j→j<w1.heap.size:=fun j hj=>HP1.out.lt hj
  have hDl:D<W.heap.size:=aO hD;have hD2:=HC4.out.keep hD fun e=>by have:=HP1.out.sv.lt (k:=b) (.inl (by rw [HM.out.2];rfl));have:=HWB.out.1;omega
  have hD3:=((Ch.refl (fun j=>j=L.gp) W2).setCell (p:=⟨L.gp,21,none⟩) rfl (.slice (some ⟨b,0,none⟩) (k+1) c)).keep hD2 fun e=>by have:=hLl L.gp (.inl rfl);have:=HWB.out.1;omega
  refine ⟨by simp,.inl ⟨_,_,rfl,run_takeDeferred hD3,?_⟩⟩;refine ⟨_,results_tmp rfl _ _ _,rfl,K,hM,?_⟩;have hs1:=HB1.out.size;refine PTo.putD g3 (p3.below (Below.refl _ _).drew) (fun i hi=>?_) (((Ch.of_below HB1.out).trans c3).drew) (fun e=>?_) (by have:=HWB.out.1;omega)
  ·rcases f3 i hi with e | e
   ·exact .inl e
   ·right;omega
  ·have:=HWB.out.1;rcases f3 D e with e | e
   ·have:=hLl D e;omega
   ·omega
theorem mD (w:World) {L:PgL} {P:Pgr} (h:PgIs w L P) (hu:P.Up) (hb:P.busy=true) (hl:P.saves≠[]):
  Calls Tryz.prog 50 #[ai L.gp,.int .i64 1] w fun e w'=>e=.returned (.int .i64 0)∧PTo w L { P with saves:=[] } w':=by
 have HK:=hid hl;clear hl;have hA:Below w.heap.size w (w.alloc (.cells #[.bool true] 4)):=(Below.refl _ w).alloc (Nat.le_refl _) _;have hX:(w.alloc (.cells #[.bool true] 4)).heap[w.heap.size]?=some (.cells #[.bool true] 4 (0,0)):=af rfl;have HB:=hid (ak true w.heap.size _ (h.below hA) hu (aa hX 0) (ab hX));rw [hb,show bV (some true) true=0 from rfl] at HB;have HA:=hid hA;have HH:=hid h;have HU:=hid (And.intro hu hb);unfold ai at *;clear h hu hb hA hX;go_enter Tryz.func50,Tryz.ntmps50;go_wp2_with fail;refine HB.out.mono ?_;rintro e w1 ⟨rfl,hb1⟩;have HB1:=hid (HA.out.trans (hb1.mono HA.out.size));have HP1:=hid (HH.out.below HB1.out);have hC:=ag HP1.out.blk;have hlt:=hC.lt;obtain ⟨m,hm⟩:∃ m,P.saves.length=m+1:=⟨P.saves.length - 1,by have:=List.length_pos_iff.2 HK.out;omega⟩;obtain ⟨b,c,hv,hcc,hbl⟩:=HP1.out.sv.base hm;have c21:=hC.c21;rw [hv] at c21;have z21:=hC.fz 21;have hc1:((m:Int)+1)≤(c:Int):=by omega
 have hc0:(0:Int)≤(c:Int):=by omega
 have hm1:¬ ((m:Int)+1<1):=by omega
 have HM:=hid (show ∀ w3,w3=w1.setCell ⟨L.gp,21,none⟩ (.slice (some ⟨b,0,none⟩) 0 c)→PTo w1 L { P with saves:=[] } w3 from fun w3 h3=>HP1.out.relSv0 hv h3);clear hb1 hC hv hm;go_wp2_with fail;go_ret;exact ⟨rfl,PTo.pre (HM.out _ rfl) HB1.out⟩
end Go.Proofs.YtdmhbgpejppbkaaGreat
namespace Go.Proofs.YtdmhbgpejppbkaaGreat
open Go.Lib (hid)
open Go.RowKit Go.Maps
theorem pV (w:World) {L:PgL} {P:Pgr} (h:PgIs w L P) (hu:P.Up) (hb:P.busy=true) (hn:16≤P.saves.length):
  Calls Tryz.prog 40 #[ai L.gp] w fun e w'=>e=.returned (.int .i64 48)∧Below w.heap.size w w':=by
 have HN:=hid hn;clear hn;have hA:Below w.heap.size w (w.alloc (.cells #[.bool true] 4)):=(Below.refl _ w).alloc (Nat.le_refl _) _;have hX:(w.alloc (.cells #[.bool true] 4)).heap[w.heap.size]?=some (.cells #[.bool true] 4 (0,0)):=af rfl;have HB:=hid (ak true w.heap.size _ (h.below hA) hu (aa hX 0) (ab hX));rw [hb,show bV (some true) true=0 from rfl] at HB;have HA:=hid hA;have HH:=hid h;have HU:=hid (And.intro hu hb);unfold ai at *;clear h hu hb hA hX;go_enter Tryz.func40,Tryz.ntmps40;go_wp2_with fail;refine HB.out.mono ?_;rintro e w1 ⟨rfl,hb1⟩;have HB1:=hid (HA.out.trans (hb1.mono HA.out.size));have HP1:=hid (HH.out.below HB1.out);have hC:=ag HP1.out.blk;have hlt:=hC.lt;obtain ⟨A,c,hv,-⟩:=dz HP1.out.sv;have c21:=hC.c21;rw [hv] at c21;have hl16:(16:Int)≤(P.saves.length:Int):=by have:=HN.out;omega
 clear hb1 hC hv;go_wp2_with fail;go_ret;exact ⟨rfl,HB1.out⟩
theorem rV (k:Int) (w:World) {L:PgL} {P:Pgr} (h:PgIs w L P) (hu:P.Up) (hb:P.busy=true) (hk:k<1∨(P.saves.length:Int)<k):
  Calls Tryz.prog 41 #[ai L.gp,.int .i64 k] w fun e w'=>e=.returned (.int .i64 1)∧Below w.heap.size w w':=by
 have HN:=hid hk;clear hk;have hA:Below w.heap.size w (w.alloc (.cells #[.bool true] 4)):=(Below.refl _ w).alloc (Nat.le_refl _) _;have hX:(w.alloc (.cells #[.bool true] 4)).heap[w.heap.size]?=some (.cells #[.bool true] 4 (0,0)):=af rfl;have HB:=hid (ak true w.heap.size _ (h.below hA) hu (aa hX 0) (ab hX));rw [hb,show bV (some true) true=0 from rfl] at HB;have HA:=hid hA;have HH:=hid h;have HU:=hid (And.intro hu hb);unfold ai at *;clear h hu hb hA hX;go_enter Tryz.func41,Tryz.ntmps41;go_wp2_with fail;refine HB.out.mono ?_;rintro e w1 ⟨rfl,hb1⟩;have HB1:=hid (HA.out.trans (hb1.mono HA.out.size));have HP1:=hid (HH.out.below HB1.out);have hC:=ag HP1.out.blk;have hlt:=hC.lt;obtain ⟨A,c,hv,-⟩:=dz HP1.out.sv;have c21:=hC.c21;rw [hv] at c21;have hk:=HN.out;generalize P.saves.length=z at *;clear hb1 hC hv;by_cases hk1:k<1
 ·clear hk;go_wp2_with fail;go_ret;exact ⟨rfl,HB1.out⟩
 ·have hk2:(z:Int)<k:=by omega
  clear hk;go_wp2_with fail;go_ret;exact ⟨rfl,HB1.out⟩
theorem my (k:Int) (w:World) {L:PgL} {P:Pgr} (h:PgIs w L P) (hu:P.Up) (hb:P.busy=true) (hk:k<1∨(P.saves.length:Int)<k):
  Calls Tryz.prog 50 #[ai L.gp,.int .i64 k] w fun e w'=>e=.returned (.int .i64 1)∧Below w.heap.size w w':=by
 have HN:=hid hk;clear hk;have hA:Below w.heap.size w (w.alloc (.cells #[.bool true] 4)):=(Below.refl _ w).alloc (Nat.le_refl _) _;have hX:(w.alloc (.cells #[.bool true] 4)).heap[w.heap.size]?=some (.cells #[.bool true] 4 (0,0)):=af rfl;have HB:=hid (ak true w.heap.size _ (h.below hA) hu (aa hX 0) (ab hX));rw [hb,show bV (some true) true=0 from rfl] at HB;have HA:=hid hA;have HH:=hid h;have HU:=hid (And.intro hu hb);unfold ai at *;clear h hu hb hA hX;go_enter Tryz.func50,Tryz.ntmps50;go_wp2_with fail;refine HB.out.mono ?_;rintro e w1 ⟨rfl,hb1⟩;have HB1:=hid (HA.out.trans (hb1.mono HA.out.size));have HP1:=hid (HH.out.below HB1.out);have hC:=ag HP1.out.blk;have hlt:=hC.lt;obtain ⟨A,c,hv,-⟩:=dz HP1.out.sv;have c21:=hC.c21;rw [hv] at c21;have hk:=HN.out;generalize P.saves.length=z at *;clear hb1 hC hv;by_cases hk1:k<1
 ·clear hk;go_wp2_with fail;go_ret;exact ⟨rfl,HB1.out⟩
 ·have hk2:(z:Int)<k:=by omega
  clear hk;go_wp2_with fail;go_ret;exact ⟨rfl,HB1.out⟩
end Go.Proofs.YtdmhbgpejppbkaaGreat
namespace Go.Proofs.YtdmhbgpejppbkaaGreat
open Go.RowKit Go.Maps
def Ab.release (A:Ab) (k:Nat):Ab:={ A with S:=A.S.take k }
theorem wg {P:Pgr} {k:Nat} {K:List (Int × By)} (hK:Mrg (P.saves.drop k).reverse K) (hn:∀ s ∈ P.saves,(s.im.map (·.1)).Nodup) (hi:∀ s ∈ P.saves,s.im=[]):K=[]:=by
 cases hKe:K with
 | nil=>rfl
 | cons p r=> obtain ⟨s,hs2,hp⟩:=(iP hK fun s hs2=>hn s (List.mem_of_mem_drop (List.mem_reverse.1 hs2))).2.1 p (by rw [hKe];simp);rw [hi s (List.mem_of_mem_drop (List.mem_reverse.1 hs2))] at hp;exact absurd hp List.not_mem_nil
theorem SvZ.rel {sv:List Sv} {S:List (He × (Int→By))} {B:Int→By} {N k:Nat} {K:List (Int × By)} (h:SvZ sv S B N) (hk:k<sv.length) (hK:Mrg (sv.drop k).reverse K):SvZ (sv.take k ++ [⟨(sv.getD k gF).head,K⟩]) (S.take (k+1)) B N:=by
 obtain ⟨k1,k2,k3⟩:=iP hK fun s hs=>(h.im s (List.mem_of_mem_drop (List.mem_reverse.1 hs))).1
 rw [List.reverse_reverse] at k3;obtain ⟨v,hv⟩:∃ v,sv[k]?=some v:=⟨sv[k],List.getElem?_eq_getElem hk⟩;have hgd:sv.getD k gF=v:=by rw [List.getD_eq_getElem?_getD,hv];rfl
 have hvm:v ∈ sv:=List.mem_of_getElem? hv;rw [hgd];have hlen:=h.len;have hlt:(sv.take k).length=k:=by rw [List.length_take];omega
 have hsub:∀ s ∈ sv.take k ++ [(⟨v.head,K⟩:Sv)],s ∈ sv∨s=⟨v.head,K⟩:=fun s hs=>by
  rcases List.mem_append.1 hs with hs | hs
  ·exact .inl (List.mem_of_mem_take hs)
  ·exact .inr (List.mem_singleton.1 hs)
 refine ⟨?_,fun i s a hi ha=>?_,fun s hs=>?_,fun s hs=>?_,?_⟩
 ·rw [List.length_append,hlt,List.length_take,List.length_singleton];omega
 ·have hik:i≤k:=by have:=cB ha;rw [List.length_take] at this;omega
  have ha':S[i]?=some a:=by rw [List.getElem?_take_of_lt (by omega)] at ha;exact ha
  have hdrop:(sv.take k ++ [(⟨v.head,K⟩:Sv)]).drop i=(sv.take k).drop i ++ [⟨v.head,K⟩]:=List.drop_append_of_le_length (by omega);have hall:sv.drop i=(sv.take k).drop i ++ sv.drop k:=by
   conv=>lhs;rw [← List.take_append_drop k sv]
   rw [List.drop_append_of_le_length (by omega)]
  obtain ⟨s0,hs0,hse⟩:∃ s0,sv[i]?=some s0∧s.head=s0.head:=by
   by_cases hik2:i<k
   ·rw [List.getElem?_append_left (by omega),List.getElem?_take_of_lt hik2] at hi;exact ⟨s,hi,rfl⟩
   ·have e:i=k:=by omega
    subst e;rw [List.getElem?_append_right (by omega),hlt,Nat.sub_self] at hi;injection hi with hi
    exact ⟨v,hv,by rw [← hi]⟩
  obtain ⟨e1,e2⟩:=h.at_ i s0 a hs0 ha';refine ⟨hse.trans e1,fun m m1 m2=>?_⟩;rw [hse] at m2;have:=e2 m m1 m2;rw [hall,cG] at this;rw [hdrop,cG];show dM ((sv.take k).drop i) m ((aC K (m:Int)).getD (B m))=_;rw [k3];exact this
 ·rcases hsub s hs with hs | hs
  ·exact h.im s hs
  ·rw [hs];refine ⟨k1,fun p hp=>?_⟩;obtain ⟨u,hu,hpu⟩:=k2 p hp;exact (h.im u (List.mem_of_mem_drop (List.mem_reverse.1 hu))).2 p hpu
 ·rcases hsub s hs with hs | hs
  ·exact h.pg s hs
  ·rw [hs];exact h.pg v hvm
 ·have:=h.n16;rw [List.length_append,hlt,List.length_singleton];omega
theorem Rz.released {P:Pgr} {A:Ab} {t k:Nat} {K:List (Int × By)} (h:Rz P A t) (hb:A.busy=true) (ht:t≤74) (hk:k<P.saves.length) (hK:Mrg (P.saves.drop k).reverse K):Rz (P.relTo k K) (A.release (k+1)) (t+1):=by
 obtain ⟨N,B,u,sv,hN,hNt,hB⟩:=h.pg;have enow:A.now=A.W:=by unfold Ab.now;rw [hb];rfl
 have epgs:A.pgs=A.B:=by unfold Ab.pgs;rw [hb];rfl
 rw [enow] at hN hB;rw [epgs] at hB;have hwk:=h.work hb;have e:A.release (k+1)={ A with W:=A.W,B:=A.B,wrote:=A.wrote,S:=A.S.take (k+1) }:=rfl;rw [e];have hnd:∀ s ∈ P.saves,(s.im.map (·.1)).Nodup:=fun s hs=>(sv.im s hs).1
 have hU:Uz (P.relTo k K) A.C N B:=by
  refine u.setSaves ((P.saves.take k) ++ [⟨(P.saves.getD k gF).head,K⟩]) fun hl s hs p hp m hpm hmb=>?_
  obtain ⟨its,hm⟩:=u.jmode hl;rcases List.mem_append.1 hs with hs | hs
  ·exact hm.img s (List.mem_of_mem_take hs) p hp m hpm hmb
  ·rw [List.mem_singleton.1 hs] at hp;obtain ⟨s',hs',hp'⟩:=(iP hK fun s hs=>hnd s (List.mem_of_mem_drop (List.mem_reverse.1 hs))).2.1 p hp;exact hm.img s' (List.mem_of_mem_drop (List.mem_reverse.1 hs')) p hp' m hpm hmb
 refine h.next hb (Q:=P.relTo k K) ⟨rfl,rfl,rfl,rfl,rfl,rfl,rfl,rfl,rfl,rfl,rfl⟩ (by show aN P.lg≤_;omega) ht hwk (h.wrote hb) (h.wok hb) (by have:=h.wp hb;omega) ⟨rfl,rfl⟩ (fun hw0=>?_) (fun a ha=>h.svk2 a (List.mem_of_mem_take ha)) hU (sv.rel hk hK) hN (by omega) hB;have kc:=h.cm hb hw0;refine ⟨kc.nt,kc.cl,kc.lg,kc.W,kc.B,fun b hb2=>kc.S b (List.mem_of_mem_take hb2),fun s hs2=>?_⟩;have hs3:s ∈ P.saves.take k ++ [(⟨(P.saves.getD k gF).head,K⟩:Sv)]:=hs2;rcases List.mem_append.1 hs3 with hs3 | hs3
 ·exact kc.im s (List.mem_of_mem_take hs3)
 ·rw [List.mem_singleton.1 hs3];exact wg hK hnd kc.im
theorem Rz.released0 {P:Pgr} {A:Ab} {t:Nat} (h:Rz P A t) (hb:A.busy=true) (ht:t≤74):Rz { P with saves:=[] } (A.release 0) (t+1):=by
 obtain ⟨N,B,u,sv,hN,hNt,hB⟩:=h.pg;have enow:A.now=A.W:=by unfold Ab.now;rw [hb];rfl
 have epgs:A.pgs=A.B:=by unfold Ab.pgs;rw [hb];rfl
 rw [enow] at hN hB;rw [epgs] at hB;have e:A.release 0={ A with W:=A.W,B:=A.B,wrote:=A.wrote,S:=[] }:=by unfold Ab.release;rw [List.take_zero]
 rw [e];refine h.next hb (Q:={ P with saves:=[] }) ⟨rfl,rfl,rfl,rfl,rfl,rfl,rfl,rfl,rfl,rfl,rfl⟩ (by show aN P.lg≤_;omega) ht (h.work hb) (h.wrote hb) (h.wok hb) (by have:=h.wp hb;omega) ⟨rfl,rfl⟩ (fun hw0=>?_) (fun a ha=>absurd ha List.not_mem_nil) (u.setSaves [] fun _ s hs=>absurd hs List.not_mem_nil) .nil hN (by omega) hB;have kc:=h.cm hb hw0;exact ⟨kc.nt,kc.cl,kc.lg,kc.W,kc.B,fun a ha=>absurd ha List.not_mem_nil,fun a ha=>absurd ha List.not_mem_nil⟩
theorem Rz.svl {P:Pgr} {A:Ab} {t:Nat} (h:Rz P A t):P.saves.length=A.S.length:=let ⟨_,_,_,sv,_⟩:=h.pg;sv.len
section
variable {L:PgL} {P:Pgr} {A:Ab} {t:Nat}
def Ab.saveE (A:Ab):Int:=if A.busy then (if A.S.length<16 then 0 else 48) else 40
def Ab.saveA (A:Ab):Ab:=if A.busy then (if A.S.length<16 then A.save else A) else A
theorem rG (w:World) (h:PgIs w L P) (hs:Rz P A t) (ht:t≤74):
  Calls Tryz.prog 40 #[ai L.gp] w fun e w'=>e=.returned (.int .i64 A.saveE)∧RTo w L A.saveA (t+1) w':=by
 unfold Ab.saveE Ab.saveA;cases hb:A.busy
 ·rw [if_neg (by decide),if_neg (by decide)];refine (rH w h hs.up (hs.busy.trans hb)).mono ?_;rintro e w1 ⟨rfl,hB⟩;exact ⟨rfl,(RTo.refl h hs ht).post hB⟩
 ·rw [if_pos rfl,if_pos rfl];by_cases h16:A.S.length<16
  ·rw [if_pos h16,if_pos h16];exact rJ w h hs hb ht (by rw [hs.svl];exact h16)
  ·rw [if_neg h16,if_neg h16];refine (pV w h hs.up (hs.busy.trans hb) (by rw [hs.svl];omega)).mono ?_;rintro e w1 ⟨rfl,hB⟩;exact ⟨rfl,(RTo.refl h hs ht).post hB⟩
def Ab.kE (A:Ab) (k:Int):Int:=if A.busy then (if k<1∨(A.S.length:Int)<k then 1 else 0) else 40
def Ab.backA (A:Ab) (k:Int):Ab:=if A.busy then (if k<1∨(A.S.length:Int)<k then A else A.back (k - 1).toNat) else A
def Ab.releaseA (A:Ab) (k:Int):Ab:=if A.busy then (if k<1∨(A.S.length:Int)<k then A else A.release (k - 1).toNat) else A
theorem rW (k:Int) (w:World) (h:PgIs w L P) (hs:Rz P A t) (ht:t≤74):
  Calls Tryz.prog 41 #[ai L.gp,.int .i64 k] w fun e w'=>e=.returned (.int .i64 (A.kE k))∧RTo w L (A.backA k) (t+1) w':=by
 unfold Ab.kE Ab.backA;cases hb:A.busy
 ·rw [if_neg (by decide),if_neg (by decide)];refine (rX k w h hs.up (hs.busy.trans hb)).mono ?_;rintro e w1 ⟨rfl,hB⟩;exact ⟨rfl,(RTo.refl h hs ht).post hB⟩
 ·rw [if_pos rfl,if_pos rfl];by_cases hk:k<1∨(A.S.length:Int)<k
  ·rw [if_pos hk,if_pos hk];refine (rV k w h hs.up (hs.busy.trans hb) (by rw [hs.svl];exact hk)).mono ?_;rintro e w1 ⟨rfl,hB⟩;exact ⟨rfl,(RTo.refl h hs ht).post hB⟩
  ·rw [if_neg hk,if_neg hk];obtain ⟨q,rfl⟩:∃ q:Nat,k=(q:Int)+1:=⟨(k - 1).toNat,by omega⟩;rw [show ((q:Int)+1 - 1).toNat=q by omega];exact rZ q w h hs hb ht (by rw [hs.svl];omega)
theorem mA (k:Int) (w:World) (h:PgIs w L P) (hs:Rz P A t) (ht:t≤74):
  Calls Tryz.prog 50 #[ai L.gp,.int .i64 k] w fun e w'=>e=.returned (.int .i64 (A.kE k))∧RTo w L (A.releaseA k) (t+1) w':=by
 unfold Ab.kE Ab.releaseA;cases hb:A.busy
 ·rw [if_neg (by decide),if_neg (by decide)];refine (mB k w h hs.up (hs.busy.trans hb)).mono ?_;rintro e w1 ⟨rfl,hB⟩;exact ⟨rfl,(RTo.refl h hs ht).post hB⟩
 ·rw [if_pos rfl,if_pos rfl];have hbP:=hs.busy.trans hb;by_cases hk:k<1∨(A.S.length:Int)<k
  ·rw [if_pos hk,if_pos hk];refine (my k w h hs.up hbP (by rw [hs.svl];exact hk)).mono ?_;rintro e w1 ⟨rfl,hB⟩;exact ⟨rfl,(RTo.refl h hs ht).post hB⟩
  ·rw [if_neg hk,if_neg hk];obtain ⟨q,rfl⟩:∃ q:Nat,k=(q:Int)+1:=⟨(k - 1).toNat,by omega⟩;rw [show ((q:Int)+1 - 1).toNat=q by omega];have hql:q<P.saves.length:=by rw [hs.svl];omega
   obtain ⟨N,B,u,sv,-⟩:=hs.pg;cases q with
   | zero=> refine (mD w h hs.up hbP (fun e=>by rw [e] at hql;cases hql)).mono ?_;rintro e w1 ⟨rfl,hp⟩;exact ⟨rfl,_,hs.released0 hb ht,hp⟩
   | succ q=> have:=mz q w h hs.up hbP ⟨hql,fun s hx=>Nat.le_trans (sx (sv.im s hx)) (by omega)⟩;rw [show ((q:Int)+2)=((q+1:Nat):Int)+1 by omega] at this;refine this.mono ?_;rintro e w1 ⟨rfl,K,hK,hp⟩;exact ⟨rfl,_,hs.released hb ht (by omega) hK,hp⟩
end
end Go.Proofs.YtdmhbgpejppbkaaGreat
