/- awake's calls. awake walked. Arguments read as data: slices of structs, structs by value, as the walks take them. Arguments of the pager's laws, read as lists. -/
import Derived.Test.YtdmhbgpejppbkaaGreatXGbw
import Derived.Test.YtdmhbgpejppbkaaGreatXGaa
import Derived.Test.YtdmhbgpejppbkaaGreatXGab
import Derived.Test.YtdmhbgpejppbkaaGreatXGbv
set_option maxRecDepth 100000
set_option maxHeartbeats 4000000
namespace Go.Proofs.YtdmhbgpejppbkaaGreat
open Go.RowKit Go.Maps
def AwI (w:World) (gp:Nat) (P:Pgr) (w':World):Prop:=∃ L,L.gp=gp∧PgIs w' L P∧(∀ k,L.F k→w.heap.size≤k)∧Below w.heap.size w w'
section
variable {w w1 w2:World} {gp:Nat} {P P':Pgr}
theorem AwI.post (h:AwI w gp P w1) (hb:Below w1.heap.size w1 w2):AwI w gp P w2:=by obtain ⟨L,h1,h2,h3,h4⟩:=h;exact ⟨L,h1,h2.below hb,h3,h4.trans (hb.mono h4.size)⟩
theorem AwI.below (h:AwI w gp P w1):Below w.heap.size w w1:=let ⟨_,_,_,_,h⟩:=h;h
theorem AwI.to {L:PgL} (h1:L.gp=gp) (h3:∀ k,L.F k→w.heap.size≤k) (h4:Below w.heap.size w w1) (ht:PTo w1 L P' w2):AwI w gp P' w2:=by
 obtain ⟨L',e1,e2,e3,e4⟩:=ht;refine ⟨L',e1.trans h1,e2,fun k hk=>?_,h4.trans (e4.below (B:=w.heap.size) h4.size h3)⟩;rcases e3 k hk with e | e
 ·exact h3 k e
 ·exact Nat.le_trans h4.size e
theorem AwI.call {f:FuncId} {args:Array Value} {r:Ending} (h:AwI w gp P w1) (hc:∀ L,L.gp=gp→PgIs w1 L P→Calls Tryz.prog f args w1 fun e w2=>e=r∧PTo w1 L P' w2):Calls Tryz.prog f args w1 fun e w2=>e=r∧AwI w gp P' w2:=by obtain ⟨L,h1,h2,h3,h4⟩:=h;exact (hc L h1 h2).mono fun e w2 ⟨he,ht⟩=>⟨he,AwI.to h1 h3 h4 ht⟩
theorem AwI.quiet {f:FuncId} {args:Array Value} {r:Ending} (h:AwI w gp P w1) (hc:∀ L,L.gp=gp→PgIs w1 L P→Calls Tryz.prog f args w1 fun e w2=>e=r∧Below w1.heap.size w1 w2):Calls Tryz.prog f args w1 fun e w2=>e=r∧AwI w gp P w2:=by obtain ⟨L,h1,h2,h3,h4⟩:=h;exact (hc L h1 h2).mono fun e w2 ⟨he,hb⟩=>⟨he,AwI.post ⟨L,h1,h2,h3,h4⟩ hb⟩
variable {gd:Nat}
theorem AL (w:World):Calls Tryz.prog 10 #[.int .i64 200] w fun e w'=>∃ L:DkM,e=.returned (.pointer (some ⟨L.gd,0,none⟩))∧DkIs w' L AR∧(∀ k,L.F k→w.heap.size≤k)∧Below w.heap.size w w':=fg 200 w
theorem xA {D:DkM} (h:DkIs w1 D AR) (hF:∀ k,D.F k→w.heap.size≤k) (hb:Below w.heap.size w w1):Calls Tryz.prog 11 #[.pointer (some ⟨D.gd,0,none⟩),.int .i64 3] w1 fun e w2=>∃ gp,e=.returned (.tuple #[.pointer (some ⟨gp,0,none⟩),.int .i64 0])∧AwI w gp (s0 D.gd) w2:=
 (dC 3 w1 h rfl rfl).mono fun e w2 ⟨L,he,hp,h3,h4⟩=>⟨L.gp,he,L,rfl,by rw [← Bo];exact hp,fun k hk=>(h3 k hk).elim (hF k) fun e=>Nat.le_trans hb.size e,hb.trans (h4.below (B:=w.heap.size) hb.size hF)⟩
theorem sL (h:AwI w gp (s0 gd) w1):Calls Tryz.prog 36 #[.pointer (some ⟨gp,0,none⟩)] w1 fun e w2=>e=.returned (.int .i64 40)∧AwI w gp (s0 gd) w2:=
 h.quiet fun L hg hp=>by rw [← hg];exact iM w1 hp (zr gd) rfl
theorem vp (h:AwI w gp (s0 gd) w1):Calls Tryz.prog 19 #[.pointer (some ⟨gp,0,none⟩)] w1 fun e w2=>e=.returned (.int .i64 0)∧AwI w gp (s1 gd) w2:=
 h.call fun L hg hp=>by rw [← hg,← Bl];exact ik w1 hp (zr gd)
theorem AM (h:AwI w gp (s1 gd) w1):Calls Tryz.prog 37 #[.pointer (some ⟨gp,0,none⟩)] w1 fun e w2=>e=.returned (.tuple #[.int .i64 1,.int .i64 0])∧AwI w gp (s2 gd) w2:=
 h.call fun L hg hp=>by rw [← hg,← Bk];exact uo w1 hp (Bb gd) rfl rfl (by show 1<4096;omega) (by show 0≤1;omega) rfl (gO rfl) (eo _ rfl)
theorem ze (h:AwI w gp (s2 gd) w1):Calls Tryz.prog 38 #[.pointer (some ⟨gp,0,none⟩),.int .i64 1,.string (aj fulA)] w1 fun e w2=>e=.returned (.int .i64 0)∧AwI w gp (s3 gd) w2:=
 h.call fun L hg hp=>by rw [← hg,← Bj];exact gK 1 [] fulA w1 hp (Ba gd) rfl (by omega) (by show 1<2;omega) iV (AG gd)
theorem vm (h:AwI w gp (s3 gd) w1):Calls Tryz.prog 36 #[.pointer (some ⟨gp,0,none⟩)] w1 fun e w2=>e=.returned (.int .i64 0)∧AwI w gp (s4 gd) w2:=
 h.call fun L hg hp=>by rw [← hg,← Bi];exact oI w1 hp (AZ gd) rfl rfl (AF gd)
theorem vo (h:AwI w gp (s4 gd) w1):Calls Tryz.prog 19 #[.pointer (some ⟨gp,0,none⟩)] w1 fun e w2=>e=.returned (.int .i64 0)∧AwI w gp (s5 gd) w2:=
 h.call fun L hg hp=>by rw [← hg,← Bh];exact ik w1 hp (AY gd)
theorem zc (h:AwI w gp (s5 gd) w1):Calls Tryz.prog 38 #[.pointer (some ⟨gp,0,none⟩),.int .i64 1,.string (aj fulB)] w1 fun e w2=>e=.returned (.int .i64 0)∧AwI w gp (s6 gd) w2:=
 h.call fun L hg hp=>by rw [← hg,← Bg];exact gK 1 fulA fulB w1 hp (AX gd) rfl (by omega) (by show 1<2;omega) lP (AE gd)
theorem za (h:AwI w gp (s6 gd) w1):Calls Tryz.prog 40 #[.pointer (some ⟨gp,0,none⟩)] w1 fun e w2=>e=.returned (.int .i64 0)∧AwI w gp (s7 gd) w2:=
 h.call fun L hg hp=>by rw [← hg,← Bf];exact mW w1 hp (AW gd) rfl (by show 0<16;omega)
theorem zb (h:AwI w gp (s7 gd) w1):Calls Tryz.prog 38 #[.pointer (some ⟨gp,0,none⟩),.int .i64 1,.string (aj fulC)] w1 fun e w2=>e=.returned (.int .i64 0)∧AwI w gp (s8 gd) w2:=
 h.call fun L hg hp=>by rw [← hg,← Be];exact gK 1 fulB fulC w1 hp (AV gd) rfl (by omega) (by show 1<2;omega) wR (AD gd)
theorem zi (h:AwI w gp (s8 gd) w1):Calls Tryz.prog 41 #[.pointer (some ⟨gp,0,none⟩),.int .i64 1] w1 fun e w2=>e=.returned (.int .i64 0)∧AwI w gp (s9 gd) w2:=
 h.call fun L hg hp=>by
  rw [← hg,← Bd];refine (mZ 0 w1 hp (AU gd) rfl (AC gd)).mono ?_;rintro e w2 ⟨he,K,hM,hto⟩;rw [we gd hM] at hto;exact ⟨he,hto⟩
def BN (gd:Nat):Pgr:=(s9 gd).fetch 1 fulB
theorem zh (h:AwI w gp (s9 gd) w1):Calls Tryz.prog 18 #[.pointer (some ⟨gp,0,none⟩),.int .i64 1] w1 fun e w2=>e=.returned (.tuple #[.string (aj fulB),.int .i64 0])∧AwI w gp (BN gd) w2:=
 h.call fun L hg hp=>by rw [← hg];exact jx 1 fulB w1 hp (AS gd) (by omega) (by show 1<2;omega) (AB gd) rfl
def BY (gd:Nat):Pgr:={ BN gd with d:=aD6o }
def BX (gd:Nat):Pgr:={ BN gd with d:=aD7 }
def s13 (gd:Nat):Pgr:={ BX gd with over:=true }
theorem AK (h:AwI w gp (BN gd) w1):Calls Tryz.prog 15 #[.pointer (some ⟨gd,0,none⟩)] w1 fun e w2=>e=.returned (.tuple #[])∧AwI w gp (BY gd) w2:=
 h.call fun L hg hp=>by
  have e0:L.D.gd=gd:=hp.gd;have h0:=td w1 hp.dk (by show (0:Int)<1000000;omega);rw [e0] at h0;refine h0.mono ?_;rintro e w2 ⟨he,hd,hc⟩;have hk:=PTo.dk (d:=aD6o) hp ⟨L.D,rfl,hd,fun _ hk=>.inl hk,hc.mono fun k _ ek=>.inl (ek.trans e0.symm)⟩;exact ⟨he,hk⟩
theorem BK (h:AwI w gp (BY gd) w1):Calls Tryz.prog 16 #[.pointer (some ⟨gd,0,none⟩),.slice none 0 0] w1 fun e w2=>e=.returned (.tuple #[])∧AwI w gp (BX gd) w2:=
 h.call fun L hg hp=>by
  have e:L.D.gd=gd:=hp.gd;have h0:=vV w1 hp.dk;rw [e] at h0;refine h0.mono ?_;rintro e w2 ⟨he,hto⟩;have e2:(BY gd).d=aD6o:=rfl;rw [e2,zW,on6] at hto;have hk:=PTo.dk (d:=aD7) hp hto;exact ⟨he,hk⟩
theorem zg (h:AwI w gp (BX gd) w1):Calls Tryz.prog 18 #[.pointer (some ⟨gp,0,none⟩),.int .i64 1] w1 fun e w2=>e=.returned (.tuple #[.string ⟨#[]⟩,.int .i64 10])∧AwI w gp (s13 gd) w2:=
 h.call fun L hg hp=>by rw [← hg];exact mY 1 w1 hp (.inr (.inr (by show (1:Int)≠0;omega)))
theorem xz (h:AwI w gp (s13 gd) w1):Calls Tryz.prog 11 #[.pointer (some ⟨gd,0,none⟩),.int .i64 1] w1 fun e w2=>∃ gq,e=.returned (.tuple #[.pointer (some ⟨gq,0,none⟩),.int .i64 0])∧AwI w gq (zN gd) w2:=by
 obtain ⟨L,hg,hp,h3,h4⟩:=h;have e:L.D.gd=gd:=hp.gd;have hDF:∀ k,L.D.F k→w.heap.size≤k:=fun k hk=>h3 k (.inr (.inl hk))
 have hdk:DkIs w1 L.D aD7:=hp.dk;have hpo:=rN aH 1 w1 hdk BG rfl Bt tJ rfl;rw [e] at hpo;exact hpo.mono fun e w2 ⟨L',he,hp',h3',h4'⟩=>⟨L'.gp,he,L',rfl,hp',fun k hk=>(h3' k hk).elim (hDF k) fun e=>Nat.le_trans h4.size e,h4.trans (h4'.below (B:=w.heap.size) h4.size hDF)⟩
def Bn (gd:Nat):Pgr:=(zN gd).fetch 1 fulA
theorem xC (h:AwI w gp (zN gd) w1):Calls Tryz.prog 18 #[.pointer (some ⟨gp,0,none⟩),.int .i64 1] w1 fun e w2=>e=.returned (.tuple #[.string (aj fulA),.int .i64 0])∧AwI w gp (Bn gd) w2:=
 h.call fun L hg hp=>by rw [← hg];exact jx 1 fulA w1 hp (zJ gd) (by omega) (by show 1<2;omega) (yV gd) rfl
theorem xB (h:AwI w gp (Bn gd) w1):Calls Tryz.prog 18 #[.pointer (some ⟨gp,0,none⟩),.int .i64 2] w1 fun e w2=>e=.returned (.tuple #[.string ⟨#[]⟩,.int .i64 21])∧AwI w gp (Bn gd) w2:=
 h.quiet fun L hg hp=>by rw [← hg];exact mX 2 w1 hp (zI gd) (by show 2≤2;omega) (by omega)
theorem zf (h:AwI w gp (Bn gd) w1):Calls Tryz.prog 13 #[.pointer (some ⟨gp,0,none⟩)] w1 fun e w2=>e=.returned (.agg #[.int .i64 1,.int .i64 2,.int .i64 0,.int .i64 0,.int .i64 0,.int .u64 1])∧AwI w gp (Bn gd) w2:=
 h.quiet fun L hg hp=>by rw [← hg];exact mT w1 hp
theorem pi (n:UInt8) (w:World):Calls Tryz.prog 39 #[.string ⟨#[n]⟩] w fun e w'=>e=.returned (.string (aj (aT [n])))∧Below w.heap.size w w':=qE ⟨#[n]⟩ w
end
end Go.Proofs.YtdmhbgpejppbkaaGreat
namespace Go.Proofs.YtdmhbgpejppbkaaGreat
open Go.Lib (hid)
open Go.RowKit Go.Maps
theorem qT (w:World):Calls Tryz.prog 39 #[.string ⟨#[97]⟩] w fun e w'=>e=.returned (.string (aj fulA))∧Below w.heap.size w w':=pi 97 w
theorem qS (w:World):Calls Tryz.prog 39 #[.string ⟨#[98]⟩] w fun e w'=>e=.returned (.string (aj fulB))∧Below w.heap.size w w':=pi 98 w
theorem xD (w:World):Calls Tryz.prog 39 #[.string ⟨#[99]⟩] w fun e w'=>e=.returned (.string (aj fulC))∧Below w.heap.size w w':=pi 99 w
theorem jU (w:World):Calls Tryz.prog 9 #[] w fun e w'=>e=.returned (.bool true)∧Below w.heap.size w w':=by go_enter Tryz.func9,Tryz.ntmps9;go_wp2_with fail;refine (AL w).mono ?_;rintro e w1 ⟨D,rfl,hd,hF,hb⟩;have HO:=hid (xA hd hF hb);generalize D.gd=gd at *;clear hd hF hb;go_wp2_with fail;refine HO.out.mono ?_;rintro e w2 ⟨gp,rfl,hI⟩;have HI:=hid hI;clear hI HO;go_wp2_with fail;refine (sL HI.out).mono ?_;rintro e w2 ⟨rfl,hI⟩;clear HI;have HI:=hid hI;clear hI;go_wp2_with fail;refine (vp HI.out).mono ?_;rintro e w2 ⟨rfl,hI⟩;clear HI;have HI:=hid hI;clear hI;go_wp2_with fail;refine (AM HI.out).mono ?_;rintro e w2 ⟨rfl,hI⟩;clear HI;have HI:=hid hI;clear hI;go_wp2_with fail;refine (qT _).mono ?_;rintro e w2 ⟨rfl,hb⟩;have HJ:=hid (AwI.post HI.out hb);clear hb HI;have HI:=HJ;clear HJ;go_wp2_with fail;refine (ze HI.out).mono ?_;rintro e w2 ⟨rfl,hI⟩;clear HI;have HI:=hid hI;clear hI;go_wp2_with fail;refine (vm HI.out).mono ?_;rintro e w2 ⟨rfl,hI⟩;clear HI;have HI:=hid hI;clear hI;go_wp2_with fail;refine (vo HI.out).mono ?_;rintro e w2 ⟨rfl,hI⟩;clear HI;have HI:=hid hI;clear hI;go_wp2_with fail;refine (qS _).mono ?_;rintro e w2 ⟨rfl,hb⟩;have HJ:=hid (AwI.post HI.out hb);clear hb HI;have HI:=HJ;clear HJ;go_wp2_with fail;refine (zc HI.out).mono ?_;rintro e w2 ⟨rfl,hI⟩;clear HI;have HI:=hid hI;clear hI;go_wp2_with fail;refine (za HI.out).mono ?_;rintro e w2 ⟨rfl,hI⟩;clear HI;have HI:=hid hI;clear hI;go_wp2_with fail;refine (xD _).mono ?_;rintro e w2 ⟨rfl,hb⟩;have HJ:=hid (AwI.post HI.out hb);clear hb HI;have HI:=HJ;clear HJ;go_wp2_with fail;refine (zb HI.out).mono ?_;rintro e w2 ⟨rfl,hI⟩;clear HI;have HI:=hid hI;clear hI;go_wp2_with fail;refine (zi HI.out).mono ?_;rintro e w2 ⟨rfl,hI⟩;clear HI;have HI:=hid hI;clear hI;go_wp2_with fail;refine (zh HI.out).mono ?_;rintro e w2 ⟨rfl,hI⟩;clear HI;have HI:=hid hI;clear hI;go_wp2_with fail;refine (AK HI.out).mono ?_;rintro e w2 ⟨rfl,hI⟩;clear HI;have HI:=hid hI;clear hI;go_wp2_with fail;refine (BK HI.out).mono ?_;rintro e w2 ⟨rfl,hI⟩;clear HI;have HI:=hid hI;clear hI;go_wp2_with fail;refine (zg HI.out).mono ?_;rintro e w2 ⟨rfl,hI⟩;clear HI;have HI:=hid hI;clear hI;go_wp2_with fail;refine (xz HI.out).mono ?_;rintro e w2 ⟨gq,rfl,hI⟩;clear HI;have HI:=hid hI;clear hI;go_wp2_with fail;refine (xC HI.out).mono ?_;rintro e w2 ⟨rfl,hI⟩;clear HI;have HI:=hid hI;clear hI;go_wp2_with fail;refine (xB HI.out).mono ?_;rintro e w2 ⟨rfl,hI⟩;clear HI;have HI:=hid hI;clear hI;go_wp2_with fail;refine (qS _).mono ?_;rintro e w2 ⟨rfl,hb⟩;have HJ:=hid (AwI.post HI.out hb);clear hb HI;have HI:=HJ;clear HJ;go_wp2_with fail;refine (qT _).mono ?_;rintro e w2 ⟨rfl,hb⟩;have HJ:=hid (AwI.post HI.out hb);clear hb HI;have HI:=HJ;clear HJ;go_wp2_with fail;refine (zf HI.out).mono ?_;rintro e w2 ⟨rfl,hI⟩;clear HI;have HI:=hid hI;clear hI;go_wp2_with fail;go_ret;exact ⟨rfl,HI.out.below⟩
end Go.Proofs.YtdmhbgpejppbkaaGreat
namespace Go.Proofs.YtdmhbgpejppbkaaGreat
open Go.ChangeShapes Go.WideShapes Go.ChangeAt Go.RowKit Go.Deep Go.Joins
section
variable {H:Type} {enc:TypeId × Value→H} {P:Program} {w:World} {base:Nat} {spare:Nat→Bool} {yH:Bool}
theorem ke {α:Type} {R:Nat→α→Prop}:∀ n,(∀ i,i<n→∃ x,R i x)→∃ xs:List α,xs.length=n∧∀ (i:Nat) (h:i<xs.length),R i xs[i]
 | 0,_=>⟨[],rfl,fun i h=>by simp at h⟩
 | n+1,h=>by
   obtain ⟨xs,hl,hx⟩:=ke n fun i hi=>h i (by omega)
   obtain ⟨y,hy⟩:=h n (by omega);refine ⟨xs ++ [y],by simp [hl],fun i hi=>?_⟩;simp at hi;by_cases e:i<xs.length
   ·rw [List.getElem_append_left e];exact hx i e
   ·have:i=xs.length:=by omega
    subst this;rw [List.getElem_append_right (by omega)];simpa [hl] using hy
theorem pK {α:Type} {f:α→List Value} {size:Nat} {a:Addr} {len c:Nat} {xs:List α} (hl:xs.length=len) (hp:0<size) (hsz:∀ x,(f x).length=size)
  (hc:∀ (i:Nat) (h:i<xs.length),∀ j u,(f xs[i])[j]?=some u→w.cell? (a.add (i * size+j))=some u) (hlt:0<len→a.block<w.heap.size):Sl f size w (.slice (some a) len c) xs:=by
 subst hl;refine ⟨some a,c,rfl,fun hne=>?_⟩;have h0:0<xs.length:=List.length_pos_iff.2 hne;have hj:0<(f xs[0]).length:=by rw [hsz];exact hp
 have h00:=hc 0 h0 0 _ (List.getElem?_eq_getElem hj);simp only [Nat.zero_mul,Nat.add_zero] at h00;have hs:a.spot=none:=World.cell?_spot (a:=a) (by simpa [Addr.add] using h00);obtain ⟨b,off,s⟩:=a;simp only at hs;subst hs;refine ⟨b,off,rfl,hlt h0,fun i x hx j u hu=>?_⟩;obtain ⟨hi,rfl⟩:=List.getElem?_eq_some_iff.1 hx;have:=hc i hi j u hu;unfold Addr.add at this
 split at this
 ·rename_i h;rw [show off+i * size+j=off from by omega];exact this
 ·rw [show off+i * size+j=off+(i * size+j) from by omega];exact this
end
end Go.Proofs.YtdmhbgpejppbkaaGreat
namespace Go.Proofs.YtdmhbgpejppbkaaGreat
open Go.ChangeShapes Go.WideShapes Go.ChangeAt Go.RowKit Go.Deep Go.Joins
section
variable {H:Type} {enc:TypeId × Value→H} {w:World}
theorem vi:Tryz.prog.cellsOf 3=1:=by kernel_rfl
theorem vh:Tryz.prog.cellsOf 9=1:=by kernel_rfl
theorem sH:Tryz.prog.cellsOf 4=1:=by kernel_rfl
theorem qP:Tryz.prog.cellsOf 30=1:=by kernel_rfl
theorem nW:Tryz.prog.cellsOf 32=5:=by kernel_rfl
theorem rp {α:Type} {f:α→List Value} {size:Nat} {Q:α→Prop} {t e:TypeId} {fuel:Nat} {cs:List Value} {y:DataW H × List MemPlace} (ht:Tryz.prog.underlying t=some (.slice e)) (hC:Tryz.prog.cellsOf e=size) (hp:0<size) (hsz:∀ x,(f x).length=size)
  (hel:∀ (n:Nat) (cs':List Value) (z:DataW H × List MemPlace),DataW.trod enc Tryz.prog w 0 (fun _=>true) true n e cs'=some z→(∀ x ∈ z.2,x.block<w.heap.size)→∃ x:α,f x=cs'∧Q x)
  (h:DataW.trod enc Tryz.prog w 0 (fun _=>true) true fuel t cs=some y) (hlt:∀ x ∈ y.2,x.block<w.heap.size):∃ (v:Value) (xs:List α),cs=[v]∧Sl f size w v xs∧xs.length≤maxLen∧∀ x ∈ xs,Q x:=by
 rcases open_slice ht h with ⟨h0,_⟩ | ⟨a,len,cap,m,n,D,Pl,hcs,hb,hl,hm,hmm,hx,hi⟩
 ·exact ⟨_,[],h0,Sl.nil,Nat.zero_le _,fun x hx=>by cases hx⟩
 ·simp only [if_true] at hmm
  obtain ⟨xs,hxl,hR⟩:=ke (R:=fun i (x:α)=>(∀ j u,(f x)[j]?=some u→w.cell? (a.add (i * size+j))=some u)∧Q x) len (fun i hil=>by
   obtain ⟨cs',hc,ht'⟩:=hi i (by omega);rw [hC] at hc;obtain ⟨_,hcl,hat⟩:=World.cells?_some hc;obtain ⟨x,hfx,hq⟩:=hel n cs' _ ht' (fun z hz=>hlt z (by rw [hx];exact List.mem_append_right _ (List.mem_flatMap.2 ⟨i,List.mem_range.2 (by omega),hz⟩)));refine ⟨x,fun j u hu=>?_,hq⟩;rw [hfx] at hu;have hj:j<size:=by
    rcases Nat.lt_or_ge j cs'.length with h | h
    ·omega
    ·rw [List.getElem?_eq_none h] at hu;cases hu
   rw [← Go.Deep.add_add,hat j hj];exact hu)
  refine ⟨_,xs,hcs,pK hxl hp hsz (fun i h=>(hR i h).1) (fun h0=>?_),by omega,fun x hx'=>?_⟩
  ·refine hlt (.cell a.block a.off) ?_;rw [hx];refine List.mem_append_left _ ?_;rw [hC];exact List.mem_map.2 ⟨0,List.mem_range.2 (Nat.mul_pos (by omega) hp),rfl⟩
  ·obtain ⟨i,hi',rfl⟩:=List.getElem_of_mem hx';exact (hR i hi').2
theorem At {n:Nat} {cs:List Value} {z:DataW H × List MemPlace} (h:DataW.trod enc Tryz.prog w 0 (fun _=>true) true n 32 cs=some z):∃ x:Ac × Value,zG x=cs∧∃ s l c,x.2=Value.slice s l c:=by
 obtain ⟨ys,n',-,-,hl,hyl,hg⟩:=DataW.trod_struct Tryz.underlying32 h;rw [nW] at hl
 match cs,hl with
 | [c0,c1,c2,c3,c4],_=>
   match ys,hyl with
   | [y0,y1,y2,y3,y4],_=>
     have g0:=hg 0 _ rfl;have g1:=hg 1 _ rfl;have g2:=hg 2 _ rfl;have g3:=hg 3 _ rfl;have g4:=hg 4 _ rfl;simp only [vi,vh,sH,qP,List.drop_zero,List.drop_succ_cons,List.take_succ_cons,List.take_zero,List.getElem?_cons_zero,List.getElem?_cons_succ,List.getElem_toArray,List.getElem_cons_zero,List.getElem_cons_succ] at g0 g1 g2 g3 g4;obtain ⟨q0,e0,-,-⟩:=DataW.trod_int Tryz.underlying3 g0;obtain ⟨q1,e1,-,-⟩:=DataW.trod_int Tryz.underlying3 g1;obtain ⟨q2,e2,-,-⟩:=DataW.trod_string Tryz.underlying9 g2;obtain ⟨q3,e3,-⟩:=DataW.trod_bool Tryz.underlying4 g3;have e4:∃ s l c,c4=Value.slice s l c:=by
      rcases open_slice Tryz.underlying30 g4 with ⟨h0,_⟩ | ⟨a,len,cap,m,n,D,Pl,hcs,-⟩
      ·exact ⟨_,_,_,(List.cons.inj h0).1⟩
      ·exact ⟨_,_,_,(List.cons.inj hcs).1⟩
     simp at e0 e1 e2 e3;subst e0 e1 e2 e3;exact ⟨(⟨q0,q1,bs q2,q3⟩,c4),rfl,e4⟩
end
theorem gI {H:Type} {enc:TypeId × Value→H} {w:World} {v:Value} {d:DataW H} {p:List MemPlace} (hv:∃ a len cap,v=.slice a len cap) (h:DataW.Trod enc Tryz.prog w 0 (fun _=>true) true 22 v d p) (hlt:∀ x ∈ p,x.block<w.heap.size):
  ∃ xs:List (Ac × Value),Sl zG 5 w v xs∧xs.length≤maxLen∧∀ x ∈ xs,∃ s l c,x.2=Value.slice s l c:=by
 obtain ⟨a0,len0,cap0,rfl⟩:=hv;obtain ⟨fuel,hf⟩:=h;obtain ⟨v1,xs1,e1,hs1,hl1,hq1⟩:=rp (f:=zG) (size:=5) (Q:=fun x=>∃ s l c,x.2=Value.slice s l c) Tryz.underlying22 nW (by omega) zm (fun n cs' z hz _=>At hz) hf hlt;simp [Value.cells] at e1;subst e1;exact ⟨xs1,hs1,hl1,hq1⟩
end Go.Proofs.YtdmhbgpejppbkaaGreat
