/- head.Encode of a good head. A journal: plain; in memory. -/
import Derived.Test.YtdmhbgpejppbkaaGreatXGap
import Derived.Test.YtdmhbgpejppbkaaGreatXGaf
import Derived.Test.YtdmhbgpejppbkaaGreatXGao
import Derived.LoopN
set_option maxRecDepth 100000
set_option maxHeartbeats 2000000
namespace Go.Proofs.YtdmhbgpejppbkaaGreat
open Go.Lib (hid)
open Go.RowKit
def wj:List UInt8:=[99,97,104,105,101,114,48,49]
def bh (h:He):List UInt8:=wj ++ aG 4 h.mode ++ aG 4 h.pages ++ aG 4 h.trunk ++ aG 4 h.spare ++ aG 4 h.root ++ aG 8 h.change ++ List.replicate 196 0
theorem eW (h:He):(bh h).length=232:=by unfold bh;simp only [List.length_append,aq,List.length_replicate];rfl
theorem du {w:World} {g:Nat} {h:He} (hb:w.heap[g]?=some (dP h)):w.cell? ⟨g,0,none⟩=some (.int .i64 h.mode)∧w.cell? ⟨g,1,none⟩=some (.int .i64 h.pages)∧w.cell? ⟨g,2,none⟩=some (.int .i64 h.trunk)∧w.cell? ⟨g,3,none⟩=some (.int .i64 h.spare)∧w.cell? ⟨g,4,none⟩=some (.int .i64 h.root)∧w.cell? ⟨g,5,none⟩=some (.int .u64 h.change)∧g<w.heap.size:=
 ⟨aa hb 0,aa hb 1,aa hb 2,aa hb 3,aa hb 4,aa hb 5,ab hb⟩
theorem Ar (a b c d e:Int) (w:World):(Instr.index 199 (.agg #[.int .i64 a,.int .i64 b,.int .i64 c,.int .i64 d,.int .i64 e]) (.int .i64 0)).run Tryz.prog w=.ok (.int .i64 a) w:=by kernel_rfl
theorem Aq (a b c d e:Int) (w:World):(Instr.index 199 (.agg #[.int .i64 a,.int .i64 b,.int .i64 c,.int .i64 d,.int .i64 e]) (.int .i64 1)).run Tryz.prog w=.ok (.int .i64 b) w:=by kernel_rfl
theorem Ap (a b c d e:Int) (w:World):(Instr.index 199 (.agg #[.int .i64 a,.int .i64 b,.int .i64 c,.int .i64 d,.int .i64 e]) (.int .i64 2)).run Tryz.prog w=.ok (.int .i64 c) w:=by kernel_rfl
theorem Ao (a b c d e:Int) (w:World):(Instr.index 199 (.agg #[.int .i64 a,.int .i64 b,.int .i64 c,.int .i64 d,.int .i64 e]) (.int .i64 3)).run Tryz.prog w=.ok (.int .i64 d) w:=by kernel_rfl
theorem Am (a b c d e:Int) (w:World):(Instr.index 199 (.agg #[.int .i64 a,.int .i64 b,.int .i64 c,.int .i64 d,.int .i64 e]) (.int .i64 4)).run Tryz.prog w=.ok (.int .i64 e) w:=by kernel_rfl
theorem iU (h:He) (w:World) (hg:h.Good):Calls Tryz.prog 110 #[fJ h] w fun e w'=>e=.returned (.tuple #[.string (aj (bh h)),.int .i64 0])∧Below w.heap.size w w':=by
 have HI:=hid (fun w=>uH h w hg);have HE:=hid (show (⟨#[99,97,104,105,101,114,48,49]⟩:ByteArray) ++ aj (aG 4 h.mode) ++ aj (aG 4 h.pages) ++ aj (aG 4 h.trunk) ++ aj (aG 4 h.spare) ++ aj (aG 4 h.root) ++ aj (aG 8 h.change) ++ aj (List.replicate 196 0)=aj (bh h) by
  apply ix;simp only [fo,aR,bh];rfl)
 obtain ⟨g1,g2,g3,g4,g5,g6,g7⟩:=hg;obtain ⟨m,p,t,s,r,c⟩:=h;simp only at g1 g2 g3 g4 g5 g6 g7 HE HI;have HF1:=hid (fun (w:World)=>bZ m w (by omega));have HF2:=hid (fun (w:World)=>bZ p w (by omega));have HF3:=hid (fun (w:World)=>bZ t w (by omega));have HF4:=hid (fun (w:World)=>bZ s w (by omega));have HF5:=hid (fun (w:World)=>bZ r w (by omega));have HF6:=hid (fun (w:World)=>show Calls Tryz.prog 165 #[.int .u64 c,.int .i64 8] w fun e w'=>e=.returned (.string (aj (aG 8 c)))∧Below w.heap.size w w' from eZ c 8 w g7 (by decide) (by decide));have HR:=hid (fun (w:World)=>dL 196 w (by decide));have u1:=iD (n:=m) (by omega);have u2:=iD (n:=p) (by omega);have u3:=iD (n:=t) (by omega);have u4:=iD (n:=s) (by omega);have u5:=iD (n:=r) (by omega);have y1:(aj (aG 4 m)).size=4:=by rw [aw,aq]
 have y2:(aj (aG 4 p)).size=4:=by rw [aw,aq]
 have y3:(aj (aG 4 t)).size=4:=by rw [aw,aq]
 have y4:(aj (aG 4 s)).size=4:=by rw [aw,aq]
 have y5:(aj (aG 4 r)).size=4:=by rw [aw,aq]
 have y6:(aj (aG 8 c)).size=8:=by rw [aw,aq]
 have y7:(aj (List.replicate 196 (0:UInt8))).size=196:=by rw [aw,List.length_replicate]
 clear g1 g2 g3 g4 g5 g6 g7;generalize aj (aG 4 m)=x1 at *;generalize aj (aG 4 p)=x2 at *;generalize aj (aG 4 t)=x3 at *;generalize aj (aG 4 s)=x4 at *;generalize aj (aG 4 r)=x5 at *;generalize aj (aG 8 c)=x6 at *;generalize aj (List.replicate 196 (0:UInt8))=x7 at *;generalize aj (bh ⟨m,p,t,s,r,c⟩)=xx at *;unfold fJ lN at HI ⊢;simp only at HI ⊢;go_enter Tryz.func110,Tryz.ntmps110;go_wp2_with fail;refine (HI.out _).mono ?_;rintro e w1 ⟨rfl,hb⟩;have HX1:=hid (aB (af (w0:=w) (o:=dP ⟨m,p,t,s,r,c⟩) rfl) hb);have HB1:=hid (((Below.refl w.heap.size w).alloc (Nat.le_refl _) (dP ⟨m,p,t,s,r,c⟩)).trans (hb.mono (by simp)));clear hb;obtain ⟨c0,c1,c2,c3,c4,c5,cl⟩:=du HX1.out;simp only at c0 c1 c2 c3 c4 c5;clear c0 c1 c2 c3 c4 c5 cl;obtain ⟨c0,c1,c2,c3,c4,c5,cl⟩:=du HX1.out;simp only at c0 c1 c2 c3 c4 c5;go_wp2_with fail;have z1:(⟨#[99,97,104,105,101,114,48,49]⟩:ByteArray).size=8:=rfl;generalize (⟨#[99,97,104,105,101,114,48,49]⟩:ByteArray)=s1 at *;have i0:=Ar;have i1:=Aq;have i2:=Ap;have i3:=Ao;have i4:=Am;refine wp_loop_rounds 6 ?_;rw [rounds_succ];go_wp2_with fail;refine (HF1.out w1).mono ?_;rintro e w2 ⟨rfl,hb⟩;have HB2:=hid (HB1.out.trans (hb.mono HB1.out.size));have HX2:=hid (aB HX1.out hb);have HS2:=hid (show s1 ++ x1=s1 ++ x1 from rfl);have z2:(s1 ++ x1).size=12:=by rw [ByteArray.size_append,z1,y1]
 generalize hs2:s1 ++ x1=s2 at *;clear HS2 hb;go_wp2_with fail;rw [rounds_succ];go_wp2_with fail;refine (HF2.out w2).mono ?_;rintro e w3 ⟨rfl,hb⟩;have HB3:=hid (HB2.out.trans (hb.mono HB2.out.size));have HX3:=hid (aB HX2.out hb);have HS3:=hid (show s2 ++ x2=s2 ++ x2 from rfl);have z3:(s2 ++ x2).size=16:=by rw [ByteArray.size_append,z2,y2]
 generalize hs3:s2 ++ x2=s3 at *;clear HS3 hb;go_wp2_with fail;rw [rounds_succ];go_wp2_with fail;refine (HF3.out w3).mono ?_;rintro e w4 ⟨rfl,hb⟩;have HB4:=hid (HB3.out.trans (hb.mono HB3.out.size));have HX4:=hid (aB HX3.out hb);have HS4:=hid (show s3 ++ x3=s3 ++ x3 from rfl);have z4:(s3 ++ x3).size=20:=by rw [ByteArray.size_append,z3,y3]
 generalize hs4:s3 ++ x3=s4 at *;clear HS4 hb;go_wp2_with fail;rw [rounds_succ];go_wp2_with fail;refine (HF4.out w4).mono ?_;rintro e w5 ⟨rfl,hb⟩;have HB5:=hid (HB4.out.trans (hb.mono HB4.out.size));have HX5:=hid (aB HX4.out hb);have HS5:=hid (show s4 ++ x4=s4 ++ x4 from rfl);have z5:(s4 ++ x4).size=24:=by rw [ByteArray.size_append,z4,y4]
 generalize hs5:s4 ++ x4=s5 at *;clear HS5 hb;go_wp2_with fail;rw [rounds_succ];go_wp2_with fail;refine (HF5.out w5).mono ?_;rintro e w6 ⟨rfl,hb⟩;have HB6:=hid (HB5.out.trans (hb.mono HB5.out.size));have HX6:=hid (aB HX5.out hb);have HS6:=hid (show s5 ++ x5=s5 ++ x5 from rfl);have z6:(s5 ++ x5).size=28:=by rw [ByteArray.size_append,z5,y5]
 generalize hs6:s5 ++ x5=s6 at *;clear HS6 hb;go_wp2_with fail;clear c0 c1 c2 c3 c4 c5 cl;obtain ⟨c0,c1,c2,c3,c4,c5,cl⟩:=du HX6.out;simp only at c0 c1 c2 c3 c4 c5;rw [rounds_succ];go_wp2_with fail;refine (HF6.out w6).mono ?_;rintro e w7 ⟨rfl,hb⟩;have HB7:=hid (HB6.out.trans (hb.mono HB6.out.size));have z7:(s6 ++ x6).size=36:=by rw [ByteArray.size_append,z6,y6]
 generalize hs7:s6 ++ x6=s7 at *;clear hb;go_wp2_with fail;refine (HR.out w7).mono ?_;rintro e w8 ⟨rfl,hb⟩;have HB8:=hid (HB7.out.trans (hb.mono HB7.out.size));clear hb;have z8:(s7 ++ x7).size=232:=by rw [ByteArray.size_append,z7,y7]
 go_wp2_with fail;go_ret2;exact ⟨by rw [← HE.out];rfl,HB8.out⟩
end Go.Proofs.YtdmhbgpejppbkaaGreat
namespace Go.Proofs.YtdmhbgpejppbkaaGreat
open Go.Lib (hid)
open Go.RowKit Go.Maps
abbrev aQ:By:=[106,111,117,114,110,97,108]
abbrev aA:By:=[100,97,116,97]
abbrev bf:By:=[108,111,103]
structure Jn where
 pages:Nat
 salt:Nat
 loose:Nat
 feet:Nat
 noted:List (Int × Bool)
structure Jn.Ok (j:Jn):Prop where
 pages:j.pages≤4096
 salt:j.salt<18446744073709551616
 loose:j.loose≤1000000
 feet:j.feet≤1000000
 noted:j.noted.length≤1000000
def BQ (gd gn:Nat) (j:Jn):Obj:=.cells #[ai gd,.int .i64 j.pages,.int .u64 j.salt,.map (some gn),.int .i64 j.loose,.int .i64 j.feet] 235 (0,0)
def BJ (v:Value):Option (DataW Unit × List MemPlace):=match v with
 | .bool b=>some (.lit (.bool b),[])
 | _=>none
theorem qQ {v:Value} {b:Bool} {ps:List MemPlace} (h:BJ v=some (.lit (.bool b),ps)):v=.bool b:=by
 unfold BJ at h
 split at h
 ·simp only [Option.some.injEq,Prod.mk.injEq,DataW.lit.injEq,Lit.bool.injEq] at h;rw [h.1]
 ·cases h
def ny (n:Int):Value:=.int .i64 n
def BT (b:Bool):DataW Unit:=.lit (.bool b)
def BS (b:Bool):Value:=.bool b
theorem Cc:MpT gE 233 3 4 cq ny BT BS (.bool false) BJ where
 law:=bY
 und:=Tryz.underlying233
 key:=fun _ h=>dY h
 inj:=fun a b h=>by injection h
 lit:=fun _=>trivial
 rel:=fun b=>rfl
 inv:=fun v b ps h=>qQ h
 zero:=fun w=>by kernel_rfl
 zrel:=⟨BT false,rfl,fun v ps h=>qQ h⟩
abbrev Cl (w:World) (gn:Nat) (K:List (Int × Bool)):Prop:=MpIs 3 BJ cq BT w gn K
structure JnIs (w:World) (gd gj gn:Nat) (j:Jn):Prop where
 ok:j.Ok
 blk:w.heap[gj]?=some (BQ gd gn j)
 map:Cl w gn j.noted
 ne:gj≠gn
theorem JnIs.ch {S:Nat→Prop} {w w':World} {gd gj gn:Nat} {j:Jn} (h:JnIs w gd gj gn j) (hc:Ch S w w') (h1:¬ S gj) (h2:¬ S gn):JnIs w' gd gj gn j:=
 ⟨h.ok,hc.keep h.blk h1,h.map.ch hc h2,h.ne⟩
theorem fO {w:World} {g gd gn:Nat} {j:Jn} (hb:w.heap[g]?=some (BQ gd gn j)):w.cell? ⟨g,0,none⟩=some (ai gd)∧w.cell? ⟨g,1,none⟩=some (.int .i64 j.pages)∧w.cell? ⟨g,2,none⟩=some (.int .u64 j.salt)∧w.cell? ⟨g,3,none⟩=some (.map (some gn))∧w.cell? ⟨g,4,none⟩=some (.int .i64 j.loose)∧w.cell? ⟨g,5,none⟩=some (.int .i64 j.feet)∧g<w.heap.size∧∀ k,w.frozen? ⟨g,k,none⟩=false:=
 ⟨aa hb 0,aa hb 1,aa hb 2,aa hb 3,aa hb 4,aa hb 5,ab hb,ah hb⟩
def bB (p f:Nat):By:=aG 4 p ++ aG 4 f ++ List.replicate 224 0
theorem eY (p f:Nat):(bB p f).length=232:=by unfold bB;rw [List.length_append,List.length_append,aq,aq,List.length_replicate]
theorem bw {k n m:Nat} {b:By} (hb:b.length=232):(aI k n m b).length=256:=by simp [aI,di,aq,hb]
theorem lU (p f:Nat) (w:World) (hp:p≤4096) (hf:f≤1000000):Calls Tryz.prog 223 #[.int .i64 p,.int .i64 f] w fun e w'=>e=.returned (.string (aj (bB p f)))∧Below w.heap.size w w':=by
 have HE:=hid (show aj (aG 4 p) ++ aj (aG 4 f) ++ aj (List.replicate 224 0)=aj (bB p f) by
  apply ix;simp only [fo,aR,bB])
 have HF1:=hid (fun (w:World)=>bZ p w (by omega));have HF2:=hid (fun (w:World)=>bZ f w (by omega));have HR:=hid (fun (w:World)=>dL 224 w (by decide));have u1:=iD (n:=p) (by omega);have u2:IntKind.u64.wrap (f:Int)=(f:Int):=IntWalk.u64_in _ (by omega);have y1:(aj (aG 4 p)).size=4:=by rw [aw,aq]
 have y2:(aj (aG 4 f)).size=4:=by rw [aw,aq]
 have y7:(aj (List.replicate 224 (0:UInt8))).size=224:=by rw [aw,List.length_replicate]
 clear hp hf;generalize aj (aG 4 p)=x1 at *;generalize aj (aG 4 f)=x2 at *;generalize aj (List.replicate 224 (0:UInt8))=x7 at *;generalize aj (bB p f)=xx at *;go_enter Tryz.func223,Tryz.ntmps223;go_wp2_with fail;refine (HF1.out w).mono ?_;rintro e w0 ⟨rfl,hb0⟩;have HB0:=hid hb0;clear hb0;go_wp2_with fail;refine (HF2.out w0).mono ?_;rintro e w1 ⟨rfl,hb1⟩;have HB1:=hid (HB0.out.trans (hb1.mono HB0.out.size));have z1:(x1 ++ x2).size=8:=by rw [ByteArray.size_append,y1,y2]
 clear hb1 HF1 HF2;go_wp2_with fail;refine (HR.out w1).mono ?_;rintro e w2 ⟨rfl,hb2⟩;have HB2:=hid (HB1.out.trans (hb2.mono HB1.out.size));go_wp2_with fail;go_ret;exact ⟨by rw [← HE.out];rfl,HB2.out⟩
theorem nr (w:World) {L:DkM} {d:Dk} (h:DkIs w L d) (hf:d.Fine):
  Calls Tryz.prog 152 #[ai L.gd] w fun e w'=>e=.returned (.int .i64 0)∧∃ L',L'.gd=L.gd∧DkIs w' L' (d.del aQ)∧(∀ k,L'.F k→L.F k∨w.heap.size≤k)∧Ch L.F w w':=by
 have HS:=hid (bp aQ (by decide) w h);have HD:=hid (qJ aQ (by decide) w h);have HH:=hid h;unfold ai cZ at *;cases hj:d.file aQ with
 | none=>
   have hs:=Dk.size_none hj;have HE:=hid (show d.del aQ=d by
    unfold Dk.del;rw [jQ fun hm=>by have:=cC (K:=d.files) (a:=aQ);unfold Dk.file at hj;rw [hj] at this;simp at this hm;obtain ⟨x,hx⟩:=hm;exact this _ hx])
   rw [hs] at HS;clear h hf hj hs;go_enter Tryz.func152,Tryz.ntmps152;go_wp2_with fail;refine HS.out.mono ?_;rintro e w' ⟨rfl,rfl⟩;go_wp2_with fail;go_ret;exact ⟨rfl,L,rfl,by rw [HE.out];exact HH.out,fun k hk=>.inl hk,Ch.refl _ _⟩
 | some f=>
   have hs:=Dk.size_some hj;obtain ⟨e1,e2⟩:=hf.dr (n:=aQ) (by decide) hj;rw [hs] at HS;rw [e1,e2] at HD;have hl:(0:Int)≤(f.now.length:Int):=by omega
   generalize (f.now.length:Int)=n at *;clear h hf hj hs e1 e2;go_enter Tryz.func152,Tryz.ntmps152;go_wp2_with fail;refine HS.out.mono ?_;rintro e w' ⟨rfl,rfl⟩;go_wp2_with fail;refine HD.out.mono ?_;rintro e w' ⟨rfl,hr⟩;have HR:=hid hr;clear hr;go_wp2_with fail;go_ret;exact ⟨rfl,HR.out⟩
theorem sk (p m:Nat) (w:World) {L:DkM} {d:Dk} (h:DkIs w L d) (hf:d.file aQ=none) (hp:p≤4096) (hm:m<18446744073709551616):
  Calls Tryz.prog 201 #[ai L.gd,.int .i64 p,.int .u64 m] w fun e w'=>∃ gj gn,e=.returned (.tuple #[ai gj,.int .i64 0])∧JnIs w' L.gd gj gn ⟨p,m,0,0,[]⟩∧w.heap.size≤gj∧w.heap.size≤gn∧Below w.heap.size w w':=by
 have HS:=hid (bp aQ (by decide) w h);rw [Dk.size_none hf] at HS;have HM:=hid hm;have hp1:(p:Int)≤4096:=by omega
 have hp0:(0:Int)≤(p:Int):=by omega
 have HP:=hid hp;have hmm:=@run_makeMap Tryz.prog;have h0:(w.alloc (.map #[] 0)).heap.size=w.heap.size+1:=by simp
 unfold ai cZ at *;clear h hf hm hp;go_enter Tryz.func201,Tryz.ntmps201;go_wp2_with fail;refine HS.out.mono ?_;rintro e w' ⟨rfl,rfl⟩;go_wp2_with fail;go_ret2;refine ⟨w.heap.size+1,w.heap.size,rfl,⟨⟨HP.out,HM.out,by simp,by simp,by simp⟩,?_,?_,by omega⟩,by omega,by omega,?_⟩
 ·exact af h0.symm
 ·exact (MpIs.made (kt:=3) (R:=BJ) (kl:=cq) (vd:=BT) w).ch (S:=fun _=>False) ((Ch.refl _ _).alloc (BQ L.gd w.heap.size ⟨p,m,0,0,[]⟩)) id
 ·exact ((Below.refl _ w).alloc (Nat.le_refl _) (.map #[] 0)).alloc (by simp) (BQ L.gd w.heap.size ⟨p,m,0,0,[]⟩)
end Go.Proofs.YtdmhbgpejppbkaaGreat
