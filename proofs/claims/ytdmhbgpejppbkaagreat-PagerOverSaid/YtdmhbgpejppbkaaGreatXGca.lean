/- A pager behind a loss of power; one pager and its disk. PagerOver's walk. -/
import Derived.Test.YtdmhbgpejppbkaaGreatXGbv
import Derived.Test.YtdmhbgpejppbkaaGreatXGbg
import Derived.Test.YtdmhbgpejppbkaaGreatXGbw
import Derived.Test.YtdmhbgpejppbkaaGreatXGaz
import Derived.Test.YtdmhbgpejppbkaaGreatXGbx
set_option maxRecDepth 100000
set_option maxHeartbeats 4000000
namespace Go.Proofs.YtdmhbgpejppbkaaGreat
open Go.Lib (hid)
open Go.RowKit Go.Maps
def Kd (g:Nat) (P:Pgr):Prop:=P.d.life≠P.life∧P.gd=g
theorem Kd.to {w w':World} {L:PgL} {P:Pgr} {g:Nat} (h:Kd g P) (ht:PTo w L { P with over:=true } w'):GTo w L (Kd g) w':=⟨{ P with over:=true },h,ht⟩
theorem uY (x:Ac) (hk:1≤x.kind∧x.kind≤14) (f:Value) (w:World) {L:PgL} {P:Pgr} {g:Nat} (h:PgIs w L P) (hd:Kd g P):
  Calls Tryz.prog 12 #[ai L.gp,.agg (x.cells f)] w fun e w'=>e=.returned (fR [] 0 10)∧GTo w L (Kd g) w':=by
 have hdd:P.over=true∨P.d.down=true∨P.d.life≠P.life:=.inr (.inr hd.1);by_cases h1:x.kind=1
 ·exact nR x f h1 w (K:=Kd g) [] 10 h fun w1 p1=>(mY x.n w1 p1 hdd).mono fun _ _ ⟨e,ht⟩=>⟨e,hd.to ht⟩
 by_cases h2:x.kind=2
 ·exact nQ x f h2 w (K:=Kd g) 10 h fun w1 p1=>(ul x.n (aj x.put) w1 p1 hdd).mono fun _ _ ⟨e,ht⟩=>⟨e,hd.to ht⟩
 by_cases h3:x.kind=3
 ·exact nP x f h3 w (K:=Kd g) 0 10 h fun w1 p1=>(un w1 p1 hdd).mono fun _ _ ⟨e,ht⟩=>⟨e,hd.to ht⟩
 by_cases h4:x.kind=4
 ·exact nO x f h4 w (K:=Kd g) 10 h fun w1 p1=>(rT x.n w1 p1 hdd).mono fun _ _ ⟨e,ht⟩=>⟨e,hd.to ht⟩
 by_cases h5:x.kind=5
 ·exact nN x f h5 w (K:=Kd g) 10 h fun w1 p1=>(rL x.n w1 p1 hdd).mono fun _ _ ⟨e,ht⟩=>⟨e,hd.to ht⟩
 by_cases h6:x.kind=6
 ·exact nM x f h6 w (K:=Kd g) 10 h fun w1 p1=>(pX w1 p1 hdd).mono fun _ _ ⟨e,ht⟩=>⟨e,hd.to ht⟩
 by_cases h7:x.kind=7
 ·exact nL x f h7 w (K:=Kd g) 10 h fun w1 p1=>(qb w1 p1 hdd).mono fun _ _ ⟨e,ht⟩=>⟨e,hd.to ht⟩
 by_cases h8:x.kind=8
 ·exact nK x f h8 w (K:=Kd g) 10 h fun w1 p1=>(oH w1 p1 hdd).mono fun _ _ ⟨e,ht⟩=>⟨e,hd.to ht⟩
 by_cases h9:x.kind=9
 ·exact nJ x f h9 w (K:=Kd g) 10 h fun w1 p1=>(kV w1 p1 hdd).mono fun _ _ ⟨e,ht⟩=>⟨e,hd.to ht⟩
 by_cases h10:x.kind=10
 ·exact mc x f h10 w (K:=Kd g) 10 h fun w1 p1=>(rI w1 p1 hdd).mono fun _ _ ⟨e,ht⟩=>⟨e,hd.to ht⟩
 by_cases h11:x.kind=11
 ·exact ma x f h11 w (K:=Kd g) 10 h fun w1 p1=>(rY x.n w1 p1 hdd).mono fun _ _ ⟨e,ht⟩=>⟨e,hd.to ht⟩
 by_cases h12:x.kind=12
 ·exact lZ x f h12 w (K:=Kd g) 10 h fun w1 p1=>(mC x.n w1 p1 hdd).mono fun _ _ ⟨e,ht⟩=>⟨e,hd.to ht⟩
 by_cases h13:x.kind=13
 ·exact lY x f h13 w (K:=Kd g) 10 h fun w1 p1=>(rR x.n w1 p1 hdd).mono fun _ _ ⟨e,ht⟩=>⟨e,hd.to ht⟩
 by_cases h14:x.kind=14
 ·exact lX x f h14 w (K:=Kd g) 10 h fun w1 p1=>(jB w1 p1 hdd).mono fun _ _ ⟨e,ht⟩=>⟨e,hd.to ht⟩
 omega
theorem vY (d:Dk) (n:By):(d.on1 n).life=d.life:=by
 unfold Dk.on1
 split
 ·rfl
 ·split <;> rfl
theorem qh:∀ (l:List By) (d:Dk),(d.ons l).life=d.life
 | [],_=>rfl
 | n :: l,d=>by
   show ((d.on1 n).ons l).life=_;rw [qh l,vY]
theorem vW (d:Dk) (l:List By):(d.onL l).life=d.life:=by
 unfold Dk.onL
 split
 ·rw [qh]
 ·rfl
def One (w:World) (gp:Nat) (wr:World) (K:Pgr→Prop):Prop:=∃ L P,L.gp=gp∧PgIs wr L P∧K P∧(∀ k,L.F k→w.heap.size≤k)∧Below w.heap.size w wr
section
variable {w wr w':World} {gp g:Nat} {K K':Pgr→Prop} {A:Ab} {t:Nat}
theorem One.bel (h:One w gp wr K):Below w.heap.size w wr:=let ⟨_,_,_,_,_,_,b⟩:=h;b
theorem One.below (h:One w gp wr K) (hb:Below wr.heap.size wr w'):One w gp w' K:=by obtain ⟨L,P,e,p,k,f,b⟩:=h;exact ⟨L,P,e,p.below hb,k,f,b.trans (hb.mono b.size)⟩
theorem One.call (h:One w gp wr K) {F:Nat} {args:Array Value} {v:Value} (hc:∀ L P,L.gp=gp→PgIs wr L P→K P→Calls Tryz.prog F args wr fun e w'=>e=.returned v∧GTo wr L K' w'):
  Calls Tryz.prog F args wr fun e w'=>e=.returned v∧One w gp w' K':=by
 obtain ⟨L,P,e,p,k,f,b⟩:=h;refine (hc L P e p k).mono ?_;rintro _ w1 ⟨rfl,P1,k1,L1,e1,e2,e3,e4⟩;refine ⟨rfl,L1,P1,e1.trans e,e2,k1,fun j hj=>?_,b.trans (e4.below b.size f)⟩;rcases e3 j hj with h3 | h3
 ·exact f j h3
 ·exact Nat.le_trans b.size h3
theorem One.does (h:One w gp wr fun P=>Rz P A t) (x:Ac) (f:Value) (ht:t≤74):
  Calls Tryz.prog 12 #[.pointer (some ⟨gp,0,none⟩),.agg (x.cells f)] wr fun e w2=>e=.returned (zv (A.said x))∧One w gp w2 fun P=>Rz P (A.step x) (t+1):=
 h.call fun L P e p r=>by rw [← e];exact nI x f wr p r ht
theorem One.doesD (h:One w gp wr (Kd g)) (x:Ac) (hk:1≤x.kind∧x.kind≤14) (f:Value):
  Calls Tryz.prog 12 #[.pointer (some ⟨gp,0,none⟩),.agg (x.cells f)] wr fun e w2=>e=.returned (fR [] 0 10)∧One w gp w2 (Kd g):=
 h.call fun L P e p r=>by rw [← e];exact uY x hk f wr p r
theorem One.ready (h:One w gp wr (Kd g)):Calls Tryz.prog 17 #[.pointer (some ⟨gp,0,none⟩)] wr fun e w2=>e=.returned (.int .i64 10)∧One w gp w2 (Kd g):=
 h.call fun L P e p r=>by
  rw [← e];exact (pZ wr p (.inr (.inr r.1))).mono fun _ _ ⟨e,ht⟩=>⟨e,r.to ht⟩
theorem One.off {l:Int} (h:One w gp wr fun P=>Rz P A t) (hA:A.gd=(g,l)) (hl:l<1000000):
  Calls Tryz.prog 15 #[.pointer (some ⟨g,0,none⟩)] wr fun e w2=>e=.returned (.tuple #[])∧One w gp w2 (Kd g):=
 h.call fun L P e p r=>by
  have hg:=r.gd;rw [hA] at hg;injection hg with hg1 hg2
  have hu:=r.up;have e0:L.D.gd=g:=p.gd.trans hg1;have h0:=td wr p.dk (by rw [hu.life,hg2];exact hl);rw [e0] at h0;refine h0.mono ?_;rintro _ w2 ⟨he,hd,hc⟩;refine ⟨he,{ P with d:=P.d.off },⟨?_,hg1⟩,PTo.dk p ⟨L.D,rfl,hd,fun _ hk=>.inl hk,hc.mono fun k _ ek=>.inl (ek.trans e0.symm)⟩⟩;show (if P.d.down then P.d.life else P.d.life+1)≠P.life;rw [hu.down,hu.life];simp only [Bool.false_eq_true,if_false];omega
theorem One.on (h:One w gp wr (Kd g)):Calls Tryz.prog 16 #[.pointer (some ⟨g,0,none⟩),.slice none 0 0] wr fun e w2=>e=.returned (.tuple #[])∧One w gp w2 (Kd g):=
 h.call fun L P e p r=>by
  have e0:L.D.gd=g:=p.gd.trans r.2;have h0:=vV wr p.dk;rw [e0] at h0;refine h0.mono ?_;rintro _ w2 ⟨he,hto⟩;exact ⟨he,{ P with d:=P.d.onL (iE (P.d.files.map (·.1))) },⟨by rw [show ({ P with d:=P.d.onL (iE (P.d.files.map (·.1))) }:Pgr).d=P.d.onL (iE (P.d.files.map (·.1))) from rfl,vW];exact r.1,r.2⟩,PTo.dk p hto⟩
end
theorem yM (A:Ab) (x:Ac):(A.step x).gd=A.gd:=by have h:=wQ A A.gd x;have e:A.setG A.gd=A:=rfl;rw [e] at h;rw [h];rfl
theorem kd (v:Value) (w:World):Calls Tryz.prog 53 #[.pointer none,v] w fun e w'=>e=.returned (.int .i64 2)∧Below w.heap.size w w':=by go_enter Tryz.func53,Tryz.ntmps53;go_wp2_with fail;go_ret;exact ⟨rfl,Below.refl _ _⟩
theorem ur (n:Int) (w:World):Calls Tryz.prog 18 #[.pointer none,.int .i64 n] w fun e w'=>e=.returned (.tuple #[.string ⟨#[]⟩,.int .i64 2])∧Below w.heap.size w w':=by have HB:=hid (kd (.slice none 0 0));go_enter Tryz.func18,Tryz.ntmps18;go_wp2_with fail;refine (HB.out _).mono ?_;rintro e w1 ⟨rfl,hb⟩;have HX:=hid hb;clear hb;go_wp2_with fail;go_ret2;exact ⟨rfl,HX.out⟩
theorem qa (w:World):Calls Tryz.prog 19 #[.pointer none] w fun e w'=>e=.returned (.int .i64 2)∧Below w.heap.size w w':=by have hA:Below w.heap.size w (w.alloc (.cells #[.bool false] 4)):=(Below.refl _ w).alloc (Nat.le_refl _) _;have HA:=hid hA;have HB:=hid (kd (.slice (some ⟨w.heap.size,0,none⟩) 1 1));clear hA;go_enter Tryz.func19,Tryz.ntmps19;go_wp2_with fail;refine (HB.out _).mono ?_;rintro e w1 ⟨rfl,hb⟩;have HX:=hid (HA.out.trans (hb.mono HA.out.size));clear hb;go_wp2_with fail;go_ret;exact ⟨rfl,HX.out⟩
theorem rU (w:World):Calls Tryz.prog 20 #[.pointer none] w fun e w'=>e=.returned (.bool false)∧w=w':=by go_enter Tryz.func20,Tryz.ntmps20;go_wp2_with fail;go_ret;exact ⟨rfl,rfl⟩
end Go.Proofs.YtdmhbgpejppbkaaGreat
namespace Go.Proofs.YtdmhbgpejppbkaaGreat
open Go.Lib (hid)
open Go.RowKit Go.Maps
theorem Cb {w w2 w4:World} {D:DkM} {L:PgL} {a:Int} (h2:Below w.heap.size w w2) (hD:∀ k,D.F k→w.heap.size≤k) (p4:PgIs w4 L (Pgr.fresh (Dk.new 16384) a D.gd).empty) (f4:∀ k,L.F k→D.F k∨w2.heap.size≤k) (c4:Ch D.F w2 w4):One w L.gp w4 fun P=>Rz P (A0 (D.gd,0)) 0:=
 ⟨L,_,rfl,p4,BZ p4,fun k hk=>(f4 k hk).elim (hD k) fun h=>Nat.le_trans h2.size h,h2.trans (c4.below h2.size hD)⟩
theorem yf (s:ByteArray) (a b:Int) (w:World):(Instr.field 34 (.agg #[.string s,.int .i64 a,.int .i64 b]) 2).run Tryz.prog w=.ok (.int .i64 b) w:=by kernel_rfl
def OvR (w:World) (gp g:Nat) (n:Nat) (iv:Value) (wr:World):Prop:=∃ k:Nat,k≤n∧k≤70∧iv=.int .i64 k∧One w gp wr (Kd g)
theorem rx (a:Int) (v v2:Value) (xs ys:List (Ac × Value)) (w:World) (hv:Sl zG 5 w v xs) (hl:xs.length≤9223372036854775807) (hf:∀ p ∈ xs,∃ s l c,p.2=Value.slice s l c) (hv2:Sl zG 5 w v2 ys) (hl2:ys.length≤9223372036854775807) (hf2:∀ p ∈ ys,∃ s l c,p.2=Value.slice s l c):
  Calls Tryz.prog 5 #[.int .i64 a,v,v2] w fun e w'=>e=.returned (.bool true)∧Below w.heap.size w w':=by
 have HV:=hid hv;have HL:=hid hl;have HFS:=hid hf;have HV2:=hid hv2;have HL2:=hid hl2;have HFS2:=hid hf2;obtain ⟨A,c,rfl⟩:=Sl.len' hv;obtain ⟨A2,c2,rfl⟩:=Sl.len' hv2;clear hv hl hf hv2 hl2 hf2;go_enter Tryz.func5,Tryz.ntmps5;go_wp2_with fail;refine (jU w).mono ?_;rintro e w1 ⟨rfl,hb1⟩;have HB1:=hid hb1;clear hb1;go_wp2_with fail;refine (fg 16384 w1).mono ?_;rintro e w2 ⟨D,rfl,hd,hF,hb⟩;have HOP:=hid (dC a w2 hd rfl rfl);have HB2:=hid (And.intro (HB1.out.trans (hb.mono HB1.out.size)) fun k (hk:D.F k)=>Nat.le_trans HB1.out.size (hF k hk));unfold ai at HOP;clear hd hF hb;go_wp2_with fail;refine HOP.out.mono ?_;rintro e w4 ⟨L,rfl,p4,f4,c4⟩;have HON:=hid (Cb HB2.out.1 HB2.out.2 p4 f4 c4);clear p4 f4 c4 HB2 HOP;generalize L.gp=gp at *;generalize D.gd=gd at *;go_wp2_with fail;go_loopw [10] (fun iv wr=>∃ k:Nat,k≤xs.length∧k≤70∧iv=.int .i64 k∧∃ B t,t≤k∧B.gd=(gd,0)∧One w gp wr fun P=>Rz P B t) (fun iv _=>70 - (intOf iv).toNat)
 case atStart=>exact ⟨0,Nat.zero_le _,by omega,rfl,A0 (gd,0),0,Nat.le_refl _,rfl,HON.out⟩
 case round=>
  obtain ⟨k,hk,hk7,rfl,B,t,htk,hgd,hone⟩:=hrel;have HR:=hid hone;have HTK:=hid (And.intro htk hgd);clear hone htk hgd;by_cases hgo:k<xs.length∧k<70
  ·obtain ⟨hkl,hk70⟩:=hgo;obtain ⟨b,off,c',he,hbl,hcells⟩:=HV.out.at1 hkl;injection he with he1 he2 he3
   subst he1 he3;have hk0:(0:Int)≤(k:Int):=by omega
   have hk1:(k:Int)<(xs.length:Int):=by omega
   have hk2:(k:Int)<70:=by omega
   have HK:=hid (And.intro hkl hk70);obtain ⟨fs,fl,fc,hfx⟩:=HFS.out _ (List.getElem_mem hkl);generalize xs[k]=xf at *;obtain ⟨x,f⟩:=xf;simp only at hfx;subst hfx;obtain ⟨xk,xn,xd,xs'⟩:=x;have HC0:=hid (show w.cell? ⟨b,off+k * 5,none⟩=some (.int .i64 xk)∧w.cell? ⟨b,off+k * 5+1,none⟩=some (.int .i64 xn)∧w.cell? ⟨b,off+k * 5+2,none⟩=some (.string (aj xd))∧w.cell? ⟨b,off+k * 5+3,none⟩=some (.bool xs')∧w.cell? ⟨b,off+k * 5+4,none⟩=some (.slice fs fl fc) from ⟨hcells 0 _ rfl,hcells 1 _ rfl,hcells 2 _ rfl,hcells 3 _ rfl,hcells 4 _ rfl⟩);have HBL:=hid hbl;have hbw:=HR.out.bel;have as0:wr.cell? ⟨b,off+k * 5,none⟩=some (.int .i64 xk):=(hbw.cell (p:=⟨b,off+k * 5,none⟩) HBL.out).trans HC0.out.1;have as1:wr.cell? ⟨b,off+k * 5+1,none⟩=some (.int .i64 xn):=(hbw.cell (p:=⟨b,off+k * 5+1,none⟩) HBL.out).trans HC0.out.2.1;have as2:wr.cell? ⟨b,off+k * 5+2,none⟩=some (.string (aj xd)):=(hbw.cell (p:=⟨b,off+k * 5+2,none⟩) HBL.out).trans HC0.out.2.2.1;have as3:wr.cell? ⟨b,off+k * 5+3,none⟩=some (.bool xs'):=(hbw.cell (p:=⟨b,off+k * 5+3,none⟩) HBL.out).trans HC0.out.2.2.2.1;have as4:wr.cell? ⟨b,off+k * 5+4,none⟩=some (.slice fs fl fc):=(hbw.cell (p:=⟨b,off+k * 5+4,none⟩) HBL.out).trans HC0.out.2.2.2.2;have hblw:b<wr.heap.size:=Nat.lt_of_lt_of_le hbl hbw.size;clear hcells hkl hk70 hk hk7 hbw;by_cases h15:xk=15
   ·subst h15;go_wp2_with fail;go_roundw
    case rel=>exact ⟨k+1,by have:=HK.out;omega,by have:=HK.out;omega,by go_num,B,t,by have:=HTK.out.1;omega,HTK.out.2,HR.out⟩
    case measure=>simp [intOf];omega
   ·have HD:=hid (HR.out.does ⟨xk,xn,xd,xs'⟩ (.slice fs fl fc) (by have:=HTK.out.1;have:=HK.out;omega));have HG:=hid ((yM B ⟨xk,xn,xd,xs'⟩).trans HTK.out.2);obtain ⟨rs,rn,re,hr⟩:∃ rs rn re,B.said ⟨xk,xn,xd,xs'⟩=(rs,rn,re):=⟨_,_,_,rfl⟩;rw [hr] at HD;unfold zv Ac.cells fR at HD;simp only at HD;clear hr;go_wp2_with fail;refine HD.out.mono ?_;rintro e w5 ⟨rfl,hp⟩;have HP:=hid hp;clear hp as0 as1 as2 as3 as4 hblw;go_wp2_with fail;go_roundw
    case rel=>exact ⟨k+1,by have:=HK.out;omega,by have:=HK.out;omega,by go_num,_,t+1,by have:=HTK.out.1;omega,HG.out,HP.out⟩
    case measure=>simp [intOf];omega
  ·have hx:k=xs.length∨(k=70∧(70:Int)<(xs.length:Int)):=by omega
   have HOF:=hid (HR.out.off HTK.out.2 (by decide));clear hk hk7 hgo;rcases hx with rfl | ⟨rfl,hk1⟩
   all_goals
    go_wp2_with fail;refine HOF.out.mono ?_;rintro e w5 ⟨rfl,hp⟩;have HP:=hid hp;clear hp;obtain ⟨wo,hwo⟩:∃ wo:World,wo=wr:=⟨_,rfl⟩;subst hwo;go_wp2_with fail;go_loopw [11] (fun iv wr=>OvR w gp gd ys.length iv wr) (fun iv _=>70 - (intOf iv).toNat)
    case atStart=>exact ⟨0,Nat.zero_le _,by omega,rfl,HP.out⟩
    case round=>
     obtain ⟨k,hk,hk7,rfl,hone⟩:=hrel;have HQ:=hid hone;clear hone;by_cases hgo:k<ys.length∧k<70
     ·obtain ⟨hkl,hk70⟩:=hgo;obtain ⟨b,off,c',he,hbl,hcells⟩:=HV2.out.at1 hkl;injection he with he1 he2 he3
      subst he1 he3;have hk0:(0:Int)≤(k:Int):=by omega
      have hk1:(k:Int)<(ys.length:Int):=by omega
      have hk2:(k:Int)<70:=by omega
      have HK:=hid (And.intro hkl hk70);obtain ⟨fs,fl,fc,hfx⟩:=HFS2.out _ (List.getElem_mem hkl);generalize ys[k]=xf at *;obtain ⟨x,f⟩:=xf;simp only at hfx;subst hfx;obtain ⟨xk,xn,xd,xs'⟩:=x;have HC0:=hid (show w.cell? ⟨b,off+k * 5,none⟩=some (.int .i64 xk)∧w.cell? ⟨b,off+k * 5+1,none⟩=some (.int .i64 xn)∧w.cell? ⟨b,off+k * 5+2,none⟩=some (.string (aj xd))∧w.cell? ⟨b,off+k * 5+3,none⟩=some (.bool xs')∧w.cell? ⟨b,off+k * 5+4,none⟩=some (.slice fs fl fc) from ⟨hcells 0 _ rfl,hcells 1 _ rfl,hcells 2 _ rfl,hcells 3 _ rfl,hcells 4 _ rfl⟩);have HBL:=hid hbl;clear hcells hkl hk70 hk hk7;go_upto_region 16 with fail
      go_cut [64] from 60 to 64 (fun cv wx=>(∃ b1,cv=.bool b1)∧wr=wx)
      case first=>
       go_wp2_with fail;go_meet
       case rel=>exact ⟨⟨_,rfl⟩,rfl⟩
      case rest=>
       obtain ⟨⟨b1,rfl⟩,rfl⟩:=hcut;go_upto_if 64 with fail
       go_cut [64] from 64 to 66 (fun _ wx=>One w gp wx (Kd gd))
       case first=>
        cases b1
        case false=>
         go_wp2_with fail;go_meet
         case rel=>exact HQ.out
        case true=>
         go_wp2_with fail;refine HQ.out.on.mono ?_;rintro e wy ⟨rfl,hp⟩;have HY:=hid hp;clear hp;go_wp2_with fail;go_meet
         case rel=>exact HY.out
       case rest=>
        have HZ:=hid hcut;clear hcut;have hbw:=HZ.out.bel;have as0:wc.cell? ⟨b,off+k * 5,none⟩=some (.int .i64 xk):=(hbw.cell (p:=⟨b,off+k * 5,none⟩) HBL.out).trans HC0.out.1;have as1:wc.cell? ⟨b,off+k * 5+1,none⟩=some (.int .i64 xn):=(hbw.cell (p:=⟨b,off+k * 5+1,none⟩) HBL.out).trans HC0.out.2.1;have as2:wc.cell? ⟨b,off+k * 5+2,none⟩=some (.string (aj xd)):=(hbw.cell (p:=⟨b,off+k * 5+2,none⟩) HBL.out).trans HC0.out.2.2.1;have as3:wc.cell? ⟨b,off+k * 5+3,none⟩=some (.bool xs'):=(hbw.cell (p:=⟨b,off+k * 5+3,none⟩) HBL.out).trans HC0.out.2.2.2.1;have as4:wc.cell? ⟨b,off+k * 5+4,none⟩=some (.slice fs fl fc):=(hbw.cell (p:=⟨b,off+k * 5+4,none⟩) HBL.out).trans HC0.out.2.2.2.2;have hblw:b<wc.heap.size:=Nat.lt_of_lt_of_le HBL.out hbw.size;clear hbw;have hcs:(xk<1∨14<xk)∨(1≤xk∧xk≤14):=by omega
        rcases hcs with hcs | ⟨hx1,hx14⟩
        case inr=>
         have HD:=hid (fun (w':World) (h:One w gp w' (Kd gd))=>h.doesD ⟨xk,xn,xd,xs'⟩ ⟨hx1,hx14⟩ (.slice fs fl fc));unfold Ac.cells fR at HD;simp only at HD;go_wp2_with fail;refine (HD.out _ HZ.out).mono ?_;rintro e w8 ⟨rfl,hp8⟩;have HP8:=hid hp8;have hsf:=yf (aj []) 0 10 w8;clear hp8;go_wp2_with fail;refine (HP8.out.ready).mono ?_;rintro e w9 ⟨rfl,hp9⟩;have HP9:=hid hp9;clear hp9 hsf as0 as1 as2 as3 as4 hblw;go_wp2_with fail;go_roundw
         case rel=>exact ⟨k+1,by have:=HK.out;omega,by have:=HK.out;omega,by go_num,HP9.out⟩
         case measure=>simp [intOf];omega
        case inl=>
         rcases hcs with hx | hx
         all_goals
          go_wp2_with fail;refine (HZ.out.ready).mono ?_;rintro e w8 ⟨rfl,hp8⟩;have HP8:=hid hp8;clear hp8 as0 as1 as2 as3 as4 hblw;go_wp2_with fail;go_roundw
          case rel=>exact ⟨k+1,by have:=HK.out;omega,by have:=HK.out;omega,by go_num,HP8.out⟩
          case measure=>simp [intOf];omega
     ·have hx:k=ys.length∨(k=70∧(70:Int)<(ys.length:Int)):=by omega
      clear hk hk7 hgo;rcases hx with rfl | ⟨rfl,hk1⟩
      all_goals
       go_wp2_with fail;refine HQ.out.on.mono ?_;rintro e w6 ⟨rfl,hp⟩;have HX:=hid hp;clear hp;go_wp2_with fail;refine (ur 1 w6).mono ?_;rintro e w7 ⟨rfl,hb7⟩;have HY:=hid (HX.out.below hb7);clear hb7;go_wp2_with fail;refine HY.out.ready.mono ?_;rintro e w8 ⟨rfl,hp⟩;have HZ:=hid hp;clear hp;go_wp2_with fail;refine (qa w8).mono ?_;rintro e w9 ⟨rfl,hb9⟩;have HW:=hid (HZ.out.below hb9);clear hb9;go_wp2_with fail;refine (rU w9).mono ?_;rintro e wf ⟨rfl,rfl⟩;go_wp2_with fail;go_ret;exact ⟨rfl,HW.out.bel⟩
end Go.Proofs.YtdmhbgpejppbkaaGreat
