/- Begin, Commit, Rollback whole. An act on a pager as it is seen from without; two pagers side by side. disk.On: plain. disk.On: a file's fate, all that waited lost. -/
import Derived.Test.YtdmhbgpejppbkaaGreatXGbt
import Derived.Test.YtdmhbgpejppbkaaGreatXGbu
import Derived.Test.YtdmhbgpejppbkaaGreatXGbp
import Derived.Test.YtdmhbgpejppbkaaGreatXGbi
import Derived.Test.YtdmhbgpejppbkaaGreatXGaz
import Derived.Test.YtdmhbgpejppbkaaGreatXGao
import Derived.Test.YtdmhbgpejppbkaaGreatXGan
import Derived.Test.YtdmhbgpejppbkaaGreatXShelf
set_option maxRecDepth 100000
namespace Go.Proofs.YtdmhbgpejppbkaaGreat
open Go.RowKit Go.Maps
theorem Rz.endedN {P:Pgr} {A:Ab} {t:Nat} (h:Rz P A t) (ht:t≤74) (hb:A.busy=true) (hw:A.wrote=false):Rz P.ended A.stop (t+1):=by
 have kc:=h.cm hb hw;have h0:=h.same ht;obtain ⟨N,B,u,sv,hN,hNt,hB⟩:=h.pg;have hbP:=h.busy.trans hb;have enow:A.now=A.W:=by unfold Ab.now;rw [hb];rfl
 have epgs:A.pgs=A.B:=by unfold Ab.pgs;rw [hb];rfl
 rw [enow,kc.W] at hN hB;rw [epgs] at hB;have hBC:∀ m:Nat,1≤m→m<A.H.pages→B m=A.C m:=fun m m1 m2=>(hB m m1 m2).trans (kc.B m m1 m2)
 have u0:=u.less hN;have uE:Uz P.ended A.C A.H.pages B:=by
  refine ⟨⟨u.up.over,u.up.lost,u.up.down,u.up.life⟩,u.s1,u.s2,⟨u.y.d,u0.y.core,?_,rfl,u.y.base,u.y.ch,u.y.lenB,u.y.lenC,fun _=>⟨kc.cl,rfl⟩⟩,u.fit,u0.N⟩;rcases u.y.md with ⟨its,hm⟩ | ⟨l,its,mk,hm⟩
  ·have e:=hm.jz.no kc.nt;subst e;have hz:=hm.jz;rw [kc.nt] at hz;refine .inl ⟨[],hm.lg,hm.nl,hz,rfl,hm.main,fun x hx m hxm hmb _=>hm.ca x hx m hxm hmb ?_,fun p hp=>(by cases hp),hm.ml,fun s hs=>absurd hs List.not_mem_nil,fun x=>absurd x (Nat.lt_irrefl 0)⟩;unfold Pgr.hasN;rw [kc.nt]
  ·have e1:=hm.mark hbP;have e2:=kc.lg l hm.lg;have e3:=hm.lz.len;have e4:mk=its.length:=by omega
   exact .inr ⟨l,its,mk,hm.lg,rfl,rfl,hm.lz,fun hx=>(by cases hx),fun _=>e4⟩
 have enow2:A.stop.now=A.H:=rfl;refine ⟨h0.head,rfl,fun hx=>(by cases hx),fun hx=>(by cases hx),h0.hok,fun hx=>(by cases hx),h0.bse,h0.hp,fun hx=>(by cases hx),h0.hc,fun hx=>(by cases hx),h0.md,h0.lgn,fun _=>⟨rfl,rfl,rfl⟩,fun a ha=>absurd ha List.not_mem_nil,⟨A.H.pages,B,uE,.nil,Nat.le_refl _,h0.hp,hBC⟩,h0.t,fun hx=>(by cases hx),h0.gd⟩
theorem Rz.setWork {P:Pgr} {A:Ab} {t:Nat} (h:Rz P A t) (hb:A.busy=false) (W:He):Rz { P with work:=W } A t:=by
 obtain ⟨N,B,u,sv,hN,hNt,hB⟩:=h.pg;have hbc:∀ {α:Prop},A.busy=true→α:=fun hx=>by rw [hb] at hx;cases hx
 exact ⟨h.head,h.busy,hbc,hbc,h.hok,hbc,h.bse,h.hp,hbc,h.hc,hbc,h.md,h.lgn,h.idle,h.svk,⟨N,B,u.setWork W P.wrote,sv,hN,hNt,hB⟩,h.t,hbc,h.gd⟩
section
variable {L:PgL} {P:Pgr} {A:Ab} {t:Nat}
def Ab.busyE (A:Ab):Int:=if A.busy then 0 else 40
def Ab.rollA (A:Ab):Ab:=if A.busy then A.stop else A
theorem kT (w:World) (h:PgIs w L P) (hs:Rz P A t) (ht:t≤74):
  Calls Tryz.prog 49 #[ai L.gp] w fun e w'=>e=.returned (.int .i64 A.busyE)∧RTo w L A.rollA (t+1) w':=by
 unfold Ab.busyE Ab.rollA;cases hb:A.busy
 ·simp only [Bool.false_eq_true,if_false];refine (kU w h hs.up (hs.busy.trans hb)).mono ?_;rintro e w1 ⟨rfl,hB⟩;exact ⟨rfl,(RTo.refl h hs ht).post hB⟩
 ·simp only [if_true];obtain ⟨Q,q1,q2,q3⟩:=hs.rolled ht hb;refine (mx w h hs.up (hs.busy.trans hb) q1 q2).mono ?_;rintro e w1 ⟨rfl,hp⟩;exact ⟨rfl,_,q3,hp⟩
def Ab.comE (A:Ab):Int:=if A.busy then (if A.wrote then (if A.W1.Fit then 0 else 50) else 0) else 40
def Ab.comA (A:Ab):Ab:=if A.busy then (if A.wrote then (if A.W1.Fit then A.com else A.stop) else A.stop) else A
theorem oG (w:World) (h:PgIs w L P) (hs:Rz P A t) (ht:t≤74):
  Calls Tryz.prog 36 #[ai L.gp] w fun e w'=>e=.returned (.int .i64 A.comE)∧RTo w L A.comA (t+1) w':=by
 unfold Ab.comE Ab.comA;cases hb:A.busy
 ·simp only [Bool.false_eq_true,if_false];refine (iM w h hs.up (hs.busy.trans hb)).mono ?_;rintro e w1 ⟨rfl,hB⟩;exact ⟨rfl,(RTo.refl h hs ht).post hB⟩
 ·have hbP:=hs.busy.trans hb;have hwr:=hs.wrote hb;cases hw:A.wrote
  ·simp only [Bool.false_eq_true,if_false,if_true];refine (oF w h hs.up hbP (hwr.trans hw)).mono ?_;rintro e w1 ⟨rfl,hp⟩;exact ⟨rfl,_,hs.endedN ht hb hw,hp⟩
  ·simp only [if_true];have hwk:=hs.work hb;have hwo:=hs.wok hb;have hwc:=hs.wc hb;have hhc:=hs.hc;have hmo:A.W.mode=1∨A.W.mode=2:=by
    rw [hwc.2];rcases hs.md with ⟨e,-⟩ | ⟨e,-⟩
    ·exact .inl e
    ·exact .inr e
   by_cases hf:A.W1.Fit
   ·rw [if_pos hf,if_pos hf];have hg:A.W1.Good:=wV hmo hwo.p2 hwo.t (by show A.W.change+1<_;omega) hf;obtain ⟨Q,hQ⟩:=hs.com hb ht hg;refine (oE w h hs.up hbP (hwr.trans hw) hQ.can).mono ?_;rintro e w1 ⟨rfl,hp⟩;exact ⟨rfl,_,hQ.r,hp⟩
   ·rw [if_neg hf,if_neg hf];obtain ⟨Q,q1,q2,q3⟩:=hs.rolled ht hb;have hbw:P.bump.work=A.W1:=by show ({ P.work with change:=P.work.change+1 }:He)=_;rw [hwk];rfl
    refine (oD w h hs.up hbP (hwr.trans hw) ⟨by rw [hwk];exact hmo,by rw [hwk];exact hwo.p2,by rw [hwk];exact hwo.t,by rw [hbw];exact hf,by rw [hwk];omega⟩ q1.bump q2).mono ?_;rintro e w1 ⟨rfl,hp⟩;exact ⟨rfl,_,q3.setWork rfl _,hp⟩
end
end Go.Proofs.YtdmhbgpejppbkaaGreat
namespace Go.Proofs.YtdmhbgpejppbkaaGreat
open Go.RowKit Go.Maps
def Ab.said (A:Ab) (x:Ac):By × Int × Int:=
 if x.kind=1 then (yq A.pgs A.now.pages x.n,0,yr A.now.pages x.n)
 else if x.kind=2 then ([],0,if A.busy then ta A.W.pages x.n x.put else 40)
 else if x.kind=3 then ([],if A.busy then A.tk.n else 0,if A.busy then A.tk.e else 40)
 else if x.kind=4 then ([],0,if A.busy then qF A x.n else 40)
 else if x.kind=5 then ([],0,if A.busy then uc A.W.pages x.n else 40)
 else if x.kind=6 then ([],0,A.busyE)
 else if x.kind=7 then ([],0,if A.busy then 40 else 0)
 else if x.kind=8 then ([],0,A.comE)
 else if x.kind=9 then ([],0,A.busyE)
 else if x.kind=10 then ([],0,A.saveE)
 else if x.kind=11 then ([],0,A.kE x.n)
 else if x.kind=12 then ([],0,A.kE x.n)
 else if x.kind=13 then ([],0,A.modE x.n)
 else if x.kind=14 then ([],0,A.ckE)
 else ([],0,0)
def Ab.step (A:Ab) (x:Ac):Ab:=
 if x.kind=1 then A
 else if x.kind=2 then (if A.busy then A.put x.n x.put else A)
 else if x.kind=3 then (if A.busy then A.new else A)
 else if x.kind=4 then (if A.busy then A.free x.n else A)
 else if x.kind=5 then (if A.busy then A.root x.n else A)
 else if x.kind=6 then (if A.busy then A.reset else A)
 else if x.kind=7 then (if A.busy then A else A.begin)
 else if x.kind=8 then A.comA
 else if x.kind=9 then A.rollA
 else if x.kind=10 then A.saveA
 else if x.kind=11 then A.backA x.n
 else if x.kind=12 then A.releaseA x.n
 else if x.kind=13 then A.modA x.n
 else A
def zv (r:By × Int × Int):Value:=fR r.1 r.2.1 r.2.2
theorem nI (x:Ac) (f:Value) (w:World) {L:PgL} {P:Pgr} {A:Ab} {t:Nat} (h:PgIs w L P) (hs:Rz P A t) (ht:t≤74):
  Calls Tryz.prog 12 #[ai L.gp,.agg (x.cells f)] w fun e w'=>e=.returned (zv (A.said x))∧RTo w L (A.step x) (t+1) w':=by
 by_cases h1:x.kind=1
 case pos=> rw [show A.said x=(yq A.pgs A.now.pages x.n,0,yr A.now.pages x.n) by unfold Ab.said;simp only [h1];rfl,show A.step x=A by unfold Ab.step;simp only [h1];rfl];exact nR x f h1 w (K:=fun P'=>Rz P' A (t+1)) _ _ h fun w1 p1=>vT x.n w1 p1 hs ht
 by_cases h2:x.kind=2
 case pos=>
  rw [show A.said x=([],0,if A.busy then ta A.W.pages x.n x.put else 40) by unfold Ab.said;simp only [h2];rfl,show A.step x=(if A.busy then A.put x.n x.put else A) by unfold Ab.step;simp only [h2];rfl];refine nQ x f h2 w (K:=fun P'=>Rz P' (if A.busy then A.put x.n x.put else A) (t+1)) _ h fun w1 p1=>?_
  cases hb:A.busy
  case false=> simp only [Bool.false_eq_true,if_false];refine (uk x.n (aj x.put) w1 p1 hs.up (hs.busy.trans hb)).mono ?_;rintro e w2 ⟨rfl,hB⟩;exact ⟨rfl,(RTo.refl p1 hs ht).post hB⟩
  case true=> simp only [if_true];exact vR x.n x.put w1 p1 hs hb ht
 by_cases h3:x.kind=3
 case pos=>
  rw [show A.said x=([],if A.busy then A.tk.n else 0,if A.busy then A.tk.e else 40) by unfold Ab.said;simp only [h3];rfl,show A.step x=(if A.busy then A.new else A) by unfold Ab.step;simp only [h3];rfl];refine nP x f h3 w (K:=fun P'=>Rz P' (if A.busy then A.new else A) (t+1)) _ _ h fun w1 p1=>?_
  cases hb:A.busy
  case false=> simp only [Bool.false_eq_true,if_false];refine (um w1 p1 hs.up (hs.busy.trans hb)).mono ?_;rintro e w2 ⟨rfl,hB⟩;exact ⟨rfl,(RTo.refl p1 hs ht).post hB⟩
  case true=> simp only [if_true];exact vS w1 p1 hs hb ht
 by_cases h4:x.kind=4
 case pos=>
  rw [show A.said x=([],0,if A.busy then qF A x.n else 40) by unfold Ab.said;simp only [h4];rfl,show A.step x=(if A.busy then A.free x.n else A) by unfold Ab.step;simp only [h4];rfl];refine nO x f h4 w (K:=fun P'=>Rz P' (if A.busy then A.free x.n else A) (t+1)) _ h fun w1 p1=>?_
  cases hb:A.busy
  case false=> simp only [Bool.false_eq_true,if_false];refine (rS x.n w1 p1 hs.up (hs.busy.trans hb)).mono ?_;rintro e w2 ⟨rfl,hB⟩;exact ⟨rfl,(RTo.refl p1 hs ht).post hB⟩
  case true=> simp only [if_true];exact us x.n w1 p1 hs hb ht
 by_cases h5:x.kind=5
 case pos=>
  rw [show A.said x=([],0,if A.busy then uc A.W.pages x.n else 40) by unfold Ab.said;simp only [h5];rfl,show A.step x=(if A.busy then A.root x.n else A) by unfold Ab.step;simp only [h5];rfl];refine nN x f h5 w (K:=fun P'=>Rz P' (if A.busy then A.root x.n else A) (t+1)) _ h fun w1 p1=>?_
  cases hb:A.busy
  case false=> simp only [Bool.false_eq_true,if_false];refine (rK x.n w1 p1 hs.up (hs.busy.trans hb)).mono ?_;rintro e w2 ⟨rfl,hB⟩;exact ⟨rfl,(RTo.refl p1 hs ht).post hB⟩
  case true=> simp only [if_true];exact uj x.n w1 p1 hs hb ht
 by_cases h6:x.kind=6
 case pos=>
  rw [show A.said x=([],0,A.busyE) by unfold Ab.said;simp only [h6];rfl,show A.step x=(if A.busy then A.reset else A) by unfold Ab.step;simp only [h6];rfl];refine nM x f h6 w (K:=fun P'=>Rz P' (if A.busy then A.reset else A) (t+1)) _ h fun w1 p1=>?_
  unfold Ab.busyE;cases hb:A.busy
  case false=> simp only [Bool.false_eq_true,if_false];refine (pW w1 p1 hs.up (hs.busy.trans hb)).mono ?_;rintro e w2 ⟨rfl,hB⟩;exact ⟨rfl,(RTo.refl p1 hs ht).post hB⟩
  case true=> simp only [if_true];exact pY w1 p1 hs hb ht
 by_cases h7:x.kind=7
 case pos=> rw [show A.said x=([],0,(if A.busy then 40 else 0)) by unfold Ab.said;simp only [h7];rfl,show A.step x=(if A.busy then A else A.begin) by unfold Ab.step;simp only [h7];rfl];exact nL x f h7 w (K:=fun P'=>Rz P' ((if A.busy then A else A.begin)) (t+1)) _ h fun w1 p1=>qd w1 p1 hs ht
 by_cases h8:x.kind=8
 case pos=> rw [show A.said x=([],0,A.comE) by unfold Ab.said;simp only [h8];rfl,show A.step x=A.comA by unfold Ab.step;simp only [h8];rfl];exact nK x f h8 w (K:=fun P'=>Rz P' (A.comA) (t+1)) _ h fun w1 p1=>oG w1 p1 hs ht
 by_cases h9:x.kind=9
 case pos=> rw [show A.said x=([],0,A.busyE) by unfold Ab.said;simp only [h9];rfl,show A.step x=A.rollA by unfold Ab.step;simp only [h9];rfl];exact nJ x f h9 w (K:=fun P'=>Rz P' (A.rollA) (t+1)) _ h fun w1 p1=>kT w1 p1 hs ht
 by_cases h10:x.kind=10
 case pos=> rw [show A.said x=([],0,A.saveE) by unfold Ab.said;simp only [h10];rfl,show A.step x=A.saveA by unfold Ab.step;simp only [h10];rfl];exact mc x f h10 w (K:=fun P'=>Rz P' (A.saveA) (t+1)) _ h fun w1 p1=>rG w1 p1 hs ht
 by_cases h11:x.kind=11
 case pos=> rw [show A.said x=([],0,A.kE x.n) by unfold Ab.said;simp only [h11];rfl,show A.step x=A.backA x.n by unfold Ab.step;simp only [h11];rfl];exact ma x f h11 w (K:=fun P'=>Rz P' (A.backA x.n) (t+1)) _ h fun w1 p1=>rW x.n w1 p1 hs ht
 by_cases h12:x.kind=12
 case pos=> rw [show A.said x=([],0,A.kE x.n) by unfold Ab.said;simp only [h12];rfl,show A.step x=A.releaseA x.n by unfold Ab.step;simp only [h12];rfl];exact lZ x f h12 w (K:=fun P'=>Rz P' (A.releaseA x.n) (t+1)) _ h fun w1 p1=>mA x.n w1 p1 hs ht
 by_cases h13:x.kind=13
 case pos=> rw [show A.said x=([],0,A.modE x.n) by unfold Ab.said;simp only [h13];rfl,show A.step x=A.modA x.n by unfold Ab.step;simp only [h13];rfl];exact lY x f h13 w (K:=fun P'=>Rz P' (A.modA x.n) (t+1)) _ h fun w1 p1=>kW x.n w1 p1 hs ht
 by_cases h14:x.kind=14
 case pos=> rw [show A.said x=([],0,A.ckE) by unfold Ab.said;simp only [h14];rfl,show A.step x=A by unfold Ab.step;simp only [h14];rfl];exact lX x f h14 w (K:=fun P'=>Rz P' (A) (t+1)) _ h fun w1 p1=>jy w1 p1 hs ht
 rw [show A.said x=([],0,0) by unfold Ab.said;simp only [h1,h2,h3,h4,h5,h6,h7,h8,h9,h10,h11,h12,h13,h14,if_false],show A.step x=A by unfold Ab.step;simp only [h1,h2,h3,h4,h5,h6,h7,h8,h9,h10,h11,h12,h13,if_false]];refine (uX x f (ai L.gp) ⟨h1,h2,h3,h4,h5,h6,h7,h8,h9,h10,h11,h12,h13,h14⟩ w).mono ?_;rintro e w2 ⟨rfl,hB⟩;exact ⟨rfl,(RTo.refl h hs ht).post hB⟩
def zG (p:Ac × Value):List Value:=[.int .i64 p.1.kind,.int .i64 p.1.n,.string (aj p.1.data),.bool p.1.short,p.2]
theorem zm (p:Ac × Value):(zG p).length=5:=rfl
def H0:He:=⟨1,1,0,0,0,0⟩
def A0 (gd:Nat × Int):Ab:=⟨H0,fun _=>bK,false,false,H0,fun _=>bK,[],gd⟩
theorem zq:H0.Good:=⟨.inl rfl,by decide,by decide,by decide,by decide,Iff.rfl,by decide⟩
theorem BZ {w:World} {L:PgL} {size:Int} {gd:Nat} (h:PgIs w L (Pgr.fresh (Dk.new 16384) size gd).empty):Rz (Pgr.fresh (Dk.new 16384) size gd).empty (A0 (gd,0)) 0:=by
 have hs:=oo size;have hbc:∀ {α:Prop},(A0 (gd,0)).busy=true→α:=fun hx=>by cases hx
 refine ⟨rfl,rfl,hbc,hbc,zq,hbc,.inr ⟨rfl,rfl⟩,Nat.le_refl 1,hbc,Nat.le_refl 0,hbc,.inl ⟨rfl,rfl⟩,Nat.zero_le _,fun _=>⟨rfl,rfl,rfl⟩,fun a ha=>absurd ha List.not_mem_nil,⟨1,fun _=>bK,?_,.nil,Nat.le_refl 1,by decide,fun m m1 m2=>?_⟩,by decide,hbc,rfl⟩
 ·refine ⟨⟨rfl,rfl,rfl,rfl⟩,hs.1,hs.2,⟨⟨h.dk.ok,⟨rfl,rfl⟩,rfl,fun p hp=>absurd hp List.not_mem_nil,Nat.zero_le _,Nat.zero_le _,Nat.zero_le _⟩,⟨List.nodup_nil,fun x hx=>absurd hx List.not_mem_nil,fun x hx=>absurd hx List.not_mem_nil,fun x hx=>absurd hx List.not_mem_nil,fun m m1 m2=>by omega⟩,.inl ⟨[],rfl,rfl,iS rfl,rfl,fun m m1 m2=>absurd m2 (Nat.not_lt_zero _),fun x hx=>absurd hx List.not_mem_nil,fun x hx=>absurd hx List.not_mem_nil,Nat.zero_le _,fun x hx=>absurd hx List.not_mem_nil,fun x=>absurd x (Nat.lt_irrefl 0)⟩,rfl,Nat.zero_le _,by show 0<1000;decide,fun _=>List.length_replicate,fun _=>List.length_replicate,fun _=>⟨fun x hx=>absurd hx List.not_mem_nil,rfl⟩⟩,?_,by decide⟩;have:=hs.1;show ((0:Nat):Int)≤xW size;omega
 ·have:m<1:=m2;omega
def Ab.setG (A:Ab) (g:Nat × Int):Ab:={ A with gd:=g }
section
variable (A:Ab) (g:Nat × Int)
theorem Ai (x:Ac):(A.setG g).said x=A.said x:=rfl
theorem BE:(A.setG g).new=A.new.setG g:=by
 unfold Ab.new;rw [show (A.setG g).tk=A.tk from rfl]
 split <;> rfl
theorem Ak (n:Int):(A.setG g).free n=(A.free n).setG g:=by
 unfold Ab.free;rw [show qF (A.setG g) n=qF A n from rfl]
 split <;> rfl
theorem BD (n:Int) (s:By):(A.setG g).put n s=(A.put n s).setG g:=by
 unfold Ab.put;rw [show (A.setG g).W.pages=A.W.pages from rfl]
 split <;> rfl
theorem Aj (n:Int):(A.setG g).root n=(A.root n).setG g:=by
 unfold Ab.root;rw [show (A.setG g).W.pages=A.W.pages from rfl]
 split <;> rfl
theorem eX {b:Bool} {X Y X' Y':Ab} (h1:X'=X.setG g) (h2:Y'=Y.setG g):(if b then X' else Y')=(if b then X else Y).setG g:=by
 cases b
 ·exact h2
 ·exact h1
theorem dv {p:Prop} [Decidable p] {X Y X' Y':Ab} (h1:X'=X.setG g) (h2:Y'=Y.setG g):(if p then X' else Y')=(if p then X else Y).setG g:=by
 split
 ·exact h1
 ·exact h2
theorem Al (k:Nat):(A.setG g).back k=(A.back k).setG g:=by unfold Ab.back;rw [show (A.setG g).S=A.S from rfl];cases A.S[k]? <;> rfl
theorem wQ (x:Ac):(A.setG g).step x=(A.step x).setG g:=by
 unfold Ab.step;refine dv g rfl (dv g (eX g (BD A g _ _) rfl) (dv g (eX g (BE A g) rfl) (dv g (eX g (Ak A g _) rfl) (dv g (eX g (Aj A g _) rfl) (dv g (eX g rfl rfl) (dv g (eX g rfl rfl) (dv g ?_ (dv g ?_ (dv g ?_ (dv g ?_ (dv g ?_ (dv g ?_ rfl))))))))))))
 ·exact eX g (eX g (dv g rfl rfl) rfl) rfl
 ·exact eX g rfl rfl
 ·exact eX g (dv g rfl rfl) rfl
 ·exact eX g (dv g rfl (Al A g _)) rfl
 ·exact eX g (dv g rfl rfl) rfl
 ·exact eX g rfl (dv g rfl (dv g rfl rfl))
end
def Par (w:World) (gp gq:Nat) (wr:World) (A A':Ab) (t t':Nat):Prop:=∃ L P L' P',L.gp=gp∧L'.gp=gq∧PgIs wr L P∧PgIs wr L' P'∧Rz P A t∧Rz P' A' t'∧(∀ k,L.F k→¬ L'.F k)∧(∀ k,L.F k→w.heap.size≤k)∧(∀ k,L'.F k→w.heap.size≤k)∧Below w.heap.size w wr
section
variable {w wr w':World} {gp gq:Nat} {A A' A1:Ab} {t t':Nat}
theorem Par.swap (h:Par w gp gq wr A A' t t'):Par w gq gp wr A' A t' t:=by obtain ⟨L,P,L',P',g,g',p,p',r,r',ap,f,f',b⟩:=h;exact ⟨L',P',L,P,g',g,p',p,r',r,fun k hk h2=>ap k h2 hk,f',f,b⟩
theorem Par.bel (h:Par w gp gq wr A A' t t'):Below w.heap.size w wr:=let ⟨_,_,_,_,_,_,_,_,_,_,_,_,_,b⟩:=h;b
theorem Par.below (h:Par w gp gq wr A A' t t') (hb:Below wr.heap.size wr w'):Par w gp gq w' A A' t t':=by obtain ⟨L,P,L',P',g,g',p,p',r,r',ap,f,f',b⟩:=h;exact ⟨L,P,L',P',g,g',p.below hb,p'.below hb,r,r',ap,f,f',b.trans (hb.mono b.size)⟩
theorem Par.call (h:Par w gp gq wr A A' t t') {F:Nat} {args:Array Value} {v:Value} (hc:∀ L P,L.gp=gp→PgIs wr L P→Rz P A t→Calls Tryz.prog F args wr fun e w'=>e=.returned v∧RTo wr L A1 (t+1) w'):
  Calls Tryz.prog F args wr fun e w'=>e=.returned v∧Par w gp gq w' A1 A' (t+1) t':=by
 obtain ⟨L,P,L',P',g,g',p,p',r,r',ap,f,f',b⟩:=h;refine (hc L P g p r).mono ?_;rintro e w1 ⟨rfl,P1,r1,L1,e1,e2,e3,e4⟩;refine ⟨rfl,L1,P1,L',P',e1.trans g,g',e2,p'.ch e4 fun k hk h2=>ap k h2 hk,r1,r',fun k hk h2=>?_,fun k hk=>?_,f',b.trans (e4.below b.size f)⟩
 ·rcases e3 k hk with h3 | h3
  ·exact ap k h3 h2
  ·have:=p'.lt h2;omega
 ·rcases e3 k hk with h3 | h3
  ·exact f k h3
  ·exact Nat.le_trans b.size h3
theorem Par.does (h:Par w gp gq wr A A' t t') (x:Ac) (f:Value) (ht:t≤74):
  Calls Tryz.prog 12 #[.pointer (some ⟨gp,0,none⟩),.agg (x.cells f)] wr fun e w2=>e=.returned (zv (A.said x))∧Par w gp gq w2 (A.step x) A' (t+1) t':=
 h.call fun L P g p r=>by rw [← g];exact nI x f wr p r ht
theorem Par.does2 (h:Par w gp gq wr A A' t t') (x:Ac) (f:Value) (ht:t'≤74):
  Calls Tryz.prog 12 #[.pointer (some ⟨gq,0,none⟩),.agg (x.cells f)] wr fun e w2=>e=.returned (zv (A'.said x))∧Par w gp gq w2 A (A'.step x) t (t'+1):=
 (h.swap.does x f ht).mono fun _ _ ⟨a,b⟩=>⟨a,b.swap⟩
theorem Par.head (h:Par w gp gq wr A A' t t'):Calls Tryz.prog 13 #[.pointer (some ⟨gp,0,none⟩)] wr fun e w2=>e=.returned (.agg #[.int .i64 A.now.mode,.int .i64 A.now.pages,.int .i64 A.now.trunk,.int .i64 A.now.spare,.int .i64 A.now.root,.int .u64 A.now.change])∧Below wr.heap.size wr w2∧Par w gp gq w2 A A' t t':=by have h0:=h;obtain ⟨L,P,L',P',g,g',p,p',r,r',ap,f,f',b⟩:=h;have hc:=mT wr p;rw [g,r.now] at hc;exact hc.mono fun _ _ ⟨a,b⟩=>⟨a,b,h0.below b⟩
theorem Par.head2 (h:Par w gp gq wr A A' t t'):Calls Tryz.prog 13 #[.pointer (some ⟨gq,0,none⟩)] wr fun e w2=>e=.returned (.agg #[.int .i64 A'.now.mode,.int .i64 A'.now.pages,.int .i64 A'.now.trunk,.int .i64 A'.now.spare,.int .i64 A'.now.root,.int .u64 A'.now.change])∧Below wr.heap.size wr w2∧Par w gp gq w2 A A' t t':=
 (h.swap.head).mono fun _ _ ⟨a,b,c⟩=>⟨a,b,c.swap⟩
theorem Par.does2g {g:Nat × Int} (h:Par w gp gq wr A (A'.setG g) t t') (x:Ac) (f:Value) (ht:t'≤74):
  Calls Tryz.prog 12 #[.pointer (some ⟨gq,0,none⟩),.agg (x.cells f)] wr fun e w2=>e=.returned (zv (A'.said x))∧Par w gp gq w2 A ((A'.step x).setG g) t (t'+1):=by
 have h1:=h.does2 x f ht;rw [Ai,wQ] at h1;exact h1
theorem Par.head2g {g:Nat × Int} (h:Par w gp gq wr A (A'.setG g) t t'):Calls Tryz.prog 13 #[.pointer (some ⟨gq,0,none⟩)] wr fun e w2=>e=.returned (.agg #[.int .i64 A'.now.mode,.int .i64 A'.now.pages,.int .i64 A'.now.trunk,.int .i64 A'.now.spare,.int .i64 A'.now.root,.int .u64 A'.now.change])∧Below wr.heap.size wr w2∧Par w gp gq w2 A (A'.setG g) t t':=h.head2
theorem Bq {w w2 w3 w4 w5:World} {D E:DkM} {L M:PgL} {a b:Int} (h2:Below w.heap.size w w2) (hD:∀ k,D.F k→w.heap.size≤k∧k<w2.heap.size) (h3:Below w2.heap.size w2 w3) (hE:∀ k,E.F k→w2.heap.size≤k∧k<w3.heap.size)
  (p4:PgIs w4 L (Pgr.fresh (Dk.new 16384) a D.gd).empty) (f4:∀ k,L.F k→D.F k∨w3.heap.size≤k) (c4:Ch D.F w3 w4) (p5:PgIs w5 M (Pgr.fresh (Dk.new 16384) b E.gd).empty) (f5:∀ k,M.F k→E.F k∨w4.heap.size≤k) (c5:Ch E.F w4 w5):Par w L.gp M.gp w5 (A0 (D.gd,0)) (A0 (E.gd,0)) 0 0:=by
 have s2:=h2.size;have s3:=h3.size;have s4:=c4.size
 have hap:∀ k,L.F k→¬ E.F k:=fun k hk he=>by
  have h1:=hE k he;rcases f4 k hk with h5 | h5
  ·have:=hD k h5;omega
  ·omega
 refine ⟨L,_,M,_,rfl,rfl,p4.ch c5 hap,p5,BZ p4,BZ p5,fun k hk hm=>?_,fun k hk=>?_,fun k hk=>?_,((h2.trans (h3.mono s2)).trans (c4.below (by omega) fun k hk=>(hD k hk).1)).trans (c5.below (by omega) fun k hk=>by have:=hE k hk;omega)⟩
 ·rcases f5 k hm with h5 | h5
  ·exact hap k hk h5
  ·have:=p4.lt hk;omega
 ·rcases f4 k hk with h5 | h5
  ·exact (hD k h5).1
  ·omega
 ·rcases f5 k hk with h5 | h5
  ·have:=hE k h5;omega
  ·omega
end
end Go.Proofs.YtdmhbgpejppbkaaGreat
namespace Go.Proofs.YtdmhbgpejppbkaaGreat
open Go.RowKit Go.Maps
def au (l:List (Option By)):List (Option By):=(l.reverse.dropWhile Option.isNone).reverse
theorem rh (l:List (Option By)):au (l ++ [none])=au l:=by simp [au]
theorem rg (l:List (Option By)) (x:By):au (l ++ [some x])=l ++ [some x]:=by simp [au]
theorem jm (l:List (Option By)):(au l).length≤l.length:=by unfold au;rw [List.length_reverse];have:=(List.dropWhile_sublist (p:=Option.isNone) (l:=l.reverse)).length_le;rw [List.length_reverse] at this;exact this
theorem mM {l:List (Option By)} {x:Option By} (h:x ∈ au l):x ∈ l:=by unfold au at h;rw [List.mem_reverse] at h;exact List.mem_reverse.1 ((List.dropWhile_sublist _).mem h)
def ki (o:Option By):Option By:=some (o.getD zeroS)
def Fi.fate (f:Fi):Fi:=⟨(au f.safe).map (·.getD zeroS),(au f.safe).map ki,List.replicate (au f.safe).length false,f.sure⟩
theorem oY {f:Fi} (h:f.Ok):f.fate.Ok:=by
 have h2:=h.ssec;have h1:=h.ls;have h3:=h.n;have h4:=jm f.safe;refine ⟨by simp [Fi.fate],by simp [Fi.fate],fun s hs=>?_,by simp [Fi.fate];omega,fun s hs=>?_⟩
 ·obtain ⟨o,ho,rfl⟩:=List.mem_map.1 hs;cases o with
  | none=>exact List.length_replicate
  | some s=>exact h2 s (mM ho)
 ·obtain ⟨o,ho,e⟩:=List.mem_map.1 hs;cases o with
  | none=>injection e with e;exact e ▸ List.length_replicate
  | some t=>injection e with e;exact e ▸ h2 t (mM ho)
def Dk.on1 (d:Dk) (n:By):Dk:=match d.file n with
 | none=>d
 | some f=>if f.fate.now=[]∧f.sure=false then d.del n else d.setF n fun f=>{ f.fate with sure:=true }
def Dk.ons (d:Dk) (l:List By):Dk:=l.foldl Dk.on1 d
def Dk.onL (d:Dk) (l:List By):Dk:=if d.down then ({ d with down:=false }:Dk).ons l else d
end Go.Proofs.YtdmhbgpejppbkaaGreat
namespace Go.Proofs.YtdmhbgpejppbkaaGreat
open Go.RowKit Go.Maps
theorem kb (w:World):Calls Tryz.prog 82 #[.string ⟨#[0]⟩,.int .i64 256] w fun e w'=>e=.returned (.string (aj zeroS))∧Below w.heap.size w w':=by have h:=Tryz.strings_Repeat ⟨#[0]⟩ 256 w (by omega) (by decide);rw [show (⟨#[0]⟩:ByteArray).data.toList=[0] from rfl,fG] at h;exact h
theorem wk (gf gu:Nat) (w:World) (hf:w.cell? ⟨gf,0,none⟩=some (.slice none 0 0)):
  Calls Tryz.prog 59 #[.pointer (some ⟨gf,0,none⟩),.pointer (some ⟨gu,0,none⟩)] w fun e w'=>e=.returned (.int .i64 0)∧w=w':=by
 go_enter Tryz.func59,Tryz.ntmps59;go_wp2_with fail;go_ret;exact ⟨rfl,rfl⟩
def rj:Option Value→Nat
 | some (.slice _ n _)=>n
 | _=>0
def zE (N:Nat) (E:Nat→By) (k:Nat):By:=if N≤k then zeroS else E k
theorem ra {N:Nat} {E:Nat→By} {k:Nat} (h:k<N):zE N E k=E k:=by unfold zE;rw [if_neg (by omega)]
theorem vx {N:Nat} {E:Nat→By} {k:Nat} (h:N≤k):zE N E k=zeroS:=by unfold zE;rw [if_pos h]
structure FateJ (w:World) (E:Nat→By) (g:Nat) (m:FilM) (A:Option Addr) (c:Nat) (ws:List Bool) (sure:Bool) (t:List (Option By)) (i:Nat) (wr:World):Prop where
 ex:∃ qs:List (Option Nat),FilR wr g m.vn (.slice A t.length c) m.vw (m.ps.map some) qs ws sure∧qs.map (Option.map (zE w.heap.size E))=(t.take i).map ki ++ t.drop i∧
  (∀ p,some p ∈ qs→w.heap.size≤p→wr.heap[p]?=some (fk zeroS))∧(∀ p,some p ∈ qs→p<w.heap.size→some p ∈ m.qs)
 ch:Ch (m.own g) w wr
 va:∀ n c k,(Value.slice A n c).ownBlock=some k→m.vs.ownBlock=some k∧k<w.heap.size
theorem FilR.putS {w:World} {g b n c i:Nat} {vn vw:Value} {xs qs:List (Option Nat)} {ws:List Bool} {sure:Bool} (h:FilR w g vn (.slice (some ⟨b,0,none⟩) n c) vw xs qs ws sure) (hi:i<qs.length) (s:By)
  {w7:World} (hw:w7=((w.setCell ⟨b,i,none⟩ (.pointer (some ⟨w.heap.size,0,none⟩))).alloc (fk s))):
  FilR w7 g vn (.slice (some ⟨b,0,none⟩) n c) vw xs (qs.set i (some w.heap.size)) ws sure∧w7.heap[w.heap.size]?=some (fk s)∧Ch (fun k=>k=b) w w7:=by
 subst hw;have hg:g≠b:=fun e=>h.g2 (by rw [e];rfl)
 have hc0:Ch (fun k=>k=b) w (w.setCell ⟨b,i,none⟩ (.pointer (some ⟨w.heap.size,0,none⟩))):=(Ch.refl (fun k=>k=b) _).setCell (p:=⟨b,i,none⟩) rfl _;have hsz:(w.setCell ⟨b,i,none⟩ (.pointer (some ⟨w.heap.size,0,none⟩))).heap.size=w.heap.size:=by simp
 have hcA:Ch (fun _=>False) (w.setCell ⟨b,i,none⟩ (.pointer (some ⟨w.heap.size,0,none⟩))) ((w.setCell ⟨b,i,none⟩ (.pointer (some ⟨w.heap.size,0,none⟩))).alloc (fk s)):=(Ch.refl _ _).alloc _;refine ⟨⟨hcA.keep (hc0.keep h.blk hg) id,?_,?_,?_,h.g1,h.g2,h.g3,h.d12,h.d13,h.d23⟩,af hsz.symm,hc0.alloc _⟩
 ·exact (h.on.ch hc0 fun k hk e=>h.d12 k hk (by rw [e];rfl)).ch hcA fun _ _ h=>h
 ·exact (kX h.os cJ hi (some w.heap.size) rfl).ch hcA fun _ _ h=>h
 ·exact (h.ow.ch hc0 fun k hk e=>h.d23 b rfl (by rw [← e];exact hk)).ch hcA fun _ _ h=>h
section
variable {w wr:World} {E:Nat→By} {g:Nat} {m:FilM} {A:Option Addr} {c:Nat} {ws:List Bool} {sure:Bool} {t:List (Option By)} {i:Nat}
theorem wX {t:List (Option By)} {i:Nat} (hi:i<t.length) {x:By} (h:t[i]=some x):(t.take (i+1)).map ki ++ t.drop (i+1)=(t.take i).map ki ++ t.drop i:=by rw [List.take_succ_eq_append_getElem hi,List.map_append,List.append_assoc,List.drop_eq_getElem_cons hi,h];rfl
theorem uU {t:List (Option By)} {i:Nat} (hi:i<t.length) (h:t[i]=none):((t.take i).map ki ++ t.drop i).set i (some zeroS)=(t.take (i+1)).map ki ++ t.drop (i+1):=by
 have hl:((t.take i).map ki).length=i:=by rw [List.length_map,List.length_take];omega
 rw [List.set_append_right _ _ (by omega),hl,Nat.sub_self,List.drop_eq_getElem_cons hi,List.set_cons_zero,List.take_succ_eq_append_getElem hi,List.map_append,List.append_assoc,h];rfl
theorem FateJ.at_ (h:FateJ w E g m A c ws sure t i wr) (hi:i<t.length):∃ b q,A=some ⟨b,0,none⟩∧b<wr.heap.size∧wr.cell? ⟨b,i,none⟩=some (mq q)∧wr.frozen? ⟨b,i,none⟩=false∧(q=none↔t[i]=none)∧
  (q≠none→FateJ w E g m A c ws sure t (i+1) wr)∧
  (q=none→∀ w5 w7,Below wr.heap.size wr w5→w7=((w5.setCell ⟨b,i,none⟩ (.pointer (some ⟨w5.heap.size,0,none⟩))).alloc (fk zeroS))→FateJ w E g m A c ws sure t (i+1) w7):=by
 obtain ⟨⟨qs,h1,h2,h3,h4⟩,hc,hva⟩:=h;have hlen:qs.length=t.length:=by have:=congrArg List.length h2;rw [List.length_map,List.length_append,List.length_map,List.length_take,List.length_drop] at this;omega
 have hil:i<qs.length:=by omega
 obtain ⟨b,c',hv,hb,hcell,hfz⟩:=fI h1.os cJ hil;injection hv with e1 e2 e3
 subst e1 e3;have hq:Option.map (zE w.heap.size E) qs[i]=t[i]:=by have e:=congrArg (fun l=>l[i]?) h2;simp only [List.getElem?_map,List.getElem?_eq_getElem hil,Option.map_some] at e;rw [List.getElem?_append_right (by rw [List.length_map,List.length_take];omega),List.length_map,List.length_take,Nat.min_eq_left (by omega),Nat.sub_self,List.getElem?_drop,Nat.add_zero,List.getElem?_eq_getElem hi] at e;injection e
 refine ⟨b,qs[i],rfl,hb,hcell _ rfl,hfz,?_,fun hne=>?_,fun hno w5 w7 hb5 hw=>?_⟩
 ·rw [← hq];cases qs[i] <;> simp
 ·obtain ⟨p,hp⟩:=Option.ne_none_iff_exists'.1 hne;rw [hp] at hq;exact ⟨⟨qs,h1,by rw [h2,wX hi hq.symm],h3,h4⟩,hc,hva⟩
 ·have hF5:=h1.ch (S:=fun _=>False) (Ch.of_below hb5) fun _ _ h=>h
  obtain ⟨k1,k2,k3⟩:=hF5.putS hil zeroS hw;have hs5:=hb5.size;have hsw:=hc.size;have ht:t[i]=none:=by rw [← hq,hno];rfl
  have hbv:=hva 0 0 b rfl;have hown:m.own g b:=.inr (.inr (.inl hbv.1));refine ⟨⟨qs.set i (some w5.heap.size),by rw [← hlen];rw [← hlen] at k1;exact k1,?_,fun p hp hpw=>?_,fun p hp hpw=>?_⟩,?_,?_⟩
  ·rw [List.map_set,h2,Option.map_some,vx (by omega),uU hi ht]
  ·rcases List.mem_or_eq_of_mem_set hp with hp | hp
   ·exact k3.keep ((Ch.of_below (S:=fun _=>False) hb5).keep (h3 p hp hpw) id) fun e=>by omega
   ·injection hp with hp
    rw [hp];exact k2
  ·rcases List.mem_or_eq_of_mem_set hp with hp | hp
   ·exact h4 p hp hpw
   ·injection hp with hp;omega
  ·exact (hc.trans (Ch.of_below hb5)).then k3 fun k e=>.inl (e ▸ hown)
  ·exact hva
end
section
variable {w:World} {C:Nat→Prop} {E:Nat→By} {g:Nat} {m:FilM} {f:Fi}
structure FateI (w:World) (E:Nat→By) (g:Nat) (m:FilM) (A:Option Addr) (c:Nat) (f:Fi) (k:Nat) (wr:World):Prop where
 le:k≤m.qs.length
 rw_:FilR wr g m.vn (.slice A k c) m.vw (m.ps.map some) (m.qs.take k) f.waits f.sure
 tr:au ((m.qs.take k).map (Option.map E))=au f.safe
 ch:Ch (m.own g) w wr
theorem FateI.start (h:FilIs w C E g m f) {A:Option Addr} {c:Nat} (hv:m.vs=.slice A m.qs.length c) {wr:World} (hb:Below w.heap.size w wr):FateI w E g m A c f m.qs.length wr:=by refine ⟨Nat.le_refl _,?_,by rw [List.take_length,h.safe],Ch.of_below hb⟩;rw [List.take_length,← hv];exact h.raw.ch (S:=fun _=>False) (Ch.of_below hb) fun _ _ h=>h
theorem FateI.at_ {A:Option Addr} {c k:Nat} {wr:World} (hva:∀ n c,(Value.slice A n c).ownBlock=m.vs.ownBlock) (h:FateI w E g m A c f (k+1) wr):∃ b q,A=some ⟨b,0,none⟩∧b<wr.heap.size∧wr.cell? ⟨b,k,none⟩=some (mq q)∧m.qs[k]?=some q∧
  (q=none→∀ w7,w7=(wr.setCell ⟨g,1,none⟩ (.slice A k c)).drew→FateI w E g m A c f k w7):=by
 obtain ⟨hle,hr,ht,hc⟩:=h;have hl:(m.qs.take (k+1)).length=k+1:=by rw [List.length_take];omega
 obtain ⟨b,c',hv,hb,hcell,hfz⟩:=fI hr.os cJ (i:=k) (by omega);injection hv with e1 e2 e3
 subst e1 e3;have hq:(m.qs.take (k+1))[k]=m.qs[k]:=List.getElem_take;refine ⟨b,m.qs[k],rfl,hb,hcell _ (by rw [hq];rfl),List.getElem?_eq_getElem (by omega),fun hno w7 hw=>?_⟩;have hcg:Ch (fun j=>j=g) wr w7:=by rw [hw];exact ((Ch.refl (fun j=>j=g) wr).setCell (p:=⟨g,1,none⟩) rfl _).drew
 refine ⟨by omega,⟨?_,hr.on.ch hcg fun j hj e=>hr.g1 (e ▸ hj),?_,hr.ow.ch hcg fun j hj e=>hr.g3 (e ▸ hj),hr.g1,fun e=>hr.g2 ((fD _ _ _ _ _).trans e),hr.g3,fun j h1 h2=>hr.d12 j h1 ((fD _ _ _ _ _).trans h2),hr.d13,fun j h1 h2=>hr.d23 j ((fD _ _ _ _ _).trans h1) h2⟩,?_,hc.then hcg fun j e=>.inl (.inl e)⟩
 ·rw [hw];exact ae hr.blk 1 (.slice (some ⟨b,0,none⟩) k c)
 ·have:=(hr.os.ch hcg fun j hj e=>hr.g2 (e ▸ hj)).take' cJ (i:=k) (by omega);rw [List.take_take,Nat.min_eq_left (by omega)] at this;exact this
 ·rw [← ht,List.take_succ_eq_append_getElem (by omega),List.map_append,hno];exact (rh _).symm
theorem FateI.below {A:Option Addr} {c k:Nat} {wr w2:World} (h:FateI w E g m A c f k wr) (hb:Below wr.heap.size wr w2):FateI w E g m A c f k w2:=
 ⟨h.le,h.rw_.ch (S:=fun _=>False) (Ch.of_below hb) (fun _ _ h=>h),h.tr,h.ch.trans (Ch.of_below hb)⟩
theorem FateI.done {A:Option Addr} {c k:Nat} {wr:World} (h:FateI w E g m A c f k wr) (hk:k=0∨∃ j p,k=j+1∧m.qs[j]?=some (some p)):(m.qs.take k).map (Option.map E)=au f.safe:=by
 rw [← h.tr];rcases hk with rfl | ⟨j,p,rfl,hp⟩
 ·rfl
 ·have hj:j<m.qs.length:=by have:=h.le;omega
  rw [List.getElem?_eq_getElem hj] at hp;injection hp with hp
  rw [List.take_succ_eq_append_getElem hj,List.map_append,hp];exact (rg _ _).symm
theorem FateI.third {A:Option Addr} {c k:Nat} {wr:World} (h:FateI w E g m A c f k wr) (hi:FilIs w C E g m f) (hC:∀ k,C k→k<w.heap.size) (hv:m.vs=.slice A m.qs.length c) (hk:(m.qs.take k).map (Option.map E)=au f.safe):k=(au f.safe).length∧FateJ w E g m A c f.waits f.sure (au f.safe) 0 wr:=by
 have hl:k=(au f.safe).length:=by have:=congrArg List.length hk;rw [List.length_map,List.length_take] at this;have:=h.le;omega
 have hold:∀ p,some p ∈ m.qs.take k→p<w.heap.size:=fun p hp=>hC p (hi.qc p (List.mem_of_mem_take hp))
 refine ⟨hl,⟨m.qs.take k,by rw [← hl];exact h.rw_,?_,fun p hp hw=>absurd (hold p hp) (by omega),fun p hp _=>List.mem_of_mem_take hp⟩,h.ch,fun n c k hk=>?_⟩
 ·rw [List.take_zero,List.map_nil,List.nil_append,List.drop_zero,← hk];refine List.map_congr_left fun q hq=>?_
  cases q with
  | none=>rfl
  | some p=>exact congrArg some (ra (hold p hq))
 ·have e:m.vs.ownBlock=some k:=by rw [hv];exact (fD _ _ _ _ _).trans hk
  exact ⟨e,(hi.os.lt k e).2⟩
theorem FateJ.fin {A:Option Addr} {c:Nat} {wr:World} (h:FateJ w E g m A c f.waits f.sure (au f.safe) (au f.safe).length wr):∃ ps:List Nat,FilR wr g m.vn (.slice A (au f.safe).length c) m.vw (m.ps.map some) (ps.map some) f.waits f.sure∧ps.map (zE w.heap.size E)=(au f.safe).map (·.getD zeroS)∧
  (∀ p ∈ ps,w.heap.size≤p→wr.heap[p]?=some (fk zeroS))∧(∀ p ∈ ps,p<w.heap.size→some p ∈ m.qs):=by
 obtain ⟨⟨qs,h1,h2,h3,h4⟩,hc,hva⟩:=h;rw [List.take_length,List.drop_length,List.append_nil] at h2;obtain ⟨ps,rfl⟩:∃ ps:List Nat,qs=ps.map some:=by
  have hall:∀ q ∈ qs,q≠none:=fun q hq e=>by
   subst e;have:(none:Option By) ∈ qs.map (Option.map (zE w.heap.size E)):=List.mem_map.2 ⟨none,hq,rfl⟩;rw [h2] at this;obtain ⟨o,-,ho⟩:=List.mem_map.1 this;cases ho
  clear h1 h2 h3 h4
  induction qs with
  | nil=>exact ⟨[],rfl⟩
  | cons q qs ih=>
    obtain ⟨ps,rfl⟩:=ih fun q hq=>hall q (List.mem_cons_of_mem _ hq)
    cases q with
    | none=>exact absurd rfl (hall none (by simp))
    | some p=>exact ⟨p :: ps,rfl⟩
 refine ⟨ps,h1,?_,fun p hp=>h3 p (List.mem_map.2 ⟨p,hp,rfl⟩),fun p hp=>h4 p (List.mem_map.2 ⟨p,hp,rfl⟩)⟩;have e:(ps.map (zE w.heap.size E)).map some=((au f.safe).map (·.getD zeroS)).map some:=by rw [List.map_map,List.map_map];rw [List.map_map] at h2;exact h2
 exact (List.map_inj_right (fun a b e=>by injection e)).1 e
theorem FateJ.last {A A5:Option Addr} {c c5:Nat} {wr w5 w7:World} {ps:List Nat} {vw:Value} (hi:FilIs w C E g m f) (hC:∀ k,C k→k<w.heap.size) (hd:∀ k,m.own g k→¬ C k)
  (hJ:FateJ w E g m A c f.waits f.sure (au f.safe) (au f.safe).length wr) (hR:FilR wr g m.vn (.slice A (au f.safe).length c) m.vw (m.ps.map some) (ps.map some) f.waits f.sure) (hps:ps.map (zE w.heap.size E)=(au f.safe).map (·.getD zeroS))
  (hnew:∀ p ∈ ps,w.heap.size≤p→wr.heap[p]?=some (fk zeroS)) (hold:∀ p ∈ ps,p<w.heap.size→some p ∈ m.qs) (ho:Own pC 1 98 wr.heap.size w5 (.slice A5 (au f.safe).length c5) (ps.map some)) (hb:Below wr.heap.size wr w5)
  (hc:Ch (fun k=>k=g) w5 w7) (hG:w7.heap[g]?=some (.cells #[.slice A5 (au f.safe).length c5,.slice A (au f.safe).length c,vw,.bool f.sure] 87 (0,0))) (hs:w7.heap.size=w5.heap.size) (hv:vw=.slice (some ⟨w5.heap.size,0,none⟩) (au f.safe).length (au f.safe).length) (hml:(au f.safe).length≤maxLen):
  ∃ (C':Nat→Prop) (m':FilM),FilIs (w7.alloc (.cells ((List.replicate (au f.safe).length false).flatMap bC).toArray 4)) C' (zE w.heap.size E) g m' f.fate∧(∀ k,C k→C' k)∧(∀ k,C' k→C k∨w.heap.size≤k)∧
    (∀ k,C' k→¬ C k→(w7.alloc (.cells ((List.replicate (au f.safe).length false).flatMap bC).toArray 4)).heap[k]?=some (fk (zE w.heap.size E k)))∧(∀ k,m'.own g k→m.own g k∨w.heap.size≤k)∧(∀ k,m'.own g k→¬ C' k)∧Ch (m.own g) w (w7.alloc (.cells ((List.replicate (au f.safe).length false).flatMap bC).toArray 4)):=by
 have hbA:Below w7.heap.size w7 (w7.alloc (.cells ((List.replicate (au f.safe).length false).flatMap bC).toArray 4)):=(Below.refl _ _).alloc (Nat.le_refl _) _;have hsw:=hJ.ch.size;have hs5:=hb.size;have hgw:g<w.heap.size:=ab hi.blk;have hall:Ch (fun k=>k=g) wr (w7.alloc (.cells ((List.replicate (au f.safe).length false).flatMap bC).toArray 4)):=((Ch.of_below hb).trans hc).trans (Ch.of_below hbA);have hps5:∀ p ∈ ps,w.heap.size≤p→p<wr.heap.size:=fun p hp hw=>ab (hnew p hp hw)
 have hv5:∀ k,(Value.slice A5 (au f.safe).length c5).ownBlock=some k→wr.heap.size≤k∧k<w5.heap.size:=fun k hk=>ho.lt k hk
 have hvk:∀ k,vw.ownBlock=some k→k=w5.heap.size:=fun k hk=>by rw [hv] at hk;injection hk with hk;exact hk.symm
 have hAk:∀ k,(Value.slice A (au f.safe).length c).ownBlock=some k→m.vs.ownBlock=some k∧k<w.heap.size:=fun k hk=>hJ.va _ _ k hk
 have hW:Own bC 1 4 0 (w7.alloc (.cells ((List.replicate (au f.safe).length false).flatMap bC).toArray 4)) vw (List.replicate (au f.safe).length false):=by
  have hl:((List.replicate (au f.safe).length false).flatMap bC).length=(au f.safe).length:=by rw [dw bC 1 gC,List.length_replicate,Nat.mul_one]
  have h1:=World.ownsRow_lit (base:=0) (e:=4) w7 ((List.replicate (au f.safe).length false).flatMap bC).toArray (au f.safe).length (size:=1) (Nat.zero_le _) hml (by simp [hl]);rw [hs] at h1;unfold Own;rw [List.length_replicate,hv];simpa using h1
 refine ⟨fun k=>C k∨(w.heap.size≤k∧k ∈ ps),⟨.slice A5 (au f.safe).length c5,.slice A (au f.safe).length c,vw,ps,ps.map some⟩,⟨ar hG _,?_,hR.os.ch hall fun k hk e=>hR.g2 (e ▸ hk),hW,hps.symm,?_,fun p hp=>?_,fun p hp=>?_,fun e=>?_,hR.g2,fun e=>?_,fun k h1 h2=>?_,fun k h1 h2=>?_,fun k h1 h2=>?_⟩,fun k hk=>.inl hk,fun k hk=>hk.imp id fun h=>h.1,fun k hk hno=>?_,fun k hk=>?_,fun k hk hk2=>?_,?_⟩
 ·exact ((ho.ch hc fun k hk e=>by have:=(hv5 k hk).1;omega).below hbA).base (Nat.zero_le _)
 ·show (au f.safe).map ki=(ps.map some).map (Option.map (zE w.heap.size E));have:=congrArg (List.map some) hps;rw [List.map_map,List.map_map] at this;rw [List.map_map];exact this.symm
 ·by_cases hw:p<w.heap.size
  ·exact .inl (hi.qc p (hold p hp hw))
  ·exact .inr ⟨by omega,hp⟩
 ·obtain ⟨q,hq,e⟩:=List.mem_map.1 hp;injection e with e
  subst e;by_cases hw:q<w.heap.size
  ·exact .inl (hi.qc q (hold q hq hw))
  ·exact .inr ⟨by omega,hq⟩
 ·have:=(hv5 g e).1;omega
 ·have:=hvk g e;omega
 ·have:=(hv5 k h1).1;have:=(hAk k h2).2;omega
 ·have:=(hv5 k h1).2;have:=hvk k h2;omega
 ·have:=(hAk k h1).2;have:=hvk k h2;omega
 ·rcases hk with hk | ⟨hk,hm⟩
  ·exact (hno hk).elim
  ·rw [vx hk];exact hall.keep (hnew k hm hk) fun e=>by omega
 ·rcases hk with hk | hk | hk | hk
  ·exact .inl (.inl hk)
  ·have:=(hv5 k hk).1;right;omega
  ·exact .inl (.inr (.inr (.inl (hAk k hk).1)))
  ·have:=hvk k hk;right;omega
 ·rcases hk2 with hk2 | ⟨hk2,hm⟩
  ·have:=hC k hk2;rcases hk with hk | hk | hk | hk
   ·exact hd k (.inl hk) hk2
   ·have:=(hv5 k hk).1;omega
   ·exact hd k (.inr (.inr (.inl (hAk k hk).1))) hk2
   ·have:=hvk k hk;omega
  ·have:=hps5 k hm hk2;rcases hk with hk | hk | hk | hk
   ·omega
   ·have:=(hv5 k hk).1;omega
   ·have:=(hAk k hk).2;omega
   ·have:=hvk k hk;omega
 ·exact hJ.ch.then hall fun k e=>.inl (.inl e)
end
end Go.Proofs.YtdmhbgpejppbkaaGreat
