/- cahierlaw15: data, does (Get, Put, New, Free, Root); shelf.Root. shelf.Root. shelf: New, Head, Arm. What a shelf's New and Free answer, plain. -/
import Derived.Test.YtdmhbgpejppbkaaGreatZGbf
import Derived.Test.YtdmhbgpejppbkaaGreatZGbc
import Derived.Deep.RegionHeld3
set_option maxRecDepth 100000
set_option maxHeartbeats 4000000
namespace Go.Proofs.YtdmhbgpejppbkaaGreat
open Go.Lib (hid)
open Go.RowKit Go.Maps
theorem PTo.frame {w w2 w3 w4:World} {L:PgL} {P:Pgr} {S:Nat→Prop} (hb:Below w.heap.size w w2) (h:PTo w2 L P w3) (hc:Ch S w3 w4) (hS:∀ k,S k→w.heap.size≤k∧k<w2.heap.size) (hL:∀ k,L.F k→k<w.heap.size):PTo w L P w4:=by
 obtain ⟨L',g,p,f,c⟩:=h;refine ⟨L',g,p.ch hc fun k hk hs=>?_,fun k hk=>(f k hk).imp id fun e=>Nat.le_trans hb.size e,((Ch.of_below hb).trans c).then hc fun k e=>.inr (hS k e).1⟩;rcases f k hk with e | e
 ·have:=hL k e;have:=(hS k hs).1;omega
 ·have:=(hS k hs).2;omega
theorem StTo.frame {w w2 w3 w4:World} {L:PgL} {B:Int→By} {W:He} {S:Nat→Prop} (hb:Below w.heap.size w w2) (h:StTo w2 L B W w3) (hc:Ch S w3 w4) (hS:∀ k,S k→w.heap.size≤k∧k<w2.heap.size) (hL:∀ k,L.F k→k<w.heap.size):StTo w L B W w4:=
 let ⟨P,h1,h2⟩:=h;⟨P,h1,h2.frame hb hc hS hL⟩
structure Ac where
 kind:Int
 n:Int
 data:By
 short:Bool
def Ac.cells (x:Ac) (f:Value):Array Value:=#[.int .i64 x.kind,.int .i64 x.n,.string (ak x.data),.bool x.short,f]
def Ac.put (x:Ac):By:=if x.short then x.data else aC x.data
def oX (s:By) (n e:Int):Value:=.agg #[.string (ak s),.int .i64 n,.int .i64 e]
theorem ly (x:Ac) (f:Value) (w:World):Calls Tryz.prog 31 #[.agg (x.cells f)] w fun e w'=>e=.returned (.string (ak x.put))∧Below w.heap.size w w':=by
 have hA:Below w.heap.size w (w.alloc (.cells (x.cells f) 32)):=(Below.refl _ w).alloc (Nat.le_refl _) _;have HA:=hid hA;obtain ⟨k,n,d,s⟩:=x;unfold Ac.cells at *;simp only at *;clear hA;cases s
 ·have HF:=hid (fun w=>show Calls Tryz.prog 39 #[.string (ak d)] w fun e w'=>e=.returned (.string (ak (Ac.put ⟨k,n,d,false⟩)))∧Below w.heap.size w w' by
   have:=lo (ak d) w;rw [aP] at this;exact this)
  go_enter Tryz.func31,Tryz.ntmps31;go_wp2_with fail;refine (HF.out _).mono ?_;rintro e w1 ⟨rfl,hb⟩;have HB:=hid (HA.out.trans (hb.mono HA.out.size));clear hb;go_wp2_with fail;go_ret;exact ⟨rfl,HB.out⟩
 ·go_enter Tryz.func31,Tryz.ntmps31;go_wp2_with fail;go_ret;exact ⟨rfl,HA.out⟩
def dW:Obj:=.cells #[.string ⟨#[]⟩,.int .i64 0,.int .i64 0] 34 (0,0)
theorem StTo.keep {w w':World} {L:PgL} {B:Int→By} {W:He} {g:Nat} {o:Obj} (h:StTo w L B W w') (hg:w.heap[g]?=some o) (hn:¬ L.F g):w'.heap[g]?=some o:=let ⟨_,_,h2⟩:=h;h2.keep hg hn
def qW (w:World) (g:Nat) (s:ByteArray) (n e:Int):World:=((w.setCell ⟨g,0,none⟩ (.string s)).setCell ⟨g,1,none⟩ (.int .i64 n)).setCell ⟨g,2,none⟩ (.int .i64 e)
theorem dA {w:World} {g:Nat} (h:w.heap[g]?=some dW) (s:ByteArray) (n e:Int):(qW w g s n e).heap[g]?=some (.cells #[.string s,.int .i64 n,.int .i64 e] 34 (0,0)):=ae (ae (ae h 0 (.string s)) 1 (.int .i64 n)) 2 (.int .i64 e)
theorem fU (w:World) (g:Nat) (s:ByteArray) (n e:Int):Ch (fun k=>k=g) w (qW w g s n e):=(((Ch.refl (fun k=>k=g) w).setCell (p:=⟨g,0,none⟩) rfl _).setCell (p:=⟨g,1,none⟩) rfl _).setCell (p:=⟨g,2,none⟩) rfl _
theorem oI (x:Ac) (f:Value) (hk:x.kind=1) (w:World) {L:PgL} {P:Pgr} {B:Int→By} {W:He} (h:PgIs w L P) (hs:St P B W):
  Calls Tryz.prog 12 #[au L.gp,.agg (x.cells f)] w fun e w'=>e=.returned (oX (oY B W.pages x.n) 0 (kV W.pages x.n))∧StTo w L B W w':=by
 obtain ⟨k,n,d,s⟩:=x;simp only at hk;subst hk;have hA:Below w.heap.size w ((w.alloc (.cells (Ac.cells ⟨1,n,d,s⟩ f) 32)).alloc dW):=((Below.refl w.heap.size w).alloc (Nat.le_refl _) _).alloc (by simp) _;have HA:=hid hA;have HX:=hid (ah (w0:=w.alloc (.cells (Ac.cells ⟨1,n,d,s⟩ f) 32)) (g:=w.heap.size+1) (o:=dW) (by simp));have HP:=hid (h.below hA);have HY:=hid (aj (ah (w0:=w) (g:=w.heap.size) (o:=.cells (Ac.cells ⟨1,n,d,s⟩ f) 32) rfl) dW);have HH:=hid h;have HS:=hid hs;have HL:=hid (fun k (hk:L.F k)=>h.lt hk);clear hA h hs;have HC:=hid (pQ n _ HP.out HS.out);simp only;generalize oY B W.pages n=rs at *;generalize kV W.pages n=re at *;unfold Ac.cells dW au oX at *;go_enter Tryz.func12,Tryz.ntmps12;go_wp2_with fail;refine HC.out.mono ?_;rintro e w3 ⟨rfl,hto⟩;have hX3:=hto.keep HX.out (fun hk=>by have:=HL.out _ hk;omega);have HR:=hid (hto.frame HA.out (fU w3 (w.heap.size+1) (ak rs) 0 re) (fun k e=>by subst e;exact ⟨by omega,af HX.out⟩) HL.out);have hG:=dA hX3 (ak rs) 0 re;have q0:=aa hG 0;have q1:=aa hG 1;have q2:=aa hG 2;have y0:=aa hX3 0;have y1:=aa hX3 1;have y2:=aa hX3 2;have yl:=af hX3;have yz:=ab hX3;have z0:=yz 0;have z1:=yz 1;have z2:=yz 2;unfold qW at q0 q1 q2 HR;simp only [List.getElem?_toArray,List.getElem?_cons_succ,List.getElem?_cons_zero] at q0 q1 q2;unfold dW at y0 y1 y2;simp only [List.getElem?_toArray,List.getElem?_cons_succ,List.getElem?_cons_zero] at y0 y1 y2;have Q0:=hid q0;have Q1:=hid q1;have Q2:=hid q2;clear hto hX3 hG yz q0 q1 q2;go_wp2_with fail;have q0:=Q0.out;have q1:=Q1.out;have q2:=Q2.out;exact bodyPost_ret (v:=.agg #[.string (ak rs),.int .i64 0,.int .i64 re]) (by simp [results,Tryz.results12,go_sem,q0,q1,q2]) rfl ⟨rfl,HR.out⟩
theorem oG (x:Ac) (f:Value) (hk:x.kind=3) (w:World) {L:PgL} {P:Pgr} {B:Int→By} {W:He} (h:PgIs w L P) (hs:St P B W):
  Calls Tryz.prog 12 #[au L.gp,.agg (x.cells f)] w fun e w'=>e=.returned (oX [] (am (Hd.of W) B).n (am (Hd.of W) B).e)∧∃ W' B',uF W B W' B'∧StTo w L B' W' w':=by
 obtain ⟨k,n,d,s⟩:=x;simp only at hk;subst hk;have hA:Below w.heap.size w ((w.alloc (.cells (Ac.cells ⟨3,n,d,s⟩ f) 32)).alloc dW):=((Below.refl w.heap.size w).alloc (Nat.le_refl _) _).alloc (by simp) _;have HA:=hid hA;have HX:=hid (ah (w0:=w.alloc (.cells (Ac.cells ⟨3,n,d,s⟩ f) 32)) (g:=w.heap.size+1) (o:=dW) (by simp));have HP:=hid (h.below hA);have HY:=hid (aj (ah (w0:=w) (g:=w.heap.size) (o:=.cells (Ac.cells ⟨3,n,d,s⟩ f) 32) rfl) dW);have HH:=hid h;have HS:=hid hs;have HL:=hid (fun k (hk:L.F k)=>h.lt hk);clear hA h hs;have HC:=hid (pP _ HP.out HS.out);generalize (am (Hd.of W) B).n=rn at *;generalize (am (Hd.of W) B).e=re at *;unfold Ac.cells dW au oX at *;go_enter Tryz.func12,Tryz.ntmps12;go_wp2_with fail;refine HC.out.mono ?_;rintro e w3 ⟨rfl,W',B',hnw,hto⟩;have HNW:=hid hnw;have hX3:=hto.keep HX.out (fun hk=>by have:=HL.out _ hk;omega);have HR:=hid (hto.frame HA.out (fU w3 (w.heap.size+1) ⟨#[]⟩ rn re) (fun k e=>by subst e;exact ⟨by omega,af HX.out⟩) HL.out);have hG:=dA hX3 ⟨#[]⟩ rn re;have q0:=aa hG 0;have q1:=aa hG 1;have q2:=aa hG 2;have y0:=aa hX3 0;have y1:=aa hX3 1;have y2:=aa hX3 2;have yl:=af hX3;have yz:=ab hX3;have z0:=yz 0;have z1:=yz 1;have z2:=yz 2;unfold qW at q0 q1 q2 HR;simp only [List.getElem?_toArray,List.getElem?_cons_succ,List.getElem?_cons_zero] at q0 q1 q2;unfold dW at y0 y1 y2;simp only [List.getElem?_toArray,List.getElem?_cons_succ,List.getElem?_cons_zero] at y0 y1 y2;have Q0:=hid q0;have Q1:=hid q1;have Q2:=hid q2;clear hto hX3 hG yz q0 q1 q2;clear hnw;go_wp2_with fail;have q0:=Q0.out;have q1:=Q1.out;have q2:=Q2.out;exact bodyPost_ret (v:=.agg #[.string ⟨#[]⟩,.int .i64 rn,.int .i64 re]) (by simp [results,Tryz.results12,go_sem,q0,q1,q2]) rfl ⟨rfl,W',B',HNW.out,HR.out⟩
theorem oF (x:Ac) (f:Value) (hk:x.kind=4) (w:World) {L:PgL} {P:Pgr} {B:Int→By} {W:He} (h:PgIs w L P) (hs:St P B W):
  Calls Tryz.prog 12 #[au L.gp,.agg (x.cells f)] w fun e w'=>e=.returned (oX [] 0 (mA W B x.n))∧∃ W' B',tP W B x.n W' B'∧StTo w L B' W' w':=by
 obtain ⟨k,n,d,s⟩:=x;simp only at hk;subst hk;have hA:Below w.heap.size w ((w.alloc (.cells (Ac.cells ⟨4,n,d,s⟩ f) 32)).alloc dW):=((Below.refl w.heap.size w).alloc (Nat.le_refl _) _).alloc (by simp) _;have HA:=hid hA;have HX:=hid (ah (w0:=w.alloc (.cells (Ac.cells ⟨4,n,d,s⟩ f) 32)) (g:=w.heap.size+1) (o:=dW) (by simp));have HP:=hid (h.below hA);have HY:=hid (aj (ah (w0:=w) (g:=w.heap.size) (o:=.cells (Ac.cells ⟨4,n,d,s⟩ f) 32) rfl) dW);have HH:=hid h;have HS:=hid hs;have HL:=hid (fun k (hk:L.F k)=>h.lt hk);clear hA h hs;have HC:=hid (ob n _ HP.out HS.out);simp only;generalize mA W B n=re at *;unfold Ac.cells dW au oX at *;go_enter Tryz.func12,Tryz.ntmps12;go_wp2_with fail;refine HC.out.mono ?_;rintro e w3 ⟨rfl,W',B',hnw,hto⟩;have HNW:=hid hnw;have hX3:=hto.keep HX.out (fun hk=>by have:=HL.out _ hk;omega);have HR:=hid (hto.frame HA.out (fU w3 (w.heap.size+1) ⟨#[]⟩ 0 re) (fun k e=>by subst e;exact ⟨by omega,af HX.out⟩) HL.out);have hG:=dA hX3 ⟨#[]⟩ 0 re;have q0:=aa hG 0;have q1:=aa hG 1;have q2:=aa hG 2;have y0:=aa hX3 0;have y1:=aa hX3 1;have y2:=aa hX3 2;have yl:=af hX3;have yz:=ab hX3;have z0:=yz 0;have z1:=yz 1;have z2:=yz 2;unfold qW at q0 q1 q2 HR;simp only [List.getElem?_toArray,List.getElem?_cons_succ,List.getElem?_cons_zero] at q0 q1 q2;unfold dW at y0 y1 y2;simp only [List.getElem?_toArray,List.getElem?_cons_succ,List.getElem?_cons_zero] at y0 y1 y2;have Q0:=hid q0;have Q1:=hid q1;have Q2:=hid q2;clear hto hX3 hG yz q0 q1 q2;clear hnw;go_wp2_with fail;have q0:=Q0.out;have q1:=Q1.out;have q2:=Q2.out;exact bodyPost_ret (v:=.agg #[.string ⟨#[]⟩,.int .i64 0,.int .i64 re]) (by simp [results,Tryz.results12,go_sem,q0,q1,q2]) rfl ⟨rfl,W',B',HNW.out,HR.out⟩
theorem oE (x:Ac) (f:Value) (hk:x.kind=5) (w:World) {L:PgL} {P:Pgr} {B:Int→By} {W:He} (h:PgIs w L P) (hs:St P B W):
  Calls Tryz.prog 12 #[au L.gp,.agg (x.cells f)] w fun e w'=>e=.returned (oX [] 0 (kB W.pages x.n))∧StTo w L B (nR W x.n) w':=by
 obtain ⟨k,n,d,s⟩:=x;simp only at hk;subst hk;have hA:Below w.heap.size w ((w.alloc (.cells (Ac.cells ⟨5,n,d,s⟩ f) 32)).alloc dW):=((Below.refl w.heap.size w).alloc (Nat.le_refl _) _).alloc (by simp) _;have HA:=hid hA;have HX:=hid (ah (w0:=w.alloc (.cells (Ac.cells ⟨5,n,d,s⟩ f) 32)) (g:=w.heap.size+1) (o:=dW) (by simp));have HP:=hid (h.below hA);have HY:=hid (aj (ah (w0:=w) (g:=w.heap.size) (o:=.cells (Ac.cells ⟨5,n,d,s⟩ f) 32) rfl) dW);have HH:=hid h;have HS:=hid hs;have HL:=hid (fun k (hk:L.F k)=>h.lt hk);clear hA h hs;have HC:=hid (nX n _ HP.out HS.out);simp only;generalize kB W.pages n=re at *;generalize nR W n=W' at *;unfold Ac.cells dW au oX at *;go_enter Tryz.func12,Tryz.ntmps12;go_wp2_with fail;refine HC.out.mono ?_;rintro e w3 ⟨rfl,hto⟩;have hX3:=hto.keep HX.out (fun hk=>by have:=HL.out _ hk;omega);have HR:=hid (hto.frame HA.out (fU w3 (w.heap.size+1) ⟨#[]⟩ 0 re) (fun k e=>by subst e;exact ⟨by omega,af HX.out⟩) HL.out);have hG:=dA hX3 ⟨#[]⟩ 0 re;have q0:=aa hG 0;have q1:=aa hG 1;have q2:=aa hG 2;have y0:=aa hX3 0;have y1:=aa hX3 1;have y2:=aa hX3 2;have yl:=af hX3;have yz:=ab hX3;have z0:=yz 0;have z1:=yz 1;have z2:=yz 2;unfold qW at q0 q1 q2 HR;simp only [List.getElem?_toArray,List.getElem?_cons_succ,List.getElem?_cons_zero] at q0 q1 q2;unfold dW at y0 y1 y2;simp only [List.getElem?_toArray,List.getElem?_cons_succ,List.getElem?_cons_zero] at y0 y1 y2;have Q0:=hid q0;have Q1:=hid q1;have Q2:=hid q2;clear hto hX3 hG yz q0 q1 q2;go_wp2_with fail;have q0:=Q0.out;have q1:=Q1.out;have q2:=Q2.out;exact bodyPost_ret (v:=.agg #[.string ⟨#[]⟩,.int .i64 0,.int .i64 re]) (by simp [results,Tryz.results12,go_sem,q0,q1,q2]) rfl ⟨rfl,HR.out⟩
theorem oH (x:Ac) (f:Value) (hk:x.kind=2) (w:World) {L:PgL} {P:Pgr} {B:Int→By} {W:He} (h:PgIs w L P) (hs:St P B W):
  Calls Tryz.prog 12 #[au L.gp,.agg (x.cells f)] w fun e w'=>e=.returned (oX [] 0 (iX W.pages x.n x.put))∧StTo w L (mc B W.pages x.n x.put) W w':=by
 obtain ⟨k,n,d,s⟩:=x;simp only at hk;subst hk;have hA:Below w.heap.size w ((w.alloc (.cells (Ac.cells ⟨2,n,d,s⟩ f) 32)).alloc dW):=((Below.refl w.heap.size w).alloc (Nat.le_refl _) _).alloc (by simp) _;have HA:=hid hA;have HX:=hid (ah (w0:=w.alloc (.cells (Ac.cells ⟨2,n,d,s⟩ f) 32)) (g:=w.heap.size+1) (o:=dW) (by simp));have HP:=hid (h.below hA);have HY:=hid (aj (ah (w0:=w) (g:=w.heap.size) (o:=.cells (Ac.cells ⟨2,n,d,s⟩ f) 32) rfl) dW);have HH:=hid h;have HS:=hid hs;have HL:=hid (fun k (hk:L.F k)=>h.lt hk);clear hA h hs;have HC:=hid (fun (w':World) (hp:PgIs w' L P)=>pO n (Ac.put ⟨2,n,d,s⟩) w' hp HS.out);have HDT:=hid (fun w=>ly ⟨2,n,d,s⟩ f w);simp only;generalize Ac.put ⟨2,n,d,s⟩=ps at *;generalize iX W.pages n ps=re at *;generalize mc B W.pages n ps=B' at *;unfold Ac.cells dW au oX at *;go_enter Tryz.func12,Tryz.ntmps12;go_upto_region 6 with fail
 generalize (w.alloc (.cells #[.int .i64 2,.int .i64 n,.string (ak d),.bool s,f] 32)).alloc (.cells #[.string ⟨#[]⟩,.int .i64 0,.int .i64 0] 34)=wA at *;have a0:=aa HY.out 0;have a1:=aa HY.out 1;have a2:=aa HY.out 2;have a3:=aa HY.out 3;have a4:=aa HY.out 4;simp only [List.getElem?_toArray,List.getElem?_cons_succ,List.getElem?_cons_zero] at a0 a1 a2 a3 a4
 go_region_held3 (fun w'=>w'.cell? ⟨w.heap.size,0,none⟩=some (.int .i64 2)∧w'.cell? ⟨w.heap.size,1,none⟩=some (.int .i64 n)∧w'.cell? ⟨w.heap.size,2,none⟩=some (.string (ak d))∧w'.cell? ⟨w.heap.size,3,none⟩=some (.bool s)∧w'.cell? ⟨w.heap.size,4,none⟩=some f) (first | exact ⟨e0,e1,e2,e3,e4⟩ | exact ⟨c0,c1,c2,c3,c4⟩ | exact ⟨b0,b1,b2,b3,b4⟩ | exact ⟨a0,a1,a2,a3,a4⟩)
  (first
   | (go_at_call 31;(with_reducible refine (HDT.out _).mono ?_);rintro e w2 ⟨rfl,hb2⟩;have HB2:=hid (show Below wA.heap.size wA w2 from ((Below.refl wA.heap.size wA).drew).trans hb2);clear hb2;have HY2:=hid (aw HY.out HB2.out);have b0:=aa HY2.out 0;have b1:=aa HY2.out 1;have b2:=aa HY2.out 2;have b3:=aa HY2.out 3;have b4:=aa HY2.out 4;simp only [List.getElem?_toArray,List.getElem?_cons_succ,List.getElem?_cons_zero] at b0 b1 b2 b3 b4)
   | (go_at_call 38;(with_reducible refine (HC.out _ ?ba).mono ?_);(case ba=>exact HP.out.below HB2.out);rintro e w3 ⟨rfl,hto0⟩;have hto:=hto0.pre HB2.out;have HY3:=hid (hto.keep HY.out (fun hk=>by have:=HL.out _ hk;omega));have c0:=aa HY3.out 0;have c1:=aa HY3.out 1;have c2:=aa HY3.out 2;have c3:=aa HY3.out 3;have c4:=aa HY3.out 4;simp only [List.getElem?_toArray,List.getElem?_cons_succ,List.getElem?_cons_zero] at c0 c1 c2 c3 c4;clear hto0
      have HY4:=hid (aX (aX (aX HY3.out (a:=⟨w.heap.size+1,0,none⟩) (by simp) (.string ⟨#[]⟩)) (a:=⟨w.heap.size+1,1,none⟩) (by simp) (.int .i64 0)) (a:=⟨w.heap.size+1,2,none⟩) (by simp) (.int .i64 re));have e0:=aa HY4.out 0;have e1:=aa HY4.out 1;have e2:=aa HY4.out 2;have e3:=aa HY4.out 3;have e4:=aa HY4.out 4;simp only [List.getElem?_toArray,List.getElem?_cons_succ,List.getElem?_cons_zero] at e0 e1 e2 e3 e4;have hX3:=hto.keep HX.out (fun hk=>by have:=HL.out _ hk;omega);have HR:=hid (hto.frame HA.out (fU w3 (w.heap.size+1) ⟨#[]⟩ 0 re) (fun k e=>by subst e;exact ⟨by omega,af HX.out⟩) HL.out);have hG:=dA hX3 ⟨#[]⟩ 0 re;have q0:=aa hG 0;have q1:=aa hG 1;have q2:=aa hG 2;have y0:=aa hX3 0;have y1:=aa hX3 1;have y2:=aa hX3 2;have yl:=af hX3;have yz:=ab hX3;have z0:=yz 0;have z1:=yz 1;have z2:=yz 2;unfold qW at q0 q1 q2 HR;simp only [List.getElem?_toArray,List.getElem?_cons_succ,List.getElem?_cons_zero] at q0 q1 q2;unfold dW at y0 y1 y2;simp only [List.getElem?_toArray,List.getElem?_cons_succ,List.getElem?_cons_zero] at y0 y1 y2;have Q0:=hid q0;have Q1:=hid q1;have Q2:=hid q2;clear hto hX3 hG yz q0 q1 q2;skip))
 clear a0 a1 a2 a3 a4 b0 b1 b2 b3 b4 c0 c1 c2 c3 c4 e0 e1 e2 e3 e4 y0 y1 y2 yl z0 z1 z2;go_wp2_with fail;have q0:=Q0.out;have q1:=Q1.out;have q2:=Q2.out;exact bodyPost_ret (v:=.agg #[.string ⟨#[]⟩,.int .i64 0,.int .i64 re]) (by simp [results,Tryz.results12,go_sem,q0,q1,q2]) rfl ⟨rfl,HR.out⟩
def lQ (s:Sf) (n:Int):Int:=if n<0∨s.h.pages≤n then 21 else 0
def pt (s:Sf) (n:Int):Sf:=if lQ s n=0 then { s with h:={ s.h with root:=n } } else s
theorem nN (n:Int) (gs gm:Nat) (s:Sf) (w:World) (h:ShIs w gs gm s):
  Calls Tryz.prog 34 #[.pointer (some ⟨gs,0,none⟩),.int .i64 n] w fun e w'=>e=.returned (.int .i64 (lQ s n))∧ShIs w' gs gm (pt s n)∧Ch (fun k=>k=gs) w w':=by
 have H:=hid h;obtain ⟨a0,a1,a2,a3,a4,a5,a6,a7,a8,a9,a10⟩:=ee h.blk;have b5:=a10 5;clear h a10;go_enter Tryz.func34,Tryz.ntmps34;by_cases hn:n<0
 ·have HE:=hid (show lQ s n=21∧pt s n=s from by
   have h1:lQ s n=21:=by unfold lQ;rw [if_pos (.inl hn)]
   exact ⟨h1,by unfold pt;rw [h1,if_neg (by decide)]⟩)
  have hn2:decide (n<0)=true:=decide_eq_true hn;go_wp2_with fail;go_ret;exact ⟨by rw [HE.out.1];rfl,by rw [HE.out.2];exact H.out,Ch.refl _ _⟩
 ·have hn1:(0:Int)≤n:=by omega
  by_cases hg:s.h.pages≤n
  ·have HE:=hid (show lQ s n=21∧pt s n=s from by
    have h1:lQ s n=21:=by unfold lQ;rw [if_pos (.inr hg)]
    exact ⟨h1,by unfold pt;rw [h1,if_neg (by decide)]⟩)
   go_wp2_with fail;go_ret;exact ⟨by rw [HE.out.1];rfl,by rw [HE.out.2];exact H.out,Ch.refl _ _⟩
  ·have hl:n<s.h.pages:=by omega
   have HE:=hid (show lQ s n=0∧pt s n={ s with h:={ s.h with root:=n } } from by
    have h1:lQ s n=0:=by unfold lQ;rw [if_neg (by omega)]
    exact ⟨h1,by unfold pt;rw [h1,if_pos rfl]⟩)
   have hc:=(Ch.refl (fun k=>k=gs) w).setCell (p:=⟨gs,5,none⟩) rfl (.int .i64 n)
   have HF:=hid (show ShIs (w.setCell ⟨gs,5,none⟩ (.int .i64 n)) gs gm (pt s n)∧Ch (fun k=>k=gs) w (w.setCell ⟨gs,5,none⟩ (.int .i64 n)) from by
    rw [HE.out.2];exact ⟨⟨ae H.out.blk 5 (.int .i64 n),H.out.book.ch hc H.out.ne,H.out.ne,⟨⟨H.out.ok.h.p1,H.out.ok.h.p2,H.out.ok.h.t0,H.out.ok.h.t1,H.out.ok.h.s0,H.out.ok.h.s1⟩,H.out.ok.l,H.out.ok.l0,H.out.ok.l1⟩⟩,hc⟩)
   clear hc;go_wp2_with fail;go_ret;exact ⟨by rw [HE.out.1];rfl,HF.out⟩
def freshH:Hd:=⟨1,1,0,0,0,0⟩
def uX (n:Int):Int:=min (max n 1) 4096
def sZ (n:Int):Sf:=⟨uX n,freshH,fun _=>blankL,-1⟩
theorem oy:freshH.Ok:=⟨by decide,by decide,by decide,by decide,by decide,by decide⟩
theorem dm:blankL.length=232:=List.length_replicate
theorem rE (n:Int):(sZ n).Ok:=⟨oy,fun _=>dm,by show (-1:Int)≤-1;omega,by show (-1:Int)≤1000000000;omega⟩
theorem lT (w:World):Calls Tryz.prog 84 #[] w fun e w'=>e=.returned (.agg #[.int .i64 1,.int .i64 1,.int .i64 0,.int .i64 0,.int .i64 0,.int .u64 0])∧Below w.heap.size w w':=by go_enter Tryz.func84,Tryz.ntmps84;go_wp2_with fail;obtain ⟨q0,q1,q2,q3,q4,q5,q6⟩:=ag (ah (w0:=w) (g:=w.heap.size) (o:=bn freshH) rfl);exact bodyPost_ret (v:=.agg #[.int .i64 1,.int .i64 1,.int .i64 0,.int .i64 0,.int .i64 0,.int .u64 0]) (by simp [results,Tryz.results84,go_sem]) rfl ⟨rfl,(Below.refl _ w).alloc (Nat.le_refl _) _⟩
theorem nP (gs gm:Nat) (s:Sf) (w:World) (h:ShIs w gs gm s):
  Calls Tryz.prog 35 #[.pointer (some ⟨gs,0,none⟩)] w fun e w'=>e=.returned (.agg #[.int .i64 s.h.mode,.int .i64 s.h.pages,.int .i64 s.h.trunk,.int .i64 s.h.spare,.int .i64 s.h.root,.int .u64 s.h.change])∧Below w.heap.size w w':=by
 obtain ⟨a0,a1,a2,a3,a4,a5,a6,a7,a8,a9,-⟩:=ee h.blk;go_enter Tryz.func35,Tryz.ntmps35;go_wp2_with fail;exact bodyPost_ret (v:=.agg #[.int .i64 s.h.mode,.int .i64 s.h.pages,.int .i64 s.h.trunk,.int .i64 s.h.spare,.int .i64 s.h.root,.int .u64 s.h.change]) (by simp [results,Tryz.results35,go_sem]) rfl ⟨rfl,(Below.refl _ w).alloc (Nat.le_refl _) _⟩
theorem iV (n:Int) (w:World):
  Calls Tryz.prog 28 #[.int .i64 n] w fun e w'=>∃ gs gm,e=.returned (.pointer (some ⟨gs,0,none⟩))∧ShIs w' gs gm (sZ n)∧w.heap.size≤gs∧w.heap.size≤gm∧Below w.heap.size w w':=by
 go_enter Tryz.func28,Tryz.ntmps28;go_wp2_with fail;refine (lT w).mono ?_;rintro e w1 ⟨rfl,hb⟩;have HB:=hid hb;clear hb;go_wp2_with fail;have HBK:=hid (BookIs.made w1);have HB2:=hid (HB.out.alloc HB.out.size (.map #[] 0));rw [run_makeMap];simp only [Result.andThen];go_wp2_with fail;go_ret;refine ⟨_,w1.heap.size,rfl,⟨ah (by simp),?_,by simp,rE n⟩,?_,HB.out.size,?_⟩
 ·exact HBK.out.ch (Ch.alloc (Ch.refl (fun _=>False) _) _) id
 ·have:=HB.out.size;simp;omega
 ·exact HB2.out.alloc HB2.out.size _
end Go.Proofs.YtdmhbgpejppbkaaGreat
namespace Go.Proofs.YtdmhbgpejppbkaaGreat
def aG (s:Sf):Int:=if s.left=0 then 11 else if s.h.spare=0∧s.lim≤s.h.pages then 22 else (am s.h s.B).e
def bH (s:Sf):Int:=if aG s=0 then (am s.h s.B).n else 0
def bi (s:Sf):Sf:=if aG s=0 then { aW s with h:=(am s.h s.B).h,B:=aY (am s.h s.B).B (am s.h s.B).n blankL } else aW s
def cD (s:Sf) (n:Int):Int:=if bu s n≠0 then bu s n else (aB s.h s.B n).e
def eI (s:Sf) (n:Int):Sf:=if cD s n=0 then { aW s with h:=(aB s.h s.B n).h,B:=(aB s.h s.B n).B } else aW s
end Go.Proofs.YtdmhbgpejppbkaaGreat
