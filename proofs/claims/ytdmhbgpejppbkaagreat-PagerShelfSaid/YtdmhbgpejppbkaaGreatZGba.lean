/- A pager's pages behind calls, with blocks of the caller's own apart from them; inner.Get, inner.Put. A shelf's book: numbers to pages. spare.trunk, spare.lay over a shelf's book. spare.trunk, spare.lay over a pager's inner pages. -/
import Derived.Test.YtdmhbgpejppbkaaGreatZGaz
import Derived.Test.YtdmhbgpejppbkaaGreatZGag
import Derived.Test.YtdmhbgpejppbkaaGreatZGaj
import Derived.Maps.OwnOps
import Derived.Maps.Views
import Derived.Maps.OwnSet
set_option maxRecDepth 100000
set_option maxHeartbeats 2000000
namespace Go.Proofs.YtdmhbgpejppbkaaGreat
open Go.Lib (hid)
open Go.RowKit
structure InX (w:World) (L:PgL) (P:Pgr) (B:Int→By) (N:Nat) (X:Nat→Prop) (w':World) (L':PgL) (P':Pgr):Prop where
 gp:L'.gp=L.gp
 is:PgIs w' L' P'
 same:P.SameC P'
 vw:Vw P' B N
 F:∀ k,L'.F k→L.F k∨w.heap.size≤k
 X:∀ k,X k→¬ L'.F k∧w.heap.size≤k∧k<w'.heap.size
 ch:Ch L.F w w'
def In (w:World) (L:PgL) (P:Pgr) (B:Int→By) (N:Nat) (X:Nat→Prop) (w':World):Prop:=∃ L' P',InX w L P B N X w' L' P'
section
variable {w w1 w2:World} {L:PgL} {P:Pgr} {B:Int→By} {N:Nat} {X X':Nat→Prop}
theorem In.refl (h:PgIs w L P) (hv:Vw P B N):In w L P B N (fun _=>False) w:=⟨L,P,rfl,h,Pgr.SameC.refl P,hv,fun _ hk=>.inl hk,fun _ h=>h.elim,Ch.refl _ _⟩
theorem In.below (h:In w L P B N X w1) (hb:Below w1.heap.size w1 w2) (hx:∀ k,X' k→X k∨(w1.heap.size≤k∧k<w2.heap.size)):In w L P B N X' w2:=by
 obtain ⟨L',P',h⟩:=h;refine ⟨L',P',h.gp,h.is.below hb,h.same,h.vw,h.F,fun k hk=>?_,h.ch.trans (Ch.of_below hb)⟩;rcases hx k hk with e | ⟨e1,e2⟩
 ·obtain ⟨a,b,c⟩:=h.X k e;exact ⟨a,b,Nat.lt_of_lt_of_le c hb.size⟩
 ·exact ⟨fun hf=>by have:=h.is.lt hf;omega,Nat.le_trans h.ch.size e1,e2⟩
theorem In.post (h:In w L P B N X w1) (hb:Below w1.heap.size w1 w2):In w L P B N X w2:=h.below hb fun _ hk=>.inl hk
theorem In.alloc (h:In w L P B N X w1) (o:Obj):In w L P B N (fun k=>X k∨k=w1.heap.size) (w1.alloc o):=
 h.below ((Below.refl _ w1).alloc (Nat.le_refl _) o) fun k hk=>hk.imp id fun e=>by subst e;simp
theorem In.set (h:In w L P B N X w1) {p:Addr} (hp:X p.block) (u:Value):In w L P B N X (w1.setCell p u):=by obtain ⟨L',P',h⟩:=h;obtain ⟨a,b,c⟩:=h.X _ hp;have hc:=(Ch.refl (fun k=>k=p.block) w1).setCell (p:=p) rfl u;exact ⟨L',P',h.gp,h.is.ch hc (fun k hk e=>a (e ▸ hk)),h.same,h.vw,h.F,fun k hk=>let ⟨a,b,c⟩:=h.X k hk;⟨a,b,Nat.lt_of_lt_of_le c hc.size⟩,h.ch.then hc fun k e=>.inr (e ▸ b)⟩
theorem In.ch (h:In w L P B N X w1) {S:Nat→Prop} (hc:Ch S w1 w2) (hs:∀ k,S k→X k):In w L P B N X w2:=by obtain ⟨L',P',h⟩:=h;exact ⟨L',P',h.gp,h.is.ch hc (fun k hk e=>(h.X k (hs k e)).1 hk),h.same,h.vw,h.F,fun k hk=>let ⟨a,b,c⟩:=h.X k hk;⟨a,b,Nat.lt_of_lt_of_le c hc.size⟩,h.ch.then hc fun k e=>.inr (h.X k (hs k e)).2.1⟩
theorem In.sub (h:In w L P B N X w1) (hx:∀ k,X' k→X k):In w L P B N X' w1:=by obtain ⟨L',P',h⟩:=h;exact ⟨L',P',{ h with X:=fun k hk=>h.X k (hx k hk) }⟩
theorem In.lt (h:In w L P B N X w1) {k:Nat} (hk:X k):k<w1.heap.size:=let ⟨_,_,h⟩:=h;(h.X k hk).2.2
theorem In.size (h:In w L P B N X w1):w.heap.size≤w1.heap.size:=let ⟨_,_,h⟩:=h;h.ch.size
theorem In.drew (h:In w L P B N X w1):In w L P B N X w1.drew:=h.post (Below.refl _ w1).drew
theorem InX.step {L':PgL} {P' P'':Pgr} {B':Int→By} {N':Nat} (h:InX w L P B N X w1 L' P') (ht:PTo w1 L' P'' w2) (hs:P'.SameC P'') (hv:Vw P'' B' N'):In w L P B' N' X w2∧Ch (fun k=>¬ X k) w1 w2:=by
 obtain ⟨L2,g2,p2,f2,c2⟩:=ht;refine ⟨⟨L2,P'',g2.trans h.gp,p2,h.same.trans hs,hv,fun k hk=>?_,fun k hk=>?_,h.ch.then c2 h.F⟩,c2.mono fun k _ hk hx=>(h.X k hx).1 hk⟩
 ·rcases f2 k hk with e | e
  ·exact h.F k e
  ·exact .inr (Nat.le_trans h.ch.size e)
 ·obtain ⟨a,b,c⟩:=h.X k hk;exact ⟨fun hf=>(f2 k hf).elim a (by omega),b,Nat.lt_of_lt_of_le c c2.size⟩
end
def bT (g:Nat):Value:=.agg #[au g]
theorem ou (n:Nat) (w1:World) {w:World} {L:PgL} {P:Pgr} {B:Int→By} {N:Nat} {X:Nat→Prop} (h:In w L P B N X w1) (h1:1≤n) (hn:n<N):
  Calls Tryz.prog 309 #[bT L.gp,.int .i64 n] w1 fun e w2=>e=.returned (.tuple #[.string (ak (B n)),.int .i64 0])∧In w L P B N X w2∧Ch (fun k=>¬ X k) w1 w2:=by
 have hA:Below w1.heap.size w1 (w1.alloc (.cells #[au L.gp] 111)):=(Below.refl _ w1).alloc (Nat.le_refl _) _;have hX:(w1.alloc (.cells #[au L.gp] 111)).heap[w1.heap.size]?=some (.cells #[au L.gp] 111 (0,0)):=ah rfl;obtain ⟨L',P',h0⟩:=h;have ho:=lu h0.vw h1 hn;have HF:=hid (cE n (B n) _ (h0.is.below hA) ho.1);have h2:In w L P B N X (w1.alloc (.cells #[au L.gp] 111)):=In.post ⟨L',P',h0⟩ hA;have h0A:InX w L P B N X (w1.alloc (.cells #[au L.gp] 111)) L' P':=⟨h0.gp,h0.is.below hA,h0.same,h0.vw,h0.F,fun k hk=>let ⟨a,b,c⟩:=h0.X k hk;⟨a,b,Nat.lt_of_lt_of_le c hA.size⟩,h0.ch.trans (Ch.of_below hA)⟩;have H0:=hid h0A;have HO:=hid ho;have HA:=hid hA;have x0:=aa hX 0;have xl:=af hX;simp only [List.getElem?_toArray,List.getElem?_cons_zero] at x0;rw [h0.gp] at HF;unfold bT au at *;clear hX h0 h0A ho hA h2 h1 hn;go_enter Tryz.func309,Tryz.ntmps309;go_wp2_with fail;refine HF.out.mono ?_;rintro e w2 ⟨rfl,hr⟩;have hs:=H0.out.step hr HO.out.2.2 HO.out.2.1;have HS:=hid (show In w L P B N X w2∧Ch (fun k=>¬ X k) w1 w2 from ⟨hs.1,(Ch.of_below HA.out).trans hs.2⟩);clear hr hs x0 xl;go_wp2_with fail;go_ret2;exact ⟨rfl,HS.out⟩
theorem ot (n:Nat) (s:By) (w1:World) {w:World} {L:PgL} {P:Pgr} {B:Int→By} {N:Nat} {X:Nat→Prop} (h:In w L P B N X w1) (h1:1≤n) (hn:n<N) (hs:s.length=232):
  Calls Tryz.prog 310 #[bT L.gp,.int .i64 n,.string (ak s)] w1 fun e w2=>e=.returned (.int .i64 0)∧In w L P (gY B n s) N X w2∧Ch (fun k=>¬ X k) w1 w2:=by
 have hA:Below w1.heap.size w1 (w1.alloc (.cells #[au L.gp] 111)):=(Below.refl _ w1).alloc (Nat.le_refl _) _;have hX:(w1.alloc (.cells #[au L.gp] 111)).heap[w1.heap.size]?=some (.cells #[au L.gp] 111 (0,0)):=ah rfl;obtain ⟨L',P',h0⟩:=h;have hN:=h0.vw.N;have ho:=gQ (s:=s) (dt:=true) h0.vw h1 hn (.inl rfl) hN hs (.inl rfl);have HF:=hid (cV n s _ (h0.is.below hA) (by rw [h0.vw.base];exact Nat.zero_le _) h0.vw.saves (by omega) ho.1 ho.2.1);have h0A:InX w L P B N X (w1.alloc (.cells #[au L.gp] 111)) L' P':=⟨h0.gp,h0.is.below hA,h0.same,h0.vw,h0.F,fun k hk=>let ⟨a,b,c⟩:=h0.X k hk;⟨a,b,Nat.lt_of_lt_of_le c hA.size⟩,h0.ch.trans (Ch.of_below hA)⟩;have H0:=hid h0A;have HO:=hid ho.2.2;have HA:=hid hA;have x0:=aa hX 0;have xl:=af hX;simp only [List.getElem?_toArray,List.getElem?_cons_zero] at x0;rw [h0.gp] at HF;unfold bT au at *;clear hX h0 h0A ho hA h1 hn hs hN;go_enter Tryz.func310,Tryz.ntmps310;go_wp2_with fail;refine HF.out.mono ?_;rintro e w2 ⟨rfl,hr⟩;have hs:=H0.out.step hr HO.out.2 HO.out.1;have HS:=hid (show In w L P (gY B n s) N X w2∧Ch (fun k=>¬ X k) w1 w2 from ⟨hs.1,(Ch.of_below HA.out).trans hs.2⟩);clear hr hs x0 xl;go_wp2_with fail;go_ret;exact ⟨rfl,HS.out⟩
end Go.Proofs.YtdmhbgpejppbkaaGreat
namespace Go.Proofs.YtdmhbgpejppbkaaGreat
open Go.Lib (hid)
open Go.RowKit Go.Maps
def sK (v:Value):Option (DataW Unit × List MemPlace):=match v with
 | .string s=>some (.lit (.string (bs s)),[])
 | _=>none
theorem kI {v:Value} {l:List UInt8} {ps:List MemPlace} (h:sK v=some (.lit (.string l),ps)):v=.string (ak l):=by
 unfold sK at h
 split at h
 ·simp only [Option.some.injEq,Prod.mk.injEq,DataW.lit.injEq,Lit.string.injEq] at h;rw [← h.1,eO]
 ·cases h
theorem gL {n:Int} (h0:0≤n) (h1:n<4096):fM n:=WalkArith.wf_i64 (by omega)
theorem ra (w:World):(zeroValue 9).run Tryz.prog w=.ok (.string ⟨#[]⟩) w:=by kernel_rfl
theorem gP {m n:Int} (h:m≠n):bR m≠bR n:=fun e=>h (by cases e;rfl)
theorem jr:∀ (N:Nat) (K:List Int),K.Nodup→(∀ n ∈ K,0≤n∧n<N)→K.length≤N
 | 0,K,_,h=>by
   cases K with
   | nil=>exact Nat.le_refl _
   | cons a K=>have:=h a List.mem_cons_self;omega
 | N+1,K,hn,h=>by
   have h1:=jr N (K.filter fun n=>!(n == N)) (hn.sublist List.filter_sublist) (fun n hn=>by
    rw [List.mem_filter] at hn;have:=h n hn.1;have h2:n≠N:=by simpa using hn.2
    omega)
   have h2:K.length≤(K.filter fun n=>!(n == (N:Int))).length+1:=by
    have:=hn;clear h1 h
    induction K with
    | nil=>simp
    | cons a K ih=>
      rw [List.nodup_cons] at this;by_cases ha:a=N
      ·subst ha
       rw [List.filter_cons_of_neg (by simp),List.filter_eq_self.2 (fun x hx=>by
        have:x≠N:=fun e=>this.1 (e ▸ hx)
        simpa using this)]
       simp
      ·rw [List.filter_cons_of_pos (by simpa using ha)];simp only [List.length_cons];have:=ih this.2 this.2;omega
   omega
def blankL:List UInt8:=List.replicate 232 0
structure BookOf (D:DataW Unit) (K:List Int) (B:Int→List UInt8):Prop where
 tidy:Tidy D
 nd:K.Nodup
 rng:∀ n ∈ K,0≤n∧n<(4096:Nat)
 yes:∀ n ∈ K,∀ z,D.atKey (bR n) z=.lit (.string (B n))
 no:∀ n,n ∉ K→has D (bR n)=false∧B n=blankL
 size:size D=K.length
def aY (B:Int→List UInt8) (n:Int) (l:List UInt8):Int→List UInt8:=fun m=>if m=n then l else B m
theorem BookOf.put {D:DataW Unit} {K:List Int} {B:Int→List UInt8} (h:BookOf D K B) {n:Int} (h0:0≤n) (h1:n<4096) (s:ByteArray):∃ K',BookOf (D.put (bR n) (.lit (.string (bs s)))) K' (aY B n (bs s)):=by
 by_cases hn:n ∈ K
 ·refine ⟨K,h.tidy.put (eC n) _,h.nd,h.rng,fun m hm z=>?_,fun m hm=>?_,?_⟩
  ·unfold aY;by_cases e:m=n
   ·subst e;rw [if_pos rfl];exact atKey_put_same h.tidy.isMap (eC m) _ _
   ·rw [if_neg e,atKey_put_other (gP e)];exact h.yes m hm z
  ·have e:m≠n:=fun e=>hm (e ▸ hn)
   unfold aY;rw [has_put_other (gP e),if_neg e];exact h.no m hm
  ·rw [size_put h.tidy,has_true_of_atKey (fun z=>h.yes n hn z),if_pos rfl,h.size]
 ·refine ⟨K ++ [n],h.tidy.put (eC n) _,?_,fun m hm=>?_,fun m hm z=>?_,fun m hm=>?_,?_⟩
  ·rw [List.nodup_append];exact ⟨h.nd,by simp,fun a ha b hb e=>by simp at hb;subst e hb;exact hn ha⟩
  ·rcases List.mem_append.1 hm with hm | hm
   ·exact h.rng m hm
   ·rw [List.mem_singleton.1 hm];exact ⟨h0,by omega⟩
  ·unfold aY;rcases List.mem_append.1 hm with hm | hm
   ·have e:m≠n:=fun e=>hn (e ▸ hm)
    rw [if_neg e,atKey_put_other (gP e)];exact h.yes m hm z
   ·rw [List.mem_singleton.1 hm,if_pos rfl];exact atKey_put_same h.tidy.isMap (eC n) _ _
  ·rw [List.mem_append,not_or] at hm;have e:m≠n:=by simpa using hm.2
   unfold aY;rw [has_put_other (gP e),if_neg e];exact h.no m hm.1
  ·rw [size_put h.tidy,(h.no n hn).1,if_neg (by simp),h.size,List.length_append];rfl
def BookIs (w:World) (gm:Nat) (B:Int→List UInt8):Prop:=∃ D K,w.ownsMap Tryz.prog 3 sK gm K.length D∧BookOf D K B
section
variable {w w':World} {gm:Nat} {B:Int→List UInt8}
theorem BookIs.made (w:World):BookIs (w.alloc (.map #[] 0)) w.heap.size (fun _=>blankL):=
 ⟨_,[],World.ownsMap_made w _ _ _,tidy_empty,List.Pairwise.nil,fun _ h=>absurd h List.not_mem_nil,fun _ h=>absurd h List.not_mem_nil,fun _ _=>⟨rfl,rfl⟩,rfl⟩
theorem BookIs.lt (h:BookIs w gm B):gm<w.heap.size:=let ⟨_,_,h,_⟩:=h;h.lt
theorem BookIs.block (h:BookIs w gm B) (hb:w'.heap[gm]?=w.heap[gm]?):BookIs w' gm B:=by obtain ⟨D,K,⟨es,clock,hh,F,hs,hD⟩,hm⟩:=h;exact ⟨D,K,⟨es,clock,hb.trans hh,F,hs,hD⟩,hm⟩
theorem BookIs.ch {S:Nat→Prop} (h:BookIs w gm B) (hc:Ch S w w') (hn:¬ S gm):BookIs w' gm B:=h.block (hc.block gm h.lt hn)
theorem BookIs.look (h:BookIs w gm B) {n:Int} (hw:fM n):∃ (v:ByteArray) (b:Bool),(Instr.lookup 103 (.map (some gm)) (.int .i64 n) true).run Tryz.prog w=.ok (.tuple #[.string v,.bool b]) w∧(b=true→v=ak (B n))∧(b=false→B n=blankL):=by
 obtain ⟨D,K,hown,hm⟩:=h;obtain ⟨v,ps,hrun,hv⟩:=hown.look_ok bQ Tryz.underlying103 (ra w) (zd:=.lit (.string [])) (zp:=[]) rfl (du hw);by_cases hn:n ∈ K
 ·rw [hm.yes n hn] at hv;have:=kI hv;subst this;exact ⟨_,_,hrun,fun _=>rfl,fun h=>by rw [has_true_of_atKey (fun z=>hm.yes n hn z)] at h;cases h⟩
 ·rw [atKey_of_not_has (hm.no n hn).1] at hv;have:=kI hv;subst this;refine ⟨_,_,hrun,?_⟩;rw [(hm.no n hn).1];exact ⟨fun h=>(by cases h),fun _=>(hm.no n hn).2⟩
theorem BookIs.put (h:BookIs w gm B) {n:Int} (h0:0≤n) (h1:n<4096) (s:ByteArray):
  ∃ w',(Instr.mapUpdate 103 (.map (some gm)) (.int .i64 n) (.string s)).run Tryz.prog w=.ok () w'∧BookIs w' gm (aY B n (bs s))∧w.grownBy w' (some gm):=by
 obtain ⟨D,K,hown,hm⟩:=h;have hl:=jr 4096 K hm.nd hm.rng;obtain ⟨w',hrun,hown',hg⟩:=hown.update bQ Tryz.underlying103 (by simp [maxLen];omega) (du (gL h0 h1)) (val:=.string s) (d:=.lit (.string (bs s))) (ps:=[]) rfl;obtain ⟨K',hm'⟩:=hm.put h0 h1 s;exact ⟨w',hrun,⟨_,K',fY hown' hm'.size,hm'⟩,hg⟩
end
theorem dI (w:World):Calls Tryz.prog 89 #[] w fun e w'=>e=.returned (.string (ak blankL))∧Below w.heap.size w w':=by go_enter Tryz.func89,Tryz.ntmps89;go_wp2_with fail;refine (cO 232 w (by omega)).mono ?_;rintro e w1 ⟨rfl,hb⟩;have HB:=hid hb;clear hb;go_wp2_with fail;go_ret;exact ⟨rfl,HB.out⟩
theorem gI (n:Int) (gm:Nat) (B:Int→List UInt8) (w:World) (h:BookIs w gm B) (hw:fM n):
  Calls Tryz.prog 86 #[.map (some gm),.int .i64 n] w fun e w'=>e=.returned (.tuple #[.string (ak (B n)),.int .i64 0])∧Below w.heap.size w w':=by
 obtain ⟨v,b,hrun,hy,hn⟩:=h.look hw;go_enter Tryz.func86,Tryz.ntmps86;cases b
 ·have HN:=hid (hn rfl);clear hy hn;go_wp2_with fail;refine (dI w).mono ?_;rintro e w1 ⟨rfl,hb⟩;have HB:=hid hb;clear hb;go_wp2_with fail;go_ret2;rw [HN.out];exact ⟨rfl,HB.out⟩
 ·have HY:=hid (hy rfl);clear hy hn;go_wp2_with fail;go_ret2;rw [← HY.out];exact ⟨rfl,Below.refl _ _⟩
theorem gH (n:Int) (s:ByteArray) (gm:Nat) (B:Int→List UInt8) (w:World) (h:BookIs w gm B) (h0:0≤n) (h1:n<4096):
  Calls Tryz.prog 87 #[.map (some gm),.int .i64 n,.string s] w fun e w'=>e=.returned (.int .i64 0)∧BookIs w' gm (aY B n (bs s))∧Ch (fun k=>k=gm) w w':=by
 obtain ⟨w1,hrun,hb,hg⟩:=h.put h0 h1 s;have HB:=hid hb;have HG:=hid hg;clear hb hg;go_enter Tryz.func87,Tryz.ntmps87;go_wp2_with fail;go_ret;exact ⟨rfl,HB.out,Ch.of_grown HG.out (fun k e=>by cases e;rfl)⟩
end Go.Proofs.YtdmhbgpejppbkaaGreat
namespace Go.Proofs.YtdmhbgpejppbkaaGreat
open Go.Lib (hid)
open Go.RowKit Go.Maps
def cL (l:List UInt8):Int:=if bZ l then 0 else 30
theorem jc (n:Int) (gm:Nat) (B:Int→List UInt8) (w:World) (h:BookIs w gm B) (hw:fM n) (hl:(B n).length=232):
  Calls Tryz.prog 138 #[.iface 103 (.map (some gm)),.int .i64 n] w fun e w'=>∃ v,e=.returned (.tuple #[v,.int .i64 (cL (B n))])∧uD w.heap.size w' v (bf (B n))∧Below w.heap.size w w':=by
 have HH:=hid h;clear h;go_enter Tryz.func138,Tryz.ntmps138;go_wp2_with fail;refine (gI n gm B _ (HH.out.ch (Ch.alloc (Ch.refl (fun _=>False) w) _) id) hw).mono ?_;rintro e w1 ⟨rfl,hb⟩;have HB1:=hid (((Below.refl _ w).alloc (Nat.le_refl _) (.cells #[.int .i64 0,.slice none 0 0] 164)).trans (hb.mono (by simp)));have HR1:=hid (aw (ah (w0:=w) (g:=w.heap.size) (o:=.cells #[.int .i64 0,.slice none 0 0] 164) rfl) hb);clear hb;go_wp2_with fail;refine (fg (ak (B n)) w1 (by rw [ay];exact hl)).mono ?_;rw [aP];rintro e w2 ⟨v,rfl,⟨lv,rfl,ho⟩,hb⟩;have HB2:=hid (HB1.out.trans (hb.mono HB1.out.size));have HR2:=hid (aw HR1.out hb);have hw1:=HB1.out.size;have HO:=hid ho;obtain ⟨A,c,rfl⟩:=Sl.len' (ho.sl bt);clear hb ho;have hgl:=af HR2.out;have hgl1:=af HR1.out;have HG:=hid (aj HR2.out (.cells #[.int .i64 (bf (B n)).next,.slice A (bf (B n)).list.length c] 164));obtain ⟨r0,r1,r2,r3,r4⟩:=bj HG.out;have HT:=hid (ah (w0:=w2) (g:=w2.heap.size) (o:=.cells #[.int .i64 (bf (B n)).next,.slice A (bf (B n)).list.length c] 164) rfl);obtain ⟨t0,t1,t2,t3,t4⟩:=bj HT.out;have HOA:=hid (HO.out.alloc (.cells #[.int .i64 (bf (B n)).next,.slice A (bf (B n)).list.length c] 164));have HB3:=hid (HB2.out.alloc HB2.out.size (.cells #[.int .i64 (bf (B n)).next,.slice A (bf (B n)).list.length c] 164));go_upto_region 5 with fail
 generalize w2.alloc (.cells #[.int .i64 (bf (B n)).next,.slice A (bf (B n)).list.length c] 164)=w3 at *;generalize w2.heap.size=g2 at *;cases hd:bZ (B n)
 ·have HE:=hid (show dV (B n)=4∧cL (B n)=30∧bf (B n)=⟨0,[]⟩ by simp [dV,cL,bf,hd]);rw [HE.out.1];go_wp2_with fail;have hx:=ae (ae HG.out 0 (.int .i64 0)) 1 (.slice none 0 0);obtain ⟨q0,q1,-⟩:=bj hx;exact bodyPost_ret (v:=.tuple #[.agg #[.int .i64 0,.slice none 0 0],.int .i64 (cL (B n))]) (by rw [HE.out.2.1];simp [results,Tryz.results138,go_sem,q0,q1]) rfl ⟨_,rfl,by rw [HE.out.2.2];exact ⟨_,rfl,Own.nil⟩,HB3.out.setCell (Nat.le_refl _) _ |>.setCell (Nat.le_refl _) _⟩
 ·have HE:=hid (show dV (B n)=0∧cL (B n)=0 by simp [dV,cL,hd]);rw [HE.out.1];go_wp2_with fail;have hx:=ae (ae HG.out 0 (.int .i64 (bf (B n)).next)) 1 (.slice A (bf (B n)).list.length c);obtain ⟨q0,q1,-⟩:=bj hx
  exact bodyPost_ret (v:=.tuple #[.agg #[.int .i64 (bf (B n)).next,.slice A (bf (B n)).list.length c],.int .i64 (cL (B n))]) (by rw [HE.out.2];simp [results,Tryz.results138,go_sem,q0,q1]) rfl
   ⟨_,rfl,⟨_,rfl,(HOA.out.ch (((Ch.refl (fun j=>j=w.heap.size) _).setCell (p:=⟨w.heap.size,0,none⟩) rfl _).setCell (p:=⟨w.heap.size,1,none⟩) rfl _) (fun j hj e=>by have:=(HO.out.lt j hj).1;omega)).base hw1⟩,HB3.out.setCell (Nat.le_refl _) _ |>.setCell (Nat.le_refl _) _⟩
def cW (t:Tk):Int:=if aT t then 30 else 0
def cT (t:Tk) (B:Int→List UInt8) (n:Int):Int→List UInt8:=if aT t then B else aY B n (aC (cC t))
theorem gO (n:Int) (t:Tk) (v:Value) (gm:Nat) (B:Int→List UInt8) (w:World) (h:BookIs w gm B) (h0:0≤n) (h1:n<4096) (hs:Sl iC 1 w v t.list) (hl:t.list.length≤1000000):
  Calls Tryz.prog 139 #[.iface 103 (.map (some gm)),.int .i64 n,.agg #[.int .i64 t.next,v]] w fun e w'=>e=.returned (.int .i64 (cW t))∧BookIs w' gm (cT t B n)∧Ch (fun k=>k=gm) w w':=by
 have HH:=hid h;have HS:=hid hs;obtain ⟨A,c,rfl⟩:=Sl.len' hs;have hgm:=h.lt;clear h hs;go_enter Tryz.func139,Tryz.ntmps139;go_wp2_with fail;have HA:=hid ((Below.refl _ w).alloc (Nat.le_refl _) (.cells #[.int .i64 t.next,.slice A t.list.length c] 164));refine (dL t _ _ (HS.out.keep HA.out) hl).mono ?_;rintro e w1 ⟨rfl,hb⟩;have HB1:=hid (HA.out.trans (hb.mono HA.out.size));clear hb;cases hbad:aT t
 ·have HE:=hid (show cW t=0∧cT t B n=aY B n (aC (cC t)) by simp [cW,cT,hbad]);rw [show lI t=.tuple #[.string (ak (aC (cC t))),.int .i64 0] by unfold lI;rw [hbad];rfl];generalize aC (cC t)=F at *;go_wp2_with fail;refine (gH n (ak F) gm B w1 (HH.out.ch (Ch.of_below (S:=fun _=>False) HB1.out) id) h0 h1).mono ?_;rintro e w2 ⟨rfl,hbk,hch⟩;have HBK:=hid hbk;have HCH:=hid ((Ch.of_below (S:=fun k=>k=gm) HB1.out).trans hch);clear hbk hch;go_wp2_with fail;go_ret;exact ⟨by rw [HE.out.1];rfl,by rw [HE.out.2];exact HBK.out,HCH.out⟩
 ·have HE:=hid (show cW t=30∧cT t B n=B by simp [cW,cT,hbad]);rw [show lI t=.tuple #[.string (ak []),.int .i64 1] by unfold lI;rw [hbad];rfl];go_wp2_with fail;go_ret;exact ⟨by rw [HE.out.1];rfl,by rw [HE.out.2];exact HH.out.ch (Ch.of_below (S:=fun _=>False) HB1.out) id,Ch.of_below HB1.out⟩
def kC (g:Nat):Value:=.iface 111 (bT g)
theorem gZ (n:Nat) (w1:World) {w:World} {L:PgL} {P:Pgr} {B:Int→By} {N:Nat} {X:Nat→Prop} (h:In w L P B N X w1) (h1:1≤n) (hn:n<N) (hl:(B n).length=232):
  Calls Tryz.prog 138 #[kC L.gp,.int .i64 n] w1 fun e w2=>∃ lv,e=.returned (.tuple #[.agg #[.int .i64 (bf (B n)).next,lv],.int .i64 (cL (B n))])∧Own iC 1 3 w1.heap.size w2 lv (bf (B n)).list∧In w L P B N (fun k=>X k∨lv.ownBlock=some k) w2∧Ch (fun k=>¬ X k) w1 w2:=by
 have hX:(w1.alloc (.cells #[.int .i64 0,.slice none 0 0] 164)).heap[w1.heap.size]?=some (.cells #[.int .i64 0,.slice none 0 0] 164 (0,0)):=ah rfl;have HX:=hid hX;have HA:=hid (h.alloc (.cells #[.int .i64 0,.slice none 0 0] 164));have HXL:=hid (fun k (hk:X k)=>h.lt hk);have HG:=hid (ou n _ HA.out h1 hn);have hal:Below w1.heap.size w1 (w1.alloc (.cells #[.int .i64 0,.slice none 0 0] 164)):=(Below.refl _ w1).alloc (Nat.le_refl _) _;have HAL:=hid hal;have HL:=hid hl;unfold bT au at HG;unfold kC bT au;clear hX h h1 hn hl hal;go_enter Tryz.func138,Tryz.ntmps138;go_wp2_with fail;refine HG.out.mono ?_;rintro e w2 ⟨rfl,hi,hc⟩;have HR2:=hid (hc.keep HX.out (fun hh=>hh (.inr rfl)));have HI2:=hid hi;have HC2:=hid hc;clear hi hc;go_wp2_with fail;refine (fg (ak (B n)) w2 (by rw [ay];exact HL.out)).mono ?_;rw [aP];rintro e w3 ⟨v,rfl,⟨lv,rfl,ho⟩,hb⟩;obtain ⟨A,c,rfl⟩:=Sl.len' (ho.sl bt);obtain ⟨lvb,hlvb⟩:∃ v:Value,v=.slice A (bf (B n)).list.length c:=⟨_,rfl⟩;have HO:=hid ho;have HR3:=aw HR2.out hb;have hs2:=HC2.out.size;have hs3:=hb.size;have hgl1:=af HX.out
 have HI3:=hid (HI2.out.below (X':=fun k=>(X k∨k=w1.heap.size)∨lvb.ownBlock=some k) hb fun k hk=>hk.imp id fun e=>by
  rw [hlvb] at e;exact ho.lt k e)
 have HC3:=hid (HC2.out.trans (Ch.of_below hb));have HI4:=hid (HI3.out.post ((Below.refl _ w3).alloc (Nat.le_refl _) (.cells #[.int .i64 (bf (B n)).next,.slice A (bf (B n)).list.length c] 164)));have HC4:=hid (HC3.out.alloc (.cells #[.int .i64 (bf (B n)).next,.slice A (bf (B n)).list.length c] 164));have HCF:=hid ((Ch.of_below (S:=fun k=>¬ X k) HAL.out).trans (HC4.out.mono fun k _ e hx=>e (.inl hx)));have HG4:=hid (aj HR3 (.cells #[.int .i64 (bf (B n)).next,.slice A (bf (B n)).list.length c] 164));have HT4:=hid (ah (w0:=w3) (g:=w3.heap.size) (o:=.cells #[.int .i64 (bf (B n)).next,.slice A (bf (B n)).list.length c] 164) rfl);have HO4:=hid (ho.alloc (.cells #[.int .i64 (bf (B n)).next,.slice A (bf (B n)).list.length c] 164));obtain ⟨r0,r1,r2,r3,r4⟩:=bj HG4.out;obtain ⟨t0,t1,t2,t3,t4⟩:=bj HT4.out;have HLV:=hid hlvb;have HS2:=hid hs2;clear ho hb hlvb hs3 HR3;go_upto_region 5 with fail
 generalize w3.alloc (.cells #[.int .i64 (bf (B n)).next,.slice A (bf (B n)).list.length c] 164)=w4 at *;generalize w3.heap.size=g3 at *;cases hd:bZ (B n)
 ·have HE:=hid (show dV (B n)=4∧cL (B n)=30∧bf (B n)=⟨0,[]⟩ by simp [dV,cL,bf,hd]);rw [HE.out.1];go_wp2_with fail;have hx:=ae (ae HG4.out 0 (.int .i64 0)) 1 (.slice none 0 0);obtain ⟨q0,q1,-⟩:=bj hx
  exact bodyPost_ret (v:=.tuple #[.agg #[.int .i64 0,.slice none 0 0],.int .i64 (cL (B n))]) (by rw [HE.out.2.1];simp [results,Tryz.results138,go_sem,q0,q1]) rfl ⟨.slice none 0 0,by rw [HE.out.2.2],by rw [HE.out.2.2];exact Own.nil,
   (((HI4.out.set (p:=⟨w1.heap.size,0,none⟩) (.inl (.inr rfl)) (.int .i64 0)).set (p:=⟨w1.heap.size,1,none⟩) (.inl (.inr rfl)) (.slice none 0 0)).sub fun k hk=>hk.elim (fun e=>.inl (.inl e)) (fun e=>by cases e)),HCF.out.then (((Ch.refl (fun j=>j=w1.heap.size) w4).setCell (p:=⟨w1.heap.size,0,none⟩) rfl (.int .i64 0)).setCell (p:=⟨w1.heap.size,1,none⟩) rfl (.slice none 0 0)) (fun i e=>.inr (Nat.le_of_eq e.symm))⟩
 ·have HE:=hid (show dV (B n)=0∧cL (B n)=0 by simp [dV,cL,hd]);rw [HE.out.1];go_wp2_with fail;have hx:=ae (ae HG4.out 0 (.int .i64 (bf (B n)).next)) 1 (.slice A (bf (B n)).list.length c);obtain ⟨q0,q1,-⟩:=bj hx
  exact bodyPost_ret (v:=.tuple #[.agg #[.int .i64 (bf (B n)).next,.slice A (bf (B n)).list.length c],.int .i64 (cL (B n))]) (by rw [HE.out.2];simp [results,Tryz.results138,go_sem,q0,q1]) rfl ⟨_,rfl,(HO4.out.ch (((Ch.refl (fun j=>j=w1.heap.size) _).setCell (p:=⟨w1.heap.size,0,none⟩) rfl _).setCell (p:=⟨w1.heap.size,1,none⟩) rfl _) (fun j hj e=>by have:=(HO.out.lt j hj).1;omega)).base (by have:=HS2.out;simp at this;omega),
   (((HI4.out.set (p:=⟨w1.heap.size,0,none⟩) (.inl (.inr rfl)) _).set (p:=⟨w1.heap.size,1,none⟩) (.inl (.inr rfl)) _).sub fun k hk=>hk.elim (fun e=>.inl (.inl e)) (fun e=>.inr (by rw [HLV.out];exact e))),HCF.out.then (((Ch.refl (fun j=>j=w1.heap.size) w4).setCell (p:=⟨w1.heap.size,0,none⟩) rfl _).setCell (p:=⟨w1.heap.size,1,none⟩) rfl _) (fun i e=>.inr (Nat.le_of_eq e.symm))⟩
theorem rg (B:Int→By) (n:Int) (s:By):aY B n s=gY B n s:=rfl
theorem fy (n:Nat) (t:Tk) (v:Value) (w1:World) {w:World} {L:PgL} {P:Pgr} {B:Int→By} {N:Nat} {X:Nat→Prop} (h:In w L P B N X w1) (h1:1≤n) (hn:n<N) (hs:Sl iC 1 w1 v t.list) (hl:t.list.length≤1000000):
  Calls Tryz.prog 139 #[kC L.gp,.int .i64 n,.agg #[.int .i64 t.next,v]] w1 fun e w2=>e=.returned (.int .i64 (cW t))∧In w L P (cT t B n) N X w2∧Ch (fun k=>¬ X k) w1 w2:=by
 have HS:=hid hs;obtain ⟨A,c,rfl⟩:=Sl.len' hs;have HH:=hid h;have HA:=hid ((Below.refl _ w1).alloc (Nat.le_refl _) (.cells #[.int .i64 t.next,.slice A t.list.length c] 164));have HN:=hid (And.intro h1 hn);unfold kC bT au;clear h hs h1 hn;go_enter Tryz.func139,Tryz.ntmps139;go_wp2_with fail;refine (dL t _ _ (HS.out.keep HA.out) hl).mono ?_;rintro e w2 ⟨rfl,hb⟩;have HB1:=hid (HA.out.trans (hb.mono HA.out.size));have HI1:=hid (HH.out.post HB1.out);clear hb;cases hbad:aT t
 ·have HE:=hid (show cW t=0∧cT t B n=gY B n (aC (cC t)) by simp [cW,cT,hbad,rg]);rw [show lI t=.tuple #[.string (ak (aC (cC t))),.int .i64 0] by unfold lI;rw [hbad];rfl];have HP:=hid (ot n (aC (cC t)) w2 HI1.out HN.out.1 HN.out.2 (bY _));unfold bT au at HP;generalize aC (cC t)=F at *;go_wp2_with fail;refine HP.out.mono ?_;rintro e w3 ⟨rfl,hi,hc⟩;have HF:=hid (show In w L P (cT t B n) N X w3∧Ch (fun k=>¬ X k) w1 w3 from ⟨by rw [HE.out.2];exact hi,(Ch.of_below HB1.out).trans hc⟩);clear hi hc;go_wp2_with fail;go_ret;exact ⟨by rw [HE.out.1];rfl,HF.out⟩
 ·have HE:=hid (show cW t=30∧cT t B n=B by simp [cW,cT,hbad]);rw [show lI t=.tuple #[.string (ak []),.int .i64 1] by unfold lI;rw [hbad];rfl];go_wp2_with fail;go_ret;exact ⟨by rw [HE.out.1];rfl,by rw [HE.out.2];exact HI1.out,Ch.of_below HB1.out⟩
end Go.Proofs.YtdmhbgpejppbkaaGreat
