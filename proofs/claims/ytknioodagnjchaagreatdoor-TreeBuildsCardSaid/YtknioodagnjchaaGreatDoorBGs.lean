/- tree: above: what stays at a round, what a round's region makes. tree: leaves: what stays at a round, what a round's region makes. tree: leaves: a round's ends. tree: above. tree.Build: pairs whose values are too long. A tree read by the reference, plain: kids in turn, their bounds. -/
import Derived.Test.YtknioodagnjchaaGreatDoorBGr
import Derived.Test.YtknioodagnjchaaGreatDoorBGi
import Derived.Test.YtknioodagnjchaaGreatDoorBGq
import Derived.Test.YtknioodagnjchaaGreatDoorBGf
import Derived.Test.YtknioodagnjchaaGreatDoorBGn
import Derived.Test.YtknioodagnjchaaGreatDoorBGl
import Derived.Deep.RegionHeld3
import Derived.Deep.Cut
set_option maxRecDepth 100000
set_option maxHeartbeats 8000000
namespace Go.Proofs.YtknioodagnjchaaGreatDoor
open Go renaming Value->Bt,World->Bv,TypeId->BK
open List renaming mem_or_eq_of_mem_set->Bw,set_append_right->Bx,flatMap_cons->Bz,mem_cons_of_mem->BA,mem_cons_self->BB,length_append->BC,append_assoc->BD,length_cons->BE,map_append->BF,length_set->BG,length_singleton->BH,mem_of_mem_drop->BI,flatten_cons->BJ,length_nil->BL
open Go.RowKit
theorem Sl.AN {α:Type} {f:α->List Bt} {size:Nat} {w:Bv} {A:Option Addr} {n c:Nat} {xs:List α} (h:Sl f size w (.slice A n c) xs) (k:Nat) (hk:k<=xs.length) (hk0:0<xs.length):Sl f size w (.slice A k c) (xs.take k):=by
 cases A with
 | none=>
   obtain ⟨A',c',he,hx⟩:=h;injection he with h1 h2 h3
   subst h1;obtain ⟨b,off,e1,_⟩:=hx (fun e=>by rw [e] at hk0;simp at hk0);cases e1
 | some a=>exact h.take k hk
theorem Sl.AD {w:Bv} {A:Option Addr} {n c k:Nat} {xs:List Int} (h:Sl iC 1 w (.slice A n c) xs) (hk:k<xs.length):∃ b off,A=some ⟨b,off,none⟩/\b<w.heap.size/\w.cell? ⟨b,off+k,none⟩=some (.int .i64 xs[k]):=by
 obtain ⟨b,off,c',he,hbl,hsl⟩:=h.zQ hk;injection he with e1 e2 e3
 exact ⟨b,off,e1,hbl,by simpa [iC] using hsl 0 _ rfl⟩
theorem mK (A:Option Addr) (n c n' c':Nat):(Value.slice A n c).ownBlock=(Value.slice A n' c').ownBlock:=by rcases A with _ | ⟨b,off,sp⟩ <;> rfl
theorem Fr.same {b:Nat} {A:Option Addr} {n c n' c':Nat} (h:Fr b (.slice A n c)):Fr b (.slice A n' c'):=fun k hk=>h k ((mK A n c n' c').trans hk)
theorem pR {α:Type}:∀ {gl:List (List α)},(∀ G ∈ gl,3<=G.length)->gl.length<=gl.flatten.length
 | [],_=>by simp
 | G :: gl,h=>by
   have:=pR (gl:=gl) fun x hx=>h x (BA _ hx)
   have:=h G BB;simp only [BE,BJ,BC];omega
section
variable {α:Type} {f:α->List Bt} {size base:Nat} {e:BK} {w w':Bv}
def Chain (f:α->List Bt) (size:Nat) (e:BK) (base:Nat) (w:Bv) (dm da:Bool) (vm va cur:Bt) (xs zs:List α):Prop:=
 (dm=false/\da=false/\cur=.slice none 0 0)\/(dm=true/\da=false/\vm=cur/\Own f size e base w cur xs)\/(dm=true/\da=true/\va=cur/\Own f size e base w cur zs)
theorem Own.AC {v:Bt} {xs:List α} {row:Option Nat} (h:Own f size e base w v xs) (hg:w.grownBy w' row) (hn:v.ownBlock=none\/v.ownBlock≠row):Own f size e base w' v xs:=World.ownsRow.kept h hg hn
theorem Chain.grown {dm da:Bool} {vm va cur:Bt} {xs zs:List α} {row:Option Nat} (h:Chain f size e base w dm da vm va cur xs zs) (hg:w.grownBy w' row) (hn:cur.ownBlock=none\/cur.ownBlock≠row):Chain f size e base w' dm da vm va cur xs zs:=
 h.imp id (Or.imp (fun ⟨a,b,c,h⟩=>⟨a,b,c,h.AC hg hn⟩) (fun ⟨a,b,c,h⟩=>⟨a,b,c,h.AC hg hn⟩))
theorem Chain.below {dm da:Bool} {vm va cur:Bt} {xs zs:List α} (h:Chain f size e base w dm da vm va cur xs zs) (hb:Below w.heap.size w w'):Chain f size e base w' dm da vm va cur xs zs:=
 h.imp id (Or.imp (fun ⟨a,b,c,h⟩=>⟨a,b,c,h.below hb⟩) (fun ⟨a,b,c,h⟩=>⟨a,b,c,h.below hb⟩))
theorem Chain.ch {dm da:Bool} {vm va cur:Bt} {xs zs:List α} {S:Nat->Prop} (h:Chain f size e base w dm da vm va cur xs zs) (hc:Ch S w w') (hn:∀ k,cur.ownBlock=some k->¬ S k):Chain f size e base w' dm da vm va cur xs zs:=
 h.imp id (Or.imp (fun ⟨a,b,c,h⟩=>⟨a,b,c,h.ch hc hn⟩) (fun ⟨a,b,c,h⟩=>⟨a,b,c,h.ch hc hn⟩))
theorem Chain.lt {dm da:Bool} {vm va cur:Bt} {xs zs:List α} (h:Chain f size e base w dm da vm va cur xs zs):∀ k,cur.ownBlock=some k->base<=k/\k<w.heap.size:=fun k hk=>by
 rcases h with ⟨_,_,rfl⟩ | ⟨_,_,_,h⟩ | ⟨_,_,_,h⟩
 ·cases hk
 ·exact h.lt k hk
 ·exact h.lt k hk
theorem Chain.made {da:Bool} {vm va cur:Bt} {xs zs:List α} (h:Chain f size e base w false da vm va cur xs zs):da=false/\cur=.slice none 0 0:=by
 rcases h with ⟨_,h1,h2⟩ | ⟨h,_⟩ | ⟨h,_⟩
 ·exact ⟨h1,h2⟩
 ·cases h
 ·cases h
theorem Chain.mid {vm va cur:Bt} {xs zs:List α} (h:Chain f size e base w true false vm va cur xs zs):vm=cur/\Own f size e base w cur xs:=by
 rcases h with ⟨h,_⟩ | ⟨_,_,h1,h2⟩ | ⟨_,h,_⟩
 ·cases h
 ·exact ⟨h1,h2⟩
 ·cases h
theorem Chain.done {dm:Bool} {vm va cur:Bt} {xs zs:List α} (h:Chain f size e base w dm true vm va cur xs zs):va=cur/\Own f size e base w cur zs:=by
 rcases h with ⟨_,h,_⟩ | ⟨_,h,_⟩ | ⟨_,_,h⟩
 ·cases h
 ·cases h
 ·exact h
end
def NdAt (w:Bv) (base:Nat) (da ds:Bool) (vp:Bt) (g:Nat) (leaf:Bool) (vk vc vd:Bt):Prop:=
 (da=false/\ds=false)\/(da=true/\ds=false/\vp=.pointer (some ⟨g,0,none⟩)/\base<=g/\w.heap[g]?=some (ar Nd.zero (.slice none 0 0) (.slice none 0 0) (.slice none 0 0)))\/(da=true/\ds=true/\vp=.pointer (some ⟨g,0,none⟩)/\base<=g/\w.heap[g]?=some (ar ⟨leaf,[],[],[]⟩ vk vc vd))
theorem NdAt.keep {w w':Bv} {base:Nat} {da ds:Bool} {vp:Bt} {g:Nat} {leaf:Bool} {vk vc vd:Bt} (h:NdAt w base da ds vp g leaf vk vc vd) (hk:∀ o,da=true->w.heap[g]?=some o->w'.heap[g]?=some o):NdAt w' base da ds vp g leaf vk vc vd:=
 h.imp id (Or.imp (fun ⟨a,b,c,d,h⟩=>⟨a,b,c,d,hk _ a h⟩) (fun ⟨a,b,c,d,h⟩=>⟨a,b,c,d,hk _ a h⟩))
theorem NdAt.free {w:Bv} {base:Nat} {da:Bool} {vp:Bt} {g:Nat} {leaf:Bool} {vk vc vd vk' vc' vd':Bt} (h:NdAt w base da false vp g leaf vk vc vd):NdAt w base da false vp g leaf vk' vc' vd':=by
 rcases h with h | h | ⟨_,h,_⟩
 ·exact .inl h
 ·exact .inr (.inl h)
 ·cases h
theorem NdAt.Ab {w:Bv} {base:Nat} {da ds:Bool} {vp:Bt} {g:Nat} {leaf:Bool} {vk vc vd vk' vc' vd':Bt} (h:NdAt w base da ds vp g leaf vk vc vd) (e:ds=false):NdAt w base da ds vp g leaf vk' vc' vd':=by subst e;exact h.free
theorem NdAt.lt {w:Bv} {base:Nat} {da ds:Bool} {vp:Bt} {g:Nat} {leaf:Bool} {vk vc vd:Bt} (h:NdAt w base da ds vp g leaf vk vc vd) (hd:da=true):g<w.heap.size:=by
 rcases h with ⟨h,_⟩ | ⟨_,_,_,_,h⟩ | ⟨_,_,_,_,h⟩
 ·rw [h] at hd;cases hd
 ·exact aj h
 ·exact aj h
theorem NdAt.mid {w:Bv} {base:Nat} {vp:Bt} {g:Nat} {leaf:Bool} {vk vc vd:Bt} (h:NdAt w base true false vp g leaf vk vc vd):vp=.pointer (some ⟨g,0,none⟩)/\base<=g/\w.heap[g]?=some (ar Nd.zero (.slice none 0 0) (.slice none 0 0) (.slice none 0 0)):=by
 rcases h with ⟨h,_⟩ | ⟨_,_,h⟩ | ⟨_,h,_⟩
 ·cases h
 ·exact h
 ·cases h
theorem NdAt.done {w:Bv} {base:Nat} {da:Bool} {vp:Bt} {g:Nat} {leaf:Bool} {vk vc vd:Bt} (h:NdAt w base da true vp g leaf vk vc vd):vp=.pointer (some ⟨g,0,none⟩)/\base<=g/\w.heap[g]?=some (ar ⟨leaf,[],[],[]⟩ vk vc vd):=by
 rcases h with ⟨_,h⟩ | ⟨_,h,_⟩ | ⟨_,_,h⟩
 ·cases h
 ·cases h
 ·exact h
theorem Dis.ne {s t:Bt} (h:Dis s t):t.ownBlock=none\/t.ownBlock≠s.ownBlock:=by
 cases ht:t.ownBlock with
 | none=>exact .inl rfl
 | some k=>exact .inr fun e=>h k e.symm ht
theorem Dis.AU {v v' v2:Bt} {n:Nat} (h:Dis v v2) (hat:v'.ownBlock=v.ownBlock\/v'.ownBlock=some n) (h2:∀ k,v2.ownBlock=some k->k<n):Dis v' v2:=by
 intro k hk hk2;rcases hat with hat | hat
 ·exact h k (hat ▸ hk) hk2
 ·rw [hat] at hk;injection hk with hk
  have:=h2 k hk2;omega
theorem Dis.lo {s t:Bt} {n:Nat} (hs:∀ k,s.ownBlock=some k->n<=k) (ht:∀ k,t.ownBlock=some k->k<n):Dis s t:=fun k h1 h2=>by have:=hs k h1;have:=ht k h2;omega
theorem fV {b c:Bool} (h:b=true->c=true) (hc:c=false):b=false:=by
 cases b with
 | false=>rfl
 | true=>rw [h rfl] at hc;cases hc
structure NrD (v:Bt) (r:Nr):Prop where
 k:Dis r.vk v
 c:Dis r.vc v
 d:Dis r.vd v
structure AbI (L':List (Int × By)) (x0:Int × By) (b B:Nat) (w:Bv) (i:Nat) (av hv:Bt) (done:List (List (Int × By))) (cur:List (Int × By)) (rs:List Nr) (wr:Bv):Prop where
 g:dp cR (L'.drop i) done cur=dp cR L' [] [x0]
 ne:cur≠[]
 ns:rs.map (·.n)=(done ++ [cur]).map cR
 o:Own kY 4 110 B wr av rs
 rows:yY b wr rs
 dis:∀ r ∈ rs,NrD av r
 lt:∀ r ∈ rs,∀ k,(r.vk.ownBlock=some k\/r.vc.ownBlock=some k\/r.vd.ownBlock=some k)->k<wr.heap.size
 h:Sl sC 1 wr hv ((done ++ [cur]).map iH)
 hf:Fr b hv
 hd:Dis hv av
 below:Below w.heap.size w wr
 cnt:done.flatten.length+cur.length<=i+1
 dn:∀ G ∈ done,3<=G.length
 mem:∀ x ∈ done.flatten ++ cur,x ∈ x0 :: L'
 cp:∀ r ∈ rs,r.n.keys.length<=r.c1/\r.n.kids.length<=r.c3
 hc:∃ A n c,hv=.slice A n c/\n<=c
theorem Own.capN {α:Type} {f:α->List Bt} {size base:Nat} {e:BK} {w:Bv} {xs:List α} {A:Option Addr} {n c:Nat} (h:Own f size e base w (.slice A n c) xs):n<=c:=by
 rcases h.2 with ⟨hv,_⟩ | ⟨g,cap,cur,hv,_,_,hn,_⟩
 ·injection hv with _ e2 e3;omega
 ·injection hv with _ e2 e3;omega
theorem Own.fz {α:Type} {f:α->List Bt} {size base:Nat} {e:BK} {w:Bv} {xs:List α} {g n c:Nat} (h:Own f size e base w (.slice (some ⟨g,0,none⟩) n c) xs):∀ i,w.frozen? ⟨g,i,none⟩=false:=by
 rcases h.2 with ⟨hv,_⟩ | ⟨g',cap,cur,hv,_,hg,_⟩
 ·cases hv
 ·injection hv with e1 e2 e3
  injection e1 with e1
  injection e1 with e1
  subst e1;exact ab hg
theorem fE {g:Nat}:∀ (vs:List Bt) (o:Nat) (w:Bv),Ch (fun k=>k=g) w (w.setCells g o vs)
 | [],_,w=>Ch.refl _ w
 | v :: r,o,w=>((Ch.refl (fun k=>k=g) w).setCell (p:=⟨g,o,none⟩) rfl v).trans (fE r (o+1) _)
theorem NrD.ge {v:Bt} {r:Nr} {n:Nat} (h:∀ k,(r.vk.ownBlock=some k\/r.vc.ownBlock=some k\/r.vd.ownBlock=some k)->n<=k) (hv:∀ k,v.ownBlock=some k->k<n):NrD v r:=
 ⟨fun k hk hk2=>by have:=h k (.inl hk);have:=hv k hk2;omega,fun k hk hk2=>by have:=h k (.inr (.inl hk));have:=hv k hk2;omega,fun k hk hk2=>by have:=h k (.inr (.inr hk));have:=hv k hk2;omega⟩
theorem NrI.keep {b:Nat} {w w':Bv} {r:Nr} {g:Nat} (h:NrI b w r) (hc:Ch (fun k=>k=g) w w') (hk:r.vk.ownBlock≠some g) (hv:r.vc.ownBlock≠some g) (hd:r.vd.ownBlock≠some g):NrI b w' r:=
 ⟨⟨de h.s.k hc (fun _ h1 e=>hk (e ▸ h1)),de h.s.c hc (fun _ h1 e=>hv (e ▸ h1)),de h.s.d hc (fun _ h1 e=>hd (e ▸ h1))⟩,h.k,h.c,h.d⟩
theorem NrI.below {b:Nat} {w w':Bv} {r:Nr} (h:NrI b w r) (hb:Below w.heap.size w w'):NrI b w' r:=h.ch (S:=fun _=>False) (Ch.zK hb) fun _ h=>h.elim
theorem AbI.yes {L':List (Int × By)} {x0 x:Int × By} {b:Nat} {w wr w8:Bv} {i ga n c:Nat} {hv:Bt} {done:List (List (Int × By))} {cur:List (Int × By)} {rs:List Nr} {r':Nr}
  (h:AbI L' x0 b w.heap.size w i (.slice (some ⟨ga,0,none⟩) n c) hv done cur rs wr) (hb:Below wr.heap.size wr w8) (hr:r'.n=cR (cur ++ [x])) (hN:NrI b w8 r') (hge:∀ k,(r'.vk.ownBlock=some k\/r'.vc.ownBlock=some k\/r'.vd.ownBlock=some k)->wr.heap.size<=k/\k<w8.heap.size) (hcp:r'.n.keys.length<=r'.c1/\r'.n.kids.length<=r'.c3)
  (hx:L'.drop i=x :: L'.drop (i+1)) (hfit:bw (cR (cur ++ [x]))=true):AbI L' x0 b w.heap.size w (i+1) (.slice (some ⟨ga,0,none⟩) n c) hv done (cur ++ [x]) (rs.set done.length r') (w8.setCells ga (done.length * 4) (kY r')):=by
 have hga:=(h.o.lt ga rfl);have hc8:=fE (g:=ga) (kY r') (done.length * 4) w8;have hrl:rs.length=done.length+1:=by have:=congrArg List.length h.ns;simpa using this
 refine ⟨?_,by simp,?_,(h.o.below hb).set cf (by omega) r',?_,?_,?_,?_,h.hf,h.hd,?_,?_,h.dn,?_,fun r hr'=>?_,h.hc⟩
 ·rw [<- h.g,hx]
  conv=>rhs;unfold dp
  rw [if_pos hfit]
 ·have e:=h.ns;rw [BF,List.map_cons,List.map_nil] at e ⊢;rw [List.map_set,e,hr,Bx _ _ (by simp)];simp
 ·intro r hr';rcases Bw hr' with h1 | rfl
  ·have hd:=h.dis r h1;exact ((h.rows r h1).below hb).keep hc8 (fun e=>hd.k _ e rfl) (fun e=>hd.c _ e rfl) (fun e=>hd.d _ e rfl)
  ·exact hN.keep hc8 (fun e=>by have:=(hge _ (.inl e)).1;omega) (fun e=>by have:=(hge _ (.inr (.inl e))).1;omega) (fun e=>by have:=(hge _ (.inr (.inr e))).1;omega)
 ·intro r hr';rcases Bw hr' with h1 | rfl
  ·exact h.dis r h1
  ·exact NrD.ge (fun k hk=>(hge k hk).1) fun k hk=>(h.o.lt k hk).2
 ·intro r hr' k hk;rcases Bw hr' with h1 | rfl
  ·have:=h.lt r h1 k hk;have:=hb.size;have:=hc8.size;omega
  ·have:=(hge k hk).2;have:=hc8.size;omega
 ·have e:(done ++ [cur ++ [x]]).map iH=(done ++ [cur]).map iH:=by
   cases hcur:cur with
   | nil=>exact absurd hcur h.ne
   | cons y l=>simp [iH]
  rw [e];exact de (h.h.keep hb) hc8 fun k hk e=>h.hd k hk (by rw [e];rfl)
 ·exact (h.below.trans (hb.mono h.below.size)).trans (hc8.below (Nat.le_trans h.below.size hb.size) fun k hk=>hk ▸ hga.1)
 ·have:=h.cnt;simp only [BC,BE,BL];omega
 ·intro y hy;rw [<- BD] at hy;rcases List.mem_append.1 hy with h1 | h1
  ·exact h.mem y h1
  ·rw [List.mem_singleton.1 h1];exact BA _ (BI (i:=i) (by rw [hx];exact BB))
 ·rcases Bw hr' with h1 | rfl
  ·exact h.cp r h1
  ·exact hcp
theorem AbI.no {L':List (Int × By)} {x0 x:Int × By} {b:Nat} {w wr w8:Bv} {i:Nat} {av hv av' hv':Bt} {done:List (List (Int × By))} {cur:List (Int × By)} {rs:List Nr} {r':Nr}
  (h:AbI L' x0 b w.heap.size w i av hv done cur rs wr) (hb:Ch (fun k=>av.ownBlock=some k) wr w8) (ho:Own kY 4 110 w.heap.size w8 av' (rs ++ [r'])) (hlt:∀ k,(r'.vk.ownBlock=some k\/r'.vc.ownBlock=some k\/r'.vd.ownBlock=some k)->k<w8.heap.size) (hat:av'.ownBlock=av.ownBlock\/∀ k,av'.ownBlock=some k->wr.heap.size<=k) (hr:r'.n=cR [x]) (hN:NrI b w8 r') (hdr:NrD av' r')
  (hh:Sl sC 1 w8 hv' ((done ++ [cur]).map iH ++ [x.2])) (hhf:Fr b hv') (hhd:Dis hv' av') (hhc:∃ A n c,hv'=.slice A n c/\n<=c) (hcp:r'.n.keys.length<=r'.c1/\r'.n.kids.length<=r'.c3)
  (hx:L'.drop i=x :: L'.drop (i+1)) (hfit:bw (cR (cur ++ [x]))=false):AbI L' x0 b w.heap.size w (i+1) av' hv' (done ++ [cur]) [x] (rs ++ [r']) w8:=by
 have hrd:∀ r ∈ rs,∀ k,(r.vk.ownBlock=some k\/r.vc.ownBlock=some k\/r.vd.ownBlock=some k)->av.ownBlock≠some k:=fun r hr k hk e=>by
  have hd:=h.dis r hr;rcases hk with hk | hk | hk
  ·exact hd.k k hk e
  ·exact hd.c k hk e
  ·exact hd.d k hk e
 refine ⟨?_,by simp,?_,ho,?_,?_,?_,?_,hhf,hhd,?_,?_,?_,?_,fun r hr'=>?_,hhc⟩
 ·rw [<- h.g,hx]
  conv=>rhs;unfold dp
  rw [if_neg (by rw [hfit];simp)]
 ·rw [BF,h.ns];simp [hr]
 ·intro r hr';rcases List.mem_append.1 hr' with h1 | h1
  ·have h2:=h.rows r h1;exact ⟨⟨de h2.s.k hb (fun k h3 e=>hrd r h1 k (.inl h3) e),de h2.s.c hb (fun k h3 e=>hrd r h1 k (.inr (.inl h3)) e),de h2.s.d hb (fun k h3 e=>hrd r h1 k (.inr (.inr h3)) e)⟩,h2.k,h2.c,h2.d⟩
  ·rw [List.mem_singleton.1 h1];exact hN
 ·intro r hr';rcases List.mem_append.1 hr' with h1 | h1
  ·have hd:=h.dis r h1;have hs:=h.lt r h1;rcases hat with e | e
   ·exact ⟨fun k h2 h3=>hd.k k h2 (e ▸ h3),fun k h2 h3=>hd.c k h2 (e ▸ h3),fun k h2 h3=>hd.d k h2 (e ▸ h3)⟩
   ·refine ⟨fun k h2 h3=>?_,fun k h2 h3=>?_,fun k h2 h3=>?_⟩
    ·have:=hs k (.inl h2);have:=e k h3;omega
    ·have:=hs k (.inr (.inl h2));have:=e k h3;omega
    ·have:=hs k (.inr (.inr h2));have:=e k h3;omega
  ·rw [List.mem_singleton.1 h1];exact hdr
 ·intro r hr' k hk;rcases List.mem_append.1 hr' with h1 | h1
  ·have:=h.lt r h1 k hk;have:=hb.size;omega
  ·rw [List.mem_singleton.1 h1] at hk;exact hlt k hk
 ·have e:((done ++ [cur]) ++ [[x]]).map iH=(done ++ [cur]).map iH ++ [x.2]:=by rw [BF (l₂:=[[x]])];rfl
  rw [e];exact hh
 ·exact h.below.trans (hb.below h.below.size fun k hk=>(h.o.lt k hk).1)
 ·have:=h.cnt;simp only [List.flatten_append,BJ,List.flatten_nil,BC,BE,BL];omega
 ·intro G hG;rcases List.mem_append.1 hG with h1 | h1
  ·exact h.dn G h1
  ·rw [List.mem_singleton.1 h1];exact mq hfit
 ·intro y hy;rcases List.mem_append.1 hy with h1 | h1
  ·exact h.mem y (by simpa using h1)
  ·rw [List.mem_singleton.1 h1];exact BA _ (BI (i:=i) (by rw [hx];exact BB))
 ·rcases List.mem_append.1 hr' with h1 | h1
  ·exact h.cp r h1
  ·rw [List.mem_singleton.1 h1];exact hcp
def AbK (w9:Bv) (hs:List By) (xf:By) (dc db da ds:Bool) (vc vb va vs:Bt) (wn:Bv):Prop:=∃ s:Bt,Below w9.heap.size w9 wn/\
 Chain sC 1 9 w9.heap.size wn dc da vc va s hs (hs ++ [xf])/\(db=true->da=false->Own sC 1 9 w9.heap.size wn vb [xf])/\(ds=true->da=true/\vs=va)
section
variable {w9 wn w2:Bv} {hs:List By} {xf:By} {dc db da ds:Bool} {vc vb va vs v1 v2:Bt}
theorem AbK.start (w9:Bv) (hs:List By) (xf:By) (vc vb va vs:Bt):AbK w9 hs xf false false false false vc vb va vs w9.drew:=
 ⟨.slice none 0 0,(Below.refl _ _).drew,.inl ⟨rfl,rfl,rfl⟩,fun h=>(by cases h),fun h=>(by cases h)⟩
theorem AbK.AX (h:AbK w9 hs xf dc db da ds vc vb va vs wn):Below w9.heap.size w9 wn:=let ⟨_,h,_⟩:=h;h
theorem AbK.clone (h:AbK w9 hs xf false db da ds vc vb va vs wn) (ho:Own sC 1 9 w9.heap.size w2 v1 hs) (hb:Below wn.heap.size wn w2):AbK w9 hs xf true db da ds v1 vb va vs w2:=by obtain ⟨s,h1,h2,h3,h4⟩:=h;obtain ⟨rfl,rfl⟩:=h2.made;exact ⟨v1,h1.trans (hb.mono h1.size),.inr (.inl ⟨rfl,rfl,rfl,ho⟩),fun a b=>(h3 a b).below hb,fun a=>(by cases (h4 a).1)⟩
theorem AbK.one (h:AbK w9 hs xf dc false da ds vc vb va vs wn):AbK w9 hs xf dc true da ds vc (.slice (some ⟨wn.heap.size,0,none⟩) 1 1) va vs (wn.alloc (.cells #[.string (ap xf)] 9)):=by obtain ⟨s,h1,h2,h3,h4⟩:=h;have hba:Below wn.heap.size wn (wn.alloc (.cells #[.string (ap xf)] 9)):=(Below.refl _ wn).alloc (Nat.le_refl _) _;exact ⟨s,h1.alloc h1.size _,h2.below hba,fun _ _=>World.ownsRow_lit wn #[.string (ap xf)] 1 h1.size (by simp [maxLen]) (by simp),h4⟩
theorem AbK.pre (h:AbK w9 hs xf true true false ds vc vb va vs wn):Own sC 1 9 w9.heap.size wn vc hs/\Own sC 1 9 w9.heap.size wn vb [xf]:=by obtain ⟨s,h1,h2,h3,h4⟩:=h;obtain ⟨rfl,h5⟩:=h2.mid;exact ⟨h5,h3 rfl rfl⟩
theorem AbK.app (h:AbK w9 hs xf true true false ds vc vb va vs wn) (ho:Own sC 1 9 w9.heap.size w2 v2 (hs ++ [xf])) (hg:wn.grownBy w2 vc.ownBlock):AbK w9 hs xf true true true ds vc vb v2 vs w2:=by have h5:=h.pre.1;obtain ⟨s,h1,h2,h3,h4⟩:=h;exact ⟨v2,ca h1 hg h1.size (fun k hk=>(h5.lt k hk).1),.inr (.inr ⟨rfl,rfl,rfl,ho⟩),fun _ h=>(by cases h),fun a=>(by cases (h4 a).1)⟩
theorem AbK.Br (h:AbK w9 hs xf dc db true ds vc vb va vs wn):AbK w9 hs xf dc db true true vc vb va va wn:=by obtain ⟨s,h1,h2,h3,h4⟩:=h;exact ⟨s,h1,h2,h3,fun _=>⟨rfl,rfl⟩⟩
theorem AbK.fin (h:AbK w9 hs xf dc db true true vc vb va vs wn):Below w9.heap.size w9 wn/\Own sC 1 9 w9.heap.size wn vs (hs ++ [xf]):=by obtain ⟨s,h1,h2,h3,h4⟩:=h;obtain ⟨rfl,h5⟩:=h2.done;exact ⟨h1,(h4 rfl).2 ▸ h5⟩
end
theorem tL {d:List (List (Int × By))} {cur:List (Int × By)} (h:d=[]\/cur.length≠1):iy (d ++ [cur])=d ++ [cur]:=by
 unfold iy;rw [List.reverse_append,List.reverse_cons,List.reverse_nil,List.nil_append,List.singleton_append]
 split
 ·rename_i y b r heq
  injection heq with h1 h2
  rcases h with rfl | h
  ·cases h2
  ·rw [h1] at h;exact absurd rfl h
 ·rfl
theorem wI {d:List (List (Int × By))} {b:List (Int × By)} {y:Int × By}:iy ((d ++ [b]) ++ [[y]])=d ++ [b.take (b.length - 1),b.drop (b.length - 1) ++ [y]]:=by unfold iy;simp
theorem AbI.AR {L':List (Int × By)} {x0:Int × By} {b:Nat} {w wr:Bv} {av hv:Bt} {done:List (List (Int × By))} {cur:List (Int × By)} {rs:List Nr} (h:AbI L' x0 b w.heap.size w L'.length av hv done cur rs wr):dq (x0 :: L')=iy (done ++ [cur]):=by have hg:=h.g;rw [List.drop_length] at hg;unfold dq;show iy (dp cR L' [] [x0])=_;rw [<- hg];rfl
theorem oO {α:Type} {f:α->List Bt} {size t:Nat} {u:Bt} (hl:∀ x,(f x).length=size):∀ (xs:List α) (i:Nat) (hi:i<xs.length) (x':α),t<size->f x'=(f xs[i]).set t u->(xs.flatMap f).set (i * size+t) u=(xs.set i x').flatMap f
 | [],i,hi,_,_,_=>by simp at hi
 | x :: xs,0,_,x',ht,hx=>by
   rw [Nat.zero_mul,Nat.zero_add,Bz,List.set_append_left _ _ (by rw [hl];exact ht),List.set_cons_zero,Bz,hx];rfl
 | x :: xs,i+1,hi,x',ht,hx=>by
   rw [Bz,Bx _ _ (by rw [hl,Nat.succ_mul];omega),List.set_cons_succ,Bz,hl,<- oO hl xs i (by simpa using hi) x' ht (by simpa using hx)];congr 2;rw [Nat.succ_mul];omega
theorem Own.Ba {α:Type} {f:α->List Bt} {size base:Nat} {e:BK} {w:Bv} {xs:List α} {g n c i t:Nat} {u:Bt} (h:Own f size e base w (.slice (some ⟨g,0,none⟩) n c) xs) (hl:∀ x,(f x).length=size) (hi:i<xs.length) (ht:t<size) (x':α) (hx:f x'=(f xs[i]).set t u):
  Own f size e base (w.setCell ⟨g,i * size+t,none⟩ u) (.slice (some ⟨g,0,none⟩) n c) (xs.set i x'):=by
 have hln:=h.AF;have hnc:=h.capN;have h1:i * size+size<=n * size:=by rw [<- Nat.succ_mul];exact Nat.mul_le_mul_right _ (by omega)
 have h2:n * size<=c * size:=Nat.mul_le_mul_right _ hnc
 have:=h.zO (o:=i * size+t) (vs:=[u]) (ys:=xs.set i x') hl (by rw [BG];omega) (by simp only [BH];omega) (fun cur hcl hct=>by
  have e:cur.take (i * size+t) ++ [u] ++ cur.drop (i * size+t+[u].length)=cur.set (i * size+t) u:=by rw [List.set_eq_take_append_cons_drop,if_pos (by omega),BH,BD];rfl
  rw [BG,<- hln,<- oO hl xs i hi x' ht hx,<- hct,e,List.take_set])
 rw [BG,<- hln] at this;exact this
theorem Sl.drop1 {α:Type} {f:α->List Bt} {w:Bv} {g o n c:Nat} {xs:List α} (h:Sl f 1 w (.slice (some ⟨g,o,none⟩) n c) xs) (k m c':Nat) (hm:m=(xs.drop k).length):Sl f 1 w (.slice (some ⟨g,o+k,none⟩) m c') (xs.drop k):=by
 subst hm;obtain ⟨A,c2,he,hx⟩:=h;injection he with e1 e2 e3
 subst e1;refine ⟨_,c',rfl,fun hne=>?_⟩;obtain ⟨b,off,h1,h2,h3⟩:=hx (fun e=>hne (by rw [e];simp));injection h1 with h1
 injection h1 with h4 h5
 subst h4 h5;refine ⟨g,o+k,rfl,h2,fun i x hx' j u hu=>?_⟩;rw [List.getElem?_drop] at hx';have:=h3 (k+i) x hx' j u hu
 rwa [show o+(k+i) * 1+j=o+k+i * 1+j by omega] at this
theorem xy {α:Type} (A:List α) (x y x' y':α) {j kk:Nat} (hj:A.length=j) (hk:kk=j+1):(((A ++ [x]) ++ [y]).set kk y').set j x'=A ++ [x',y']:=by subst hj;subst hk;rw [BD,Bx _ _ (by omega),Bx _ _ (by omega)];simp
def xn (wr:Bv) (ks:List By) (ds:List Int) (xf:By) (xp:Int) (d:Nat->Bool) (v:Nat->Bt) (wn:Bv):Prop:=∃ (s t:Bt) (g:Nat),Below wr.heap.size wr wn/\
 Chain sC 1 9 wr.heap.size wn (d 4) (d 10) (v 35) (v 41) s ks (ks ++ [xf])/\Chain iC 1 3 wr.heap.size wn (d 15) (d 21) (v 46) (v 52) t ds (ds ++ [xp])/\Dis s t/\
 (d 9=true->d 10=false->Own sC 1 9 wr.heap.size wn (v 40) [xf])/\(d 20=true->d 21=false->Own iC 1 3 wr.heap.size wn (v 51) [xp]/\Dis s (v 51))/\(d 15=true->d 10=true)/\
 (d 22=true->d 10=true/\d 21=true/\v 53=.agg #[.bool false,s,.slice none 0 0,t])/\(d 24=true->d 22=true)/\
 NdAt wn wr.heap.size (d 23) (d 24) (v 10) g false s (.slice none 0 0) t/\(d 23=true->s.ownBlock≠some g/\t.ownBlock≠some g)
theorem lU {α:Type} {f:α->List Bt} {size:Nat} {e:BK} {base:Nat} {w:Bv} {v:Bt} {xs:List α} (h:Own f size e base w v xs):v.oneCell'=true:=by rcases h.2 with ⟨rfl,_⟩ | ⟨g,cap,cur,rfl,_⟩ <;> rfl
theorem sU (wr:Bv) (ks:List By) (ds:List Int) (xf:By) (xp:Int) (d:Nat->Bool) (v:Nat->Bt) (w:Bv) (hJ:xn wr ks ds xf xp d v w) (hd:d 24=false) (hpre:∀ j ∈ [22,23],d j=true):
  ∃ (g:Nat) (cells old:Array Bt) (t:BK),v 10=.pointer (some ⟨g,0,none⟩)/\v 53=.agg cells/\w.heap[g]?=some (.cells old t (0,0))/\cells.size=4/\old.size=4/\cells.all (·.oneCell')=true/\
    ((w.setRow g cells).heap[g]?=some (.cells cells t (0,0))->Ch (fun k=>k=g) w (w.setRow g cells)->xn wr ks ds xf xp (fun j=>j == 24 || d j) v (w.setRow g cells)):=by
 simp only [List.forall_mem_cons,List.not_mem_nil,false_imp_iff,implies_true,and_true] at hpre;obtain ⟨p22,p23⟩:=hpre;obtain ⟨s,t,g,hB,hs,ht,hst,h9,h20,h15,h22,h24,hn,hg⟩:=hJ;obtain ⟨p10,p21,e53⟩:=h22 p22;rw [p23,hd] at hn;obtain ⟨e10,hge,hz⟩:=hn.mid;obtain ⟨hg1,hg2⟩:=hg p23;have hso:=hs;have hto:=ht;rw [p10] at hso;rw [p21] at hto;refine ⟨g,_,_,_,e10,e53,hz,rfl,rfl,?_,fun k1 k2=>⟨s,t,g,hB.trans (k2.below hB.size (fun k hk=>hk ▸ hge)),hs.ch k2 (fun k hk e=>hg1 (e ▸ hk)),ht.ch k2 (fun k hk e=>hg2 (e ▸ hk)),hst,?_,?_,h15,?_,fun _=>p22,?_,hg⟩⟩
 ·have h1:=lU hso.done.2;have h2:=lU hto.done.2;have h3:(Value.bool false).oneCell'=true:=rfl;have h4:(Value.slice none 0 0).oneCell'=true:=rfl;simp [h1,h2,h3,h4]
 ·intro _ h;replace h:d 10=false:=h;rw [p10] at h;cases h
 ·intro _ h;replace h:d 21=false:=h;rw [p21] at h;cases h
 ·exact fun _=>⟨p10,p21,e53⟩
 ·show NdAt _ _ (d 23) true _ _ _ _ _ _;rw [p23];exact .inr (.inr ⟨rfl,rfl,e10,hge,k1⟩)
end Go.Proofs.YtknioodagnjchaaGreatDoor
namespace Go.Proofs.YtknioodagnjchaaGreatDoor
open Go.RowKit
def zE (r r':Nr):Prop:=Dis r.vk r'.vk/\Dis r.vk r'.vc/\Dis r.vc r'.vk/\Dis r.vc r'.vc
structure LfR (base:Nat) (wr:World) (av:Value) (rs:List Nr):Prop where
 o:Own kY 4 110 base wr av rs
 k:∀ r ∈ rs,Own sC 1 9 base wr r.vk r.n.keys
 c:∀ r ∈ rs,Own cC 3 119 base wr r.vc r.n.cells
 d:∀ r ∈ rs,r.a3=none/\r.c3=0/\r.n.kids=[]
 kc:∀ r ∈ rs,Dis r.vk r.vc
 ak:∀ r ∈ rs,Dis av r.vk/\Dis av r.vc
 pw:rs.Pairwise zE
theorem LfR.ch {base:Nat} {w w':World} {av:Value} {rs:List Nr} {S:Nat->Prop} (h:LfR base w av rs) (hc:Ch S w w') (hs:∀ k,S k->k<base):LfR base w' av rs:=
 ⟨h.o.ch hc fun k hk e=>by have:=(h.o.lt k hk).1;have:=hs k e;omega,fun r hr=>(h.k r hr).ch hc fun k hk e=>by have:=((h.k r hr).lt k hk).1;have:=hs k e;omega,
   fun r hr=>(h.c r hr).ch hc fun k hk e=>by have:=((h.c r hr).lt k hk).1;have:=hs k e;omega,h.d,h.kc,h.ak,h.pw⟩
theorem LfR.below {base:Nat} {w w':World} {av:Value} {rs:List Nr} (h:LfR base w av rs) (hb:Below w.heap.size w w'):LfR base w' av rs:=h.ch (S:=fun _=>False) (Ch.zK hb) fun _ h=>h.elim
def LfJ (w5:World) (base:Nat) (vk vc:Value) (ks:List By) (cs:List Ce) (x:By) (c:Ce) (bk ak bc ac dn dl ds:Bool) (vbk vak vbc vac vn vp:Value) (wn:World):Prop:=∃ g:Nat,
 Ch (fun k=>vk.ownBlock=some k\/vc.ownBlock=some k) w5 wn/\Own sC 1 9 base wn vk ks/\Own cC 3 119 base wn vc cs/\
 (bk=true->ak=false->∃ gk,vbk=.slice (some ⟨gk,0,none⟩) 1 1/\Own sC 1 9 w5.heap.size wn vbk [x])/\
 (bc=true->ac=false->∃ gk,vbc=.slice (some ⟨gk,0,none⟩) 1 1/\Own cC 3 119 w5.heap.size wn vbc [c])/\
 (ak=true->Own sC 1 9 base wn vak (ks ++ [x])/\(vak.ownBlock=vk.ownBlock\/∀ k,vak.ownBlock=some k->w5.heap.size<=k))/\
 (ac=true->Own cC 3 119 base wn vac (cs ++ [c])/\(vac.ownBlock=vc.ownBlock\/∀ k,vac.ownBlock=some k->w5.heap.size<=k))/\
 (ak=true->ac=true->Dis vak vac)/\(dn=true->ak=true/\ac=true/\vn=.agg #[.bool true,vak,vac,.slice none 0 0])/\(ds=true->dn=true)/\
 NdAt wn w5.heap.size dl ds vp g true vak vac (.slice none 0 0)/\(dl=true->(ak=true->vak.ownBlock≠some g)/\(ac=true->vac.ownBlock≠some g))
section
variable {w5 wn w2:World} {base:Nat} {vk vc:Value} {ks:List By} {cs:List Ce} {x:By} {c:Ce} {bk ak bc ac dn dl ds:Bool} {vbk vak vbc vac vn vp v2:Value}
theorem LfJ.start (h1:Own sC 1 9 base w5 vk ks) (h2:Own cC 3 119 base w5 vc cs):LfJ w5 base vk vc ks cs x c false false false false false false false vbk vak vbc vac vn vp w5.drew:=
 ⟨0,(Ch.refl _ _).drew,h1.below (Below.refl _ _).drew,h2.below (Below.refl _ _).drew,fun h=>(by cases h),fun h=>(by cases h),fun h=>(by cases h),fun h=>(by cases h),fun h=>(by cases h),fun h=>(by cases h),fun h=>(by cases h),.inl ⟨rfl,rfl⟩,fun h=>(by cases h)⟩
theorem LfJ.chn (h:LfJ w5 base vk vc ks cs x c bk ak bc ac dn dl ds vbk vak vbc vac vn vp wn):Ch (fun k=>vk.ownBlock=some k\/vc.ownBlock=some k) w5 wn:=let ⟨_,h,_⟩:=h;h
theorem LfJ.Bi (h:LfJ w5 base vk vc ks cs x c false ak bc ac dn dl ds vbk vak vbc vac vn vp wn):LfJ w5 base vk vc ks cs x c true ak bc ac dn dl ds (.slice (some ⟨wn.heap.size,0,none⟩) 1 1) vak vbc vac vn vp (wn.alloc (.cells #[.string (ap x)] 9)):=by
 obtain ⟨g,h1,h2,h3,h4,h5,h6,h7,h8,h9,h10,h11,h12⟩:=h;have hba:Below wn.heap.size wn (wn.alloc (.cells #[.string (ap x)] 9)):=(Below.refl _ wn).alloc (Nat.le_refl _) _
 exact ⟨g,h1.alloc _,h2.below hba,h3.below hba,fun _ _=>⟨_,rfl,World.ownsRow_lit wn #[.string (ap x)] 1 h1.size (by simp [maxLen]) (by simp)⟩,fun a b=>(h5 a b).imp fun gk q=>⟨q.1,q.2.below hba⟩,
  fun a=>⟨(h6 a).1.below hba,(h6 a).2⟩,fun a=>⟨(h7 a).1.below hba,(h7 a).2⟩,h8,h9,h10,h11.keep (fun o _ h=>af h hba),h12⟩
theorem LfJ.Bj (h:LfJ w5 base vk vc ks cs x c bk ak false ac dn dl ds vbk vak vbc vac vn vp wn):LfJ w5 base vk vc ks cs x c bk ak true ac dn dl ds vbk vak (.slice (some ⟨wn.heap.size,0,none⟩) 1 1) vac vn vp (wn.alloc (.cells #[.int .i64 c.size,.string (ap c.data),.int .i64 c.page] 119)):=by
 obtain ⟨g,h1,h2,h3,h4,h5,h6,h7,h8,h9,h10,h11,h12⟩:=h;have hba:Below wn.heap.size wn (wn.alloc (.cells #[.int .i64 c.size,.string (ap c.data),.int .i64 c.page] 119)):=(Below.refl _ wn).alloc (Nat.le_refl _) _
 exact ⟨g,h1.alloc _,h2.below hba,h3.below hba,fun a b=>(h4 a b).imp fun gk q=>⟨q.1,q.2.below hba⟩,fun _ _=>⟨_,rfl,World.ownsRow_lit wn #[.int .i64 c.size,.string (ap c.data),.int .i64 c.page] 1 h1.size (by simp [maxLen]) (by simp)⟩,
  fun a=>⟨(h6 a).1.below hba,(h6 a).2⟩,fun a=>⟨(h7 a).1.below hba,(h7 a).2⟩,h8,h9,h10,h11.keep (fun o _ h=>af h hba),h12⟩
theorem LfJ.Bg (h:LfJ w5 base vk vc ks cs x c true false bc ac dn dl ds vbk vak vbc vac vn vp wn):Own sC 1 9 base wn vk ks/\∃ gk,vbk=.slice (some ⟨gk,0,none⟩) 1 1/\Own sC 1 9 w5.heap.size wn vbk [x]:=by obtain ⟨g,h1,h2,h3,h4,-⟩:=h;exact ⟨h2,h4 rfl rfl⟩
theorem LfJ.Bh (h:LfJ w5 base vk vc ks cs x c bk ak true false dn dl ds vbk vak vbc vac vn vp wn):Own cC 3 119 base wn vc cs/\∃ gk,vbc=.slice (some ⟨gk,0,none⟩) 1 1/\Own cC 3 119 w5.heap.size wn vbc [c]:=by obtain ⟨g,h1,h2,h3,h4,h5,-⟩:=h;exact ⟨h3,h5 rfl rfl⟩
theorem LfJ.Bm (h:LfJ w5 base vk vc ks cs x c bk false bc ac dn dl ds vbk vak vbc vac vn vp wn) (hd:Dis vk vc) (hkl:∀ k,vk.ownBlock=some k->k<w5.heap.size) (ho:Own sC 1 9 base w2 v2 (ks ++ [x])) (hg:wn.grownBy w2 vk.ownBlock) (hat:v2.ownBlock=vk.ownBlock\/v2.ownBlock=some wn.heap.size) (hold:Own sC 1 9 base w2 vk ks):
  LfJ w5 base vk vc ks cs x c bk true bc ac dn dl ds vbk v2 vbc vac vn vp w2:=by
 obtain ⟨g,h1,h2,h3,h4,h5,h6,h7,h8,h9,h10,h11,h12⟩:=h;have hc:Ch (fun k=>vk.ownBlock=some k) wn w2:=Ch.zL hg fun k hk=>hk
 have hdn:dn=false:=by cases hdn:dn with | false=>rfl | true=>cases (h9 hdn).1
 have hds:ds=false:=by cases hds:ds with | false=>rfl | true=>have:=h10 hds;rw [hdn] at this;cases this
 have hgl:dl=true->w5.heap.size<=g/\g<wn.heap.size:=fun a=>⟨by
  rcases h11 with ⟨q,_⟩ | ⟨_,_,_,q,_⟩ | ⟨_,_,_,q,_⟩
  ·rw [q] at a;cases a
  ·exact q
  ·exact q,h11.lt a⟩
 have hk2:∀ k,v2.ownBlock=some k->vk.ownBlock=some k\/k=wn.heap.size:=fun k hk=>by
  rcases hat with e | e
  ·exact .inl (e ▸ hk)
  ·rw [e] at hk;injection hk with hk;exact .inr hk.symm
 refine ⟨g,h1.then hc fun i e=>.inl (.inl e),hold,h3.ch hc fun k a e=>hd k e a,fun _ h=>(by cases h),fun a b=>(h5 a b).imp fun gk q=>⟨q.1,q.2.ch hc fun k a2 e=>by have:=(q.2.lt k a2).1;have:=hkl k e;omega⟩,
  fun _=>⟨ho,hat.imp id fun e k hk=>by rw [e] at hk;injection hk with hk;have:=h1.size;omega⟩,fun a=>⟨(h7 a).1.ch hc fun k a2 e=>?_,(h7 a).2⟩,fun _ a k hk hk2'=>?_,fun a=>(by rw [hdn] at a;cases a),h10,(h11.keep fun o a h=>hc.keep h fun e=>by have:=(hgl a).1;have:=hkl g e;omega).Ab hds,fun a=>⟨fun _ e=>?_,(h12 a).2⟩⟩
 ·rcases (h7 a).2 with q | q
  ·exact hd k e (q ▸ a2)
  ·have:=q k a2;have:=hkl k e;omega
 ·rcases hk2 k hk with e | e
  ·rcases (h7 a).2 with q | q
   ·exact hd k e (q ▸ hk2')
   ·have:=q k hk2';have:=hkl k e;omega
  ·have:=((h7 a).1.lt k hk2').2;omega
 ·rcases hk2 g e with q | q
  ·have:=(hgl a).1;have:=hkl g q;omega
  ·have:=(hgl a).2;omega
theorem LfJ.Bn (h:LfJ w5 base vk vc ks cs x c bk ak bc false dn dl ds vbk vak vbc vac vn vp wn) (hd:Dis vk vc) (hkl:∀ k,vc.ownBlock=some k->k<w5.heap.size) (ho:Own cC 3 119 base w2 v2 (cs ++ [c])) (hg:wn.grownBy w2 vc.ownBlock) (hat:v2.ownBlock=vc.ownBlock\/v2.ownBlock=some wn.heap.size) (hold:Own cC 3 119 base w2 vc cs):
  LfJ w5 base vk vc ks cs x c bk ak bc true dn dl ds vbk vak vbc v2 vn vp w2:=by
 obtain ⟨g,h1,h2,h3,h4,h5,h6,h7,h8,h9,h10,h11,h12⟩:=h;have hc:Ch (fun k=>vc.ownBlock=some k) wn w2:=Ch.zL hg fun k hk=>hk
 have hdn:dn=false:=by cases hdn:dn with | false=>rfl | true=>cases (h9 hdn).2.1
 have hds:ds=false:=by cases hds:ds with | false=>rfl | true=>have:=h10 hds;rw [hdn] at this;cases this
 have hgl:dl=true->w5.heap.size<=g/\g<wn.heap.size:=fun a=>⟨by
  rcases h11 with ⟨q,_⟩ | ⟨_,_,_,q,_⟩ | ⟨_,_,_,q,_⟩
  ·rw [q] at a;cases a
  ·exact q
  ·exact q,h11.lt a⟩
 have hk2:∀ k,v2.ownBlock=some k->vc.ownBlock=some k\/k=wn.heap.size:=fun k hk=>by
  rcases hat with e | e
  ·exact .inl (e ▸ hk)
  ·rw [e] at hk;injection hk with hk;exact .inr hk.symm
 refine ⟨g,h1.then hc fun i e=>.inl (.inr e),h2.ch hc fun k a e=>hd k a e,hold,fun a b=>(h4 a b).imp fun gk q=>⟨q.1,q.2.ch hc fun k a2 e=>by have:=(q.2.lt k a2).1;have:=hkl k e;omega⟩,fun _ h=>(by cases h),
  fun a=>⟨(h6 a).1.ch hc fun k a2 e=>?_,(h6 a).2⟩,fun _=>⟨ho,hat.imp id fun e k hk=>by rw [e] at hk;injection hk with hk;have:=h1.size;omega⟩,fun a _ k hk hk2'=>?_,fun a=>(by rw [hdn] at a;cases a),h10,(h11.keep fun o a h=>hc.keep h fun e=>by have:=(hgl a).1;have:=hkl g e;omega).Ab hds,fun a=>⟨(h12 a).1,fun _ e=>?_⟩⟩
 ·rcases (h6 a).2 with q | q
  ·exact hd k (q ▸ a2) e
  ·have:=q k a2;have:=hkl k e;omega
 ·rcases hk2 k hk2' with e | e
  ·rcases (h6 a).2 with q | q
   ·exact hd k (q ▸ hk) e
   ·have:=q k hk;have:=hkl k e;omega
  ·have:=((h6 a).1.lt k hk).2;omega
 ·rcases hk2 g e with q | q
  ·have:=(hgl a).1;have:=hkl g q;omega
  ·have:=(hgl a).2;omega
theorem LfJ.bld (h:LfJ w5 base vk vc ks cs x c bk true bc true dn dl ds vbk vak vbc vac vn vp wn):LfJ w5 base vk vc ks cs x c bk true bc true true dl ds vbk vak vbc vac (.agg #[.bool true,vak,vac,.slice none 0 0]) vp wn:=by obtain ⟨g,h1,h2,h3,h4,h5,h6,h7,h8,h9,h10,h11,h12⟩:=h;exact ⟨g,h1,h2,h3,h4,h5,h6,h7,h8,fun _=>⟨rfl,rfl,rfl⟩,fun _=>rfl,h11,h12⟩
theorem LfJ.alc (h:LfJ w5 base vk vc ks cs x c bk ak bc ac dn false ds vbk vak vbc vac vn vp wn):LfJ w5 base vk vc ks cs x c bk ak bc ac dn true ds vbk vak vbc vac vn (.pointer (some ⟨wn.heap.size,0,none⟩)) (wn.alloc (ar Nd.zero (.slice none 0 0) (.slice none 0 0) (.slice none 0 0))):=by
 obtain ⟨g,h1,h2,h3,h4,h5,h6,h7,h8,h9,h10,h11,h12⟩:=h;have hba:Below wn.heap.size wn (wn.alloc (ar Nd.zero (.slice none 0 0) (.slice none 0 0) (.slice none 0 0))):=(Below.refl _ wn).alloc (Nat.le_refl _) _;have hds:ds=false:=by
  rcases h11 with ⟨_,h⟩ | ⟨h,_⟩ | ⟨h,_⟩
  ·exact h
  ·cases h
  ·cases h
 exact ⟨wn.heap.size,h1.alloc _,h2.below hba,h3.below hba,fun a b=>(h4 a b).imp fun gk q=>⟨q.1,q.2.below hba⟩,fun a b=>(h5 a b).imp fun gk q=>⟨q.1,q.2.below hba⟩,fun a=>⟨(h6 a).1.below hba,(h6 a).2⟩,fun a=>⟨(h7 a).1.below hba,(h7 a).2⟩,h8,h9,h10,
  .inr (.inl ⟨rfl,hds,rfl,h1.size,ag rfl⟩),fun _=>⟨fun a e=>(by have:=((h6 a).1.lt _ e).2;omega),fun a e=>(by have:=((h7 a).1.lt _ e).2;omega)⟩⟩
theorem LfJ.last (h:LfJ w5 base vk vc ks cs x c bk ak bc ac true true false vbk vak vbc vac vn vp wn) (hkl:∀ k,(vk.ownBlock=some k\/vc.ownBlock=some k)->k<w5.heap.size):∃ (g:Nat) (cells old:Array Value) (t:TypeId),vp=.pointer (some ⟨g,0,none⟩)/\vn=.agg cells/\wn.heap[g]?=some (.cells old t (0,0))/\cells.size=4/\old.size=4/\cells.all (·.oneCell')=true/\
   ((wn.setRow g cells).heap[g]?=some (.cells cells t (0,0))->Ch (fun k=>k=g) wn (wn.setRow g cells)->LfJ w5 base vk vc ks cs x c bk ak bc ac true true true vbk vak vbc vac vn vp (wn.setRow g cells)):=by
 obtain ⟨g,h1,h2,h3,h4,h5,h6,h7,h8,h9,h10,h11,h12⟩:=h;obtain ⟨rfl,rfl,rfl⟩:=h9 rfl;obtain ⟨rfl,hge,hz⟩:=h11.mid;obtain ⟨n1,n2⟩:=h12 rfl
 refine ⟨g,_,_,_,rfl,rfl,hz,rfl,rfl,?_,fun k1 k2=>⟨g,h1.then k2 (fun i e=>.inr (e ▸ hge)),h2.ch k2 (fun k a e=>by have:=hkl k (.inl a);omega),h3.ch k2 (fun k a e=>by have:=hkl k (.inr a);omega),fun _ h=>(by cases h),fun _ h=>(by cases h),
  fun a=>⟨(h6 a).1.ch k2 (fun k b e=>n1 rfl (e ▸ b)),(h6 a).2⟩,fun a=>⟨(h7 a).1.ch k2 (fun k b e=>n2 rfl (e ▸ b)),(h7 a).2⟩,h8,h9,fun _=>rfl,.inr (.inr ⟨rfl,rfl,rfl,hge,k1⟩),fun _=>⟨n1,n2⟩⟩⟩
 have q1:=lU (h6 rfl).1;have q2:=lU (h7 rfl).1;have q3:(Value.bool true).oneCell'=true:=rfl;have q4:(Value.slice none 0 0).oneCell'=true:=rfl;simp [q1,q2,q3,q4]
end
end Go.Proofs.YtknioodagnjchaaGreatDoor
namespace Go.Proofs.YtknioodagnjchaaGreatDoor
open List renaming mem_append_left->Bt,pairwise_singleton->Bv
open Go.RowKit
section
variable {base:Nat} {w5 wn w8 w9:World} {av av':Value} {A:List Nr} {r r':Nr}
theorem LfR.mid (h:LfR base w5 av (A ++ [r])) (hc:Ch (fun k=>r.vk.ownBlock=some k\/r.vc.ownBlock=some k) w5 wn) (hk:Own sC 1 9 base wn r.vk r.n.keys) (hcc:Own cC 3 119 base wn r.vc r.n.cells):LfR base wn av (A ++ [r]):=by
 have hpw:=List.pairwise_append.1 h.pw;have hA:∀ a ∈ A,zE a r:=fun a ha=>hpw.2.2 a ha r (List.mem_singleton.2 rfl)
 have hr:=h.ak r (by simp);refine ⟨h.o.ch hc fun k hk e=>?_,fun a ha=>?_,fun a ha=>?_,h.d,h.kc,h.ak,h.pw⟩
 ·rcases e with e | e
  ·exact hr.1 k hk e
  ·exact hr.2 k hk e
 ·rcases List.mem_append.1 ha with h1 | h1
  ·have hd:=hA a h1;refine (h.k a ha).ch hc fun k hk e=>?_
   rcases e with e | e
   ·exact hd.1 k hk e
   ·exact hd.2.1 k hk e
  ·rw [List.mem_singleton.1 h1];exact hk
 ·rcases List.mem_append.1 ha with h1 | h1
  ·have hd:=hA a h1;refine (h.c a ha).ch hc fun k hk e=>?_
   rcases e with e | e
   ·exact hd.2.2.1 k hk e
   ·exact hd.2.2.2 k hk e
  ·rw [List.mem_singleton.1 h1];exact hcc
def Nw (N:Nat) (v v':Value):Prop:=v'.ownBlock=v.ownBlock\/∀ k,v'.ownBlock=some k->N<=k
theorem Nw.dis {N:Nat} {v v' u:Value} (h:Nw N v v') (hd:Dis u v) (hu:∀ k,u.ownBlock=some k->k<N):Dis u v':=fun k h1 h2=>by
 rcases h with e | e
 ·exact hd k h1 (e ▸ h2)
 ·have:=e k h2;have:=hu k h1;omega
theorem LfR.set {ga n c N:Nat} (h:LfR base w8 (.slice (some ⟨ga,0,none⟩) n c) (A ++ [r])) (o1:Own sC 1 9 base w8 r'.vk r'.n.keys) (o2:Own cC 3 119 base w8 r'.vc r'.n.cells) (hd:r'.a3=none/\r'.c3=0/\r'.n.kids=[]) (hkc:Dis r'.vk r'.vc)
  (hN:∀ a ∈ A,(∀ k,a.vk.ownBlock=some k->k<N)/\(∀ k,a.vc.ownBlock=some k->k<N)) (hga:ga<N) (hk:Nw N r.vk r'.vk) (hc:Nw N r.vc r'.vc):
  LfR base (w8.setCells ga (A.length * 4) (kY r')) (.slice (some ⟨ga,0,none⟩) n c) (A ++ [r']):=by
 have hpw:=List.pairwise_append.1 h.pw;have hA:∀ a ∈ A,zE a r:=fun a ha=>hpw.2.2 a ha r (List.mem_singleton.2 rfl)
 have hch:=fE (g:=ga) (kY r') (A.length * 4) w8;have hav:∀ k,(Value.slice (some ⟨ga,0,none⟩) n c).ownBlock=some k->k<N:=fun k hk=>by injection hk with hk;simp only at hk;omega
 have hr1:=h.ak r (by simp);have ha1:Dis (.slice (some ⟨ga,0,none⟩) n c) r'.vk:=hk.dis hr1.1 hav;have ha2:Dis (.slice (some ⟨ga,0,none⟩) n c) r'.vc:=hc.dis hr1.2 hav;have hset:=h.o.set cf (show A.length<(A ++ [r]).length by simp) r';rw [show (A ++ [r]).set A.length r'=A ++ [r'] by rw [List.set_append_right _ _ (Nat.le_refl _)];simp] at hset;refine ⟨hset,fun a ha=>?_,fun a ha=>?_,fun a ha=>?_,fun a ha=>?_,fun a ha=>?_,List.pairwise_append.2 ⟨hpw.1,Bv _ _,fun a ha b hb=>?_⟩⟩
 ·rcases List.mem_append.1 ha with h1 | h1
  ·exact (h.k a (Bt _ h1)).ch hch fun k h2 e=>(h.ak a (Bt _ h1)).1 k (by rw [e];rfl) h2
  ·rw [List.mem_singleton.1 h1];exact o1.ch hch fun k h2 e=>ha1 k (by rw [e];rfl) h2
 ·rcases List.mem_append.1 ha with h1 | h1
  ·exact (h.c a (Bt _ h1)).ch hch fun k h2 e=>(h.ak a (Bt _ h1)).2 k (by rw [e];rfl) h2
  ·rw [List.mem_singleton.1 h1];exact o2.ch hch fun k h2 e=>ha2 k (by rw [e];rfl) h2
 ·rcases List.mem_append.1 ha with h1 | h1
  ·exact h.d a (Bt _ h1)
  ·rw [List.mem_singleton.1 h1];exact hd
 ·rcases List.mem_append.1 ha with h1 | h1
  ·exact h.kc a (Bt _ h1)
  ·rw [List.mem_singleton.1 h1];exact hkc
 ·rcases List.mem_append.1 ha with h1 | h1
  ·exact h.ak a (Bt _ h1)
  ·rw [List.mem_singleton.1 h1];exact ⟨ha1,ha2⟩
 ·rw [List.mem_singleton.1 hb];have hd:=hA a ha;have hn:=hN a ha;exact ⟨hk.dis hd.1 hn.1,hc.dis hd.2.1 hn.1,hk.dis hd.2.2.1 hn.2,hc.dis hd.2.2.2 hn.2⟩
theorem LfR.add {rs:List Nr} (h:LfR base w8 av rs) (hb:Ch (fun k=>av.ownBlock=some k) w8 w9) (ho:Own kY 4 110 base w9 av' (rs ++ [r'])) (hat:Nw w8.heap.size av av') (o1:Own sC 1 9 base w9 r'.vk r'.n.keys) (o2:Own cC 3 119 base w9 r'.vc r'.n.cells) (hd:r'.a3=none/\r'.c3=0/\r'.n.kids=[]) (hkc:Dis r'.vk r'.vc)
  (hk:∀ k,r'.vk.ownBlock=some k->w8.heap.size<=k) (hc:∀ k,r'.vc.ownBlock=some k->w8.heap.size<=k) (ha1:Dis av' r'.vk) (ha2:Dis av' r'.vc):LfR base w9 av' (rs ++ [r']):=by
 refine ⟨ho,fun a ha=>?_,fun a ha=>?_,fun a ha=>?_,fun a ha=>?_,fun a ha=>?_,List.pairwise_append.2 ⟨h.pw,Bv _ _,fun a ha b hb=>?_⟩⟩
 ·rcases List.mem_append.1 ha with h1 | h1
  ·exact (h.k a h1).ch hb fun k h2 e=>(h.ak a h1).1 k e h2
  ·rw [List.mem_singleton.1 h1];exact o1
 ·rcases List.mem_append.1 ha with h1 | h1
  ·exact (h.c a h1).ch hb fun k h2 e=>(h.ak a h1).2 k e h2
  ·rw [List.mem_singleton.1 h1];exact o2
 ·rcases List.mem_append.1 ha with h1 | h1
  ·exact h.d a h1
  ·rw [List.mem_singleton.1 h1];exact hd
 ·rcases List.mem_append.1 ha with h1 | h1
  ·exact h.kc a h1
  ·rw [List.mem_singleton.1 h1];exact hkc
 ·rcases List.mem_append.1 ha with h1 | h1
  ·have h2:=h.ak a h1;exact ⟨(hat.dis h2.1.symm fun k hk=>((h.k a h1).lt k hk).2).symm,(hat.dis h2.2.symm fun k hk=>((h.c a h1).lt k hk).2).symm⟩
  ·rw [List.mem_singleton.1 h1];exact ⟨ha1,ha2⟩
 ·rw [List.mem_singleton.1 hb]
  exact ⟨fun k h1 h2=>by have:=((h.k a ha).lt k h1).2;have:=hk k h2;omega,fun k h1 h2=>by have:=((h.k a ha).lt k h1).2;have:=hc k h2;omega,
   fun k h1 h2=>by have:=((h.c a ha).lt k h1).2;have:=hk k h2;omega,fun k h1 h2=>by have:=((h.c a ha).lt k h1).2;have:=hc k h2;omega⟩
end
structure LfI (w:World) (gs gm:Nat) (av:Value) (done:List (List (By × Ce))) (cur:List (By × Ce)) (rs:List Nr) (s1:Sf) (i:Nat) (wr:World):Prop where
 ns:rs.map (·.n)=(done ++ [cur]).map aW
 r:LfR w.heap.size wr av rs
 sh:ShIs wr gs gm s1
 ch:Ch (fun k=>k=gs\/k=gm) w wr
 cnt:done.length<=i/\cur.length<=i
 bd:∀ y ∈ cur,y.1.length<=64/\y.2.data.length<=5000
theorem lF {v:By} {s:Sf} {c:Ce} (h:((cy v).run s).2=.ok c):c.data.length<=v.length:=by
 unfold cy at h
 split at h
 ·cases h
 ·split at h
  ·injection h with h
   rw [<- h];exact Nat.le_refl _
  ·rw [run_bind] at h;generalize (jD v ((v.length - 1) / 227+1) 0).run s=y at *;obtain ⟨s2,a⟩:=y;cases a with
   | ok q=>
     injection h with h
     rw [<- h];exact Nat.zero_le _
   | err e=>cases h
theorem iq {x:Pr} {r:List Pr} {done:List (List (By × Ce))} {cur:List (By × Ce)} {s1 s':Sf} {gl:List (List (By × Ce))} (h:(ey (x :: r) done cur).run s1=(s',.ok gl)):
  ∃ c,((cy x.2).run s1).2=.ok c/\(if bw (aW (cur ++ [(x.1,c)])) then ey r done (cur ++ [(x.1,c)]) else ey r (done ++ [cur]) [(x.1,c)]).run ((cy x.2).run s1).1=(s',.ok gl):=by
 unfold ey at h;rw [run_bind] at h;generalize (cy x.2).run s1=y at *;obtain ⟨s2,a⟩:=y;cases a with
 | ok c=>exact ⟨c,rfl,h⟩
 | err e=>cases h
end Go.Proofs.YtknioodagnjchaaGreatDoor
namespace Go.Proofs.YtknioodagnjchaaGreatDoor
open List renaming setIfInBounds_toArray->Bt,getElem?_cons_succ->Bv,getElem?_cons_zero->Bw,getElem?_toArray->Bx,set_cons_zero->Bz,set_cons_succ->BA,foldl_cons->BB,foldl_nil->BC,forall_mem_cons->BE,length_singleton->BF,not_mem_nil->BG,length_map->BI,getElem_mem->BJ,map_append->BK,getElem?_eq_getElem->BM,length_cons->BP,drop_eq_getElem_cons->BS,length_append->BT,getElem_set_ne->BY,mem_cons_self->Ca,mem_or_eq_of_mem_set->Cc,map_cons->Cg,getElem_map->Cj,length_take->Ck,length_set->Cl,drop_one->Cn
open Go.Act renaming put->BD
open Nat renaming reduceEqDiff->BH,reduceBEq->BN,le_refl->BQ,zero_add->BZ,le_trans->Cd
open Go.Value renaming slice->BL,ownBlock->Cb
open Bool renaming false_or->BO,true_or->BR
open Go.IntWalk renaming i64_in->BU
open Go.Proofs.Tryz renaming prog->BV
open And renaming intro->BW
open Go renaming wp_region_held_drew->BX,World->Cf,maxLen->Ci,Calls->Cm
open Go.Lib renaming hid->Z
open Go.RowKit
theorem sL {w9:Cf} {hs:List By} {xf:By} (d:Nat->Bool) (v:Nat->Value) (w:Cf) (h:AbK w9 hs xf (d 1) (d 6) (d 7) (d 8) (v 69) (v 74) (v 75) (v 7) w) (_:d 8=false) (hp:∀ j ∈ [7],d j=true):
  AbK w9 hs xf ((fun j=>j == 8 || d j) 1) ((fun j=>j == 8 || d j) 6) ((fun j=>j == 8 || d j) 7) ((fun j=>j == 8 || d j) 8) (eE v 7 (v 75) 69) (eE v 7 (v 75) 74) (eE v 7 (v 75) 75) (eE v 7 (v 75) 7) w:=by
 show AbK w9 hs xf (d 1) (d 6) (d 7) true (v 69) (v 74) (v 75) (v 75) w;rw [hp 7 Ca] at h ⊢;exact h.Br
theorem sK {w9:Cf} {hs:List By} {xf:By} (d:Nat->Bool) (v:Nat->Value) (w:Cf) (h:AbK w9 hs xf (d 3) (d 12) (d 13) (d 14) (v 127) (v 136) (v 137) (v 7) w) (_:d 14=false) (hp:∀ j ∈ [13],d j=true):
  AbK w9 hs xf ((fun j=>j == 14 || d j) 3) ((fun j=>j == 14 || d j) 12) ((fun j=>j == 14 || d j) 13) ((fun j=>j == 14 || d j) 14) (eE v 7 (v 137) 127) (eE v 7 (v 137) 136) (eE v 7 (v 137) 137) (eE v 7 (v 137) 7) w:=by
 show AbK w9 hs xf (d 3) (d 12) (d 13) true (v 127) (v 136) (v 137) (v 137) w;rw [hp 13 Ca] at h ⊢;exact h.Br
theorem vq (L:List (Int × By)) (pv hv:Value) (b:Nat) (w:Cf) (hp:Sl iC 1 w pv (L.map (·.1))) (hh:Sl sC 1 w hv (L.map (·.2))) (h2:2<=L.length) (hl:L.length<=1000) (h64:∀ x ∈ L,x.2.length<=64) (hfp:Fr b pv) (hfh:Fr b hv) (hb0:b<=w.heap.size)
  (hcp:∃ A n c,pv=.slice A n c/\n<=c) (hch:∃ A n c,hv=.slice A n c/\n<=c):
  Cm BV 98 #[pv,hv] w fun e w'=>(∃ rs nv hv',e=.returned (.tuple #[nv,hv'])/\Sl kY 4 w' nv rs/\Fr b nv/\yY b w' rs/\rs.map (·.n)=(dq L).map cR/\Sl sC 1 w' hv' ((dq L).map iH)/\Fr b hv'/\∃ A n c,hv'=.slice A n c/\n<=c)/\Below w.heap.size w w':=by
 obtain ⟨Ap,np,cp,rfl,hcp⟩:=hcp;obtain ⟨Ah,nh,ch,rfl,hch⟩:=hch;obtain ⟨A',c',e⟩:=Sl.zM hp;injection e with ea e1 ec
 rw [BI] at e1;subst e1;subst ea ec;obtain ⟨A'',c'',e⟩:=Sl.zM hh;injection e with ea e1 ec
 rw [BI] at e1;subst e1;subst ea ec;have HP:=Z hp;have HH:=Z hh;have HF:=Z (BW hfp hfh);obtain ⟨x0,L',rfl⟩:∃ x0 L',L=x0 :: L':=by
  cases L with
  | nil=>simp at h2
  | cons x L'=>exact ⟨x,L',rfl⟩
 have HP1:=Z (show Sl iC 1 w (.slice Ap 1 cp) [x0.1] from hp.AN 1 (by simp) (by simp));have HH1:=Z (show Sl sC 1 w (.slice Ah 1 ch) [x0.2] from hh.AN 1 (by simp) (by simp));clear hp hh hfp hfh;have hcp1:(1:Int)<=(cp:Int):=by omega
 have hch1:(1:Int)<=(ch:Int):=by omega
 go_enter Tryz.func98,Tryz.ntmps98;go_wp2_with fail;have HA0:=Z (show Own kY 4 110 w.heap.size (w.alloc (.cells #[.bool false,.slice none 0 0,.slice none 0 0,.slice Ap 1 cp] 110)) (.slice (some ⟨w.heap.size,0,none⟩) 1 1) [⟨cR [x0],none,0,none,0,Ap,cp⟩] from
  World.ownsRow_lit w #[.bool false,.slice none 0 0,.slice none 0 0,.slice Ap 1 cp] 1 (BQ _) (by simp [Ci]) (by simp))
 have hold:∀ k,(BL Ap 1 cp).ownBlock=some k->k<w.heap.size:=fun k hk=>by
  obtain ⟨b',off,rfl,hlt,-⟩:=HP1.out.AD (k:=0) (by simp);simp [Cb] at hk;omega
 have holh:∀ k,(BL Ah 1 ch).ownBlock=some k->k<w.heap.size:=fun k hk=>by
  obtain ⟨b',off,rfl,hlt,-⟩:=HH1.out.key (k:=0) (by simp);simp [Cb] at hk;omega
 have hnew:∀ k,(BL (some ⟨w.heap.size,0,none⟩) 1 1).ownBlock=some k->k=w.heap.size:=fun k hk=>by
  simp [Cb] at hk;omega
 have HRW0:=Z (show yY b (w.alloc (.cells #[.bool false,.slice none 0 0,.slice none 0 0,.slice Ap 1 cp] 110)) [⟨cR [x0],none,0,none,0,Ap,cp⟩] from fun r hr=>by
  rw [List.mem_singleton.1 hr];exact ⟨⟨Sl.nil,Sl.nil,HP1.out.alloc _⟩,fun k hk=>(by cases hk),fun k hk=>(by cases hk),HF.out.1.same⟩)
 have HRD0:=Z (show ∀ r ∈ [(⟨cR [x0],none,0,none,0,Ap,cp⟩:Nr)],NrD (.slice (some ⟨w.heap.size,0,none⟩) 1 1) r from fun r hr=>by
  rw [List.mem_singleton.1 hr];exact ⟨Dis.nil,Dis.nil,fun k hk hk2=>by have:=hold k hk;have:=hnew k hk2;omega⟩)
 have HRL0:=Z (show ∀ r ∈ [(⟨cR [x0],none,0,none,0,Ap,cp⟩:Nr)],∀ k,(r.vk.ownBlock=some k\/r.vc.ownBlock=some k\/r.vd.ownBlock=some k)->k<(w.alloc (.cells #[.bool false,.slice none 0 0,.slice none 0 0,.slice Ap 1 cp] 110)).heap.size from fun r hr k hk=>by
  rw [List.mem_singleton.1 hr] at hk;rcases hk with e | e | e
  ·cases e
  ·cases e
  ·have:=hold k e;simp;omega)
 have HHD0:=Z (show Dis (.slice Ah 1 ch) (.slice (some ⟨w.heap.size,0,none⟩) 1 1) from fun k hk hk2=>by have:=holh k hk;have:=hnew k hk2;omega);clear hold holh hnew;have HI0:=Z (show AbI L' x0 b w.heap.size w 0 (.slice (some ⟨w.heap.size,0,none⟩) 1 1) (.slice Ah 1 ch) [] [x0] [⟨cR [x0],none,0,none,0,Ap,cp⟩] (w.alloc (.cells #[.bool false,.slice none 0 0,.slice none 0 0,.slice Ap 1 cp] 110)) from
  ⟨rfl,by simp,rfl,HA0.out,HRW0.out,HRD0.out,HRL0.out,HH1.out.alloc _,HF.out.2.same,HHD0.out,(Below.refl _ w).alloc (BQ _) _,by simp,by simp,fun x hx=>by
    have:x=x0:=by simpa using hx
    rw [this];exact Ca,fun r hr=>by
    rw [List.mem_singleton.1 hr];exact ⟨BQ _,by show 1<=cp;omega⟩,⟨_,_,_,rfl,by omega⟩⟩)
 generalize w.alloc (.cells #[.bool false,.slice none 0 0,.slice none 0 0,.slice Ap 1 cp] 110)=w1 at *;go_loopw [6,7,8] (fun av hv iv wr=>∃ (i:Nat) (done:List (List (Int × By))) (cur:List (Int × By)) (rs:List Nr),iv=.int .i64 ((i+1:Nat):Int)/\i<=L'.length/\AbI L' x0 b w.heap.size w i av hv done cur rs wr) (fun _ _ iv _=>(L'.length+1) - (intOf iv).toNat)
 case atStart=>exact ⟨0,[],[x0],_,rfl,Nat.zero_le _,HI0.out⟩
 case round=>
  obtain ⟨i,done,cur,rs,rfl,hi,hab⟩:=hrel;have HI:=Z hab;obtain ⟨Ag,cg,rfl⟩:=Sl.zM (hab.o.sl cf);obtain ⟨Ahv,chv,rfl⟩:=Sl.zM hab.h;generalize hlh:((done ++ [cur]).map iH).length=lh at *;have HLH:=Z hlh;have hrl:rs.length=done.length+1:=by have:=congrArg List.length hab.ns;simpa using this
  clear hab hlh;by_cases hlt:i<L'.length
  ·have hk:done.length<rs.length:=by omega
   obtain ⟨ga,oa,rfl,hga,e0,e1,e2,e3⟩:=(HI.out.o.sl cf).Ac hk;obtain ⟨bp,op,rfl,hbp,hpc⟩:=(HP.out.keep HI.out.below).AD (show i+1<((x0 :: L').map (·.1)).length by simp;omega);obtain ⟨bh,oh,rfl,hbh0,-,hhc0⟩:=HH.out.key (show i+1<((x0 :: L').map (·.2)).length by simp;omega);have hhc:=(HI.out.below.cell (p:=⟨bh,oh+(i+1),none⟩) hbh0).trans hhc0;have hbh:bh<wr.heap.size:=Nat.lt_of_lt_of_le hbh0 HI.out.below.size;have HBH:=Z hbh0;clear hhc0 hbh0;have hkb:done.length<=1000:=by have:=pR HI.out.dn;have:=HI.out.cnt;simp only [BP] at hl;omega
   have hrn:rs[done.length].n=cR cur:=by have:=congrArg (fun l:List Nd=>l[done.length]?) HI.out.ns;simpa [BM hk] using this
   obtain rfl:oa=0:=by
    rcases HI.out.o.2 with ⟨hv0,_⟩ | ⟨g2,cap,cur',hv0,_⟩
    ·cases hv0
    ·injection hv0 with e1 e2 e3
     injection e1 with e1
     injection e1 with e4 e5
   have HRI:=Z (HI.out.rows rs[done.length] (BJ hk));have HRD:=Z (HI.out.dis rs[done.length] (BJ hk));have HRN:=Z hrn;have HRS:=Z (show rs[done.length]?=some rs[done.length] from BM hk);generalize rs[done.length]=r at *;clear hrn;obtain ⟨rn,A1,c1,A2,c2,A3,c3⟩:=r;simp only at HRN;simp only [Nr.vk,Nr.vc,Nr.vd] at e1 e2 e3;have hx0:((x0 :: L').map (·.1))[i+1]'(by simp;omega)=L'[i].1:=by simp
   have hx1:((x0 :: L').map (·.2))[i+1]'(by simp;omega)=L'[i].2:=by simp
   rw [hx0] at hpc;rw [hx1] at hhc;have h64i:L'[i].2.length<=64:=h64 _ (by simp);have HXI:=Z (BS hlt);generalize L'[i]=x at *;obtain ⟨xp,xf⟩:=x;simp only at hpc hhc h64i;generalize hkk:done.length=kk at *;have HKK:=Z hkk;clear hkk;have hkw:IntKind.i64.wrap ((rs.length:Int) - 1)=(kk:Int):=by rw [BU _ (by omega)];omega
   have hk1:(kk:Int)<(rs.length:Int):=by omega
   have hi1:((i+1:Nat):Int)<((x0 :: L').length:Int):=by simp only [BP];omega
   have hi2:(i:Int)<(L'.length:Int):=by omega
   have hi3:(i:Int)+1<(L'.length:Int)+1:=by omega
   have hi4:(0:Int)<=(i:Int)+1:=by omega
   clear hx0 hx1;rw [BZ] at e0 e1 e2 e3;have hcl:rn.keys.length<=1000/\rn.kids.length<=1000:=by rw [HRN.out];have h1:=HI.out.cnt;simp only [BP] at hl;refine ⟨?_,?_⟩ <;> (simp [cR];omega)
   obtain ⟨hcl1,hcl2⟩:=hcl;have HMK:=Z (show ∀ wn,Below wr.heap.size wr wn->(Below wr.heap.size wr wn/\wn.cell? ⟨ga,kk * 4+1,none⟩=some (.slice A1 rn.keys.length c1)/\wn.cell? ⟨ga,kk * 4+3,none⟩=some (.slice A3 rn.kids.length c3)/\wn.cell? ⟨bh,oh+(i+1),none⟩=some (.string (ap xf))/\wn.cell? ⟨bp,op+(i+1),none⟩=some (.int .i64 xp)) from
    fun wn h=>⟨h,(h.cell (p:=⟨ga,kk * 4+1,none⟩) hga).trans e1,(h.cell (p:=⟨ga,kk * 4+3,none⟩) hga).trans e3,(h.cell (p:=⟨bh,oh+(i+1),none⟩) hbh).trans hhc,(h.cell (p:=⟨bp,op+(i+1),none⟩) hbp).trans hpc⟩)
   have HCS:=Z (fun (wn:Cf) (h:Below wr.heap.size wr wn)=>(show Cm BV 137 #[.slice A1 rn.keys.length c1] wn fun e w'=>∃ v',e=.returned v'/\Own sC 1 9 wn.heap.size w' v' rn.keys/\Below wn.heap.size wn w'/\Below wr.heap.size wr w'/\wr.heap.size<=wn.heap.size/\wn.heap.size<=w'.heap.size from
    (fK rn.keys _ wn ((show Sl sC 1 wr (.slice A1 rn.keys.length c1) rn.keys from HRI.out.s.k).keep h) (by omega)).mono (fun e w' ⟨v',he,ho,hb⟩=>⟨v',he,ho,hb,pW h hb,h.size,hb.size⟩)))
   have HCI:=Z (fun (wn:Cf) (h:Below wr.heap.size wr wn)=>(show Cm BV 138 #[.slice A3 rn.kids.length c3] wn fun e w'=>∃ v',e=.returned v'/\Own iC 1 3 wn.heap.size w' v' rn.kids/\Below wn.heap.size wn w'/\Below wr.heap.size wr w'/\wr.heap.size<=wn.heap.size/\wn.heap.size<=w'.heap.size from
    (nt rn.kids _ wn ((show Sl iC 1 wr (.slice A3 rn.kids.length c3) rn.kids from HRI.out.s.d).keep h) (by omega)).mono (fun e w' ⟨v',he,ho,hb⟩=>⟨v',he,ho,hb,pW h hb,h.size,hb.size⟩)))
   have HRL:=Z hrl;clear hrl;go_upto_region 7 with fail
   refine BX (S:=fun wn=>Below wr.heap.size wr wn/\wn.cell? ⟨ga,kk * 4+1,none⟩=some (.slice A1 rn.keys.length c1)/\wn.cell? ⟨ga,kk * 4+3,none⟩=some (.slice A3 rn.kids.length c3)/\wn.cell? ⟨bh,oh+(i+1),none⟩=some (.string (ap xf))/\wn.cell? ⟨bp,op+(i+1),none⟩=some (.int .i64 xp)) (by kernel_rfl) (HMK.out _ (Below.refl _ _).drew) (fun hHeld=>?_);refine Takes.start [0,1,2,3,5,6,7,8,11,12,13,14,16,17,18,19] ?_
   repeat
    refine Takes.cons (v:=?_) (by simp only [Bx,Bv,Bw];rfl) (by kernel_rfl) (by kernel_rfl) (by kernel_rfl) (by exact fun _ _ _ h=>h) hHeld (by rfl) ?_ ?_
    rotate_left
    ·intro w hSw
     (try dsimp only at hSw)
     go_simp
     try with_reducible rfl
    try simp only [BD,Bt,Bz,BA]
   with_reducible refine Takes.nil ?_
   refine gF [35,40,41,46,51,52,53,10] (F:=[4,9,10,15,20,21,22,23,24]) (xn wr rn.keys rn.kids xf xp)
    (fun d v wn ⟨_,_,_,h,_⟩=>HMK.out wn h) (by kernel_rfl) (by kernel_rfl) (by kernel_rfl) (by kernel_rfl)
    ⟨.slice none 0 0,.slice none 0 0,0,(Below.refl _ _).drew,.inl ⟨rfl,rfl,rfl⟩,.inl ⟨rfl,rfl,rfl⟩,Dis.nil,fun h=>(by cases h),fun h=>(by cases h),fun h=>(by cases h),fun h=>(by cases h),fun h=>(by cases h),.inl ⟨rfl,rfl⟩,fun h=>(by cases h)⟩ ?steps ?fin
   case steps=>
    refine ValSteps.cons (by simp only [Bx,Bv,Bw];rfl) [] (by kernel_rfl) (fun d v wn hJ hd hp K hK=>?_) ?_
    ·have HJ:=Z hJ;clear hJ hp;simp only [bu,BB,BC,BD,Bt,Bz,BA];go_simp;refine (HCS.out _ HJ.out.choose_spec.choose_spec.choose_spec.1).mono ?_;rintro e w2 ⟨v1,rfl,ho1,hb1,hbw1,hs1,hs2⟩;obtain ⟨s,t,g,hB,hs,ht,hst,h9,h20,h15,h22,h24,hn,hg⟩:=HJ.out;show K _ w2;refine hK.out _ (eE v 35 v1) _ (by simp [bu,eE,BD]) ?_;unfold xn;simp only [eE,BN,BO,BR,BH,reduceIte];rw [hd] at hs;obtain ⟨e10,rfl⟩:=hs.made;have e15:=fV h15 e10;have e22:=fV (fun h=>(h22 h).1) e10;have e24:=fV h24 e22;have hv1:=fun k hk=>(ho1.lt k hk).1
     exact ⟨v1,t,g,hbw1,.inr (.inl ⟨rfl,e10,rfl,ho1.base hs1⟩),ht.below hb1,Dis.lo hv1 (fun k hk=>(ht.lt k hk).2),fun a b=>(h9 a b).below hb1,
      fun a b=>⟨(h20 a b).1.below hb1,Dis.lo hv1 (fun k hk=>((h20 a b).1.lt k hk).2)⟩,h15,fun a=>(by rw [e22] at a;cases a),h24,(hn.keep fun o _ h=>af h hb1).Ab e24,
      fun a=>⟨fun e=>(by have:=hv1 _ e;have:=hn.lt a;omega),(hg a).2⟩⟩
    refine ValSteps.cons (by simp only [Bx,Bv,Bw];rfl) [] (by kernel_rfl) (fun d v wn hJ hd hp K hK=>?_) ?_
    ·have HJ:=Z hJ;clear hJ hp;simp only [bu,BB,BC,BD,Bt,Bz,BA];go_simp;obtain ⟨s,t,g,hB,hs,ht,hst,h9,h20,h15,h22,h24,hn,hg⟩:=HJ.out;have hba:Below wn.heap.size wn (wn.alloc (.cells #[.string (ap xf)] 9)):=(Below.refl _ wn).alloc (BQ _) _;refine hK.out _ (eE v 40 (.slice (some ⟨wn.heap.size,0,none⟩) 1 1)) _ (by simp [bu,eE,BD]) ?_;unfold xn;simp only [eE,BN,BO,BR,BH,reduceIte];exact ⟨s,t,g,hB.alloc hB.size _,hs.below hba,ht.below hba,hst,fun _ _=>World.ownsRow_lit wn #[.string (ap xf)] 1 hB.size (by simp [Ci]) (by simp),fun a b=>⟨(h20 a b).1.below hba,(h20 a b).2⟩,h15,h22,h24,hn.keep (fun o _ h=>af h hba),hg⟩
    refine ValSteps.cons (by simp only [Bx,Bv,Bw];rfl) [4,9] (by kernel_rfl) (fun d v wn hJ hd hp K hK=>?_) ?_
    ·have HJ:=Z hJ;clear hJ;simp only [BE,BG,false_imp_iff,implies_true,and_true] at hp;obtain ⟨p4,p9⟩:=hp;obtain ⟨s,t,g,hB,hs,ht,hst,h9,h20,h15,h22,h24,hn,hg⟩:=HJ.out;rw [p4,hd] at hs;obtain ⟨ev,hso⟩:=hs.mid;subst ev;simp only [bu,BB,BC,BD,Bt,Bz,BA];show if Region.wanted _ _=true then Oper.wp _ _ _ _ _ _ else _
     refine ct (a:=⟨_,_⟩) (xs:=rn.keys) (ys:=[xf]) (by rfl) (by rfl) gT (by rfl) (by rfl) hso ((h9 p9 hd).sl aG) (by simp [Ci];omega) (by simp;omega) hB.size ?_;intro v2 w5 ho2 hg2 hat2;refine hK.out _ (eE v 41 v2) _ (by simp [bu,eE,BD]) ?_;unfold xn;simp only [eE,BN,BO,BR,BH,reduceIte];have e22:=fV (fun h=>(h22 h).1) hd;have e24:=fV h24 e22;have hbl:=fun k hk=>(hso.lt k hk).1
     exact ⟨v2,t,g,ca hB hg2 hB.size hbl,.inr (.inr ⟨p4,rfl,rfl,ho2⟩),ht.grown hg2 hst.ne,hst.AU hat2 (fun k hk=>(ht.lt k hk).2),fun _ h=>(by cases h),
      fun a b=>⟨(h20 a b).1.AC hg2 (h20 a b).2.ne,(h20 a b).2.AU hat2 (fun k hk=>((h20 a b).1.lt k hk).2)⟩,fun _=>trivial,fun a=>(by rw [e22] at a;cases a),h24,
      (hn.keep fun o a h=>(hg2.block g (hn.lt a) (fun e=>(hg a).1 e.symm)).trans h).Ab e24,fun a=>⟨fun e=>(by
        rcases hat2 with h | h
        ·exact (hg a).1 (h ▸ e)
        ·rw [h] at e;injection e with e
         have:=hn.lt a;omega),(hg a).2⟩⟩
    refine ValSteps.cons (by simp only [Bx,Bv,Bw];rfl) [10] (by kernel_rfl) (fun d v wn hJ hd hp K hK=>?_) ?_
    ·have HJ:=Z hJ;clear hJ;simp only [BE,BG,false_imp_iff,implies_true,and_true] at hp;have HP10:=Z hp;clear hp;simp only [bu,BB,BC,BD,Bt,Bz,BA];go_simp;refine (HCI.out _ HJ.out.choose_spec.choose_spec.choose_spec.1).mono ?_;rintro e w2 ⟨v1,rfl,ho1,hb1,hbw1,hs1,hs2⟩;obtain ⟨s,t,g,hB,hs,ht,hst,h9,h20,h15,h22,h24,hn,hg⟩:=HJ.out;show K _ w2;refine hK.out _ (eE v 46 v1) _ (by simp [bu,eE,BD]) ?_;unfold xn;simp only [eE,BN,BO,BR,BH,reduceIte];rw [hd] at ht;obtain ⟨e21,rfl⟩:=ht.made;have e22:=fV (fun h=>(h22 h).2.1) e21;have e24:=fV h24 e22;have hv1:=fun k hk=>(ho1.lt k hk).1
     exact ⟨s,v1,g,hbw1,hs.below hb1,.inr (.inl ⟨rfl,e21,rfl,ho1.base hs1⟩),(Dis.lo hv1 (fun k hk=>(hs.lt k hk).2)).symm,fun a b=>(h9 a b).below hb1,
      fun a b=>⟨(h20 a b).1.below hb1,(h20 a b).2⟩,fun _=>HP10.out,fun a=>(by rw [e22] at a;cases a),h24,(hn.keep fun o _ h=>af h hb1).Ab e24,
      fun a=>⟨(hg a).1,fun e=>(by have:=hv1 _ e;have:=hn.lt a;omega)⟩⟩
    refine ValSteps.cons (by simp only [Bx,Bv,Bw];rfl) [] (by kernel_rfl) (fun d v wn hJ hd hp K hK=>?_) ?_
    ·have HJ:=Z hJ;clear hJ hp;simp only [bu,BB,BC,BD,Bt,Bz,BA];go_simp;obtain ⟨s,t,g,hB,hs,ht,hst,h9,h20,h15,h22,h24,hn,hg⟩:=HJ.out;have hba:Below wn.heap.size wn (wn.alloc (.cells #[.int .i64 xp] 3)):=(Below.refl _ wn).alloc (BQ _) _;refine hK.out _ (eE v 51 (.slice (some ⟨wn.heap.size,0,none⟩) 1 1)) _ (by simp [bu,eE,BD]) ?_;unfold xn;simp only [eE,BN,BO,BR,BH,reduceIte]
     exact ⟨s,t,g,hB.alloc hB.size _,hs.below hba,ht.below hba,hst,fun a b=>(h9 a b).below hba,fun _ _=>⟨World.ownsRow_lit wn #[.int .i64 xp] 1 hB.size (by simp [Ci]) (by simp),fun k hk hk2=>by
      have:=(hs.lt k hk).2;simp [Cb] at hk2;omega⟩,h15,h22,h24,hn.keep (fun o _ h=>af h hba),hg⟩
    refine ValSteps.cons (by simp only [Bx,Bv,Bw];rfl) [15,20] (by kernel_rfl) (fun d v wn hJ hd hp K hK=>?_) ?_
    ·have HJ:=Z hJ;clear hJ;simp only [BE,BG,false_imp_iff,implies_true,and_true] at hp;obtain ⟨p15,p20⟩:=hp;obtain ⟨s,t,g,hB,hs,ht,hst,h9,h20,h15,h22,h24,hn,hg⟩:=HJ.out;rw [p15,hd] at ht;obtain ⟨ev,hto⟩:=ht.mid;subst ev;simp only [bu,BB,BC,BD,Bt,Bz,BA];show if Region.wanted _ _=true then Oper.wp _ _ _ _ _ _ else _
     refine ct (a:=⟨_,_⟩) (xs:=rn.kids) (ys:=[xp]) (by rfl) (by rfl) bI (by rfl) (by rfl) hto ((h20 p20 hd).1.sl ax) (by simp [Ci];omega) (by simp;omega) hB.size ?_;intro v2 w5 ho2 hg2 hat2;refine hK.out _ (eE v 52 v2) _ (by simp [bu,eE,BD]) ?_;unfold xn;simp only [eE,BN,BO,BR,BH,reduceIte];have p10:=h15 p15;have e22:=fV (fun h=>(h22 h).2.1) hd;have e24:=fV h24 e22;have hbl:=fun k hk=>(hto.lt k hk).1
     exact ⟨s,v2,g,ca hB hg2 hB.size hbl,hs.grown hg2 hst.symm.ne,.inr (.inr ⟨p15,rfl,rfl,ho2⟩),(hst.symm.AU hat2 (fun k hk=>(hs.lt k hk).2)).symm,fun _ h=>(by rw [p10] at h;cases h),
      fun _ h=>(by cases h),h15,fun a=>(by rw [e22] at a;cases a),h24,
      (hn.keep fun o a h=>(hg2.block g (hn.lt a) (fun e=>(hg a).2 e.symm)).trans h).Ab e24,fun a=>⟨(hg a).1,fun e=>(by
        rcases hat2 with h | h
        ·exact (hg a).2 (h ▸ e)
        ·rw [h] at e;injection e with e
         have:=hn.lt a;omega)⟩⟩
    refine ValSteps.cons (by simp only [Bx,Bv,Bw];rfl) [10,21] (by kernel_rfl) (fun d v wn hJ hd hp K hK=>?_) ?_
    ·have HJ:=Z hJ;clear hJ;simp only [BE,BG,false_imp_iff,implies_true,and_true] at hp;obtain ⟨p10,p21⟩:=hp;obtain ⟨s,t,g,hB,hs,ht,hst,h9,h20,h15,h22,h24,hn,hg⟩:=HJ.out;have hs':=hs;have ht':=ht;rw [p10] at hs';rw [p21] at ht';have HST:=Z (BW hs'.done.1 ht'.done.1);obtain ⟨As,cs',es⟩:=Sl.zM (hs'.done.2.sl aG);obtain ⟨At,ct',et⟩:=Sl.zM (ht'.done.2.sl ax);have e41:=hs'.done.1.trans es;have e52:=ht'.done.1.trans et;have HX:=Z (show _/\_/\_/\_/\_/\_/\_/\_/\_/\_ from ⟨hB,hs,ht,hst,h9,h20,h15,hn,hg,BW p10 p21⟩);clear hB hs ht hst h9 h20 h15 h22 h24 hn hg hs' ht' es et p10 p21;simp only [bu,BB,BC,BD,Bt,Bz,BA];rw [e41,e52];go_simp;obtain ⟨hB,hs,ht,hst,h9,h20,h15,hn,hg,p10,p21⟩:=HX.out;refine hK.out _ (eE v 53 (.agg #[.bool false,v 41,.slice none 0 0,v 52])) _ (by simp [bu,eE,BD,e41,e52]) ?_;unfold xn;simp only [eE,BN,BO,BR,BH,reduceIte];exact ⟨s,t,g,hB,hs,ht,hst,h9,h20,h15,fun _=>⟨p10,p21,by rw [HST.out.1,HST.out.2]⟩,fun _=>trivial,hn,hg⟩
    refine ValSteps.cons (by simp only [Bx,Bv,Bw];rfl) [] (by kernel_rfl) (fun d v wn hJ hd hp K hK=>?_) ?_
    ·have HJ:=Z hJ;clear hJ hp;simp only [bu,BB,BC,BD,Bt,Bz,BA];go_simp;obtain ⟨s,t,g,hB,hs,ht,hst,h9,h20,h15,h22,h24,hn,hg⟩:=HJ.out;have hba:Below wn.heap.size wn (wn.alloc (ar Nd.zero (.slice none 0 0) (.slice none 0 0) (.slice none 0 0))):=(Below.refl _ wn).alloc (BQ _) _;refine hK.out _ (eE v 10 (.pointer (some ⟨wn.heap.size,0,none⟩))) _ (by simp [bu,eE,BD]) ?_;unfold xn;simp only [eE,BN,BO,BR,BH,reduceIte];have e24:d 24=false:=by
      rcases hn with ⟨_,h⟩ | ⟨h,_⟩ | ⟨h,_⟩
      ·exact h
      ·rw [hd] at h;cases h
      ·rw [hd] at h;cases h
     exact ⟨s,t,wn.heap.size,hB.alloc hB.size _,hs.below hba,ht.below hba,hst,fun a b=>(h9 a b).below hba,fun a b=>⟨(h20 a b).1.below hba,(h20 a b).2⟩,h15,h22,h24,.inr (.inl ⟨rfl,e24,rfl,hB.size,ag rfl⟩),
      fun _=>⟨fun e=>(by have:=(hs.lt _ e).2;omega),fun e=>(by have:=(ht.lt _ e).2;omega)⟩⟩
    refine ValSteps.store (o:=⟨none,.store 110 (.tmp 10) (.tmp 53),0,"tree.go:371",_,none⟩) (by rfl) [22,23] (by rfl) rfl rfl rfl (by rfl) (by rfl) (by rfl) (by rfl) (n:=4) (by kernel_rfl) (sU wr rn.keys rn.kids xf xp) ?_;exact ValSteps.nil
   case fin=>
    intro d v wn hJ hd;obtain ⟨s,t,g,hB,hs,ht,hst,h9,h20,h15,h22,h24,hn,hg⟩:=hJ;simp only [BE,BG,false_imp_iff,implies_true,and_true] at hd;obtain ⟨d4,d9,d10,d15,d20,d21,d22,d23,d24⟩:=hd;rw [d10] at hs;rw [d21] at ht;rw [d23,d24] at hn;obtain ⟨e41,hso⟩:=hs.done;obtain ⟨e52,hto⟩:=ht.done;obtain ⟨e10,hge,hz⟩:=hn.done;have HBN:=Z hB;have HST:=Z hst;have HSO:=Z hso;have HTO:=Z hto;have HZN:=Z hz;have HGN:=Z (BW hge (hg d23));have hcne:=HI.out.ne;have HNX:=Z (show cR (cur ++ [(xp,xf)])=⟨false,rn.keys ++ [xf],[],rn.kids ++ [xp]⟩ by
     rw [HRN.out];cases cur with
     | nil=>exact absurd rfl hcne
     | cons y cur=>simp [cR])
    have hbx:(cR (cur ++ [(xp,xf)])).Bd:=by
     rw [HNX.out];refine ⟨by simp;omega,by simp,by simp;omega,fun k hk=>?_,fun c hc=>by cases hc⟩;rcases List.mem_append.1 hk with hk | hk
     ·rw [HRN.out] at hk;obtain ⟨y,hy,rfl⟩:=List.mem_map.1 (List.mem_of_mem_tail hk);have:=h64 y (HI.out.mem y (List.mem_append_right _ hy));omega
     ·rw [List.mem_singleton.1 hk];omega
    have HFT:=Z (eC (cR (cur ++ [(xp,xf)])) (.agg #[.bool false,s,.slice none 0 0,t]) wn ⟨s,.slice none 0 0,t,by rw [HNX.out],by rw [HNX.out];exact ⟨hso.sl aG,Sl.nil,hto.sl ax⟩⟩ hbx);obtain ⟨As,cs',es⟩:=Sl.zM (hso.sl aG);obtain ⟨At,ct',et⟩:=Sl.zM (hto.sl ax);subst es et;generalize hlk:(rn.keys ++ [xf]).length=lk at *;generalize hld:(rn.kids ++ [xp]).length=ld at *;have HLK:=Z (BW hlk hld);obtain ⟨m0,m1,m2,m3,m4⟩:=aa hz;simp only at m0;clear hB hs ht hst h9 h20 h15 h22 h24 hn hg hso hto hz hge hcne hbx hlk hld d4 d9 d10 d15 d20 d21 d22 d23 d24;simp only [bu,BB,BC,BD,Bt,Bz,BA];rw [e41,e52,e10];clear e41 e52 e10;go_wp2_with fail;refine HFT.out.mono ?_;rintro e w8 ⟨rfl,hb⟩;have HB8:=Z (HBN.out.trans (hb.mono HBN.out.size));have HZ8:=Z (af HZN.out hb);have HSO8:=Z (HSO.out.below hb);have HTO8:=Z (HTO.out.below hb);have hsz8:=HB8.out.size;have HNR:=Z (show kY ⟨cR (cur ++ [(xp,xf)]),As,cs',none,0,At,ct'⟩=[.bool false,.slice As lk cs',.slice none 0 0,.slice At ld ct'] by
     unfold kY Nr.vk Nr.vc Nr.vd;rw [HNX.out];simp only [HLK.out.1,HLK.out.2];rfl)
    have HNS:=Z (show NrI b w8 ⟨cR (cur ++ [(xp,xf)]),As,cs',none,0,At,ct'⟩/\∀ k,((BL As lk cs').ownBlock=some k\/(BL none 0 0).ownBlock=some k\/(BL At ld ct').ownBlock=some k)->wr.heap.size<=k/\k<w8.heap.size by
     have h1:=HSO8.out.sl aG;have h2:=HTO8.out.sl ax;have l1:=HSO8.out.lt;have l2:=HTO8.out.lt;have hbw:b<=wr.heap.size:=Cd hb0 HI.out.below.size;refine ⟨⟨⟨?_,Sl.nil,?_⟩,fun k hk=>?_,fun k hk=>(by cases hk),fun k hk=>?_⟩,fun k hk=>?_⟩
     ·unfold Nr.vk;rw [HNX.out];simp only [HLK.out.1];exact h1
     ·unfold Nr.vd;rw [HNX.out];simp only [HLK.out.2];exact h2
     ·have:=l1 k ((mK As _ _ _ _).trans hk);omega
     ·have:=l2 k ((mK At _ _ _ _).trans hk);omega
     ·rcases hk with e | e | e
      ·exact l1 k e
      ·cases e
      ·exact l2 k e)
    clear m0 m1 m2 m3 m4 hb HFT HSO HTO HZN HBN;obtain ⟨m0,m1,m2,m3,m4⟩:=aa HZ8.out;simp only at m0;cases hf:bw (cR (cur ++ [(xp,xf)]))
    ·have HF:=Z hf;have q4:ga<w8.heap.size:=by omega
     have hpc8:=(HB8.out.cell (p:=⟨bp,op+(i+1),none⟩) hbp).trans hpc;have HHC:=Z (BW hhc hbh);have hbp8:bp<w8.heap.size:=by omega
     clear hf e0 e1 e2 e3 hpc hhc;have HA9:=Z (show Own kY 4 110 w.heap.size ((w8.alloc (.cells #[.int .i64 xp] 3)).alloc (.cells #[.bool false,.slice none 0 0,.slice none 0 0,.slice (some ⟨w8.heap.size,0,none⟩) 1 1] 110)) (.slice (some ⟨ga,0,none⟩) rs.length cg) rs from
      ((HI.out.o.below HB8.out).alloc _).alloc _)
     have hrsl:rs.length<=1001:=by have:=HRL.out;omega
     have HBW8:=Z HI.out.below.size;go_wp2_with (at_builtin;refine Hid.out ?_);refine Z ?_;refine al (base:=w.heap.size) rfl rfl zk rfl rfl HA9.out (Sl.one (⟨cR [(xp,xf)],none,0,none,0,some ⟨w8.heap.size,0,none⟩,1⟩:Nr) (by simp) cf rfl) (by simp [Ci];omega) (by simp;omega) (by have:=HBW8.out;simp;omega) ?_;intro v9 w9 ho hg hat;have HO9:=Z ho;have HC9:=Z (show Ch (fun k=>(BL (some ⟨ga,0,none⟩) rs.length cg).ownBlock=some k) wr w9 from ((Ch.zK HB8.out).alloc _ |>.alloc _).then (Ch.zL (S:=fun k=>(BL (some ⟨ga,0,none⟩) rs.length cg).ownBlock=some k) hg (fun k hk=>hk)) (fun k hk=>.inl hk));have hsz9:w8.heap.size+2<=w9.heap.size:=by have:=hg.size;simp at this;omega
     have HAT:=Z (show v9.ownBlock=(BL (some ⟨ga,0,none⟩) rs.length cg).ownBlock\/∀ k,v9.ownBlock=some k->w8.heap.size+2<=k from hat.imp id fun e k hk=>by
      rw [e] at hk;injection hk with hk
      simp at hk;omega)
     have hne8:w8.heap.size≠ga:=by omega
     have HK9:=Z (show w9.heap[w8.heap.size]?=some (.cells #[.int .i64 xp] 3 (0,0)) from (hg.block w8.heap.size (by simp;omega) (fun e=>hne8 (Option.some.inj e))).trans (am (ag rfl) _));have HH9:=Z (show Sl sC 1 w9 (.slice Ahv lh chv) ((done ++ [cur]).map iH) from de HI.out.h HC9.out fun k hk e=>HI.out.hd k hk e)
     have HS9:=Z (show Sl iC 1 w9 (.slice (some ⟨w8.heap.size,0,none⟩) 1 1) [xp] from de (S:=fun k=>(BL (some ⟨ga,0,none⟩) rs.length cg).ownBlock=some k)
      ((Sl.one (w0:=w8) (e:=3) (cs:=#[.int .i64 xp]) (xp:Int) rfl ax rfl).alloc _) (Ch.zL hg (fun k hk=>hk)) (fun k hk e=>by
        injection hk with hk
        injection e with e
        simp only at hk e;omega))
     have hbh9:bh<w9.heap.size:=by have:=HHC.out.2;omega
     have HHC9:=Z (show w9.cell? ⟨bh,oh+(i+1),none⟩=some (.string (ap xf)) from
      HC9.out.cell (HHC.out.1) fun e=>by
       injection e with e
       simp only at e;have h1:=(HI.out.o.lt ga rfl).1;have h2:=HBH.out;omega)
     obtain ⟨A9,c9,rfl⟩:=Sl.zM (ho.sl cf);generalize hl9:(rs ++ [(⟨cR [(xp,xf)],none,0,none,0,some ⟨w8.heap.size,0,none⟩,1⟩:Nr)]).length=l9 at *;have HL9:=Z hl9;clear ho hg hat hpc8 m0 m1 m2 m3 m4 hl9;have HLE:=Z (show lh<=1001 by have h1:=HLH.out;have h2:=HKK.out;rw [BI,BT,BF] at h1;omega)
     have HCL:=Z (fun (wn:Cf) (h:Below w9.heap.size w9 wn)=>(show Cm BV 137 #[.slice Ahv lh chv] wn fun e w'=>∃ v',e=.returned v'/\Own sC 1 9 w9.heap.size w' v' ((done ++ [cur]).map iH)/\Below wn.heap.size wn w'/\Below w9.heap.size w9 w' from
      (fK ((done ++ [cur]).map iH) _ wn (HH9.out.keep h) (by have:=HLE.out;have:=HLH.out;omega)).mono (fun e w' ⟨v',he,ho,hb⟩=>⟨v',he,ho.base h.size,hb,pW h hb⟩)))
     go_upto_region 11 with fail
     have hkk:=HHC9.out;have HLS:=Z (show ((done ++ [cur]).map iH).length<=1001 by rw [HLH.out];exact HLE.out);have HSX:=Z (show ∀ wn,Below w9.heap.size w9 wn->(Below w9.heap.size w9 wn/\wn.cell? ⟨bh,oh+(i+1),none⟩=some (.string (ap xf))) from fun wn h=>⟨h,(h.cell (p:=⟨bh,oh+(i+1),none⟩) hbh9).trans hkk⟩);refine BX (S:=fun wn=>Below w9.heap.size w9 wn/\wn.cell? ⟨bh,oh+(i+1),none⟩=some (.string (ap xf))) (by kernel_rfl) (HSX.out _ (Below.refl _ _).drew) (fun hHeld=>?_);refine Takes.start [0,2,3,4,5] ?_
     repeat
      refine Takes.cons (v:=?_) (by simp only [Bx,Bv,Bw];rfl) (by kernel_rfl) (by kernel_rfl) (by kernel_rfl) (by exact fun _ _ _ h=>h) hHeld (by rfl) ?_ ?_
      rotate_left
      ·intro w hSw
       (try dsimp only at hSw)
       go_simp
       try with_reducible rfl
      try simp only [BD,Bt,Bz,BA]
     with_reducible refine Takes.nil ?_
     refine gF [69,74,75,7] (F:=[1,6,7,8]) (fun d v wn=>AbK w9 ((done ++ [cur]).map iH) xf (d 1) (d 6) (d 7) (d 8) (v 69) (v 74) (v 75) (v 7) wn) (fun d v wn h=>HSX.out wn h.AX) (by kernel_rfl) (by kernel_rfl) (by kernel_rfl) (by kernel_rfl) (AbK.start _ _ _ _ _ _ _) ?steps ?fin
     case steps=>
      refine ValSteps.cons (by simp only [Bx,Bv,Bw];rfl) [] (by kernel_rfl) (fun d v wn hJ hd hp K hK=>?_) ?_
      ·have HJ:=Z hJ;clear hJ hp;simp only [bu,BB,BC,BD,Bt,Bz,BA];go_simp;refine (HCL.out _ HJ.out.AX).mono ?_;rintro e w2 ⟨v1,rfl,ho1,hb1,hbw1⟩;show K _ w2;refine hK.out _ (eE v 69 v1) _ (by simp [bu,eE,BD]) ?_;have hJ:=HJ.out;rw [hd] at hJ;exact hJ.clone ho1 hb1
      refine ValSteps.cons (by simp only [Bx,Bv,Bw];rfl) [] (by kernel_rfl) (fun d v wn hJ hd hp K hK=>?_) ?_
      ·have HJ:=Z hJ;clear hJ hp;simp only [bu,BB,BC,BD,Bt,Bz,BA];go_simp;refine hK.out _ (eE v 74 (.slice (some ⟨wn.heap.size,0,none⟩) 1 1)) _ (by simp [bu,eE,BD]) ?_;have hJ:=HJ.out;rw [hd] at hJ;exact hJ.one
      refine ValSteps.cons (by simp only [Bx,Bv,Bw];rfl) [1,6] (by kernel_rfl) (fun d v wn hJ hd hp K hK=>?_) ?_
      ·have HJ:=Z hJ;clear hJ;simp only [BE,BG,false_imp_iff,implies_true,and_true] at hp;obtain ⟨p1,p2⟩:=hp;have hJ:=HJ.out;rw [p1,p2,hd] at hJ;obtain ⟨hso,hyo⟩:=hJ.pre;simp only [bu,BB,BC,BD,Bt,Bz,BA];show if Region.wanted _ _=true then Oper.wp _ _ _ _ _ _ else _
       refine ct (a:=⟨_,_⟩) (xs:=((done ++ [cur]).map iH)) (ys:=[xf]) (by rfl) (by rfl) gT (by rfl) (by rfl) hso (hyo.sl aG) (by have:=HLS.out;simp only [Ci,BF];omega) (by have:=HLS.out;simp only [BF];omega) hJ.AX.size ?_;intro v2 w5 ho2 hg2 hat2;refine hK.out _ (eE v 75 v2) _ (by simp [bu,eE,BD]) ?_;show AbK _ _ _ (d 1) (d 6) true (d 8) _ _ _ _ _;rw [p1,p2];exact hJ.app ho2 hg2
      refine ValSteps.Be (by rfl) [7] (by rfl) (by rfl) (by rfl) (by rfl) (by rfl) (by rfl) (by rfl) (sL) ?_;exact ValSteps.nil
     case fin=>
     intro d v wc hJ hd;simp only [BE,BG,false_imp_iff,implies_true,and_true] at hd;obtain ⟨d1,d2,d3,d4⟩:=hd;rw [d1,d2,d3,d4] at hJ;obtain ⟨hbc,hoc⟩:=hJ.fin;simp only [bu,BB,BC,BD,Bt,Bz,BA];clear hJ d1 d2 d3 d4;have HBC:=Z hbc;have HOC:=Z hoc;obtain ⟨A10,c10,e10⟩:=Sl.zM (hoc.sl aG);generalize hl10:((done ++ [cur]).map iH ++ [xf]).length=l10 at *;have HL10:=Z hl10;generalize v 7=hv' at *;subst e10;clear hbc hoc hl10 hkk;go_wp2_with fail;go_roundw
     case rel=>
      have hbw:b<=wr.heap.size:=Cd hb0 HI.out.below.size;have h1:=HBC.out.size
      refine ⟨i+1,done ++ [cur],[(xp,xf)],rs ++ [⟨cR [(xp,xf)],none,0,none,0,some ⟨w8.heap.size,0,none⟩,1⟩],by go_num,hlt,
       AbI.no (r':=⟨cR [(xp,xf)],none,0,none,0,some ⟨w8.heap.size,0,none⟩,1⟩) HI.out (HC9.out.trans (Ch.zK HBC.out)) (HO9.out.below HBC.out) (fun k hk=>?_) (HAT.out.imp id fun e k hk=>by have:=e k hk;omega) rfl ⟨⟨Sl.nil,Sl.nil,HS9.out.keep HBC.out⟩,fun k hk=>(by cases hk),fun k hk=>(by cases hk),fun k hk=>?_⟩ ⟨Dis.nil,Dis.nil,fun k hk hk2=>?_⟩ (HOC.out.sl aG) (fun k hk=>?_) (fun k hk hk2=>?_) ⟨_,_,_,rfl,HOC.out.capN⟩ ⟨BQ _,BQ _⟩ HXI.out HF.out⟩
      ·rcases hk with e | e | e
       ·cases e
       ·cases e
       ·injection e with e;simp only at e;omega
      ·injection hk with hk;simp only at hk;omega
      ·injection hk with hk
       simp only at hk;rcases HAT.out with e | e
       ·rw [e] at hk2;injection hk2 with hk2
        simp only at hk2;omega
       ·have:=e k hk2;omega
      ·have:=(HOC.out.lt k hk).1;omega
      ·have:=(HOC.out.lt k hk).1;have:=(HO9.out.lt k hk2).2;omega
     case measure=>simp [intOf];omega
    ·have q0:w8.cell? ⟨ga,kk * 4,none⟩=some (.bool rn.leaf):=(HB8.out.cell (p:=⟨ga,kk * 4,none⟩) hga).trans e0;have q1:=(HB8.out.cell (p:=⟨ga,kk * 4+1,none⟩) hga).trans e1;have q2:=(HB8.out.cell (p:=⟨ga,kk * 4+2,none⟩) hga).trans e2;have q3:=(HB8.out.cell (p:=⟨ga,kk * 4+3,none⟩) hga).trans e3;have q4:ga<w8.heap.size:=by omega
     have q5:=(HI.out.o.below HB8.out).fz;have HF:=Z hf;clear hf e0 e1 e2 e3 hpc hhc;go_wp2_with fail;go_roundw
     case rel=>
      have h:=AbI.yes HI.out HB8.out (r':=⟨cR (cur ++ [(xp,xf)]),As,cs',none,0,At,ct'⟩) rfl HNS.out.1 (by
       have:=HNS.out.2;unfold Nr.vk Nr.vc Nr.vd;rw [HNX.out];simp only [HLK.out.1,HLK.out.2];exact this) (by
       have h1:=HSO8.out.capN;have h2:=HTO8.out.capN;rw [HNX.out];simp only [HLK.out.1,HLK.out.2];exact ⟨h1,h2⟩) HXI.out HF.out
      rw [HNR.out,HKK.out] at h;exact ⟨i+1,done,_,_,by go_num,hlt,h⟩
     case measure=>simp [intOf];omega
  ·obtain rfl:i=L'.length:=by omega
   have hk:done.length<rs.length:=by omega
   obtain ⟨ga,oa,rfl,hga,e0,e1,e2,e3⟩:=(HI.out.o.sl cf).Ac hk;have hkb:done.length<=1000:=by have:=pR HI.out.dn;have:=HI.out.cnt;simp only [BP] at hl;omega
   have hrn:rs[done.length].n=cR cur:=by have:=congrArg (fun l:List Nd=>l[done.length]?) HI.out.ns;simpa [BM hk] using this
   obtain rfl:oa=0:=by
    rcases HI.out.o.2 with ⟨hv0,_⟩ | ⟨g2,cap,cur',hv0,_⟩
    ·cases hv0
    ·injection hv0 with e1 e2 e3
     injection e1 with e1
     injection e1 with e4 e5
   have HRN:=Z hrn;have HRC:=Z (show rs[done.length]=rs[done.length] from rfl);obtain ⟨r,hr⟩:∃ r,rs[done.length]=r:=⟨_,rfl⟩;have HRE:=Z hr;rw [hr] at e0 e1 e2 e3 HRN;clear hrn hr HRC;obtain ⟨rn,A1,c1,A2,c2,A3,c3⟩:=r;simp only at HRN;simp only [Nr.vk,Nr.vc,Nr.vd] at e1 e2 e3;rw [BZ] at e0 e1 e2 e3;have HGR:=Z HI.out.AR;have HKL:=Z (show rn.keys.length+1=cur.length by
    have:=List.length_pos_iff.2 HI.out.ne;rw [HRN.out];simp [cR];omega)
   have HRS:=Z hrl;have hkw:IntKind.i64.wrap ((rs.length:Int) - 1)=(done.length:Int):=by rw [BU _ (by omega)];omega
   have hk1:(done.length:Int)<(rs.length:Int):=by omega
   generalize hkk:done.length=kk at *;have HKK:=Z hkk;clear hkk hrl;go_upto_region 13 with fail
   by_cases hk0:kk=0
   ·have hk2:decide ((0:Int)<(kk:Int))=false:=decide_eq_false (by omega);have hk3:¬ (0:Int)<(kk:Int):=by omega
    have HGF:=Z (HGR.out.trans (tL (.inl (List.length_eq_zero_iff.1 (HKK.out.trans hk0)))));go_wp2_with fail;go_ret2;exact ⟨⟨rs,_,_,rfl,HI.out.o.sl cf,fun k hk=>Cd hb0 (HI.out.o.lt k hk).1,HI.out.rows,by rw [HGF.out];exact HI.out.ns,by rw [HGF.out];exact HI.out.h,HI.out.hf,HI.out.hc⟩,HI.out.below⟩
   ·have hk3:(0:Int)<(kk:Int):=by omega
    by_cases hke:rn.keys.length=0
    ·have hke1:((rn.keys.length:Int) == 0)=true:=by rw [hke];rfl
     obtain ⟨y,hy⟩:∃ y,cur=[y]:=List.length_eq_one_iff.1 (by have:=HKL.out;omega);subst hy;obtain ⟨dG,bG,hdn⟩:∃ dG bG,done=dG ++ [bG]:=⟨done.dropLast,done.getLast (by intro e;have:=HKK.out;rw [e] at this;simp at this;omega),(List.dropLast_concat_getLast _).symm⟩;subst hdn;have HGF:=Z (HGR.out.trans wI);have HB3:=Z (HI.out.dn bG (by simp));obtain ⟨j,hj⟩:∃ j,kk=j+1:=⟨kk - 1,by omega⟩;have HJ:=Z hj;have HDL:=Z (show dG.length=j by have:=HKK.out;rw [BT,BF] at this;omega);have hjr:j<rs.length:=by have:=HRS.out;omega
     obtain ⟨gb,ob,hgb,-,f0,f1,f2,f3⟩:=(HI.out.o.sl cf).Ac hjr;injection hgb with hgb
     injection hgb with g1 g2
     subst g1 g2;have hrb:rs[j].n=cR bG:=by have:=congrArg (fun l:List Nd=>l[j]?) HI.out.ns;have hd:=HDL.out;subst hd;simpa [BM hjr] using this
     have HBC:=Z (HI.out.cp rs[j] (BJ hjr));have HBI:=Z (HI.out.rows rs[j] (BJ hjr));have HBD:=Z (HI.out.dis rs[j] (BJ hjr));obtain ⟨rb,hrb2⟩:∃ r,rs[j]=r:=⟨_,rfl⟩;have HRB:=Z hrb2;rw [hrb2] at f0 f1 f2 f3 hrb HBC HBI HBD;clear hrb2;have HBN:=Z hrb;clear hrb;obtain ⟨bn,B1,x1,B2,x2,B3,x3⟩:=rb;simp only at HBN HBC;simp only [Nr.vk,Nr.vc,Nr.vd] at f1 f2 f3;rw [BZ] at f0 f1 f2 f3;have hm1:bn.kids.length=bG.length:=by rw [HBN.out];simp [cR]
     have hm2:bn.keys.length=bG.length - 1:=by rw [HBN.out];simp [cR]
     have hmb:bG.length<=1001:=by have h1:=HI.out.cnt;simp only [List.flatten_append,List.flatten_cons,List.flatten_nil,List.append_nil,BT,BP,List.length_nil] at h1;simp only [BP] at hl;omega
     obtain ⟨p,hp⟩:∃ p,bG.length=p+3:=⟨bG.length - 3,by have:=HB3.out;omega⟩;rw [hp] at hm1 hm2;have HP:=Z hp;have HM:=Z (BW hm1 hm2);have hjw:IntKind.i64.wrap ((kk:Int) - 1)=(j:Int):=by rw [BU _ (by omega)];omega
     have hj1:(j:Int)<(rs.length:Int):=by omega
     have hnw:IntKind.i64.wrap ((bn.kids.length:Int) - 1)=((p+2:Nat):Int):=by rw [BU _ (by omega)];omega
     generalize hn:p+2=n at *;have hpw:IntKind.i64.wrap ((n:Int) - 1)=((p+1:Nat):Int):=by rw [BU _ (by omega)];omega
     generalize hq:p+1=q at *;have HQ:=Z (BW hn hq);clear hn hq hm1 hm2 hp hj;go_upto_region 14 with fail
     go_region;go_upto_region 15 with fail
     have hnl:n<bn.kids.length:=by have:=HM.out.1;have:=HQ.out.1;omega
     obtain ⟨b3,o3,rfl,hb3,c30⟩:=(show Sl iC 1 wr (.slice B3 bn.kids.length x3) bn.kids from HBI.out.s.d).AD hnl;have HKR:=Z (HI.out.rows rs[kk] (BJ (by have:=HRS.out;omega)));have hre:=HRE.out;rw [hre] at HKR;have hrk:0<rn.kids.length:=by rw [HRN.out];simp [cR]
     obtain ⟨b4,o4,rfl,hb4,c40⟩:=(show Sl iC 1 wr (.slice A3 rn.kids.length c3) rn.kids from HKR.out.s.d).AD hrk;have hlhk:lh=kk+1:=by have h1:=HLH.out;have h2:=HKK.out;rw [BI,BT,BF] at h1;omega
     have hlh0:kk<(((dG ++ [bG]) ++ [[y]]).map iH).length:=by rw [HLH.out];omega
     obtain ⟨b5,o5,rfl,hb5,-,c50⟩:=HI.out.h.key hlh0;have hcap:lh<=chv:=by
      obtain ⟨A,n',c',e,h⟩:=HI.out.hc;injection e with _ e2 e3
      omega
     have hn1:(n:Int)<(bn.kids.length:Int):=by omega
     have hr1:(0:Int)<(rn.kids.length:Int):=by omega
     have hc1:(kk:Int)<=(lh:Int):=by omega
     have hc2:(lh:Int)<=(chv:Int):=by omega
     have hc0:(0:Int)<=(kk:Int):=by omega
     have HZI:=Z (show bn.kids[n]=bn.kids[n] from rfl);obtain ⟨z1,hz1⟩:∃ z,bn.kids[n]=z:=⟨_,rfl⟩;obtain ⟨y1,hy1⟩:∃ z,rn.kids[0]=z:=⟨_,rfl⟩;rw [hz1] at c30;rw [hy1,Nat.add_zero] at c40;have HZ1:=Z hz1;have HY1:=Z hy1;have HLHK:=Z hlhk;have hfz:=HI.out.o.fz;clear HZI hz1 hy1 hre hlhk hlh0 c50;have hck:¬ chv=kk:=by have:=HLHK.out;omega
     have hl1:lh - kk=1:=by have:=HLHK.out;omega
     go_region;have HNE:=Z (show cR (bG.drop n ++ [y])=⟨false,[y.2],[],[z1,y1]⟩ by
      have h1:bG.drop n=[bG[n]'(by have:=HP.out;have:=HQ.out.1;omega)]:=by rw [BS (by have:=HP.out;have:=HQ.out.1;omega),List.drop_eq_nil_of_le (by have:=HP.out;have:=HQ.out.1;omega)]
      have h2:=HZ1.out;have h3:=HY1.out;simp only [HBN.out,cR,Cj] at h2;simp only [HRN.out,cR,Cg,List.map_nil,List.getElem_cons_zero] at h3;rw [h1];unfold cR;simp only [List.singleton_append,Cg,List.map_nil,List.tail_cons];rw [h2,h3])
     have HRX:=Z (show kY ⟨cR (bG.drop n ++ [y]),some ⟨b5,o5+kk,none⟩,chv - kk,none,0,some ⟨wr.heap.size,0,none⟩,2⟩=[.bool false,.slice (some ⟨b5,o5+kk,none⟩) 1 (chv - kk),.slice none 0 0,.slice (some ⟨wr.heap.size,0,none⟩) 2 2] by
      unfold kY Nr.vk Nr.vc Nr.vd;rw [HNE.out];rfl)
     have hk:kk<rs.length:=by have:=HRS.out;omega
     have HO1:=Z (HI.out.o.set cf hk (⟨cR (bG.drop n ++ [y]),some ⟨b5,o5+kk,none⟩,chv - kk,none,0,some ⟨wr.heap.size,0,none⟩,2⟩:Nr));have HC1:=Z (fE (g:=ga) [.bool false,.slice (some ⟨b5,o5+kk,none⟩) 1 (chv - kk),.slice none 0 0,.slice (some ⟨wr.heap.size,0,none⟩) 2 2] (kk * 4) wr);rw [HRX.out] at HO1;have HO2:=Z ((HO1.out.alloc (.cells #[.int .i64 z1,.int .i64 y1] 3)).below (((Below.refl _ _).drew).drew));have HC2:=Z (((HC1.out.alloc (.cells #[.int .i64 z1,.int .i64 y1] 3)).drew).drew);have HD2:=Z (show Sl iC 1 ((wr.setCells ga (kk * 4) [.bool false,.slice (some ⟨b5,o5+kk,none⟩) 1 (chv - kk),.slice none 0 0,.slice (some ⟨wr.heap.size,0,none⟩) 2 2]).alloc (.cells #[.int .i64 z1,.int .i64 y1] 3)).drew.drew (.slice (some ⟨wr.heap.size,0,none⟩) 2 2) [z1,y1] from
      (Sl.new (f:=iC) (xs:=[z1,y1]) (by simp [World.setCells,World.setCell]) ax rfl rfl).keep (((Below.refl _ _).drew).drew))
     simp only [World.setCells,Nat.add_assoc,Nat.reduceAdd] at HO2 HC2 HD2;obtain ⟨w2,hw2⟩:∃ w2,w2=(((((wr.setCell ⟨ga,kk * 4,none⟩ (.bool false)).setCell ⟨ga,kk * 4+1,none⟩ (.slice (some ⟨b5,o5+kk,none⟩) 1 (chv - kk))).setCell ⟨ga,kk * 4+2,none⟩ (.slice none 0 0)).setCell ⟨ga,kk * 4+3,none⟩ (.slice (some ⟨wr.heap.size,0,none⟩) 2 2)).alloc (.cells #[.int .i64 z1,.int .i64 y1] 3)).drew.drew:=⟨_,rfl⟩;rw [<- hw2] at HO2 HC2 HD2;go_upto_region 16 with fail
     rw [<- hw2];have HSZ2:=Z (show wr.heap.size<w2.heap.size by rw [hw2];simp [World.setCell]);clear hw2 HO1 HC1;have HH2:=Z (de HI.out.h HC2.out fun k hk e=>HI.out.hd k hk (by rw [e];rfl));have HT2:=Z (show Sl sC 1 w2 (.slice (some ⟨b5,o5,none⟩) kk chv) ((dG ++ [bG]).map iH) by
      have h:=HH2.out.take kk (by have:=HLH.out;have:=HLHK.out;omega);rw [BK (l₂:=[[y]]),List.take_left' (by rw [BI];exact HKK.out)] at h;exact h)
     have hjr2:j<(rs.set kk (⟨cR (bG.drop n ++ [y]),some ⟨b5,o5+kk,none⟩,chv - kk,none,0,some ⟨wr.heap.size,0,none⟩,2⟩:Nr)).length:=by rw [Cl];omega
     obtain ⟨gb,ob,hgb,hga2,-,p1,-,p3⟩:=(HO2.out.sl cf).Ac hjr2;injection hgb with hgb
     injection hgb with t1 t2
     subst t1 t2;rw [BY (by have:=HJ.out;omega),HRB.out,BZ] at p1 p3;simp only [Nr.vk,Nr.vd] at p1 p3;have hql:q<bn.keys.length:=by have:=HM.out.2;have:=HQ.out.2;omega
     have HBK2:=Z (de HBI.out.s.k HC2.out fun k hk e=>HBD.out.k k hk (by rw [e];rfl));obtain ⟨b6,o6,hb6e,hb6,-,c60⟩:=(show Sl sC 1 w2 (.slice B1 bn.keys.length x1) bn.keys from HBK2.out).key hql;subst hb6e;obtain ⟨xk,hxk⟩:∃ z,bn.keys[q]=z:=⟨_,rfl⟩;rw [hxk] at c60;have HXK:=Z hxk;have hq1:(q:Int)<(bn.keys.length:Int):=by omega
     have hq0:(0:Int)<=(q:Int):=by omega
     have hck1:(kk:Int)<=(chv:Int):=by omega
     have HLS:=Z (show ((dG ++ [bG]).map iH).length<=1001 by rw [BI,HKK.out];omega)
     have HCL:=Z (fun (wn:Cf) (h:Below w2.heap.size w2 wn)=>(show Cm BV 137 #[.slice (some ⟨b5,o5,none⟩) kk chv] wn fun e w'=>∃ v',e=.returned v'/\Own sC 1 9 w2.heap.size w' v' ((dG ++ [bG]).map iH)/\Below wn.heap.size wn w'/\Below w2.heap.size w2 w' from
      (fK ((dG ++ [bG]).map iH) _ wn (HT2.out.keep h) (by have:=HLS.out;omega)).mono (fun e w' ⟨v',he,ho,hb⟩=>⟨v',he,ho.base h.size,hb,pW h hb⟩)))
     have HSX:=Z (show ∀ wn,Below w2.heap.size w2 wn->(Below w2.heap.size w2 wn/\wn.cell? ⟨ga,j * 4+1,none⟩=some (.slice (some ⟨b6,o6,none⟩) bn.keys.length x1)/\wn.cell? ⟨b6,o6+q,none⟩=some (.string (ap xk))) from
      fun wn h=>⟨h,(h.cell (p:=⟨ga,j * 4+1,none⟩) hga2).trans p1,(h.cell (p:=⟨b6,o6+q,none⟩) hb6).trans c60⟩)
     clear hxk c60 p1 p3 f0 f1 f2 f3 e0 e1 e2 e3 c30 c40;refine BX (S:=fun wn=>Below w2.heap.size w2 wn/\wn.cell? ⟨ga,j * 4+1,none⟩=some (.slice (some ⟨b6,o6,none⟩) bn.keys.length x1)/\wn.cell? ⟨b6,o6+q,none⟩=some (.string (ap xk))) (by kernel_rfl) (HSX.out _ (Below.refl _ _).drew) (fun hHeld=>?_);refine Takes.start [0,1,2,4,5,6,7,8,9,10,11] ?_
     repeat
      refine Takes.cons (v:=?_) (by simp only [Bx,Bv,Bw];rfl) (by kernel_rfl) (by kernel_rfl) (by kernel_rfl) (by exact fun _ _ _ h=>h) hHeld (by rfl) ?_ ?_
      rotate_left
      ·intro w hSw
       (try dsimp only at hSw)
       go_simp
       try with_reducible rfl
      try simp only [BD,Bt,Bz,BA]
     with_reducible refine Takes.nil ?_
     refine gF [127,136,137,7] (F:=[3,12,13,14]) (fun d v wn=>AbK w2 ((dG ++ [bG]).map iH) xk (d 3) (d 12) (d 13) (d 14) (v 127) (v 136) (v 137) (v 7) wn) (fun d v wn h=>HSX.out wn h.AX) (by kernel_rfl) (by kernel_rfl) (by kernel_rfl) (by kernel_rfl) (AbK.start _ _ _ _ _ _ _) ?steps ?fin
     case steps=>
      refine ValSteps.cons (by simp only [Bx,Bv,Bw];rfl) [] (by kernel_rfl) (fun d v wn hJ hd hp K hK=>?_) ?_
      ·have HJ:=Z hJ;clear hJ hp;simp only [bu,BB,BC,BD,Bt,Bz,BA];go_simp;refine (HCL.out _ HJ.out.AX).mono ?_;rintro e w2 ⟨v1,rfl,ho1,hb1,hbw1⟩;show K _ w2;refine hK.out _ (eE v 127 v1) _ (by simp [bu,eE,BD]) ?_;have hJ:=HJ.out;rw [hd] at hJ;exact hJ.clone ho1 hb1
      refine ValSteps.cons (by simp only [Bx,Bv,Bw];rfl) [] (by kernel_rfl) (fun d v wn hJ hd hp K hK=>?_) ?_
      ·have HJ:=Z hJ;clear hJ hp;simp only [bu,BB,BC,BD,Bt,Bz,BA];go_simp;refine hK.out _ (eE v 136 (.slice (some ⟨wn.heap.size,0,none⟩) 1 1)) _ (by simp [bu,eE,BD]) ?_;have hJ:=HJ.out;rw [hd] at hJ;exact hJ.one
      refine ValSteps.cons (by simp only [Bx,Bv,Bw];rfl) [3,12] (by kernel_rfl) (fun d v wn hJ hd hp K hK=>?_) ?_
      ·have HJ:=Z hJ;clear hJ;simp only [BE,BG,false_imp_iff,implies_true,and_true] at hp;obtain ⟨p1,p2⟩:=hp;have hJ:=HJ.out;rw [p1,p2,hd] at hJ;obtain ⟨hso,hyo⟩:=hJ.pre;simp only [bu,BB,BC,BD,Bt,Bz,BA];show if Region.wanted _ _=true then Oper.wp _ _ _ _ _ _ else _
       refine ct (a:=⟨_,_⟩) (xs:=((dG ++ [bG]).map iH)) (ys:=[xk]) (by rfl) (by rfl) gT (by rfl) (by rfl) hso (hyo.sl aG) (by have:=HLS.out;simp only [Ci,BF];omega) (by have:=HLS.out;simp only [BF];omega) hJ.AX.size ?_;intro v2 w5 ho2 hg2 hat2;refine hK.out _ (eE v 137 v2) _ (by simp [bu,eE,BD]) ?_;show AbK _ _ _ (d 3) (d 12) true (d 14) _ _ _ _ _;rw [p1,p2];exact hJ.app ho2 hg2
      refine ValSteps.Be (by rfl) [13] (by rfl) (by rfl) (by rfl) (by rfl) (by rfl) (by rfl) (by rfl) (sK) ?_;exact ValSteps.nil
     case fin=>
     intro d v wc hJ hd;simp only [BE,BG,false_imp_iff,implies_true,and_true] at hd;obtain ⟨d1,d2,d3,d4⟩:=hd;rw [d1,d2,d3,d4] at hJ;obtain ⟨hbc,hoc⟩:=hJ.fin;simp only [bu,BB,BC,BD,Bt,Bz,BA];clear hJ d1 d2 d3 d4;have HBC3:=Z hbc;have HOC:=Z hoc;obtain ⟨A10,c10,e10⟩:=Sl.zM (hoc.sl aG);generalize hl10:((dG ++ [bG]).map iH ++ [xk]).length=l10 at *;have HL10:=Z hl10;generalize v 7=hv' at *;subst e10;clear hbc hoc hl10;have HO3:=Z (HO2.out.below HBC3.out);obtain ⟨gb,ob,hgb,hga3,p0,p1,p2,p3⟩:=(HO3.out.sl cf).Ac hjr2;injection hgb with hgb
     injection hgb with t1 t2
     subst t1 t2;rw [BY (by have:=HJ.out;omega),HRB.out,BZ] at p0 p1 p2 p3;simp only [Nr.vk,Nr.vd,Nr.vc] at p0 p1 p2 p3;have hfz3:=HO3.out.fz;have hqx:(q:Int)<=(x1:Int):=by have:=HBC.out.1;omega
     have hnx:(n:Int)<=(x3:Int):=by have:=HBC.out.2;omega
     have hn0:(0:Int)<=(n:Int):=by omega
     clear hfz;go_upto_region 17 with fail
     go_region;go_wp2_with fail;go_ret2;have hjk:=HJ.out;have hdl:=HDL.out;have hbl:=HP.out;have hgf:=HGF.out;have hqq:=HQ.out;rw [show bG.length - 1=n by omega] at hgf;have hkt:(bn.keys.take q).length=q:=by rw [Ck];omega
     have hdt:(bn.kids.take n).length=n:=by rw [Ck];omega
     have hnt:cR (bG.take n)=⟨false,bn.keys.take q,[],bn.kids.take n⟩:=by rw [HBN.out];unfold cR;simp only [List.map_take];congr 1;rw [<- Cn,<- Cn,List.drop_take];congr 1;omega
     have hbleaf:bn.leaf=false/\bn.cells=[]:=by rw [HBN.out];exact ⟨rfl,rfl⟩
     have hset1:=HO3.out.Ba (t:=1) (u:=.slice (some ⟨b6,o6,none⟩) q x1) cf hjr2 (by omega) (⟨⟨false,bn.keys.take q,[],bn.kids⟩,some ⟨b6,o6,none⟩,x1,B2,x2,some ⟨b3,o3,none⟩,x3⟩:Nr) (by
      rw [BY (by omega),HRB.out];unfold kY Nr.vk Nr.vc Nr.vd;simp only [hkt,hbleaf.1,hbleaf.2];rfl)
     have hset2:=hset1.Ba (i:=j) (t:=3) (u:=.slice (some ⟨b3,o3,none⟩) n x3) cf (by rw [Cl];exact hjr2) (by omega) (⟨cR (bG.take n),some ⟨b6,o6,none⟩,x1,B2,x2,some ⟨b3,o3,none⟩,x3⟩:Nr) (by
      rw [List.getElem_set_self];unfold kY Nr.vk Nr.vc Nr.vd;simp only [hnt,hkt,hdt];rfl)
     rw [List.set_set] at hset2
     have hc4:Ch (fun k=>k=ga) wc ((wc.setCell ⟨ga,j * 4+1,none⟩ (.slice (some ⟨b6,o6,none⟩) q x1)).setCell ⟨ga,j * 4+3,none⟩ (.slice (some ⟨b3,o3,none⟩) n x3)).drew:=
      (((Ch.refl (fun k=>k=ga) wc).setCell (p:=⟨ga,j * 4+1,none⟩) rfl _).setCell (p:=⟨ga,j * 4+3,none⟩) rfl _).drew
     have hc3:Ch (fun k=>k=ga) wr wc:=HC2.out.trans (Ch.zK HBC3.out);have hcA:=hc3.trans hc4;have hgaw:=(HI.out.o.lt ga rfl).1;have hyk:iH (bG.drop n ++ [y])=xk:=by have h1:=HXK.out;simp only [HBN.out,cR,List.getElem_tail,Cj] at h1;rw [BS (by omega)];unfold iH;simp only [List.cons_append,Cg,List.headD_cons];rw [<- h1];congr 2;omega
     have hbk:iH (bG.take n)=iH bG:=by
      cases hb9:bG with
      | nil=>rw [hb9] at hbl;simp at hbl
      | cons a l=> obtain ⟨n',hn'⟩:∃ n',n=n'+1:=⟨n - 1,by omega⟩;rw [hn',List.take_succ_cons];rfl
     refine ⟨⟨(rs.set kk ⟨cR (bG.drop n ++ [y]),some ⟨b5,o5+kk,none⟩,chv - kk,none,0,some ⟨wr.heap.size,0,none⟩,2⟩).set j ⟨cR (bG.take n),some ⟨b6,o6,none⟩,x1,B2,x2,some ⟨b3,o3,none⟩,x3⟩,_,_,rfl,(hset2.below ((Below.refl _ _).drew)).sl cf,fun k hk=>?_,fun r hr=>?_,?_,?_,fun k hk=>?_,⟨_,_,_,rfl,HOC.out.capN⟩⟩,?_⟩
     ·have:=(HI.out.o.lt k hk).1;omega
     ·rcases Cc hr with hr | rfl
      ·rcases Cc hr with hr | rfl
       ·have hd:=HI.out.dis r hr;exact (HI.out.rows r hr).keep hcA (fun e=>hd.k _ e rfl) (fun e=>hd.c _ e rfl) (fun e=>hd.d _ e rfl)
       ·refine ⟨⟨?_,Sl.nil,?_⟩,fun k hk=>?_,fun k hk=>(by cases hk),fun k hk=>?_⟩
        ·have h:=(de HI.out.h hcA fun k hk e=>HI.out.hd k hk (by rw [e];rfl)).drop1 kk 1 (chv - kk) (by rw [List.length_drop];have:=HLH.out;have:=HLHK.out;omega);rw [BK (l₂:=[[y]]),List.drop_left' (by rw [BI];exact HKK.out)] at h;unfold Nr.vk;rw [HNE.out];exact h
        ·have h:=de (HD2.out.keep HBC3.out) hc4 (fun k hk e=>by
          injection hk with hk
          simp only at hk;omega)
         unfold Nr.vd;rw [HNE.out];exact h
        ·exact HI.out.hf k hk
        ·injection hk with hk
         simp only at hk;have:=HI.out.below.size;omega
      ·have hk1:=(de HBI.out.s.k hcA fun k hk e=>HBD.out.k k hk (by rw [e];rfl));have hk3:=(de HBI.out.s.d hcA fun k hk e=>HBD.out.d k hk (by rw [e];rfl));refine ⟨⟨?_,?_,?_⟩,Fr.same (show Fr b (.slice (some ⟨b6,o6,none⟩) bn.keys.length x1) from HBI.out.k),Fr.same (show Fr b (.slice B2 bn.cells.length x2) from HBI.out.c),Fr.same (show Fr b (.slice (some ⟨b3,o3,none⟩) bn.kids.length x3) from HBI.out.d)⟩
       ·have h:=hk1.take q (show q<=bn.keys.length by have:=HM.out.2;omega);unfold Nr.vk;rw [hnt];simp only [hkt];exact h
       ·have h:=(de HBI.out.s.c hcA fun k hk e=>HBD.out.c k hk (by rw [e];rfl));unfold Nr.vc;rw [hnt];unfold Nr.vc at h;simp only [hbleaf.2] at h;exact h
       ·have h:=hk3.take n (show n<=bn.kids.length by have:=HM.out.1;omega);unfold Nr.vd;rw [hnt];simp only [hdt];exact h
     ·rw [hgf];have e:=HI.out.ns;rw [BK (l₂:=[[y]]),BK (l₂:=[bG])] at e;rw [List.map_set,List.map_set,e,BK];exact xy (dG.map cR) (cR bG) (cR [y]) _ _ (by rw [BI];exact hdl) hjk
     ·rw [hgf];have h:=de (HOC.out.sl aG) hc4 (fun k hk e=>by have:=(HOC.out.lt k hk).1;have:=HSZ2.out;omega);rw [BK,List.append_assoc] at h;rw [BK];show Sl sC 1 _ _ (dG.map iH ++ [iH (bG.take n),iH (bG.drop n ++ [y])]);rw [hyk,hbk];exact h
     ·have:=(HOC.out.lt k hk).1;have:=HSZ2.out;have:=HI.out.below.size;omega
     ·exact HI.out.below.trans (hcA.below HI.out.below.size fun k hk=>hk ▸ hgaw)
    ·have hke1:((rn.keys.length:Int) == 0)=false:=by simpa using hke
     have HGF:=Z (HGR.out.trans (tL (.inr (by have:=HKL.out;omega))));go_wp2_with fail;go_ret2;exact ⟨⟨rs,_,_,rfl,HI.out.o.sl cf,fun k hk=>Cd hb0 (HI.out.o.lt k hk).1,HI.out.rows,by rw [HGF.out];exact HI.out.ns,by rw [HGF.out];exact HI.out.h,HI.out.hf,HI.out.hc⟩,HI.out.below⟩
def dH (p:Pr):Bool:=decide (5000<p.2.length)
def zw (p:Pr):Obj:=.cells #[.string (ap p.1),.string (ap p.2)] 62 (0,0)
theorem uy (p:Pr) (w:Cf) (hl:p.2.length<=1000000):Cm BV 95 #[.agg #[.string (ap p.1),.string (ap p.2)]] w fun e w'=>e=.returned (.bool (dH p))/\Below w.heap.size w w':=by
 have HA:=Z ((Below.refl _ w).alloc (BQ _) (zw p));have hsz:=au p.2;go_enter Tryz.func95,Tryz.ntmps95;by_cases h:5000<p.2.length
 ·have h1:(5000:Int)<(p.2.length:Int):=by omega
  go_wp2_with fail;go_ret;exact ⟨by simp [dH,h],HA.out⟩
 ·have h1:¬ (5000:Int)<(p.2.length:Int):=by omega
  go_wp2_with fail;go_ret;exact ⟨by simp [dH,h],HA.out⟩
theorem sw (v:Value) (xs:List Pr) (w:Cf) (h:Sl iX 2 w v xs) (hl:xs.length<=1000000) (hd:∀ p ∈ xs,p.2.length<=1000000):
  Cm BV 135 #[v,.func (Fn.func 95) #[] #[]] w fun e w'=>e=.returned (.int .i64 (dL dH xs))/\Below w.heap.size w w':=by
 obtain ⟨A,c,rfl⟩:=Sl.zM h;have H:=Z h;have HD:=Z hd;clear h hd;go_enter Tryz.func135,Tryz.ntmps135;go_wp2_with fail;go_loopw [8] (fun i wr=>∃ k:Nat,k<=xs.length/\i=.int .i64 k/\(∀ j (h:j<xs.length),j<k->dH xs[j]=false)/\Below w.heap.size w wr) (fun i _=>xs.length - (intOf i).toNat)
 case atStart=>exact ⟨0,Nat.zero_le _,rfl,fun _ _ h=>absurd h (Nat.not_lt_zero _),Below.refl _ _⟩
 case round=>
  obtain ⟨k,hk,rfl,hno,hb⟩:=hrel;have HN:=Z hno;have HB:=Z hb;clear hno hb;by_cases hlt:k<xs.length
  ·obtain ⟨b,off,rfl,hbl,e0,e1⟩:=(H.out.keep HB.out).zW hlt;have hk0:(0:Int)<=(k:Int):=by omega
   have hk1:(k:Int)<(xs.length:Int):=by omega
   have HI:=Z (show dH xs[k]=true->dL dH xs=k from fun h=>jL hlt h HN.out);have HU:=Z (show dH xs[k]=false->∀ j (h:j<xs.length),j<k+1->dH xs[j]=false from fun h=>sf HN.out hlt h);have hdl:=HD.out _ (BJ hlt);generalize xs[k]=x at *;go_wp2_with fail;refine (uy x wr hdl).mono ?_;rintro e w' ⟨rfl,hb⟩;have HB2:=Z (HB.out.trans (hb.mono HB.out.size));clear hb;cases hx:dH x
   ·have HX:=Z (HU.out hx);go_wp2_with fail;go_roundw
    case rel=>exact ⟨k+1,by omega,by go_num,HX.out,HB2.out⟩
    case measure=>simp [intOf];omega
   ·have HX:=Z (HI.out hx);go_wp2_with fail;go_ret;exact ⟨oj HX.out.symm,HB2.out⟩
  ·have HX:=Z (iA (p:=dH) hlt HN.out);go_wp2_with fail;go_ret;exact ⟨oj HX.out.symm,HB.out⟩
theorem nS (v:Value) (xs:List Pr) (w:Cf) (h:Sl iX 2 w v xs) (hl:xs.length<=1000000) (hd:∀ p ∈ xs,p.2.length<=1000000):
  Cm BV 94 #[v,.func (Fn.func 95) #[] #[]] w fun e w'=>e=.returned (.bool (xs.any dH))/\Below w.heap.size w w':=by
 go_enter Tryz.func94,Tryz.ntmps94;go_wp2_with fail;refine (sw v xs w h hl hd).mono ?_;rintro e w' ⟨rfl,hb⟩;have HB:=Z hb;clear hb;have HF:=Z (jK dH xs);generalize dL dH xs=m at *;go_wp2_with fail;go_ret;exact ⟨qt HF.out,HB.out⟩
end Go.Proofs.YtknioodagnjchaaGreatDoor
namespace Go.Proofs.YtknioodagnjchaaGreatDoor
open List renaming drop_eq_getElem_cons->Bt,drop_eq_nil_of_le->Bv
def KidR (T:TP) (ks:List By) (hi:Option By) (ds:List Int) (i:Nat) (lo:By) (ps:List Pr) (gs:List Int):Prop:=
 (i<ds.length/\cO T lo (ks.drop i) hi (ds.drop i) ps gs)\/(i=ds.length/\ps=[]/\gs=[])
theorem KidR.start {T:TP} {lo:By} {ks:List By} {hi:Option By} {ds:List Int} {ps:List Pr} {gs:List Int} (h:cO T lo ks hi ds ps gs):KidR T ks hi ds 0 lo ps gs:=
 .inl ⟨by rw [eQ h];omega,by simpa using h⟩
theorem KidR.step {T:TP} {lo:By} {ks:List By} {hi:Option By} {ds:List Int} {i:Nat} {ps:List Pr} {gs:List Int} (h:KidR T ks hi ds i lo ps gs) (hl:ds.length=ks.length+1) (hi':i<ds.length):
  ∃ p1 p2 g1 g2 hi1 lo1,ps=p1 ++ p2/\gs=g1 ++ g2/\T ds[i] lo hi1 p1 g1/\KidR T ks hi ds (i+1) lo1 p2 g2/\((∃ h:i<ks.length,hi1=some ks[i]/\lo1=ks[i])\/(i=ks.length/\hi1=hi)):=by
 rcases h with ⟨_,h⟩ | ⟨h,_⟩
 ·rw [Bt hi'] at h;by_cases hk:i<ks.length
  ·rw [Bt hk] at h;obtain ⟨p1,p2,g1,g2,rfl,rfl,h1,h2⟩:=h;exact ⟨p1,p2,g1,g2,_,_,rfl,rfl,h1,.inl ⟨by omega,h2⟩,.inl ⟨hk,rfl,rfl⟩⟩
  ·rw [Bv (by omega)] at h;rw [Bv (show ds.length<=i+1 by omega)] at h;exact ⟨ps,[],gs,[],_,[],by simp,by simp,h,.inr ⟨by omega,rfl,rfl⟩,.inr ⟨by omega,rfl⟩⟩
 ·omega
theorem KidR.done {T:TP} {lo:By} {ks:List By} {hi:Option By} {ds:List Int} {i:Nat} {ps:List Pr} {gs:List Int} (h:KidR T ks hi ds i lo ps gs) (hi':ds.length<=i):ps=[]/\gs=[]:=by
 rcases h with ⟨h,_⟩ | ⟨_,h⟩
 ·omega
 ·exact h
theorem uW {B:Int->By} {ks:List By} {cs:List Ce} {i:Nat} {ps:List Pr} {gs:List Int} (h:cY B (ks.drop i) (cs.drop i) ps gs) (hl:cs.length=ks.length) (hi:i<ks.length):
  ∃ v g1 p2 g2,ps=(ks[i],v) :: p2/\gs=g1 ++ g2/\Cel B (cs[i]'(hl ▸ hi)) v g1/\cY B (ks.drop (i+1)) (cs.drop (i+1)) p2 g2:=by
 rw [Bt hi,Bt (show i<cs.length by omega)] at h;exact h
theorem uX {B:Int->By} {ks:List By} {cs:List Ce} {i:Nat} {ps:List Pr} {gs:List Int} (h:cY B (ks.drop i) (cs.drop i) ps gs) (hl:cs.length=ks.length) (hi:ks.length<=i):ps=[]/\gs=[]:=by rw [Bv hi,Bv (show cs.length<=i by omega)] at h;exact h
theorem uv {B:Int->By} {d:Nat} {n:Nd} {lo:By} {hi:Option By} {ps:List Pr} {gs:List Int} (h:aU B d n lo hi ps gs):∀ k ∈ n.keys,wD lo hi k:=by
 cases d with
 | zero=>exact h.2.2.2.1
 | succ d=> obtain ⟨_,_,_,h4⟩:=node_succ.1 h;intro k hk;have:=(fp (gp B d) h4).2.2.2.2.1 k hk;exact ⟨aL this.1,this.2⟩
theorem zi {lo hi1:By} {B:Int->By} {d:Nat} {p:Int} {ps:List Pr} {gs:List Int} (h:iD B d p lo (some hi1) ps gs):hi1≠[]:=by
 intro e;subst e;have hT:=gp B d;cases ps with
 | nil=>exact hT.ne h rfl
 | cons x xs=> have:=(hT.inb h x List.mem_cons_self).2 [] rfl;rw [kq] at this;cases this
end Go.Proofs.YtknioodagnjchaaGreatDoor
