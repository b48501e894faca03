/- disk.On: plain. disk.On: a file's fate, all that waited lost. disk.On: fated walked. -/
import Derived.Test.YtdmhbgpejppbkaaGreatZGbi
import Derived.Test.YtdmhbgpejppbkaaGreatZGap
import Derived.Test.YtdmhbgpejppbkaaGreatZGao
import Derived.Test.YtdmhbgpejppbkaaGreatZShelf
set_option maxRecDepth 100000
set_option maxHeartbeats 4000000
namespace Go.Proofs.YtdmhbgpejppbkaaGreat
open Go.RowKit Go.Maps
def ap (l:List (Option By)):List (Option By):=(l.reverse.dropWhile Option.isNone).reverse
theorem lP (l:List (Option By)):ap (l ++ [none])=ap l:=by simp [ap]
theorem lO (l:List (Option By)) (x:By):ap (l ++ [some x])=l ++ [some x]:=by simp [ap]
theorem fO (l:List (Option By)):(ap l).length≤l.length:=by unfold ap;rw [List.length_reverse];have:=(List.dropWhile_sublist (p:=Option.isNone) (l:=l.reverse)).length_le;rw [List.length_reverse] at this;exact this
theorem jd {l:List (Option By)} {x:Option By} (h:x ∈ ap l):x ∈ l:=by unfold ap at h;rw [List.mem_reverse] at h;exact List.mem_reverse.1 ((List.dropWhile_sublist _).mem h)
def gG (o:Option By):Option By:=some (o.getD zeroS)
def Fi.fate (f:Fi):Fi:=⟨(ap f.safe).map (·.getD zeroS),(ap f.safe).map gG,List.replicate (ap f.safe).length false,f.sure⟩
theorem kr {f:Fi} (h:f.Ok):f.fate.Ok:=by
 have h2:=h.ssec;have h1:=h.ls;have h3:=h.n;have h4:=fO f.safe;refine ⟨by simp [Fi.fate],by simp [Fi.fate],fun s hs=>?_,by simp [Fi.fate];omega,fun s hs=>?_⟩
 ·obtain ⟨o,ho,rfl⟩:=List.mem_map.1 hs;cases o with
  | none=>exact List.length_replicate
  | some s=>exact h2 s (jd ho)
 ·obtain ⟨o,ho,e⟩:=List.mem_map.1 hs;cases o with
  | none=>injection e with e;exact e ▸ List.length_replicate
  | some t=>injection e with e;exact e ▸ h2 t (jd ho)
def Dk.on1 (d:Dk) (n:By):Dk:=match d.file n with
 | none=>d
 | some f=>if f.fate.now=[]∧f.sure=false then d.del n else d.setF n fun f=>{ f.fate with sure:=true }
def Dk.ons (d:Dk) (l:List By):Dk:=l.foldl Dk.on1 d
def Dk.onL (d:Dk) (l:List By):Dk:=if d.down then ({ d with down:=false }:Dk).ons l else d
end Go.Proofs.YtdmhbgpejppbkaaGreat
namespace Go.Proofs.YtdmhbgpejppbkaaGreat
open Go.RowKit Go.Maps
theorem gD (w:World):Calls Tryz.prog 82 #[.string ⟨#[0]⟩,.int .i64 256] w fun e w'=>e=.returned (.string (ak zeroS))∧Below w.heap.size w w':=by have h:=Tryz.strings_Repeat ⟨#[0]⟩ 256 w (by omega) (by decide);rw [show (⟨#[0]⟩:ByteArray).data.toList=[0] from rfl,dO] at h;exact h
theorem pW (gf gu:Nat) (w:World) (hf:w.cell? ⟨gf,0,none⟩=some (.slice none 0 0)):
  Calls Tryz.prog 59 #[.pointer (some ⟨gf,0,none⟩),.pointer (some ⟨gu,0,none⟩)] w fun e w'=>e=.returned (.int .i64 0)∧w=w':=by
 go_enter Tryz.func59,Tryz.ntmps59;go_wp2_with fail;go_ret;exact ⟨rfl,rfl⟩
def lS:Option Value→Nat
 | some (.slice _ n _)=>n
 | _=>0
def zE (N:Nat) (E:Nat→By) (k:Nat):By:=if N≤k then zeroS else E k
theorem lK {N:Nat} {E:Nat→By} {k:Nat} (h:k<N):zE N E k=E k:=by unfold zE;rw [if_neg (by omega)]
theorem ph {N:Nat} {E:Nat→By} {k:Nat} (h:N≤k):zE N E k=zeroS:=by unfold zE;rw [if_pos h]
structure FateJ (w:World) (E:Nat→By) (g:Nat) (m:FilM) (A:Option Addr) (c:Nat) (ws:List Bool) (sure:Bool) (t:List (Option By)) (i:Nat) (wr:World):Prop where
 ex:∃ qs:List (Option Nat),FilR wr g m.vn (.slice A t.length c) m.vw (m.ps.map some) qs ws sure∧qs.map (Option.map (zE w.heap.size E))=(t.take i).map gG ++ t.drop i∧
  (∀ p,some p ∈ qs→w.heap.size≤p→wr.heap[p]?=some (dF zeroS))∧(∀ p,some p ∈ qs→p<w.heap.size→some p ∈ m.qs)
 ch:Ch (m.own g) w wr
 va:∀ n c k,(Value.slice A n c).ownBlock=some k→m.vs.ownBlock=some k∧k<w.heap.size
theorem FilR.putS {w:World} {g b n c i:Nat} {vn vw:Value} {xs qs:List (Option Nat)} {ws:List Bool} {sure:Bool} (h:FilR w g vn (.slice (some ⟨b,0,none⟩) n c) vw xs qs ws sure) (hi:i<qs.length) (s:By)
  {w7:World} (hw:w7=((w.setCell ⟨b,i,none⟩ (.pointer (some ⟨w.heap.size,0,none⟩))).alloc (dF s))):
  FilR w7 g vn (.slice (some ⟨b,0,none⟩) n c) vw xs (qs.set i (some w.heap.size)) ws sure∧w7.heap[w.heap.size]?=some (dF s)∧Ch (fun k=>k=b) w w7:=by
 subst hw;have hg:g≠b:=fun e=>h.g2 (by rw [e];rfl)
 have hc0:Ch (fun k=>k=b) w (w.setCell ⟨b,i,none⟩ (.pointer (some ⟨w.heap.size,0,none⟩))):=(Ch.refl (fun k=>k=b) _).setCell (p:=⟨b,i,none⟩) rfl _;have hsz:(w.setCell ⟨b,i,none⟩ (.pointer (some ⟨w.heap.size,0,none⟩))).heap.size=w.heap.size:=by simp
 have hcA:Ch (fun _=>False) (w.setCell ⟨b,i,none⟩ (.pointer (some ⟨w.heap.size,0,none⟩))) ((w.setCell ⟨b,i,none⟩ (.pointer (some ⟨w.heap.size,0,none⟩))).alloc (dF s)):=(Ch.refl _ _).alloc _;refine ⟨⟨hcA.keep (hc0.keep h.blk hg) id,?_,?_,?_,h.g1,h.g2,h.g3,h.d12,h.d13,h.d23⟩,ah hsz.symm,hc0.alloc _⟩
 ·exact (h.on.ch hc0 fun k hk e=>h.d12 k hk (by rw [e];rfl)).ch hcA fun _ _ h=>h
 ·exact (iq h.os cp hi (some w.heap.size) rfl).ch hcA fun _ _ h=>h
 ·exact (h.ow.ch hc0 fun k hk e=>h.d23 b rfl (by rw [← e];exact hk)).ch hcA fun _ _ h=>h
section
variable {w wr:World} {E:Nat→By} {g:Nat} {m:FilM} {A:Option Addr} {c:Nat} {ws:List Bool} {sure:Bool} {t:List (Option By)} {i:Nat}
theorem qu {t:List (Option By)} {i:Nat} (hi:i<t.length) {x:By} (h:t[i]=some x):(t.take (i+1)).map gG ++ t.drop (i+1)=(t.take i).map gG ++ t.drop i:=by rw [List.take_succ_eq_append_getElem hi,List.map_append,List.append_assoc,List.drop_eq_getElem_cons hi,h];rfl
theorem oD {t:List (Option By)} {i:Nat} (hi:i<t.length) (h:t[i]=none):((t.take i).map gG ++ t.drop i).set i (some zeroS)=(t.take (i+1)).map gG ++ t.drop (i+1):=by
 have hl:((t.take i).map gG).length=i:=by rw [List.length_map,List.length_take];omega
 rw [List.set_append_right _ _ (by omega),hl,Nat.sub_self,List.drop_eq_getElem_cons hi,List.set_cons_zero,List.take_succ_eq_append_getElem hi,List.map_append,List.append_assoc,h];rfl
theorem FateJ.at_ (h:FateJ w E g m A c ws sure t i wr) (hi:i<t.length):∃ b q,A=some ⟨b,0,none⟩∧b<wr.heap.size∧wr.cell? ⟨b,i,none⟩=some (iS q)∧wr.frozen? ⟨b,i,none⟩=false∧(q=none↔t[i]=none)∧
  (q≠none→FateJ w E g m A c ws sure t (i+1) wr)∧
  (q=none→∀ w5 w7,Below wr.heap.size wr w5→w7=((w5.setCell ⟨b,i,none⟩ (.pointer (some ⟨w5.heap.size,0,none⟩))).alloc (dF zeroS))→FateJ w E g m A c ws sure t (i+1) w7):=by
 obtain ⟨⟨qs,h1,h2,h3,h4⟩,hc,hva⟩:=h;have hlen:qs.length=t.length:=by have:=congrArg List.length h2;rw [List.length_map,List.length_append,List.length_map,List.length_take,List.length_drop] at this;omega
 have hil:i<qs.length:=by omega
 obtain ⟨b,c',hv,hb,hcell,hfz⟩:=eN h1.os cp hil;injection hv with e1 e2 e3
 subst e1 e3;have hq:Option.map (zE w.heap.size E) qs[i]=t[i]:=by have e:=congrArg (fun l=>l[i]?) h2;simp only [List.getElem?_map,List.getElem?_eq_getElem hil,Option.map_some] at e;rw [List.getElem?_append_right (by rw [List.length_map,List.length_take];omega),List.length_map,List.length_take,Nat.min_eq_left (by omega),Nat.sub_self,List.getElem?_drop,Nat.add_zero,List.getElem?_eq_getElem hi] at e;injection e
 refine ⟨b,qs[i],rfl,hb,hcell _ rfl,hfz,?_,fun hne=>?_,fun hno w5 w7 hb5 hw=>?_⟩
 ·rw [← hq];cases qs[i] <;> simp
 ·obtain ⟨p,hp⟩:=Option.ne_none_iff_exists'.1 hne;rw [hp] at hq;exact ⟨⟨qs,h1,by rw [h2,qu hi hq.symm],h3,h4⟩,hc,hva⟩
 ·have hF5:=h1.ch (S:=fun _=>False) (Ch.of_below hb5) fun _ _ h=>h
  obtain ⟨k1,k2,k3⟩:=hF5.putS hil zeroS hw;have hs5:=hb5.size;have hsw:=hc.size;have ht:t[i]=none:=by rw [← hq,hno];rfl
  have hbv:=hva 0 0 b rfl;have hown:m.own g b:=.inr (.inr (.inl hbv.1));refine ⟨⟨qs.set i (some w5.heap.size),by rw [← hlen];rw [← hlen] at k1;exact k1,?_,fun p hp hpw=>?_,fun p hp hpw=>?_⟩,?_,?_⟩
  ·rw [List.map_set,h2,Option.map_some,ph (by omega),oD hi ht]
  ·rcases List.mem_or_eq_of_mem_set hp with hp | hp
   ·exact k3.keep ((Ch.of_below (S:=fun _=>False) hb5).keep (h3 p hp hpw) id) fun e=>by omega
   ·injection hp with hp
    rw [hp];exact k2
  ·rcases List.mem_or_eq_of_mem_set hp with hp | hp
   ·exact h4 p hp hpw
   ·injection hp with hp;omega
  ·exact (hc.trans (Ch.of_below hb5)).then k3 fun k e=>.inl (e ▸ hown)
  ·exact hva
end
section
variable {w:World} {C:Nat→Prop} {E:Nat→By} {g:Nat} {m:FilM} {f:Fi}
structure FateI (w:World) (E:Nat→By) (g:Nat) (m:FilM) (A:Option Addr) (c:Nat) (f:Fi) (k:Nat) (wr:World):Prop where
 le:k≤m.qs.length
 rw_:FilR wr g m.vn (.slice A k c) m.vw (m.ps.map some) (m.qs.take k) f.waits f.sure
 tr:ap ((m.qs.take k).map (Option.map E))=ap f.safe
 ch:Ch (m.own g) w wr
theorem FateI.start (h:FilIs w C E g m f) {A:Option Addr} {c:Nat} (hv:m.vs=.slice A m.qs.length c) {wr:World} (hb:Below w.heap.size w wr):FateI w E g m A c f m.qs.length wr:=by refine ⟨Nat.le_refl _,?_,by rw [List.take_length,h.safe],Ch.of_below hb⟩;rw [List.take_length,← hv];exact h.raw.ch (S:=fun _=>False) (Ch.of_below hb) fun _ _ h=>h
theorem FateI.at_ {A:Option Addr} {c k:Nat} {wr:World} (hva:∀ n c,(Value.slice A n c).ownBlock=m.vs.ownBlock) (h:FateI w E g m A c f (k+1) wr):∃ b q,A=some ⟨b,0,none⟩∧b<wr.heap.size∧wr.cell? ⟨b,k,none⟩=some (iS q)∧m.qs[k]?=some q∧
  (q=none→∀ w7,w7=(wr.setCell ⟨g,1,none⟩ (.slice A k c)).drew→FateI w E g m A c f k w7):=by
 obtain ⟨hle,hr,ht,hc⟩:=h;have hl:(m.qs.take (k+1)).length=k+1:=by rw [List.length_take];omega
 obtain ⟨b,c',hv,hb,hcell,hfz⟩:=eN hr.os cp (i:=k) (by omega);injection hv with e1 e2 e3
 subst e1 e3;have hq:(m.qs.take (k+1))[k]=m.qs[k]:=List.getElem_take;refine ⟨b,m.qs[k],rfl,hb,hcell _ (by rw [hq];rfl),List.getElem?_eq_getElem (by omega),fun hno w7 hw=>?_⟩;have hcg:Ch (fun j=>j=g) wr w7:=by rw [hw];exact ((Ch.refl (fun j=>j=g) wr).setCell (p:=⟨g,1,none⟩) rfl _).drew
 refine ⟨by omega,⟨?_,hr.on.ch hcg fun j hj e=>hr.g1 (e ▸ hj),?_,hr.ow.ch hcg fun j hj e=>hr.g3 (e ▸ hj),hr.g1,fun e=>hr.g2 ((pw _ _ _ _ _).trans e),hr.g3,fun j h1 h2=>hr.d12 j h1 ((pw _ _ _ _ _).trans h2),hr.d13,fun j h1 h2=>hr.d23 j ((pw _ _ _ _ _).trans h1) h2⟩,?_,hc.then hcg fun j e=>.inl (.inl e)⟩
 ·rw [hw];exact ae hr.blk 1 (.slice (some ⟨b,0,none⟩) k c)
 ·have:=(hr.os.ch hcg fun j hj e=>hr.g2 (e ▸ hj)).take' cp (i:=k) (by omega);rw [List.take_take,Nat.min_eq_left (by omega)] at this;exact this
 ·rw [← ht,List.take_succ_eq_append_getElem (by omega),List.map_append,hno];exact (lP _).symm
theorem FateI.below {A:Option Addr} {c k:Nat} {wr w2:World} (h:FateI w E g m A c f k wr) (hb:Below wr.heap.size wr w2):FateI w E g m A c f k w2:=
 ⟨h.le,h.rw_.ch (S:=fun _=>False) (Ch.of_below hb) (fun _ _ h=>h),h.tr,h.ch.trans (Ch.of_below hb)⟩
theorem FateI.done {A:Option Addr} {c k:Nat} {wr:World} (h:FateI w E g m A c f k wr) (hk:k=0∨∃ j p,k=j+1∧m.qs[j]?=some (some p)):(m.qs.take k).map (Option.map E)=ap f.safe:=by
 rw [← h.tr];rcases hk with rfl | ⟨j,p,rfl,hp⟩
 ·rfl
 ·have hj:j<m.qs.length:=by have:=h.le;omega
  rw [List.getElem?_eq_getElem hj] at hp;injection hp with hp
  rw [List.take_succ_eq_append_getElem hj,List.map_append,hp];exact (lO _ _).symm
theorem FateI.third {A:Option Addr} {c k:Nat} {wr:World} (h:FateI w E g m A c f k wr) (hi:FilIs w C E g m f) (hC:∀ k,C k→k<w.heap.size) (hv:m.vs=.slice A m.qs.length c) (hk:(m.qs.take k).map (Option.map E)=ap f.safe):k=(ap f.safe).length∧FateJ w E g m A c f.waits f.sure (ap f.safe) 0 wr:=by
 have hl:k=(ap f.safe).length:=by have:=congrArg List.length hk;rw [List.length_map,List.length_take] at this;have:=h.le;omega
 have hold:∀ p,some p ∈ m.qs.take k→p<w.heap.size:=fun p hp=>hC p (hi.qc p (List.mem_of_mem_take hp))
 refine ⟨hl,⟨m.qs.take k,by rw [← hl];exact h.rw_,?_,fun p hp hw=>absurd (hold p hp) (by omega),fun p hp _=>List.mem_of_mem_take hp⟩,h.ch,fun n c k hk=>?_⟩
 ·rw [List.take_zero,List.map_nil,List.nil_append,List.drop_zero,← hk];refine List.map_congr_left fun q hq=>?_
  cases q with
  | none=>rfl
  | some p=>exact congrArg some (lK (hold p hq))
 ·have e:m.vs.ownBlock=some k:=by rw [hv];exact (pw _ _ _ _ _).trans hk
  exact ⟨e,(hi.os.lt k e).2⟩
theorem FateJ.fin {A:Option Addr} {c:Nat} {wr:World} (h:FateJ w E g m A c f.waits f.sure (ap f.safe) (ap f.safe).length wr):∃ ps:List Nat,FilR wr g m.vn (.slice A (ap f.safe).length c) m.vw (m.ps.map some) (ps.map some) f.waits f.sure∧ps.map (zE w.heap.size E)=(ap f.safe).map (·.getD zeroS)∧
  (∀ p ∈ ps,w.heap.size≤p→wr.heap[p]?=some (dF zeroS))∧(∀ p ∈ ps,p<w.heap.size→some p ∈ m.qs):=by
 obtain ⟨⟨qs,h1,h2,h3,h4⟩,hc,hva⟩:=h;rw [List.take_length,List.drop_length,List.append_nil] at h2;obtain ⟨ps,rfl⟩:∃ ps:List Nat,qs=ps.map some:=by
  have hall:∀ q ∈ qs,q≠none:=fun q hq e=>by
   subst e;have:(none:Option By) ∈ qs.map (Option.map (zE w.heap.size E)):=List.mem_map.2 ⟨none,hq,rfl⟩;rw [h2] at this;obtain ⟨o,-,ho⟩:=List.mem_map.1 this;cases ho
  clear h1 h2 h3 h4
  induction qs with
  | nil=>exact ⟨[],rfl⟩
  | cons q qs ih=>
    obtain ⟨ps,rfl⟩:=ih fun q hq=>hall q (List.mem_cons_of_mem _ hq)
    cases q with
    | none=>exact absurd rfl (hall none (by simp))
    | some p=>exact ⟨p :: ps,rfl⟩
 refine ⟨ps,h1,?_,fun p hp=>h3 p (List.mem_map.2 ⟨p,hp,rfl⟩),fun p hp=>h4 p (List.mem_map.2 ⟨p,hp,rfl⟩)⟩;have e:(ps.map (zE w.heap.size E)).map some=((ap f.safe).map (·.getD zeroS)).map some:=by rw [List.map_map,List.map_map];rw [List.map_map] at h2;exact h2
 exact (List.map_inj_right (fun a b e=>by injection e)).1 e
theorem FateJ.last {A A5:Option Addr} {c c5:Nat} {wr w5 w7:World} {ps:List Nat} {vw:Value} (hi:FilIs w C E g m f) (hC:∀ k,C k→k<w.heap.size) (hd:∀ k,m.own g k→¬ C k)
  (hJ:FateJ w E g m A c f.waits f.sure (ap f.safe) (ap f.safe).length wr) (hR:FilR wr g m.vn (.slice A (ap f.safe).length c) m.vw (m.ps.map some) (ps.map some) f.waits f.sure) (hps:ps.map (zE w.heap.size E)=(ap f.safe).map (·.getD zeroS))
  (hnew:∀ p ∈ ps,w.heap.size≤p→wr.heap[p]?=some (dF zeroS)) (hold:∀ p ∈ ps,p<w.heap.size→some p ∈ m.qs) (ho:Own pC 1 98 wr.heap.size w5 (.slice A5 (ap f.safe).length c5) (ps.map some)) (hb:Below wr.heap.size wr w5)
  (hc:Ch (fun k=>k=g) w5 w7) (hG:w7.heap[g]?=some (.cells #[.slice A5 (ap f.safe).length c5,.slice A (ap f.safe).length c,vw,.bool f.sure] 87 (0,0))) (hs:w7.heap.size=w5.heap.size) (hv:vw=.slice (some ⟨w5.heap.size,0,none⟩) (ap f.safe).length (ap f.safe).length) (hml:(ap f.safe).length≤maxLen):
  ∃ (C':Nat→Prop) (m':FilM),FilIs (w7.alloc (.cells ((List.replicate (ap f.safe).length false).flatMap bC).toArray 4)) C' (zE w.heap.size E) g m' f.fate∧(∀ k,C k→C' k)∧(∀ k,C' k→C k∨w.heap.size≤k)∧
    (∀ k,C' k→¬ C k→(w7.alloc (.cells ((List.replicate (ap f.safe).length false).flatMap bC).toArray 4)).heap[k]?=some (dF (zE w.heap.size E k)))∧(∀ k,m'.own g k→m.own g k∨w.heap.size≤k)∧(∀ k,m'.own g k→¬ C' k)∧Ch (m.own g) w (w7.alloc (.cells ((List.replicate (ap f.safe).length false).flatMap bC).toArray 4)):=by
 have hbA:Below w7.heap.size w7 (w7.alloc (.cells ((List.replicate (ap f.safe).length false).flatMap bC).toArray 4)):=(Below.refl _ _).alloc (Nat.le_refl _) _;have hsw:=hJ.ch.size;have hs5:=hb.size;have hgw:g<w.heap.size:=af hi.blk;have hall:Ch (fun k=>k=g) wr (w7.alloc (.cells ((List.replicate (ap f.safe).length false).flatMap bC).toArray 4)):=((Ch.of_below hb).trans hc).trans (Ch.of_below hbA);have hps5:∀ p ∈ ps,w.heap.size≤p→p<wr.heap.size:=fun p hp hw=>af (hnew p hp hw)
 have hv5:∀ k,(Value.slice A5 (ap f.safe).length c5).ownBlock=some k→wr.heap.size≤k∧k<w5.heap.size:=fun k hk=>ho.lt k hk
 have hvk:∀ k,vw.ownBlock=some k→k=w5.heap.size:=fun k hk=>by rw [hv] at hk;injection hk with hk;exact hk.symm
 have hAk:∀ k,(Value.slice A (ap f.safe).length c).ownBlock=some k→m.vs.ownBlock=some k∧k<w.heap.size:=fun k hk=>hJ.va _ _ k hk
 have hW:Own bC 1 4 0 (w7.alloc (.cells ((List.replicate (ap f.safe).length false).flatMap bC).toArray 4)) vw (List.replicate (ap f.safe).length false):=by
  have hl:((List.replicate (ap f.safe).length false).flatMap bC).length=(ap f.safe).length:=by rw [di bC 1 eV,List.length_replicate,Nat.mul_one]
  have h1:=World.ownsRow_lit (base:=0) (e:=4) w7 ((List.replicate (ap f.safe).length false).flatMap bC).toArray (ap f.safe).length (size:=1) (Nat.zero_le _) hml (by simp [hl]);rw [hs] at h1;unfold Own;rw [List.length_replicate,hv];simpa using h1
 refine ⟨fun k=>C k∨(w.heap.size≤k∧k ∈ ps),⟨.slice A5 (ap f.safe).length c5,.slice A (ap f.safe).length c,vw,ps,ps.map some⟩,⟨aj hG _,?_,hR.os.ch hall fun k hk e=>hR.g2 (e ▸ hk),hW,hps.symm,?_,fun p hp=>?_,fun p hp=>?_,fun e=>?_,hR.g2,fun e=>?_,fun k h1 h2=>?_,fun k h1 h2=>?_,fun k h1 h2=>?_⟩,fun k hk=>.inl hk,fun k hk=>hk.imp id fun h=>h.1,fun k hk hno=>?_,fun k hk=>?_,fun k hk hk2=>?_,?_⟩
 ·exact ((ho.ch hc fun k hk e=>by have:=(hv5 k hk).1;omega).below hbA).base (Nat.zero_le _)
 ·show (ap f.safe).map gG=(ps.map some).map (Option.map (zE w.heap.size E));have:=congrArg (List.map some) hps;rw [List.map_map,List.map_map] at this;rw [List.map_map];exact this.symm
 ·by_cases hw:p<w.heap.size
  ·exact .inl (hi.qc p (hold p hp hw))
  ·exact .inr ⟨by omega,hp⟩
 ·obtain ⟨q,hq,e⟩:=List.mem_map.1 hp;injection e with e
  subst e;by_cases hw:q<w.heap.size
  ·exact .inl (hi.qc q (hold q hq hw))
  ·exact .inr ⟨by omega,hq⟩
 ·have:=(hv5 g e).1;omega
 ·have:=hvk g e;omega
 ·have:=(hv5 k h1).1;have:=(hAk k h2).2;omega
 ·have:=(hv5 k h1).2;have:=hvk k h2;omega
 ·have:=(hAk k h1).2;have:=hvk k h2;omega
 ·rcases hk with hk | ⟨hk,hm⟩
  ·exact (hno hk).elim
  ·rw [ph hk];exact hall.keep (hnew k hm hk) fun e=>by omega
 ·rcases hk with hk | hk | hk | hk
  ·exact .inl (.inl hk)
  ·have:=(hv5 k hk).1;right;omega
  ·exact .inl (.inr (.inr (.inl (hAk k hk).1)))
  ·have:=hvk k hk;right;omega
 ·rcases hk2 with hk2 | ⟨hk2,hm⟩
  ·have:=hC k hk2;rcases hk with hk | hk | hk | hk
   ·exact hd k (.inl hk) hk2
   ·have:=(hv5 k hk).1;omega
   ·exact hd k (.inr (.inr (.inl (hAk k hk).1))) hk2
   ·have:=hvk k hk;omega
  ·have:=hps5 k hm hk2;rcases hk with hk | hk | hk | hk
   ·omega
   ·have:=(hv5 k hk).1;omega
   ·have:=(hAk k hk).2;omega
   ·have:=hvk k hk;omega
 ·exact hJ.ch.then hall fun k e=>.inl (.inl e)
end
end Go.Proofs.YtdmhbgpejppbkaaGreat
namespace Go.Proofs.YtdmhbgpejppbkaaGreat
open Go.Lib (hid)
open Go.RowKit Go.Maps
theorem gT {w:World} {p:Addr} {v:Value} {o:Obj} (h:w.cell? p=some v) (hl:p.block<w.heap.size):(w.alloc o).cell? p=some v:=(((Below.refl w.heap.size w).alloc (Nat.le_refl _) o).cell hl).trans h
theorem ni {w:World} {p q:Addr} {v u:Value} (h:w.cell? p=some v) (hn:p.block≠q.block):(w.setCell q u).cell? p=some v:=((Ch.refl (fun k=>k=q.block) w).setCell (p:=q) rfl u).cell h hn
theorem oC (gf gu:Nat) (w:World) {C:Nat→Prop} {E:Nat→By} {g:Nat} {m:FilM} {f:Fi} (h:FilIs w C E g m f) (hok:f.Ok) (hC:∀ k,C k→k<w.heap.size) (hd:∀ k,m.own g k→¬ C k) (hf:w.cell? ⟨gf,0,none⟩=some (.slice none 0 0)) (hl:gf<w.heap.size) (hno:¬ m.own g gf):
  Calls Tryz.prog 61 #[au g,.func (.func 59) #[] #[.pointer (some ⟨gf,0,none⟩),.pointer (some ⟨gu,0,none⟩)]] w fun e w'=>e=.returned (.tuple #[])∧∃ (C':Nat→Prop) (m':FilM),
   FilIs w' C' (zE w.heap.size E) g m' f.fate∧(∀ k,C k→C' k)∧(∀ k,C' k→C k∨w.heap.size≤k)∧(∀ k,C' k→¬ C k→w'.heap[k]?=some (dF (zE w.heap.size E k)))∧(∀ k,m'.own g k→m.own g k∨w.heap.size≤k)∧(∀ k,m'.own g k→¬ C' k)∧Ch (m.own g) w w':=by
 have HH:=hid h;have HOK:=hid (And.intro hC hd);have hn:=hok.n;have hlw:=hok.lw;have hls:=hok.ls;obtain ⟨Aw,cw,hvw,-⟩:=cq h.ow;obtain ⟨As,cs,hvs,hcs⟩:=cq h.os;have hqs:m.qs.length=f.now.length:=by rw [← hls,h.safe,List.length_map]
 have HV:=hid (And.intro hvw (And.intro hvs (And.intro hcs hqs)));obtain ⟨b0,b1,b2,b3,hgl,hfz⟩:=aO h.blk;rw [hvw,hlw] at b2;have hva:=hid (show ∀ n c,(Value.slice As n c).ownBlock=m.vs.ownBlock from fun n c=>by rw [hvs];exact pw _ _ _ _ _);have HF:=hid (And.intro hf (And.intro hl hno));have HLW:=hid hlw;unfold au;clear h hok hfz b0 b1 b3 hvw hvs hcs hC hd hf hl hno;go_enter Tryz.func61,Tryz.ntmps61;go_wp2_with fail;clear b2;go_loopw [13] (fun iv wr=>∃ k:Nat,k≤f.now.length∧iv=.int .i64 k∧Below w.heap.size w wr) (fun iv _=>f.now.length - (intOf iv).toNat)
 case atStart=>exact ⟨0,Nat.zero_le _,rfl,Below.refl _ _⟩
 case round=>
  obtain ⟨k,hk,rfl,hb⟩:=hrel;have HB:=hid hb;by_cases hlt:k<f.now.length
  ·have hk0:(0:Int)≤(k:Int):=by omega
   have hk1:(k:Int)<(f.now.length:Int):=by omega
   have hlt2:k<f.waits.length:=by rw [HLW.out];exact hlt
   obtain ⟨b,c',hv,hbl,hcell,-⟩:=eN HH.out.ow eV hlt2;have hv2:=HV.out.1;rw [hv] at hv2;injection hv2 with e1 e2 e3
   subst e1 e3;have hc1:wr.cell? ⟨b,k,none⟩=some (.bool f.waits[k]):=(hb.cell (p:=⟨b,k,none⟩) hbl).trans (hcell _ rfl);have hbl2:b<wr.heap.size:=Nat.lt_of_lt_of_le hbl hb.size;have HLO:=hid (pW gf gu wr ((hb.cell (p:=⟨gf,0,none⟩) HF.out.2.1).trans HF.out.1));have HK:=hid (And.intro hk hlt);generalize f.waits[k]=x at *;clear hb hv hcell hbl hlt2 hk e2;cases x
   ·go_wp2_with fail;go_roundw
    case rel=>exact ⟨k+1,by have:=HK.out;omega,by go_num,HB.out⟩
    case measure=>simp [intOf];omega
   ·go_wp2_with fail;refine HLO.out.mono ?_;rintro e w2 ⟨rfl,rfl⟩;go_wp2_with fail;go_roundw
    case rel=>exact ⟨k+1,by have:=HK.out;omega,by go_num,HB.out⟩
    case measure=>simp [intOf];omega
  ·obtain rfl:k=f.now.length:=by omega
   clear hlt hk;go_wp2_with fail;have HI0:=hid (FateI.start HH.out HV.out.2.1 HB.out);obtain ⟨wo,hwo⟩:∃ wo:World,wo=wr:=⟨_,rfl⟩;subst hwo;clear hb;go_loopw [] (fun w1=>∃ k:Nat,FateI w E g m As cs f k w1) (fun w1=>lS (w1.cell? ⟨g,1,none⟩))
   case atStart=>exact ⟨_,HI0.out⟩
   case round=>
    obtain ⟨k,hI⟩:=hrel;have HI:=hid hI;obtain ⟨r0,r1,r2,r3,rl,rf⟩:=aO (m:=⟨m.vn,.slice As k cs,m.vw,m.ps,m.qs⟩) hI.rw_.blk;simp only at r1;have HR1:=hid r1;rcases k with _ | k
    ·go_upto_region 10 with fail
     refine ar (by kernel_rfl) (by kernel_rfl) ?_;have u1:=aE r1 rl
     repeat (go_big_quiet_step (fail))
     refine wpQuiet_nil ?_;rintro w2 ⟨⟨_,hb2⟩,rfl⟩;have HI2:=hid (hI.below hb2);have HD2:=hid (hI.done (.inl rfl));clear hI hb2 u1 r0 r1 r2 r3 rf;obtain ⟨hk3,hJ⟩:=HI2.out.third HH.out HOK.out.1 HV.out.2.1 HD2.out;have HJ:=hid hJ;obtain ⟨r0,r1,r2,r3,rl,rf⟩:=aO (m:=⟨m.vn,.slice As (0) cs,m.vw,m.ps,m.qs⟩) HI2.out.rw_.blk;simp only at r1;rw [hk3] at r1;have htl:(ap f.safe).length≤100000:=by have:=fO f.safe;omega
     clear hJ hk3 r0 r2 r3 rf;go_wp2_with fail;obtain ⟨w3,hw3⟩:∃ w3:World,w3=w2:=⟨_,rfl⟩;subst hw3;clear r1 rl;go_loopw [88] (fun iv wr=>∃ i:Nat,i≤(ap f.safe).length∧iv=.int .i64 i∧FateJ w E g m As cs f.waits f.sure (ap f.safe) i wr) (fun iv _=>(ap f.safe).length - (intOf iv).toNat)
     case atStart=>exact ⟨0,Nat.zero_le _,rfl,HJ.out⟩
     case round=>
      obtain ⟨i,hi,rfl,hJ⟩:=hrel;have HJI:=hid hJ;by_cases hlt:i<(ap f.safe).length
      ·obtain ⟨b,q,hA,hbl,hcb,hfb,hqn,hyes,hnone⟩:=hJ.at_ hlt;have hi0:(0:Int)≤(i:Int):=by omega
       have hi1:(i:Int)<((ap f.safe).length:Int):=by omega
       unfold iS at hcb;have HK:=hid (And.intro hi hlt);rcases q with _ | p
       ·have HNX:=hid (hnone rfl);obtain ⟨e0,e1,e2,e3,el,ef⟩:=aO (m:=⟨m.vn,.slice As (ap f.safe).length cs,m.vw,m.ps,m.qs⟩) (by obtain ⟨⟨qs,h1,-⟩,-⟩:=HJI.out;exact h1.blk);simp only at e1;clear hqn hyes hnone hJ e0 e2 e3 ef;subst hA;have HBL:=hid (And.intro hbl (And.intro hcb hfb))
        have hgb:g≠b:=fun e=>by
         obtain ⟨⟨qs,h1,-⟩,-⟩:=HJI.out;exact h1.g2 (by rw [e];rfl)
        have HE1:=hid (And.intro e1 el);have hrep:=hid gD;go_wp2_with fail
        go_region_held3 (fun w'=>w'.cell? ⟨g,1,none⟩=some (.slice (some ⟨b,0,none⟩) (ap f.safe).length cs)) (first | exact d1 | exact e1 | exact gT d1 dgl | exact gT (ni d1 hgb) (by simpa using dgl))
         (first
          | (go_at_call 82;(with_reducible refine (hrep.out _).mono ?_);rintro e w5 ⟨rfl,hb5⟩;have HB5:=hid (show Below wr.heap.size wr w5 from ((Below.refl wr.heap.size wr).drew).trans hb5);have d1:=(HB5.out.cell (p:=⟨g,1,none⟩) HE1.out.2).trans HE1.out.1;have dcb:=(HB5.out.cell (p:=⟨b,i,none⟩) HBL.out.1).trans HBL.out.2.1;have dfb:=(HB5.out.frozen (p:=⟨b,i,none⟩) HBL.out.1).trans HBL.out.2.2;have dbl:=Nat.lt_of_lt_of_le HBL.out.1 HB5.out.size;have dgl:=Nat.lt_of_lt_of_le HE1.out.2 HB5.out.size;clear hb5))
        all_goals
         have HST:=hid (show FateJ w E g m (some ⟨b,0,none⟩) cs f.waits f.sure (ap f.safe) (i+1) ((w5.setCell ⟨b,i,none⟩ (.pointer (some ⟨w5.heap.size,0,none⟩))).alloc (dF zeroS)) from HNX.out w5 _ HB5.out rfl);go_wp2_with fail;go_roundw
         case rel=>exact ⟨i+1,by have:=HK.out;omega,by go_num,HST.out⟩
         case measure=>simp [intOf];omega
       ·have HNX:=hid (hyes (by simp));clear hqn hyes hnone hJ;subst hA;go_wp2_with fail;go_roundw
        case rel=>exact ⟨i+1,by have:=HK.out;omega,by go_num,HNX.out⟩
        case measure=>simp [intOf];omega
      ·obtain rfl:i=(ap f.safe).length:=by omega
       obtain ⟨ps,hR,hps,hnew,hold⟩:=HJI.out.fin;have hpl:ps.length=(ap f.safe).length:=by have:=congrArg List.length hps;simpa using this
       have HR:=hid (And.intro hR (And.intro hps (And.intro hnew (And.intro hold hpl))));obtain ⟨e0,e1,e2,e3,el,ef⟩:=aO (m:=⟨m.vn,.slice As (ap f.safe).length cs,m.vw,m.ps,m.qs⟩) hR.blk;simp only at e0 e1;have f0:=ef 0;have HCL:=hid (iQ (ps.map some) (.slice As (ap f.safe).length cs) wr (hR.os.sl cp) (by simp;omega));clear hR hps hnew hold hlt hi hJ e2 e3 ef;go_wp2_with fail;refine HCL.out.mono ?_;rintro e w5 ⟨v5,rfl,ho5,hb5⟩;obtain ⟨A5,c5,rfl,-⟩:=cq ho5;rw [List.length_map,HR.out.2.2.2.2] at ho5 ⊢;have HO5:=hid ho5;have HB5:=hid hb5;have HG5:=hid (aw HR.out.1.blk hb5);have k0:=aa HG5.out 0;simp only [List.getElem?_toArray,List.getElem?_cons_zero] at k0;have kf:=ab HG5.out 0;have kl:=af HG5.out;have HG6:=hid (ae HG5.out 0 (.slice A5 (ap f.safe).length c5));have hs6:(w5.setCell ⟨g,0,none⟩ (.slice A5 (ap f.safe).length c5)).heap.size=w5.heap.size:=by simp
       have HC6:=hid ((Ch.refl (fun k=>k=g) w5).setCell (p:=⟨g,0,none⟩) rfl (.slice A5 (ap f.safe).length c5));clear ho5 hb5 e0 e1 f0;go_upto_region 19 with fail
       generalize w5.setCell ⟨g,0,none⟩ (.slice A5 (ap f.safe).length c5)=w6 at *;have c0:w6.cell? ⟨g,0,none⟩=some (.slice A5 (ap f.safe).length c5):=aa HG6.out 0;have c2:w6.cell? ⟨g,2,none⟩=some m.vw:=aa HG6.out 2;have z2:=ab HG6.out 2;have gl6:=af HG6.out;have hmk:=iz w6 (ap f.safe).length (by omega);rw [hs6] at hmk;obtain ⟨vw,hvw⟩:∃ vw,vw=Value.slice (some ⟨w5.heap.size,0,none⟩) (ap f.safe).length (ap f.safe).length:=⟨_,rfl⟩;have HWV:=hid hvw;obtain ⟨w7,hw7⟩:∃ w7,w7=w6.setCell ⟨g,2,none⟩ vw:=⟨_,rfl⟩;have HG7:=hid (show w7.heap[g]?=some (.cells #[.slice A5 (ap f.safe).length c5,.slice As (ap f.safe).length cs,vw,.bool f.sure] 87 (0,0)) by rw [hw7];exact ae HG6.out 2 vw);have HC7:=hid (show Ch (fun k=>k=g) w6 w7 by rw [hw7];exact (Ch.refl (fun k=>k=g) w6).setCell (p:=⟨g,2,none⟩) rfl vw);have hs7:w7.heap.size=w5.heap.size:=by rw [hw7];simp [hs6]
       have HS7:=hid hs7;have HW7:=hid hw7;have HFI:=hid (FateJ.last HH.out HOK.out.1 HOK.out.2 HJI.out HR.out.1 HR.out.2.1 HR.out.2.2.1 HR.out.2.2.2.1 HO5.out HB5.out (HC6.out.trans HC7.out) HG7.out hs7 hvw (by unfold maxLen;omega));clear hvw hw7 hs7;go_wp2_with fail;refine bodyPost_end (results_none rfl _ _ _) rfl ⟨rfl,?_⟩;have hz:=HFI.out;rw [HW7.out,HWV.out] at hz;exact hz
    ·obtain ⟨b,q,rfl,hbl,hcb,hq,hdn⟩:=hI.at_ hva.out;unfold iS at hcb;have hwr:IntKind.i64.wrap ((k:Int)+1 - 1)=(k:Int):=by rw [IntKind.wrap_i64];have:=hI.le;have:=HV.out.2.2.2;omega
     have hwk:IntKind.i64.wrap (k:Int)=(k:Int):=by rw [IntKind.wrap_i64];have:=hI.le;have:=HV.out.2.2.2;omega
     have hk0:(0:Int)≤(k:Int):=by omega
     have hk1:(0:Int)<(k:Int)+1:=by omega
     have hk2:(k:Int)<(k:Int)+1:=by omega
     have hk4:(k:Int)≤(cs:Int):=by have:=hI.le;have:=HV.out.2.2.1;omega
     rcases q with _ | p
     ·go_upto_region 10 with fail
      refine ar (by kernel_rfl) (by kernel_rfl) ?_;have u1:=aE r1 rl;have u2:=aE hcb hbl
      repeat (go_big_quiet_step (fail))
      refine wpQuiet_nil ?_;rintro w2 ⟨⟨_,hb2⟩,rfl⟩;have hI2:=hI.below hb2;clear hI hdn hbl hcb u1 u2;obtain ⟨b2,q2,e2,hbl,hcb,hq2,hdn⟩:=hI2.at_ hva.out;injection e2 with e2
      injection e2 with e2 _ _
      subst e2;rw [hq] at hq2;injection hq2 with hq2
      subst hq2;have HDN:=hid (hdn rfl);obtain ⟨r0,r1,r2,r3,rl,rf⟩:=aO (m:=⟨m.vn,.slice (some ⟨b,0,none⟩) (k+1) cs,m.vw,m.ps,m.qs⟩) hI2.rw_.blk;simp only at r1;have z1:=rf 1
      have HM:=hid (show ∀ w7:World,FateI w E g m (some ⟨b,0,none⟩) cs f k w7→lS (w7.cell? ⟨g,1,none⟩)<lS (wr.cell? ⟨g,1,none⟩) from fun w7 h7=>by
       rw [show w7.cell? ⟨g,1,none⟩=some (.slice (some ⟨b,0,none⟩) k cs) from aa h7.rw_.blk 1,HR1.out];exact Nat.lt_succ_self k)
      clear hdn hI2 r0 r2 r3 rf;go_wp2_with fail;go_region;have HST:=hid (HDN.out _ rfl);go_wp2_with fail;go_roundw
      case rel=>exact ⟨k,HST.out⟩
      case measure=>exact HM.out _ HST.out
     ·go_upto_region 10 with fail
      refine ar (by kernel_rfl) (by kernel_rfl) ?_;have u1:=aE r1 rl;have u2:=aE hcb hbl
      repeat (go_big_quiet_step (fail))
      refine wpQuiet_nil ?_;rintro w2 ⟨⟨_,hb2⟩,rfl⟩;have HI2:=hid (hI.below hb2);have HD2:=hid (hI.done (.inr ⟨k,p,rfl,hq⟩));clear hI hdn hbl hcb u1 u2 hb2 r0 r1 r2 r3 rf;obtain ⟨As,hAs⟩:∃ As,As=some (⟨b,0,none⟩:Addr):=⟨_,rfl⟩;rw [← hAs] at HI2 HV hva;clear hAs hwr hwk hk0 hk1 hk2 hk4 hq;obtain ⟨hk3,hJ⟩:=HI2.out.third HH.out HOK.out.1 HV.out.2.1 HD2.out;have HJ:=hid hJ;obtain ⟨r0,r1,r2,r3,rl,rf⟩:=aO (m:=⟨m.vn,.slice As (k+1) cs,m.vw,m.ps,m.qs⟩) HI2.out.rw_.blk;simp only at r1;rw [hk3] at r1;have htl:(ap f.safe).length≤100000:=by have:=fO f.safe;omega
      clear hJ hk3 r0 r2 r3 rf;go_wp2_with fail;obtain ⟨w3,hw3⟩:∃ w3:World,w3=w2:=⟨_,rfl⟩;subst hw3;clear r1 rl;go_loopw [88] (fun iv wr=>∃ i:Nat,i≤(ap f.safe).length∧iv=.int .i64 i∧FateJ w E g m As cs f.waits f.sure (ap f.safe) i wr) (fun iv _=>(ap f.safe).length - (intOf iv).toNat)
      case atStart=>exact ⟨0,Nat.zero_le _,rfl,HJ.out⟩
      case round=>
       obtain ⟨i,hi,rfl,hJ⟩:=hrel;have HJI:=hid hJ;by_cases hlt:i<(ap f.safe).length
       ·obtain ⟨b,q,hA,hbl,hcb,hfb,hqn,hyes,hnone⟩:=hJ.at_ hlt;have hi0:(0:Int)≤(i:Int):=by omega
        have hi1:(i:Int)<((ap f.safe).length:Int):=by omega
        unfold iS at hcb;have HK:=hid (And.intro hi hlt);rcases q with _ | p
        ·have HNX:=hid (hnone rfl);obtain ⟨e0,e1,e2,e3,el,ef⟩:=aO (m:=⟨m.vn,.slice As (ap f.safe).length cs,m.vw,m.ps,m.qs⟩) (by obtain ⟨⟨qs,h1,-⟩,-⟩:=HJI.out;exact h1.blk);simp only at e1;clear hqn hyes hnone hJ e0 e2 e3 ef;subst hA;have HBL:=hid (And.intro hbl (And.intro hcb hfb))
         have hgb:g≠b:=fun e=>by
          obtain ⟨⟨qs,h1,-⟩,-⟩:=HJI.out;exact h1.g2 (by rw [e];rfl)
         have HE1:=hid (And.intro e1 el);have hrep:=hid gD;go_wp2_with fail
         go_region_held3 (fun w'=>w'.cell? ⟨g,1,none⟩=some (.slice (some ⟨b,0,none⟩) (ap f.safe).length cs)) (first | exact d1 | exact e1 | exact gT d1 dgl | exact gT (ni d1 hgb) (by simpa using dgl))
          (first
           | (go_at_call 82;(with_reducible refine (hrep.out _).mono ?_);rintro e w5 ⟨rfl,hb5⟩;have HB5:=hid (show Below wr.heap.size wr w5 from ((Below.refl wr.heap.size wr).drew).trans hb5);have d1:=(HB5.out.cell (p:=⟨g,1,none⟩) HE1.out.2).trans HE1.out.1;have dcb:=(HB5.out.cell (p:=⟨b,i,none⟩) HBL.out.1).trans HBL.out.2.1;have dfb:=(HB5.out.frozen (p:=⟨b,i,none⟩) HBL.out.1).trans HBL.out.2.2;have dbl:=Nat.lt_of_lt_of_le HBL.out.1 HB5.out.size;have dgl:=Nat.lt_of_lt_of_le HE1.out.2 HB5.out.size;clear hb5))
         all_goals
          have HST:=hid (show FateJ w E g m (some ⟨b,0,none⟩) cs f.waits f.sure (ap f.safe) (i+1) ((w5.setCell ⟨b,i,none⟩ (.pointer (some ⟨w5.heap.size,0,none⟩))).alloc (dF zeroS)) from HNX.out w5 _ HB5.out rfl);go_wp2_with fail;go_roundw
          case rel=>exact ⟨i+1,by have:=HK.out;omega,by go_num,HST.out⟩
          case measure=>simp [intOf];omega
        ·have HNX:=hid (hyes (by simp));clear hqn hyes hnone hJ;subst hA;go_wp2_with fail;go_roundw
         case rel=>exact ⟨i+1,by have:=HK.out;omega,by go_num,HNX.out⟩
         case measure=>simp [intOf];omega
       ·obtain rfl:i=(ap f.safe).length:=by omega
        obtain ⟨ps,hR,hps,hnew,hold⟩:=HJI.out.fin;have hpl:ps.length=(ap f.safe).length:=by have:=congrArg List.length hps;simpa using this
        have HR:=hid (And.intro hR (And.intro hps (And.intro hnew (And.intro hold hpl))));obtain ⟨e0,e1,e2,e3,el,ef⟩:=aO (m:=⟨m.vn,.slice As (ap f.safe).length cs,m.vw,m.ps,m.qs⟩) hR.blk;simp only at e0 e1;have f0:=ef 0;have HCL:=hid (iQ (ps.map some) (.slice As (ap f.safe).length cs) wr (hR.os.sl cp) (by simp;omega));clear hR hps hnew hold hlt hi hJ e2 e3 ef;go_wp2_with fail;refine HCL.out.mono ?_;rintro e w5 ⟨v5,rfl,ho5,hb5⟩;obtain ⟨A5,c5,rfl,-⟩:=cq ho5;rw [List.length_map,HR.out.2.2.2.2] at ho5 ⊢;have HO5:=hid ho5;have HB5:=hid hb5;have HG5:=hid (aw HR.out.1.blk hb5);have k0:=aa HG5.out 0;simp only [List.getElem?_toArray,List.getElem?_cons_zero] at k0;have kf:=ab HG5.out 0;have kl:=af HG5.out;have HG6:=hid (ae HG5.out 0 (.slice A5 (ap f.safe).length c5));have hs6:(w5.setCell ⟨g,0,none⟩ (.slice A5 (ap f.safe).length c5)).heap.size=w5.heap.size:=by simp
        have HC6:=hid ((Ch.refl (fun k=>k=g) w5).setCell (p:=⟨g,0,none⟩) rfl (.slice A5 (ap f.safe).length c5));clear ho5 hb5 e0 e1 f0;go_upto_region 19 with fail
        generalize w5.setCell ⟨g,0,none⟩ (.slice A5 (ap f.safe).length c5)=w6 at *;have c0:w6.cell? ⟨g,0,none⟩=some (.slice A5 (ap f.safe).length c5):=aa HG6.out 0;have c2:w6.cell? ⟨g,2,none⟩=some m.vw:=aa HG6.out 2;have z2:=ab HG6.out 2;have gl6:=af HG6.out;have hmk:=iz w6 (ap f.safe).length (by omega);rw [hs6] at hmk;obtain ⟨vw,hvw⟩:∃ vw,vw=Value.slice (some ⟨w5.heap.size,0,none⟩) (ap f.safe).length (ap f.safe).length:=⟨_,rfl⟩;have HWV:=hid hvw;obtain ⟨w7,hw7⟩:∃ w7,w7=w6.setCell ⟨g,2,none⟩ vw:=⟨_,rfl⟩;have HG7:=hid (show w7.heap[g]?=some (.cells #[.slice A5 (ap f.safe).length c5,.slice As (ap f.safe).length cs,vw,.bool f.sure] 87 (0,0)) by rw [hw7];exact ae HG6.out 2 vw);have HC7:=hid (show Ch (fun k=>k=g) w6 w7 by rw [hw7];exact (Ch.refl (fun k=>k=g) w6).setCell (p:=⟨g,2,none⟩) rfl vw);have hs7:w7.heap.size=w5.heap.size:=by rw [hw7];simp [hs6]
        have HS7:=hid hs7;have HW7:=hid hw7;have HFI:=hid (FateJ.last HH.out HOK.out.1 HOK.out.2 HJI.out HR.out.1 HR.out.2.1 HR.out.2.2.1 HR.out.2.2.2.1 HO5.out HB5.out (HC6.out.trans HC7.out) HG7.out hs7 hvw (by unfold maxLen;omega));clear hvw hw7 hs7;go_wp2_with fail;refine bodyPost_end (results_none rfl _ _ _) rfl ⟨rfl,?_⟩;have hz:=HFI.out;rw [HW7.out,HWV.out] at hz;exact hz
end Go.Proofs.YtdmhbgpejppbkaaGreat
