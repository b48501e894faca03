/- disk.On with nothing fated: the walk. disk.On with nothing fated: On walked. awake's states, plain. awake's states: what each call wants. awake's calls. -/
import Derived.Test.YtdmhbgpejppbkaaGreatZGbp
import Derived.Test.YtdmhbgpejppbkaaGreatZGbl
import Derived.Test.YtdmhbgpejppbkaaGreatZGas
import Derived.Test.YtdmhbgpejppbkaaGreatZGbn
import Derived.Test.YtdmhbgpejppbkaaGreatZGbo
set_option maxRecDepth 100000
set_option maxHeartbeats 2000000
namespace Go.Proofs.YtdmhbgpejppbkaaGreat
open Go.Lib (hid)
open Go.RowKit Go.Maps
theorem og (w:World) {L:DkM} {d:Dk} (h:DkIs w L d):
  Calls Tryz.prog 60 #[au L.gd] w fun e w'=>∃ v,e=.returned v∧Own uq 1 9 w.heap.size w' v (ie (d.files.map (·.1)))∧Below w.heap.size w w':=by
 obtain ⟨ops,hb⟩:=h.blk;obtain ⟨c0,-,-,-,-,-,-,-,hlt,-⟩:=bo hb;have hkl:L.K.length≤1000000:=by have:=congrArg List.length h.fls;rw [List.length_map,List.length_map] at this;have:=h.ok.few;omega
 have HS:=hid (kK L.gm w h.map hkl);rw [h.fls];unfold au;clear h hb hkl;go_enter Tryz.func60,Tryz.ntmps60;go_wp2_with fail;refine (ol (some L.gm) w).mono ?_;rintro e w1 ⟨rfl,rfl⟩;go_wp2_with fail;refine HS.out.mono ?_;rintro e w2 ⟨v,rfl,ho,hb⟩;have HO:=hid (And.intro ho hb);clear ho hb;go_wp2_with fail;go_ret;exact ⟨v,rfl,HO.out.1,HO.out.2⟩
theorem oJ {α β:Type} [DecidableEq α] {K:List (α × β)} {a:α} {b:β} (h:a ∈ K.map (·.1)):cb (aV K a b) a=cb K a:=by
 unfold aV cb;rw [if_pos h];clear h
 induction K with
 | nil=>rfl
 | cons p K ih=>
   rw [List.map_cons,List.filter_cons,List.filter_cons,ih];by_cases e:p.1=a
   ·rw [if_pos e];simp [e]
   ·rw [if_neg e]
def uI (f:Fi):Fi:={ f.fate with sure:=true }
theorem sU {f:Fi} (h:f.Ok):(uI f).Ok:=let h:=kr h;⟨h.ls,h.lw,h.sec,h.n,h.ssec⟩
theorem pT {d:Dk} (h:d.Ok) (n:By):(d.on1 n).Ok:=by
 unfold Dk.on1;cases hf:d.file n with
 | none=>exact h
 | some f=>
   simp only
   split
   ·exact ⟨gR h.nd,Nat.le_trans (List.length_filter_le _ _) h.few,fun p hp=>h.fok p (List.mem_filter.1 hp).1,h.room,h.life,h.at_,h.kind,h.more⟩
   ·refine dE h (n:=n) (f:=uI ((d.file n).getD .empty)) (sU ?_) fun e=>?_
    ·rw [hf];exact bV h hf
    ·rw [hf] at e;cases e
theorem oe {d:Dk} (h:d.Ok) {n m:By} (hm:m≠n):(d.on1 n).file m=d.file m:=by
 unfold Dk.on1;cases hf:d.file n with
 | none=>rfl
 | some f=>
   simp only
   split
   ·rw [Dk.del_file h,if_neg hm]
   ·rw [Dk.setF_file h,if_neg hm]
theorem jp:∀ (l:List By) {d:Dk},d.Ok→∀ {m:By},m ∉ l→(d.ons l).file m=d.file m
 | [],_,_,_,_=>rfl
 | n :: l,d,h,m,hm=>by
   have h1:m≠n:=fun e=>hm (e ▸ List.mem_cons_self)
   have h2:=jp l (pT h n) (m:=m) fun e=>hm (List.mem_cons_of_mem _ e)
   exact h2.trans (oe h h1)
theorem sS (d:Dk) (l:List By) {k:Nat} (h:k<l.length):d.ons (l.take (k+1))=(d.ons (l.take k)).on1 l[k]:=by unfold Dk.ons;rw [List.take_succ_eq_append_getElem h,List.foldl_append];rfl
theorem DkIs.onKeep {w w':World} {L:DkM} {d:Dk} (h:DkIs w L d) {n:By} {g:Nat} {f:Fi} (hf:d.file n=some f) (hm:(n,g) ∈ L.K) {C':Nat→Prop} {m':FilM} (hi:FilIs w' C' (zE w.heap.size L.E) g m' (uI f)) (h1:∀ k,L.C k→C' k) (h2:∀ k,C' k→L.C k∨w.heap.size≤k)
  (h3:∀ k,C' k→¬ L.C k→w'.heap[k]?=some (dF (zE w.heap.size L.E k))) (h4:∀ k,m'.own g k→(L.M g).own g k∨w.heap.size≤k) (h5:∀ k,m'.own g k→¬ C' k) (hc:Ch ((L.M g).own g) w w') (hno:¬ (f.fate.now=[]∧f.sure=false)):DkTo w L (d.on1 n) w':=by
 have hgm:=(h.fd _ hm);have he:d.on1 n=d.setF n fun f=>{ f.fate with sure:=true }:=by unfold Dk.on1;rw [hf];simp only [if_neg hno]
 have hmp:kA w' L.gm (aV L.K n g):=by rw [ev h.map.nd hm];exact h.map.ch hc fun e=>(hgm _ e).2.1 rfl
 have:=h.setFile (n:=n) (g:=g) (mo:=L.M g) (m':=m') (d':=d.on1 n) (f':=uI f) (C':=C') (E':=zE w.heap.size L.E) (.inl ⟨hm,rfl⟩) (hc.mono fun k _ e=>.inl e) hmp h1 (fun k hk=>lK (h.lt (.inr (.inr (.inl hk))))) h2 h3 hi h4 h5 (pT h.ok n) (by rw [he];unfold Dk.setF;rw [hf];rfl) (fun gm ops=>by rw [he];rfl);refine ⟨⟨L.gd,L.gm,aV L.K n g,C',zE w.heap.size L.E,fun k=>if k=g then m' else L.M k⟩,rfl,this.1,fun k hk=>?_,hc.mono fun k _ e=>.inr (.inr (.inr ⟨_,hm,e⟩))⟩;rcases this.2 k hk with e | e | e
 ·exact .inl e
 ·exact .inl (.inr (.inr (.inr ⟨_,hm,e⟩)))
 ·exact .inr e
theorem DkIs.onGone {w w' w2 w3:World} {L:DkM} {d:Dk} (h:DkIs w L d) {n:By} {g:Nat} {f:Fi} (hf:d.file n=some f) (hm:(n,g) ∈ L.K) {C':Nat→Prop} {m':FilM} (hi:FilIs w' C' (zE w.heap.size L.E) g m' f.fate) (h1:∀ k,L.C k→C' k) (h2:∀ k,C' k→L.C k∨w.heap.size≤k)
  (h3:∀ k,C' k→¬ L.C k→w'.heap[k]?=some (dF (zE w.heap.size L.E k))) (h4:∀ k,m'.own g k→(L.M g).own g k∨w.heap.size≤k) (h5:∀ k,m'.own g k→¬ C' k) (hc:Ch ((L.M g).own g) w w') (hyes:f.fate.now=[]∧f.sure=false)
  (hmp2:kA w2 L.gm (cb L.K n)) (hc2:Ch (fun k=>k=L.gm) w' w2) (hc3:Ch (fun k=>k=g) w2 w3):DkTo w L (d.on1 n) w3:=by
 have hgm:=(h.fd _ hm);have hnk:n ∈ d.files.map (·.1):=by rw [h.fls];exact List.mem_map.2 ⟨_,hm,rfl⟩
 have he:d.on1 n={ d with files:=cb d.files n }:=by unfold Dk.on1;rw [hf];simp only [if_pos hyes];rfl
 have hmp:kA w' L.gm (aV L.K n g):=by rw [ev h.map.nd hm];exact h.map.ch hc fun e=>(hgm _ e).2.1 rfl
 have hok1:({ d with files:=aV d.files n f.fate }:Dk).Ok:=dE h.ok (kr (bV h.ok hf)) fun e=>by rw [hf] at e;cases e
 obtain ⟨a1,a2⟩:=h.setFile (n:=n) (g:=g) (mo:=L.M g) (m':=m') (d':={ d with files:=aV d.files n f.fate }) (f':=f.fate) (C':=C') (E':=zE w.heap.size L.E) (.inl ⟨hm,rfl⟩) (hc.mono fun k _ e=>.inl e) hmp h1 (fun k hk=>lK (h.lt (.inr (.inr (.inl hk))))) h2 h3 hi h4 h5 hok1 rfl (fun gm ops=>rfl);have hKs:aV L.K n g=L.K:=ev h.map.nd hm;have hmp2':kA w2 L.gm (cb (aV L.K n g) n):=by rw [hKs];exact hmp2
 obtain ⟨b1,b2⟩:=a1.dropFile (n:=n) (d':=d.on1 n) hc2 hmp2' (by rw [he];simp only;rw [oJ hnk])
 have b1':=b1.ch hc3 (fun k hk e=>by
  subst e;rcases hk with hk | hk | hk | ⟨p,hp,hk⟩
  ·exact (hgm _ (.inl rfl)).1 hk
  ·exact (hgm _ (.inl rfl)).2.1 hk
  ·exact h5 _ (.inl rfl) hk
  ·have hp':=List.mem_filter.1 hp;have hpn:p.1≠n:=by simpa using hp'.2
   have hpK:p ∈ L.K:=by have:=hp'.1;rw [hKs] at this;exact this
   have hpk:p.2≠k:=fun e=>h.ff p hpK _ hm (fun e2=>hpn (by rw [e2])) k (.inl e.symm) (.inl rfl)
   have hk:(if p.2=k then m' else L.M p.2).own p.2 k:=hk;rw [if_neg hpk] at hk;exact h.ff p hpK _ hm (fun e2=>hpn (by rw [e2])) k hk (.inl rfl))
 refine ⟨⟨L.gd,L.gm,cb (aV L.K n g) n,C',zE w.heap.size L.E,fun k=>if k=g then m' else L.M k⟩,rfl,b1',fun k hk=>?_,?_⟩
 ·rcases a2 k (b2 k hk) with e | e | e
  ·exact .inl e
  ·exact .inl (.inr (.inr (.inr ⟨_,hm,e⟩)))
  ·exact .inr e
 ·exact ((hc.mono (S':=L.F) fun k _ e=>.inr (.inr (.inr ⟨_,hm,e⟩))).trans (hc2.mono (S':=L.F) fun k _ e=>.inr (.inl e))).trans (hc3.mono (S':=L.F) fun k _ e=>.inr (.inr (.inr ⟨_,hm,.inl e⟩)))
def nf:Obj:=.cells #[.slice none 0 0] 30 (0,0)
def tZ:Obj:=.cells #[.int .i64 0] 3 (0,0)
theorem uv:MpT (fun n:By=>n.length≤maxLen) 67 9 82 kk dQ tL au (.pointer none) em where
 law:=fmT.law
 und:=fmT.und
 key:=fun a ha=>WideMaps.keyOf_string_mk Tryz.underlying9 (s:=ak a) (by rw [ay];exact ha)
 inj:=fmT.inj
 lit:=fmT.lit
 rel:=fmT.rel
 inv:=fmT.inv
 zero:=fmT.zero
 zrel:=fmT.zrel
theorem DkIs.nlen {w:World} {L:DkM} {d:Dk} (h:DkIs w L d) {p:By × Nat} (hp:p ∈ L.K):p.1.length≤maxLen:=by obtain ⟨D,hown,hmo⟩:=h.map;exact Go.strKeys_le hown Tryz.underlying9 _ ((il hown hmo).mem_iff.1 (List.mem_map.2 ⟨p,hp,rfl⟩))
theorem FilIs.sured {w:World} {C:Nat→Prop} {E:Nat→By} {g:Nat} {m:FilM} {f:Fi} (h:FilIs w C E g m f):FilIs (w.setCell ⟨g,3,none⟩ (.bool true)) C E g m { f with sure:=true }:=by
 have hc:Ch (fun j=>j=g) w (w.setCell ⟨g,3,none⟩ (.bool true)):=(Ch.refl (fun j=>j=g) w).setCell (p:=⟨g,3,none⟩) rfl _
 exact { h with
  blk:=ae h.blk 3 (.bool true)
  on:=h.on.ch hc fun k hk e=>h.g1 (e ▸ hk)
  os:=h.os.ch hc fun k hk e=>h.g2 (e ▸ hk)
  ow:=h.ow.ch hc fun k hk e=>h.g3 (e ▸ hk) }
theorem sT (w:World) {L:DkM} {d:Dk} (h:DkIs w L d):
  Calls Tryz.prog 16 #[au L.gd,.slice none 0 0] w fun e w'=>e=.returned (.tuple #[])∧DkTo w L (d.onL (ie (d.files.map (·.1)))) w':=by
 have hA:Below w.heap.size w (w.alloc nf):=(Below.refl _ w).alloc (Nat.le_refl _) _;have HA:=hid hA;have HH:=hid (h.ch (S:=fun _=>False) (Ch.of_below hA) (fun _ _ h=>h));have HLT:=hid (fun k (hk:L.F k)=>h.lt hk);obtain ⟨ops,hb⟩:=HH.out.blk;obtain ⟨c0,c1,c2,c3,c4,c5,c6,c7,hlt,hfz⟩:=bo hb;cases hd:d.down
 ·have HE:=hid (show d.onL (ie (d.files.map (·.1)))=d by unfold Dk.onL;rw [hd];rfl);rw [hd] at c2;unfold au;unfold nf at hlt c2;clear h hA hb hfz hd;go_enter Tryz.func16,Tryz.ntmps16;go_wp2_with fail;refine bodyPost_ret (results_none rfl _ _ _) rfl ?_;exact ⟨rfl,by rw [HE.out];exact ⟨L,rfl,HH.out,fun _ hk=>.inl hk,Ch.of_below HA.out⟩⟩
 ·have HE:=hid (show d.onL (ie (d.files.map (·.1)))=({ d with down:=false }:Dk).ons (ie (d.files.map (·.1))) by unfold Dk.onL;rw [hd];rfl);rw [hd] at c2;have z2:=hfz 2;have HX:=hid (show (w.alloc nf).heap[w.heap.size]?=some nf from ah rfl);have HB:=hid hb
  have HD2:=hid (show ∀ w2,w2=(w.alloc nf).setCell ⟨L.gd,2,none⟩ (.bool false)→DkIs w2 L { d with down:=false } from fun w2 hw=>by
   have hc:Ch (fun k=>k=L.gd) (w.alloc nf) w2:=by rw [hw];exact (Ch.refl (fun k=>k=L.gd) _).setCell (p:=⟨L.gd,2,none⟩) rfl _
   exact HH.out.blk' (ops:=ops) hc (by rw [hw];exact ae hb 2 (.bool false)) rfl ⟨HH.out.ok.nd,HH.out.ok.few,HH.out.ok.fok,HH.out.ok.room,HH.out.ok.life,HH.out.ok.at_,HH.out.ok.kind,HH.out.ok.more⟩)
  unfold au;have hlt:L.gd<(w.alloc (.cells #[.slice none 0 0] 30)).heap.size:=hlt;have c2:(w.alloc (.cells #[.slice none 0 0] 30)).cell? ⟨L.gd,2,none⟩=some (.bool true):=c2;have z2:(w.alloc (.cells #[.slice none 0 0] 30)).frozen? ⟨L.gd,2,none⟩=false:=z2;clear h hA hb hfz hd c0 c1 c3 c4 c5 c6 c7;go_enter Tryz.func16,Tryz.ntmps16;go_upto_region 3 with fail
  have hD2:=HD2.out _ rfl;have hX2:((w.alloc nf).setCell ⟨L.gd,2,none⟩ (.bool false)).heap[w.heap.size]?=some nf:=((Ch.refl (fun k=>k=L.gd) (w.alloc nf)).setCell (p:=⟨L.gd,2,none⟩) rfl _).keep HX.out (fun e=>by have:=HLT.out L.gd (.inl rfl);omega);have hs2:((w.alloc nf).setCell ⟨L.gd,2,none⟩ (.bool false)).heap.size=w.heap.size+1:=by simp
  have hc2:Ch L.F w ((w.alloc nf).setCell ⟨L.gd,2,none⟩ (.bool false)):=(Ch.of_below HA.out).trans ((Ch.refl L.F (w.alloc nf)).setCell (p:=⟨L.gd,2,none⟩) (.inl rfl) _);change Code.wp _ _ _ _ ((w.alloc nf).setCell ⟨L.gd,2,none⟩ (.bool false));generalize (w.alloc nf).setCell ⟨L.gd,2,none⟩ (.bool false)=w2 at *;have HA3:=hid (show Below w2.heap.size w2 (w2.alloc tZ) from (Below.refl _ w2).alloc (Nat.le_refl _) _);have HD3:=hid (hD2.ch (S:=fun _=>False) (Ch.of_below HA3.out) (fun _ _ h=>h));have HX3:=hid (aw hX2 HA3.out);have HC3:=hid (hc2.trans (Ch.of_below HA3.out));have hs3:(w2.alloc tZ).heap.size=w.heap.size+2:=by simp [hs2]
  have HNM:=hid (og (w2.alloc tZ) HD3.out);unfold au at HNM;clear hD2 hX2 hc2 c2 z2 hlt;go_upto_region 5 with fail
  have hw3:∃ w3,w2.alloc tZ=w3:=⟨_,rfl⟩;obtain ⟨w3,hw3⟩:=hw3;change Code.wp _ _ _ _ (w2.alloc tZ);rw [hw3] at HD3 HX3 HC3 hs3 HNM ⊢;clear hw3;go_wp2_with fail;refine HNM.out.mono ?_;rintro e w4 ⟨v,rfl,ho,hb4⟩;obtain ⟨ns,hns⟩:∃ ns,ie (d.files.map (·.1))=ns:=⟨_,rfl⟩;have hns1:ns.Perm (d.files.map (·.1)):=by rw [← hns];exact List.mergeSort_perm _ _
  have hnd:ns.Nodup:=hns1.nodup_iff.2 HH.out.ok.nd;have hlen:ns.length≤8:=by rw [hns1.length_eq,List.length_map];exact HH.out.ok.few
  have hall:∀ n ∈ ns,∃ f,d.file n=some f:=fun n hn=>by
   have:=hns1.mem_iff.1 hn;obtain ⟨p,hp,rfl⟩:=List.mem_map.1 this;exact ⟨p.2,bD HH.out.ok.nd hp⟩
  have ho:Own uq 1 9 w3.heap.size w4 v (ie (d.files.map (·.1))):=ho;rw [hns] at ho;rw [hns] at HE;have HNS0:=hid hns;have HNS:=hid (And.intro hnd (And.intro hlen hall));obtain ⟨A,c,rfl,-⟩:=cq ho;have HO:=hid ho;have HD4:=hid (HD3.out.ch (S:=fun _=>False) (Ch.of_below hb4) (fun _ _ h=>h));have HX4:=hid (aw HX3.out hb4);have HC4:=hid (HC3.out.trans (Ch.of_below hb4));have hs4:w.heap.size+2≤w4.heap.size:=by have:=hb4.size;omega
  have HS4:=hid (And.intro hs4 hs3);clear ho hb4 hns hns1 hnd hall HNM hs4 hs2 hs3;go_wp2_with fail;go_loopw [25] (fun iv wr=>∃ k:Nat,k≤ns.length∧iv=.int .i64 k∧DkTo w4 L (({ d with down:=false }:Dk).ons (ns.take k)) wr) (fun iv _=>ns.length - (intOf iv).toNat)
  case atStart=>exact ⟨0,Nat.zero_le _,rfl,L,rfl,HD4.out,fun _ hk=>.inl hk,Ch.refl _ _⟩
  case round=>
   obtain ⟨k,hk,rfl,hto⟩:=hrel;have HTO:=hid hto;by_cases hlt:k<ns.length
   ·obtain ⟨L',l1,l2,l3,l4⟩:=hto;have hold:∀ k,L'.F k→k<w.heap.size∨w4.heap.size≤k:=fun k hk=>(l3 k hk).imp (HLT.out k) id
    obtain ⟨b,c',hv,hbl,hcb,-⟩:=eN (HO.out.ch l4 fun b hb e=>by have:=(HO.out.lt b hb).1;have:=HLT.out b e;have:=HS4.out.2;omega) rC hlt;injection hv with hv1 hv2 hv3
    subst hv1 hv3;have hcn:=hcb _ rfl;obtain ⟨f,hf⟩:=HNS.out.2.2 _ (List.getElem_mem hlt)
    have hfk:(({ d with down:=false }:Dk).ons (ns.take k)).file ns[k]=some f:=by
     rw [jp _ (d:={ d with down:=false }) ⟨HH.out.ok.nd,HH.out.ok.few,HH.out.ok.fok,HH.out.ok.room,HH.out.ok.life,HH.out.ok.at_,HH.out.ok.kind,HH.out.ok.more⟩]
     ·exact hf
     ·intro hm;obtain ⟨i,hi,e⟩:=List.getElem_of_mem hm;rw [List.length_take] at hi;rw [List.getElem_take] at e;have:=(List.getElem_inj HNS.out.1).1 e;omega
    have hup:=sS ({ d with down:=false }:Dk) ns hlt;have HK:=hid (And.intro hk hlt);have hk0:(0:Int)≤(k:Int):=by omega
    have hk1:(k:Int)<(ns.length:Int):=by omega
    generalize ns[k]=n at *;generalize ({ d with down:=false }:Dk).ons (ns.take k)=dk at *;obtain ⟨g,hgk,hgm,hfi⟩:=l2.fso hfk;have hnl:=l2.nlen hgm;have hlook:=l2.map.look uv (a:=n) hnl;rw [hgk] at hlook;unfold mV dQ au at hlook;simp only at hlook;unfold dQ at hcn;obtain ⟨ops2,hb2⟩:=l2.blk;obtain ⟨c0,-,-,-,-,-,-,-,hgdl,-⟩:=bo hb2;rw [l1] at c0 hgdl;have hX:=l4.keep HX4.out (fun e=>by have:=HLT.out _ e;omega)
    have HFT:=hid (oC w.heap.size (w.heap.size+1) wr hfi (bV l2.ok hfk) (fun k hk=>l2.lt (.inr (.inr (.inl hk)))) (fun k hk=>(l2.fd _ hgm k hk).2.2) (aa hX 0) (af hX) (fun e=>by
     rcases hold _ (.inr (.inr (.inr ⟨_,hgm,e⟩))) with e | e
     ·omega
     ·have:=HS4.out.1;omega))
    have HL2:=hid l2;have HL:=hid (And.intro l1 (And.intro l3 l4));have HG:=hid (And.intro hgm (And.intro hfk (And.intro hnl hup)));unfold au at HFT;clear l1 l2 l3 l4 hold hv2 hcb hf hfk hup hgk hgm hfi hnl hb2 hX hlt hk;go_wp2_with fail;refine HFT.out.mono ?_;rintro e w5 ⟨rfl,C',m',a1,a2,a3,a4,a5,a6,a7⟩;obtain ⟨A5,c5,hv5⟩:=a1.lenV;obtain ⟨q0,-,-,q3',ql,qf⟩:=aO a1.blk;have q3:w5.cell? ⟨g,3,none⟩=some (.bool f.sure):=q3';clear q3';rw [hv5] at q0;have z3:=qf 3;have hbk:=a7.keep (show wr.heap[L'.gd]?=_ from (HL2.out.blk).choose_spec) (fun e=>(HL2.out.fd _ HG.out.1 _ e).1 rfl);obtain ⟨k0,-,-,-,-,-,-,-,kgl,-⟩:=bo hbk;rw [HL.out.1] at k0 kgl;have HM5:=hid (HL2.out.map.ch a7 fun e=>(HL2.out.fd _ HG.out.1 _ e).2.1 rfl);have HA1:=hid (And.intro a1 (And.intro a2 (And.intro a3 (And.intro a4 (And.intro a5 (And.intro a6 a7))))));have hfl:f.fate.now.length≤100000:=(kr (bV HL2.out.ok HG.out.2.1)).n;have HFN:=hid (show f.fate.now=[]↔f.fate.now.length=0 from List.length_eq_zero_iff.symm);clear a1 a2 a3 a4 a5 a6 a7 qf hbk hv5 c0 hgdl hcn hlook;generalize hfn:f.fate.now.length=fl at *;clear hfn
    have HQ:=hid (show ∀ w6,w6=w5.setCell ⟨g,3,none⟩ (.bool true)→¬ (f.fate.now=[]∧f.sure=false)→DkTo w4 L (({ d with down:=false }:Dk).ons (ns.take (k+1))) w6 from fun w6 hw6 hno=>by
     obtain ⟨a1,a2,a3,a4,a5,a6,a7⟩:=HA1.out;have hc6:Ch (fun j=>j=g) w5 w6:=by rw [hw6];exact (Ch.refl (fun j=>j=g) w5).setCell (p:=⟨g,3,none⟩) rfl _
     rw [HG.out.2.2.2];refine DkTo.and HL.out.1 HL.out.2.1 HL.out.2.2 (HL2.out.onKeep HG.out.2.1 HG.out.1 (C':=C') (m':=m') ?_ a2 a3 (fun j hj hn=>?_) a5 a6 (a7.then hc6 fun j e=>.inl (.inl e)) hno)
     ·rw [hw6];exact a1.sured
     ·exact hc6.keep (a4 j hj hn) fun e=>a6 j (.inl e) hj)
    by_cases hfl0:fl=0
    ·have hz1:(fl:Int)=0:=by omega
     cases hsu:f.sure
     ·rw [hsu] at q3;have HSU:=hid hsu;obtain ⟨w6,hrun,hmp6,hgr6⟩:=HM5.out.del uv (a:=n) HG.out.2.2.1 0;have hc6:Ch (fun k=>k=L'.gm) w5 w6:=Ch.of_grown hgr6 fun k hk=>by injection hk with hk;exact hk.symm
      have hb6:=hc6.keep HA1.out.1.blk (fun e=>(HL2.out.fd _ HG.out.1 g (.inl rfl)).2.1 e);have p3:w6.cell? ⟨g,3,none⟩=some (.bool false):=by rw [← HSU.out];exact aa hb6 3
      have pz:=ab hb6 3;have pl:=af hb6
      have HR:=hid (show ∀ w7,w7=w6.setCell ⟨g,3,none⟩ (.bool true)→DkTo w4 L (({ d with down:=false }:Dk).ons (ns.take (k+1))) w7 from fun w7 hw7=>by
       obtain ⟨a1,a2,a3,a4,a5,a6,a7⟩:=HA1.out;have hc7:Ch (fun j=>j=g) w6 w7:=by rw [hw7];exact (Ch.refl (fun j=>j=g) w6).setCell (p:=⟨g,3,none⟩) rfl _
       rw [HG.out.2.2.2];exact DkTo.and HL.out.1 HL.out.2.1 HL.out.2.2 (HL2.out.onGone HG.out.2.1 HG.out.1 a1 a2 a3 a4 a5 a6 a7 ⟨HFN.out.2 hfl0,HSU.out⟩ hmp6 hc6 hc7))
      unfold dQ at hrun;clear hmp6 hgr6 hc6 hsu hb6;subst hfl0;go_wp2_with fail;have HRR:=hid (HR.out _ rfl);go_roundw
      case rel=>exact ⟨k+1,by have:=HK.out;omega,by go_num,HRR.out⟩
      case measure=>simp [intOf];omega
     ·rw [hsu] at q3;have HRR:=hid (HQ.out _ rfl (by rw [hsu];rintro ⟨-,h⟩;cases h));clear hsu;subst hfl0;go_wp2_with fail;go_roundw
      case rel=>exact ⟨k+1,by have:=HK.out;omega,by go_num,HRR.out⟩
      case measure=>simp [intOf];omega
    ·have hz1:¬ (fl:Int)=0:=by omega
     have HRR:=hid (HQ.out _ rfl (fun h=>hfl0 (HFN.out.1 h.1)));have hz2:((fl:Int) == 0)=false:=by simpa using hz1
     go_wp2_with fail;go_roundw
     case rel=>exact ⟨k+1,by have:=HK.out;omega,by go_num,HRR.out⟩
     case measure=>simp [intOf];omega
   ·obtain rfl:k=ns.length:=by omega
    rw [List.take_length] at HTO;clear hto hlt hk;go_wp2_with fail;exact bodyPost_end (results_none rfl _ _ _) rfl ⟨rfl,by
     rw [HNS0.out,HE.out];obtain ⟨L',l1,l2,l3,l4⟩:=HTO.out;exact ⟨L',l1,l2,fun k hk=>(l3 k hk).imp id fun e=>by have:=HS4.out.1;omega,HC4.out.trans l4⟩⟩
end Go.Proofs.YtdmhbgpejppbkaaGreat
namespace Go.Proofs.YtdmhbgpejppbkaaGreat
open Go.RowKit Go.Maps
def fulA:By:=aC [97]
def fulB:By:=aC [98]
def fulC:By:=aC [99]
def aH:He:=⟨1,2,0,0,0,1⟩
def aS (d:Dk) (ca:List On) (head:He) (base:Nat) (busy wrote:Bool) (work:He) (saves:List Sv) (notes:Option Jn) (gd:Nat):Pgr:=⟨d,3,ca,head,base,0,false,false,busy,wrote,work,saves,0,false,notes,false,gd⟩
def uB:Fi:=⟨[aF 1 0 0 (bI aH),aF 1 1 0 fulA],[some (aF 1 0 0 (bI aH)),some (aF 1 1 0 fulA)],[false,false],true⟩
def tO:Dk:=⟨[],200,false,0,0,0,0⟩
def vf:Dk:=⟨[(aI,uB)],200,false,0,0,0,0⟩
def aD6:Dk:=⟨[(aI,uB),(bg,⟨[aF 2 1 2 fulA],[none],[true],false⟩)],200,false,0,0,0,0⟩
def aD7:Dk:=⟨[(aI,uB)],200,false,1,0,0,0⟩
def h1:He:=⟨1,1,0,0,0,0⟩
def h2:He:=⟨1,2,0,0,0,0⟩
variable (gd:Nat)
def s0:Pgr:=aS tO [] h1 0 false false ⟨0,0,0,0,0,0⟩ [] none gd
def s1:Pgr:=aS tO [] h1 0 true false h1 [] none gd
def s2:Pgr:=aS tO [(1,ak cy,true)] h1 0 true true h2 [] none gd
def s3:Pgr:=aS tO [(1,ak fulA,true)] h1 0 true true h2 [] none gd
def s4:Pgr:=aS vf [(1,ak fulA,false)] aH 2 false false aH [] none gd
def s5:Pgr:=aS vf [(1,ak fulA,false)] aH 2 true false aH [] none gd
def aJ:Jn:=⟨2,2,1,0,[(1,true)]⟩
def s6:Pgr:=aS aD6 [(1,ak fulB,true)] aH 2 true true aH [] (some aJ) gd
def s7:Pgr:=aS aD6 [(1,ak fulB,true)] aH 2 true true aH [⟨aH,[]⟩] (some aJ) gd
def s8:Pgr:=aS aD6 [(1,ak fulC,true)] aH 2 true true aH [⟨aH,[(1,fulB)]⟩] (some aJ) gd
def s9:Pgr:=aS aD6 [(1,ak fulB,true)] aH 2 true true aH [⟨aH,[]⟩] (some aJ) gd
theorem uk:(Pgr.fresh (Dk.new 200) 3 gd).empty=s0 gd:=by rfl
theorem ui:(s0 gd).started=s1 gd:=by rfl
theorem uh:(s1 gd).new0=s2 gd:=by rfl
theorem ug:((s2 gd).change 1 [] fulA).wr=s3 gd:=by rfl
theorem iO (n:Int) (s:ByteArray):cI [(n,s,true)]=[⟨n,s⟩]:=by simp [cI,iY]
theorem uR:((((s3 gd).bump.main0 [⟨0,ak (bI aH)⟩,⟨1,ak fulA⟩]).based).tidy [⟨1,ak fulA⟩]).ended=s4 gd:=by kernel_rfl
theorem uf:(s3 gd).com0=s4 gd:=by
 have e1:(s3 gd).bump.comL=[⟨0,ak (bI aH)⟩,⟨1,ak fulA⟩]:=by unfold Pgr.comL;rw [show (s3 gd).bump.ca=[(1,ak fulA,true)] from rfl,iO];rfl
 unfold Pgr.com0;rw [e1];have e2:cI ((s3 gd).bump.main0 [⟨0,ak (bI aH)⟩,⟨1,ak fulA⟩]).ca=[⟨1,ak fulA⟩]:=by rw [show ((s3 gd).bump.main0 [⟨0,ak (bI aH)⟩,⟨1,ak fulA⟩]).ca=[(1,ak fulA,true)] from rfl,iO]
 rw [e2];exact uR gd
theorem ue:(s4 gd).started=s5 gd:=by rfl
theorem ud:((s5 gd).change 1 fulA fulB).wr=s6 gd:=by rfl
theorem uc:(s6 gd).saved=s7 gd:=by rfl
theorem ub:((s7 gd).change 1 fulB fulC).wr=s8 gd:=by rfl
theorem ua:(s8 gd).back 0 [(1,fulB)]=s9 gd:=by unfold Pgr.back;rw [show ii (([(1,fulB)]:List (Int × By)).map (·.1))=[1] by simp [ii]];rfl
end Go.Proofs.YtdmhbgpejppbkaaGreat
namespace Go.Proofs.YtdmhbgpejppbkaaGreat
open Go.RowKit Go.Maps
variable (gd:Nat)
theorem fA:fulA.length=232:=bY _
theorem iI:fulB.length=232:=bY _
theorem qp:fulC.length=232:=bY _
theorem sr:(s0 gd).Up:=⟨rfl,rfl,rfl,rfl⟩
theorem tY:(s1 gd).Up:=⟨rfl,rfl,rfl,rfl⟩
theorem tX:(s2 gd).Up:=⟨rfl,rfl,rfl,rfl⟩
theorem tW:(s3 gd).Up:=⟨rfl,rfl,rfl,rfl⟩
theorem tV:(s4 gd).Up:=⟨rfl,rfl,rfl,rfl⟩
theorem tU:(s5 gd).Up:=⟨rfl,rfl,rfl,rfl⟩
theorem tT:(s6 gd).Up:=⟨rfl,rfl,rfl,rfl⟩
theorem tS:(s7 gd).Up:=⟨rfl,rfl,rfl,rfl⟩
theorem tR:(s8 gd).Up:=⟨rfl,rfl,rfl,rfl⟩
theorem tQ:(s9 gd).Up:=⟨rfl,rfl,rfl,rfl⟩
theorem da (P:Pgr) {l:List Pg} (h:l=[]):bw P l:=by subst h;intro k x hx;cases hx
theorem eB {l:List Pg} (h:l=[]):l.length≤1000:=by subst h;exact Nat.zero_le _
theorem tD:CanChange (s2 gd) 1 [] fulA:=by
 have h1:(s2 gd).fj 1=false:=rfl;have h2:(s2 gd).fs 1=false:=rfl;refine ⟨⟨fun h=>?_,fun h=>?_,fun h=>?_,fun h=>?_,fun h=>?_⟩,by omega,eB rfl,da _ rfl⟩
 ·rw [h1,h2] at h;cases h
 ·rw [h1] at h;cases h
 ·rw [h1] at h;cases h
 ·rw [h1] at h;cases h
 ·rw [h2] at h;cases h
theorem tA:CanChange (s5 gd) 1 fulA fulB:=by
 have h2:(s5 gd).fs 1=false:=rfl;refine ⟨⟨fun _=>⟨⟨rfl,rfl⟩,by omega,fA,fun _=>rfl,fun h=>?_⟩,fun _ _=>rfl,fun _=>by show 1+1<18446744073709551616;omega,fun _ j hj=>?_,fun h=>?_⟩,by omega,eB rfl,da _ rfl⟩
 ·have h3:(dh ((1:Nat):Int) (s5 gd).ca).2=true:=rfl;rw [h3] at h;cases h
 ·have e:((s5 gd).fetch 1 fulA).note.notes=some ⟨2,2,0,0,[]⟩:=rfl;rw [e] at hj;injection hj with hj
  subst hj;exact ⟨⟨rfl,rfl⟩,fun _=>by show 1<8;omega,by show ((2:Nat):Int)<200;omega,by show 1<2;omega,by show 0<1000000;omega,by show 0<1000000;omega⟩
 ·rw [h2] at h;cases h
theorem tz:CanChange (s7 gd) 1 fulB fulC:=by
 have h1:(s7 gd).fj 1=false:=rfl;refine ⟨⟨fun _=>⟨⟨rfl,rfl⟩,by omega,iI,fun _=>rfl,fun h=>?_⟩,fun h=>?_,fun h=>?_,fun h=>?_,fun _=>⟨0,⟨aH,[]⟩,rfl,rfl,by show 0<1000000;omega⟩⟩,by omega,eB rfl,da _ rfl⟩
 ·have h3:(dh ((1:Nat):Int) (s7 gd).ca).2=true:=rfl;rw [h3] at h;cases h
 ·rw [h1] at h;cases h
 ·rw [h1] at h;cases h
 ·rw [h1] at h;cases h
theorem pU {K:List (Int × By)} (h:Mrg ((s8 gd).saves.drop 0).reverse K):K=[(1,fulB)]:=by
 have e:((s8 gd).saves.drop 0).reverse=[] ++ [⟨aH,[(1,fulB)]⟩]:=rfl;rw [e] at h;generalize hl:([] ++ [⟨aH,[(1,fulB)]⟩]:List Sv)=l at h;cases h with
 | nil=>cases hl
 | snoc h1 h2=>
   rename_i l' s' K' K3
   have e2:=List.append_inj' hl rfl;obtain ⟨e3,e4⟩:=e2;injection e4 with e4 _
   subst e3 e4;have e5:K'=[]:=by
    generalize hl2:([]:List Sv)=l2 at h1;cases h1 with
    | nil=>rfl
    | snoc _ _=>exact absurd hl2 (by simp)
   have e6:K3=[(1,fulB)]:=List.perm_singleton.1 h2;rw [e5,e6];rfl
theorem tx:CanBack (s8 gd) 0:=by
 refine ⟨by show 0<1;omega,fun s hs=>?_,by show 2≤4096;omega,fun K hK j n hj=>?_⟩
 ·have hs:s ∈ [(⟨aH,[(1,fulB)]⟩:Sv)]:=hs;rw [List.mem_singleton.1 hs];show 1≤10000;omega
 ·rw [pU gd hK] at hj ⊢;have e:ii (([(1,fulB)]:List (Int × By)).map (·.1))=[1]:=by simp [ii]
  rw [e] at hj ⊢;rcases j with _ | j
  ·injection hj with hj
   subst hj;exact ⟨by omega,by show 1<4096;omega,fun _=>eB rfl,fun _=>da _ rfl⟩
  ·cases hj
theorem tw:CanFetch (s9 gd) 1 fulB:=⟨⟨rfl,rfl⟩,by omega,iI,fun _=>rfl,fun h=>by
 have h3:(dh ((1:Nat):Int) (s9 gd).ca).2=true:=rfl;rw [h3] at h;cases h⟩
theorem np:aH.Good:=⟨.inl rfl,by show 2≤4096;omega,by show 0<2;omega,by show 0<2;omega,by show 0<2;omega,⟨fun _=>rfl,fun _=>rfl⟩,by show 1<18446744073709551616;omega⟩
def aL:List Pg:=[⟨0,ak (bI aH)⟩,⟨1,ak fulA⟩]
theorem fE:(s3 gd).bump.comL=aL:=by unfold Pgr.comL;rw [show (s3 gd).bump.ca=[(1,ak fulA,true)] from rfl,iO];rfl
def aDs:Dk:=⟨[(bg,⟨[aF 3 0 1 (bK 0 0)],[some (aF 3 0 1 (bK 0 0))],[false],true⟩)],200,false,0,0,0,0⟩
def aDt:Dk:=⟨[(bg,⟨[aF 3 0 1 (bK 0 0)],[some (aF 3 0 1 (bK 0 0))],[false],true⟩),(aI,⟨[aF 1 0 0 (bI aH)],[none],[true],false⟩)],200,false,0,0,0,0⟩
def aDu:Dk:=⟨[(bg,⟨[aF 3 0 1 (bK 0 0)],[some (aF 3 0 1 (bK 0 0))],[false],true⟩),(aI,⟨[aF 1 0 0 (bI aH),aF 1 1 0 fulA],[none,none],[true,true],false⟩)],200,false,0,0,0,0⟩
theorem nL:((s3 gd).bump.sealed.lays (aL.take 0)).d=aDs:=by kernel_rfl
theorem pY:((s3 gd).bump.sealed.lays (aL.take 1)).d=aDt:=by kernel_rfl
theorem lg:((s3 gd).bump.sealed.lays aL).d=aDu:=by kernel_rfl
theorem rG:CanMain (s3 gd).bump aL:=by
 refine ⟨rfl,fun _=>rfl,by show 0+1<18446744073709551616;omega,fun j hj=>?_,fun k x hx=>?_,by rw [lg];exact ⟨rfl,rfl⟩,by rw [lg];exact ⟨_,rfl⟩,by show 2≤1000;omega⟩
 ·have e:(s3 gd).bump.note.notes=some ⟨0,1,0,0,[]⟩:=rfl;rw [e] at hj;injection hj with hj
  subst hj;exact ⟨⟨rfl,rfl⟩,fun _=>by show 0<8;omega,by show ((0:Nat):Int)<200;omega,fun h=>(by cases h),by show 0<1000000;omega⟩
 ·rcases k with _ | _ | k
  ·injection hx with hx
   subst hx;refine ⟨by show (0:Int)≤0;omega,?_⟩;rw [nL];exact ⟨⟨rfl,rfl⟩,fun _=>by show 1<8;omega,by show ((1:Nat):Int)+((0:Nat):Int)+1≤200;omega,by show 0<4096;omega,iH aH⟩
  ·injection hx with hx
   subst hx;refine ⟨by show (0:Int)≤1;omega,?_⟩;rw [pY];exact ⟨⟨rfl,rfl⟩,fun h=>(by cases h),by show ((2:Nat):Int)+((1:Nat):Int)+1≤200;omega,by show 1<4096;omega,fA⟩
  ·cases hx
theorem tC:CanCom (s3 gd):=by
 have e:cI ((s3 gd).bump.main0 aL).ca=[⟨1,ak fulA⟩]:=by rw [show ((s3 gd).bump.main0 aL).ca=[(1,ak fulA,true)] from rfl,iO]
 refine ⟨np,by show 0+1<18446744073709551616;omega,by rw [fE];exact rG gd,fun x hx=>?_,?_,?_,?_,?_⟩
 ·rw [fE,e] at hx;rw [List.mem_singleton.1 hx];exact cR (n:=1) (by omega)
 ·rw [show (s3 gd).ca=[(1,ak fulA,true)] from rfl,iO];exact Nat.succ_le_of_lt (by decide)
 ·rw [fE,e];exact Nat.succ_le_of_lt (by decide)
 ·rw [fE];show 2≤4096;omega
 ·rw [fE];have e2:((s3 gd).bump.main0 aL).d=vf:=by kernel_rfl
  rw [e2];show ((2:Nat):Int)≤((2:Nat):Int);omega
def aD6o:Dk:=⟨aD6.files,200,true,1,0,0,0⟩
theorem ta:ie (aD6o.files.map (·.1))=[aI,bg]:=by have e:aD6o.files.map (·.1)=[aI,bg]:=rfl;rw [e];unfold ie;refine List.mergeSort_of_pairwise ?_;simp only [List.pairwise_cons,List.mem_cons,List.not_mem_nil,or_false,forall_eq,decide_eq_true_eq,false_imp_iff,implies_true,List.Pairwise.nil,and_true];decide
theorem on6:aD6o.onL [aI,bg]=aD7:=by kernel_rfl
theorem uw:aD7.Fine:=⟨rfl,rfl⟩
theorem uo:bm aD7 0 (bI aH):=⟨uB,rfl,rfl⟩
theorem un:bm aD7 1 fulA:=⟨uB,rfl,rfl⟩
def sP:Pgr:=(Pgr.fresh aD7 1 gd).found aH
theorem sH:(sP gd).Up:=⟨rfl,rfl,rfl,rfl⟩
theorem rY:CanFetch (sP gd) 1 fulA:=by have h3:(dh ((1:Nat):Int) (sP gd).ca).2=false:=rfl;exact ⟨⟨rfl,rfl⟩,by omega,fA,fun h=>(by rw [h3] at h;cases h),fun _=>⟨un,eB rfl,da _ rfl⟩⟩
theorem sG:((sP gd).fetch 1 fulA).Up:=⟨rfl,rfl,rfl,rfl⟩
end Go.Proofs.YtdmhbgpejppbkaaGreat
namespace Go.Proofs.YtdmhbgpejppbkaaGreat
open Go.RowKit Go.Maps
def AwI (w:World) (gp:Nat) (P:Pgr) (w':World):Prop:=∃ L,L.gp=gp∧PgIs w' L P∧(∀ k,L.F k→w.heap.size≤k)∧Below w.heap.size w w'
section
variable {w w1 w2:World} {gp:Nat} {P P':Pgr}
theorem AwI.post (h:AwI w gp P w1) (hb:Below w1.heap.size w1 w2):AwI w gp P w2:=by obtain ⟨L,h1,h2,h3,h4⟩:=h;exact ⟨L,h1,h2.below hb,h3,h4.trans (hb.mono h4.size)⟩
theorem AwI.below (h:AwI w gp P w1):Below w.heap.size w w1:=let ⟨_,_,_,_,h⟩:=h;h
theorem AwI.to {L:PgL} (h1:L.gp=gp) (h3:∀ k,L.F k→w.heap.size≤k) (h4:Below w.heap.size w w1) (ht:PTo w1 L P' w2):AwI w gp P' w2:=by
 obtain ⟨L',e1,e2,e3,e4⟩:=ht;refine ⟨L',e1.trans h1,e2,fun k hk=>?_,h4.trans (e4.below (B:=w.heap.size) h4.size h3)⟩;rcases e3 k hk with e | e
 ·exact h3 k e
 ·exact Nat.le_trans h4.size e
theorem AwI.call {f:FuncId} {args:Array Value} {r:Ending} (h:AwI w gp P w1) (hc:∀ L,L.gp=gp→PgIs w1 L P→Calls Tryz.prog f args w1 fun e w2=>e=r∧PTo w1 L P' w2):Calls Tryz.prog f args w1 fun e w2=>e=r∧AwI w gp P' w2:=by obtain ⟨L,h1,h2,h3,h4⟩:=h;exact (hc L h1 h2).mono fun e w2 ⟨he,ht⟩=>⟨he,AwI.to h1 h3 h4 ht⟩
theorem AwI.quiet {f:FuncId} {args:Array Value} {r:Ending} (h:AwI w gp P w1) (hc:∀ L,L.gp=gp→PgIs w1 L P→Calls Tryz.prog f args w1 fun e w2=>e=r∧Below w1.heap.size w1 w2):Calls Tryz.prog f args w1 fun e w2=>e=r∧AwI w gp P w2:=by obtain ⟨L,h1,h2,h3,h4⟩:=h;exact (hc L h1 h2).mono fun e w2 ⟨he,hb⟩=>⟨he,AwI.post ⟨L,h1,h2,h3,h4⟩ hb⟩
variable {gd:Nat}
theorem tH (w:World):Calls Tryz.prog 10 #[.int .i64 200] w fun e w'=>∃ L:DkM,e=.returned (.pointer (some ⟨L.gd,0,none⟩))∧DkIs w' L tO∧(∀ k,L.F k→w.heap.size≤k)∧Below w.heap.size w w':=lx 200 w
theorem qP {D:DkM} (h:DkIs w1 D tO) (hF:∀ k,D.F k→w.heap.size≤k) (hb:Below w.heap.size w w1):Calls Tryz.prog 11 #[.pointer (some ⟨D.gd,0,none⟩),.int .i64 3] w1 fun e w2=>∃ gp,e=.returned (.tuple #[.pointer (some ⟨gp,0,none⟩),.int .i64 0])∧AwI w gp (s0 D.gd) w2:=
 (ip 3 w1 h rfl rfl).mono fun e w2 ⟨L,he,hp,h3,h4⟩=>⟨L.gp,he,L,rfl,by rw [← uk];exact hp,fun k hk=>(h3 k hk).elim (hF k) fun e=>Nat.le_trans hb.size e,hb.trans (h4.below (B:=w.heap.size) hb.size hF)⟩
theorem mI (h:AwI w gp (s0 gd) w1):Calls Tryz.prog 36 #[.pointer (some ⟨gp,0,none⟩)] w1 fun e w2=>e=.returned (.int .i64 40)∧AwI w gp (s0 gd) w2:=
 h.quiet fun L hg hp=>by rw [← hg];exact ke w1 hp (sr gd) rfl
theorem oV (h:AwI w gp (s0 gd) w1):Calls Tryz.prog 19 #[.pointer (some ⟨gp,0,none⟩)] w1 fun e w2=>e=.returned (.int .i64 0)∧AwI w gp (s1 gd) w2:=
 h.call fun L hg hp=>by rw [← hg,← ui];exact eL w1 hp (sr gd)
theorem tI (h:AwI w gp (s1 gd) w1):Calls Tryz.prog 37 #[.pointer (some ⟨gp,0,none⟩)] w1 fun e w2=>e=.returned (.tuple #[.int .i64 1,.int .i64 0])∧AwI w gp (s2 gd) w2:=
 h.call fun L hg hp=>by rw [← hg,← uh];exact nY w1 hp (tY gd) rfl rfl (by show 1<4096;omega) (by show 0≤1;omega) rfl (eB rfl) (da _ rfl)
theorem sg (h:AwI w gp (s2 gd) w1):Calls Tryz.prog 38 #[.pointer (some ⟨gp,0,none⟩),.int .i64 1,.string (ak fulA)] w1 fun e w2=>e=.returned (.int .i64 0)∧AwI w gp (s3 gd) w2:=
 h.call fun L hg hp=>by rw [← hg,← ug];exact fX 1 [] fulA w1 hp (tX gd) rfl (by omega) (by show 1<2;omega) fA (tD gd)
theorem oT (h:AwI w gp (s3 gd) w1):Calls Tryz.prog 36 #[.pointer (some ⟨gp,0,none⟩)] w1 fun e w2=>e=.returned (.int .i64 0)∧AwI w gp (s4 gd) w2:=
 h.call fun L hg hp=>by rw [← hg,← uf];exact kh w1 hp (tW gd) rfl rfl (tC gd)
theorem oU (h:AwI w gp (s4 gd) w1):Calls Tryz.prog 19 #[.pointer (some ⟨gp,0,none⟩)] w1 fun e w2=>e=.returned (.int .i64 0)∧AwI w gp (s5 gd) w2:=
 h.call fun L hg hp=>by rw [← hg,← ue];exact eL w1 hp (tV gd)
theorem sf (h:AwI w gp (s5 gd) w1):Calls Tryz.prog 38 #[.pointer (some ⟨gp,0,none⟩),.int .i64 1,.string (ak fulB)] w1 fun e w2=>e=.returned (.int .i64 0)∧AwI w gp (s6 gd) w2:=
 h.call fun L hg hp=>by rw [← hg,← ud];exact fX 1 fulA fulB w1 hp (tU gd) rfl (by omega) (by show 1<2;omega) iI (tA gd)
theorem sd (h:AwI w gp (s6 gd) w1):Calls Tryz.prog 40 #[.pointer (some ⟨gp,0,none⟩)] w1 fun e w2=>e=.returned (.int .i64 0)∧AwI w gp (s7 gd) w2:=
 h.call fun L hg hp=>by rw [← hg,← uc];exact nW w1 hp (tT gd) rfl (by show 0<16;omega)
theorem se (h:AwI w gp (s7 gd) w1):Calls Tryz.prog 38 #[.pointer (some ⟨gp,0,none⟩),.int .i64 1,.string (ak fulC)] w1 fun e w2=>e=.returned (.int .i64 0)∧AwI w gp (s8 gd) w2:=
 h.call fun L hg hp=>by rw [← hg,← ub];exact fX 1 fulB fulC w1 hp (tS gd) rfl (by omega) (by show 1<2;omega) qp (tz gd)
theorem sm (h:AwI w gp (s8 gd) w1):Calls Tryz.prog 41 #[.pointer (some ⟨gp,0,none⟩),.int .i64 1] w1 fun e w2=>e=.returned (.int .i64 0)∧AwI w gp (s9 gd) w2:=
 h.call fun L hg hp=>by
  rw [← hg,← ua];refine (oc 0 w1 hp (tR gd) rfl (tx gd)).mono ?_;rintro e w2 ⟨he,K,hM,hto⟩;rw [pU gd hM] at hto;exact ⟨he,hto⟩
def uH (gd:Nat):Pgr:=(s9 gd).fetch 1 fulB
theorem sk (h:AwI w gp (s9 gd) w1):Calls Tryz.prog 18 #[.pointer (some ⟨gp,0,none⟩),.int .i64 1] w1 fun e w2=>e=.returned (.tuple #[.string (ak fulB),.int .i64 0])∧AwI w gp (uH gd) w2:=
 h.call fun L hg hp=>by rw [← hg];exact jo 1 fulB w1 hp (tQ gd) (by omega) (by show 1<2;omega) (tw gd) rfl
def uT (gd:Nat):Pgr:={ uH gd with d:=aD6o }
def uS (gd:Nat):Pgr:={ uH gd with d:=aD7 }
def s13 (gd:Nat):Pgr:={ uS gd with over:=true }
theorem tG (h:AwI w gp (uH gd) w1):Calls Tryz.prog 15 #[.pointer (some ⟨gd,0,none⟩)] w1 fun e w2=>e=.returned (.tuple #[])∧AwI w gp (uT gd) w2:=
 h.call fun L hg hp=>by
  have e0:L.D.gd=gd:=hp.gd;have h0:=rA w1 hp.dk (by show (0:Int)<1000000;omega);rw [e0] at h0;refine h0.mono ?_;rintro e w2 ⟨he,hd,hc⟩;have hk:=PTo.dk (d:=aD6o) hp ⟨L.D,rfl,hd,fun _ hk=>.inl hk,hc.mono fun k _ ek=>.inl (ek.trans e0.symm)⟩;exact ⟨he,hk⟩
theorem uz (h:AwI w gp (uT gd) w1):Calls Tryz.prog 16 #[.pointer (some ⟨gd,0,none⟩),.slice none 0 0] w1 fun e w2=>e=.returned (.tuple #[])∧AwI w gp (uS gd) w2:=
 h.call fun L hg hp=>by
  have e:L.D.gd=gd:=hp.gd;have h0:=sT w1 hp.dk;rw [e] at h0;refine h0.mono ?_;rintro e w2 ⟨he,hto⟩;have e2:(uT gd).d=aD6o:=rfl;rw [e2,ta,on6] at hto;have hk:=PTo.dk (d:=aD7) hp hto;exact ⟨he,hk⟩
theorem sj (h:AwI w gp (uS gd) w1):Calls Tryz.prog 18 #[.pointer (some ⟨gp,0,none⟩),.int .i64 1] w1 fun e w2=>e=.returned (.tuple #[.string ⟨#[]⟩,.int .i64 10])∧AwI w gp (s13 gd) w2:=
 h.call fun L hg hp=>by rw [← hg];exact oa 1 w1 hp (.inr (.inr (by show (1:Int)≠0;omega)))
theorem qO (h:AwI w gp (s13 gd) w1):Calls Tryz.prog 11 #[.pointer (some ⟨gd,0,none⟩),.int .i64 1] w1 fun e w2=>∃ gq,e=.returned (.tuple #[.pointer (some ⟨gq,0,none⟩),.int .i64 0])∧AwI w gq (sP gd) w2:=by
 obtain ⟨L,hg,hp,h3,h4⟩:=h;have e:L.D.gd=gd:=hp.gd;have hDF:∀ k,L.D.F k→w.heap.size≤k:=fun k hk=>h3 k (.inr (.inl hk))
 have hdk:DkIs w1 L.D aD7:=hp.dk;have hpo:=mn aH 1 w1 hdk uw rfl uo np rfl;rw [e] at hpo;exact hpo.mono fun e w2 ⟨L',he,hp',h3',h4'⟩=>⟨L'.gp,he,L',rfl,hp',fun k hk=>(h3' k hk).elim (hDF k) fun e=>Nat.le_trans h4.size e,h4.trans (h4'.below (B:=w.heap.size) h4.size hDF)⟩
def uj (gd:Nat):Pgr:=(sP gd).fetch 1 fulA
theorem qR (h:AwI w gp (sP gd) w1):Calls Tryz.prog 18 #[.pointer (some ⟨gp,0,none⟩),.int .i64 1] w1 fun e w2=>e=.returned (.tuple #[.string (ak fulA),.int .i64 0])∧AwI w gp (uj gd) w2:=
 h.call fun L hg hp=>by rw [← hg];exact jo 1 fulA w1 hp (sH gd) (by omega) (by show 1<2;omega) (rY gd) rfl
theorem qQ (h:AwI w gp (uj gd) w1):Calls Tryz.prog 18 #[.pointer (some ⟨gp,0,none⟩),.int .i64 2] w1 fun e w2=>e=.returned (.tuple #[.string ⟨#[]⟩,.int .i64 21])∧AwI w gp (uj gd) w2:=
 h.quiet fun L hg hp=>by rw [← hg];exact nZ 2 w1 hp (sG gd) (by show 2≤2;omega) (by omega)
theorem si (h:AwI w gp (uj gd) w1):Calls Tryz.prog 13 #[.pointer (some ⟨gp,0,none⟩)] w1 fun e w2=>e=.returned (.agg #[.int .i64 1,.int .i64 2,.int .i64 0,.int .i64 0,.int .i64 0,.int .u64 1])∧AwI w gp (uj gd) w2:=
 h.quiet fun L hg hp=>by rw [← hg];exact jk w1 hp
theorem ky (n:UInt8) (w:World):Calls Tryz.prog 39 #[.string ⟨#[n]⟩] w fun e w'=>e=.returned (.string (ak (aC [n])))∧Below w.heap.size w w':=lo ⟨#[n]⟩ w
end
end Go.Proofs.YtdmhbgpejppbkaaGreat
