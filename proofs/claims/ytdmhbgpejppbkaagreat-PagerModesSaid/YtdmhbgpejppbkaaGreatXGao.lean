/- disk: settle, Sync, Drop, Cut, New, Off. disk: Sync, Drop, Cut. A disk without faults that is up: its operations go well. mix.Sum: some function of the number and the bytes. -/
import Derived.Test.YtdmhbgpejppbkaaGreatXGan
import Derived.Test.YtdmhbgpejppbkaaGreatXGad
import Derived.Test.YtdmhbgpejppbkaaGreatXGae
import Derived.Laws.OwnMore
import Derived.WalkArith
import Derived.IntWalk
import Derived.Laws.BitsAllLaws
import Derived.BigRegion
set_option maxRecDepth 100000
set_option maxHeartbeats 2000000
namespace Go.Proofs.YtdmhbgpejppbkaaGreat
open Go.Lib (hid)
open Go.RowKit Go.Maps
theorem ld (w:World) (n:Nat) (h:n≤1000000):(Instr.makeSlice 85 (.int .i64 n) (.int .i64 n)).run Tryz.prog w=.ok (.slice (some ⟨w.heap.size,0,none⟩) n n) (w.alloc (.cells ((List.replicate n false).flatMap bC).toArray 4)):=by
 obtain ⟨i,hi,hz,hsz,hby⟩:∃ i,Tryz.prog.info? 4=some i∧i.zero=some (.bool false)∧i.size=1∧i.bytes=1:=by
  have h:=(show (Tryz.prog.info? 4).map (fun i=>(i.zero,i.size,i.bytes))=some (some (.bool false),1,1) by kernel_rfl);cases hi:Tryz.prog.info? 4 with
  | none=>rw [hi] at h;cases h
  | some i=> rw [hi] at h;simp only [Option.map_some,Option.some.injEq,Prod.mk.injEq] at h;exact ⟨i,rfl,h.1,h.2.1,h.2.2⟩
 have e:madeCells (Value.cells (.bool false)) n=((List.replicate n false).flatMap bC).toArray:=by
  rw [← Array.toList_inj,show Value.cells (.bool false)=#[.bool false] from rfl,toList_madeCells_one];clear h
  induction n with
  | zero=>rfl
  | succ n ih=> rw [List.replicate_succ,List.replicate_succ,List.flatMap_cons,ih];rfl
 rw [run_make w 85 4 i _ Tryz.underlying85 hi hz .i64 .i64 n n (by omega) (Int.le_refl _) (by rw [hby];omega) (by omega),hsz,Nat.mul_one,Int.toNat_natCast,e]
theorem mj (xs:List (Option Nat)) (v:Value) (w:World) (h:Sl pC 1 w v xs) (hn:xs.length≤100000):
  Calls Tryz.prog 120 #[v] w fun e w'=>∃ v',e=.returned v'∧Own pC 1 98 w.heap.size w' v' xs∧Below w.heap.size w w':=by
 have hu:=Tryz.underlying84;have q:∀ (w:World) (a:Option Addr) (n c n' c':Nat),(binOp .eql 84 (.slice a n c) (.slice none n' c')).run Tryz.prog w=.ok (.bool a.isNone) w:=fun w a n c n' c'=>Lib.run_eql_slice_nil w _ _ a n c n' c' hu
 have H:=hid (h.keep ((Below.refl _ w).alloc (Nat.le_refl _) (.cells #[] 98)));have HO:=hid (show Own pC 1 98 w.heap.size (w.alloc (.cells #[] 98)) (.slice (some ⟨w.heap.size,0,none⟩) 0 0) ([]:List (Option Nat)) from World.ownsRow_made w #[] 0 (Nat.le_refl _) (Nat.zero_le _) (by simp));have hsz:w.heap.size≤(w.alloc (.cells #[] 98)).heap.size:=by simp
 obtain ⟨A,c,rfl⟩:=Sl.len' h;rcases A with _ | ⟨b,off,sp⟩
 ·have hx:xs=[]:=by
   obtain ⟨A',c',he,h3⟩:=h;by_cases hne:xs=[]
   ·exact hne
   ·obtain ⟨b,off,rfl,_⟩:=h3 hne;injection he with e1;cases e1
  clear h H HO;go_enter Tryz.func120,Tryz.ntmps120;go_wp2_with fail;go_ret;exact ⟨_,rfl,by rw [hx];exact Own.nil,Below.refl _ _⟩
 ·clear h;go_enter Tryz.func120,Tryz.ntmps120;go_wp2_with (at_builtin;refine hid (dx rfl rfl Au rfl rfl HO.out H.out (by unfold maxLen;simp;omega) (by simp;omega) hsz ?_) |>.out);intro v' w' h1 h2 h3;have HB:=hid (show Below w.heap.size w w' from ((Below.refl _ w).alloc (Nat.le_refl _) _).grown h2 hsz (by intro k hk;simp [Value.ownBlock] at hk;omega));have H1:=hid h1;clear h1 h2 h3;go_wp2_with fail;go_ret;exact ⟨v',rfl,H1.out,HB.out⟩
theorem rk (w:World) {C:Nat→Prop} {E:Nat→By} {g:Nat} {m:FilM} {f:Fi} (h:FilIs w C E g m f) (hok:f.Ok):
  Calls Tryz.prog 83 #[ai g] w fun e w'=>e=.returned (.tuple #[])∧∃ m',FilIs w' C E g m' f.settle∧(∀ k,m'.own g k→m.own g k∨w.heap.size≤k)∧Ch (fun k=>k=g) w w':=by
 have hn:=hok.n;have hlp:m.ps.length=f.now.length:=by rw [h.now];simp
 obtain ⟨A,c,hv⟩:=h.lenV;have HH:=hid h;obtain ⟨b0,b1,b2,b3,hgl,hfz⟩:=bd h.blk;have f1:=hfz 1;have f2:=hfz 2;have f3:=hfz 3;have HCL:=hid (mj (m.ps.map some) m.vn w (h.on.sl cJ) (by simp;omega));rw [hv] at b0 HCL;clear h hfz;unfold ai;go_enter Tryz.func83,Tryz.ntmps83;go_wp2_with fail;refine HCL.out.mono ?_;rintro e w1 ⟨v1,rfl,ho1,hb1⟩;obtain ⟨A1,n1,c1,rfl⟩:=dW ho1;have HO1:=hid ho1;have HB1:=hid hb1;have hs1:=hb1.size;have HG1:=hid (aB HH.out.blk hb1);obtain ⟨d0,d1,d2,d3,hgl1,hfz1⟩:=bd HG1.out;rw [hv] at d0;have g1:=hfz1 1;have HG2:=hid (ae HG1.out 1 (.slice A1 n1 c1));have HC2:=hid ((Ch.of_below (S:=fun k=>k=g) hb1).setCell (p:=⟨g,1,none⟩) rfl (.slice A1 n1 c1));have HO2:=hid (ho1.ch ((Ch.refl (fun k=>k=g) w1).setCell (p:=⟨g,1,none⟩) rfl (.slice A1 n1 c1)) (fun k hk e=>by have:=(ho1.lt k hk).1;omega));have hs2:(w1.setCell ⟨g,1,none⟩ (.slice A1 n1 c1)).heap.size=w1.heap.size:=by simp
 clear ho1 hb1 hfz1 b0 b1 b2 b3 f1 f2 f3;go_upto_region 1 with fail
 generalize w1.setCell ⟨g,1,none⟩ (.slice A1 n1 c1)=w2 at *;have e0:w2.cell? ⟨g,0,none⟩=some (.slice A f.now.length c):=by rw [aa HG2.out 0,← hv];rfl
 have e2:w2.cell? ⟨g,2,none⟩=some m.vw:=aa HG2.out 2;have e3:w2.cell? ⟨g,3,none⟩=some (.bool f.sure):=aa HG2.out 3;have k2:=ah HG2.out 2;have k3:=ah HG2.out 3;have hgl2:=ab HG2.out;have hmk:=ld w2 f.now.length (by omega);obtain ⟨vw,hvw⟩:∃ vw,vw=Value.slice (some ⟨w1.heap.size,0,none⟩) f.now.length f.now.length:=⟨_,rfl⟩;obtain ⟨w4,hw4⟩:∃ w4,w4=((w2.setCell ⟨g,2,none⟩ vw).setCell ⟨g,3,none⟩ (.bool true)):=⟨_,rfl⟩;have HG4:=hid (show w4.heap[g]?=some (.cells #[m.vn,.slice A1 n1 c1,vw,.bool true] 87 (0,0)) by rw [hw4];exact ae (ae HG2.out 2 vw) 3 (.bool true));have HC4:=hid (show Ch (fun k=>k=g) w2 w4 by rw [hw4];exact ((Ch.refl (fun k=>k=g) w2).setCell (p:=⟨g,2,none⟩) rfl vw).setCell (p:=⟨g,3,none⟩) rfl (.bool true));have hs4:w4.heap.size=w1.heap.size:=by rw [hw4];simp [hs2]
 have hbA:Below w4.heap.size w4 (w4.alloc (.cells ((List.replicate f.now.length false).flatMap bC).toArray 4)):=(Below.refl _ _).alloc (Nat.le_refl _) _;have HWA:=hid (show Own bC 1 4 0 (w4.alloc (.cells ((List.replicate f.now.length false).flatMap bC).toArray 4)) vw (List.replicate f.now.length false) from by
  have hl:((List.replicate f.now.length false).flatMap bC).length=f.now.length:=by rw [dw bC 1 gC,List.length_replicate,Nat.mul_one]
  have h1:=World.ownsRow_lit (base:=0) (e:=4) w4 ((List.replicate f.now.length false).flatMap bC).toArray f.now.length (size:=1) (Nat.zero_le _) (by unfold maxLen;omega) (by simp [hl]);rw [hs4] at h1;unfold Own;rw [List.length_replicate,hvw];simpa using h1)
 have HCF:=hid ((HC2.out.trans HC4.out).trans (Ch.of_below hbA));have HF:=hid (show FilIs (w4.alloc (.cells ((List.replicate f.now.length false).flatMap bC).toArray 4)) C E g ⟨m.vn,.slice A1 n1 c1,vw,m.ps,m.ps.map some⟩ f.settle from by
  have hv1:∀ k,(Value.slice A1 n1 c1).ownBlock=some k→w.heap.size≤k∧k<w1.heap.size:=fun k hk=>HO1.out.lt k hk
  have hgw:=ab HH.out.blk;have hvk:∀ k,vw.ownBlock=some k→k=w1.heap.size:=fun k hk=>by rw [hvw] at hk;injection hk with hk;exact hk.symm
  refine ⟨ar HG4.out _,HH.out.on.ch HCF.out fun k hk e=>HH.out.g1 (e ▸ hk),((HO2.out.ch HC4.out fun k hk e=>by have:=(hv1 k hk).1;omega).below hbA).base (Nat.zero_le _),HWA.out,HH.out.now,?_,HH.out.pc,fun p hp=>?_,HH.out.g1,fun e=>?_,fun e=>?_,fun k h1 h2=>?_,fun k h1 h2=>?_,fun k h1 h2=>?_⟩
  ·show f.now.map some=(m.ps.map some).map (Option.map E);rw [HH.out.now,List.map_map,List.map_map];rfl
  ·obtain ⟨q,hq,e⟩:=List.mem_map.1 hp;injection e with e
   exact e ▸ HH.out.pc q hq
  ·have:=(hv1 g e).1;omega
  ·have:=hvk g e;omega
  ·have:=(hv1 k h2).1;have:=(HH.out.on.lt k h1).2;omega
  ·have:=hvk k h2;have:=(HH.out.on.lt k h1).2;omega
  ·have:=hvk k h2;have:=(hv1 k h1).2;omega)
 go_wp2_with fail;refine bodyPost_end (results_none rfl _ _ _) rfl ⟨rfl,⟨m.vn,.slice A1 n1 c1,vw,m.ps,m.ps.map some⟩,?_,?_,?_⟩
 ·have:=HF.out;rw [hw4,hvw] at this;rw [hvw];exact this
 ·intro k hk;rcases hk with hk | hk | hk | hk
  ·exact .inl (.inl hk)
  ·exact .inl (.inr (.inl hk))
  ·exact .inr (HO1.out.lt k hk).1
  ·right;have hk:vw.ownBlock=some k:=hk;rw [hvw] at hk;injection hk with hk;simp only at hk;omega
 ·have:=HCF.out;rw [hw4,hvw] at this;exact this
theorem fD (A:Option Addr) (n c n' c':Nat):(Value.slice A n c).ownBlock=(Value.slice A n' c').ownBlock:=by
 cases A with
 | none=>rfl
 | some a=>rfl
theorem aD {α:Type} {f:α→List Value} {size:Nat} {e:TypeId} {base:Nat} {w:World} {v:Value} {xs:List α} (h:Own f size e base w v xs):∃ A c,v=.slice A xs.length c∧xs.length≤c:=by
 rcases h.2 with ⟨hv,h0⟩ | ⟨g,cap,cur,hv,_,_,hn,_⟩
 ·exact ⟨none,0,by rw [hv,h0],by omega⟩
 ·exact ⟨_,_,hv,hn⟩
theorem qK {d:Dk} {n:By} {r:Bool} (h:dQ d n r=0):iw d n r=0∧∃ f,d.file n=some f:=by
 unfold dQ at h;by_cases h0:iw d n r=0
 ·rw [if_neg (by simpa using h0)] at h;refine ⟨h0,?_⟩;cases hf:d.file n with
  | some f=>exact ⟨f,rfl⟩
  | none=>rw [hf] at h;cases h
 ·rw [if_pos h0] at h;exact absurd h h0
theorem FndP.at_ {w:World} {d:Dk} {n:By} {r:Bool} {L:DkM} {v:Value} (hv:FndP d n r L v) (h:DkIs w L (dT d n r)) (h0:dQ d n r=0):∃ f g,d.file n=some f∧v=ai g∧(n,g) ∈ L.K∧FilIs w L.C L.E g (L.M g) f:=by obtain ⟨h1,f,hf⟩:=qK h0;obtain ⟨g,h2,h3,h4⟩:=h.fso (n:=n) (f:=f) (by rw [bT];exact hf);refine ⟨f,g,hf,?_,h3,h4⟩;unfold FndP at hv;rw [if_neg (by simpa using h1),h2] at hv;exact hv
theorem mP {f:Fi} (h:f.Ok):f.settle.Ok:=⟨by simp [Fi.settle],by simp [Fi.settle],h.sec,h.n,fun s hs=>by
 obtain ⟨t,ht,e⟩:=List.mem_map.1 hs;injection e with e
 exact e ▸ h.sec t ht⟩
theorem xm {f:Fi} (h:f.Ok) (k:Nat):(f.cut k).Ok:=by have h1:=h.ls;have h2:=h.lw;have h3:=h.n;exact ⟨by simp [Fi.cut,h1],by simp [Fi.cut,h2],fun s hs=>h.sec s (List.mem_of_mem_take hs),by simp only [Fi.cut,List.length_take];omega,fun s hs=>h.ssec s (List.mem_of_mem_take hs)⟩
theorem gG {α β:Type} [DecidableEq α] {K:List (α × β)} (hn:(K.map (·.1)).Nodup) {a:α} {b:β} (h:(a,b) ∈ K):aX K a b=K:=by
 unfold aX;rw [if_pos (List.mem_map.2 ⟨_,h,rfl⟩)];refine (List.map_congr_left fun p hp=>?_).trans (List.map_id _)
 split
 ·rename_i e
  have h1:=ci hn (show (p.1,p.2) ∈ K from hp);rw [e,ci hn h] at h1;injection h1 with h1
  subst e h1;rfl
 ·rfl
theorem DkIs.turnFile {w w':World} {L:DkM} {d d':Dk} (h:DkIs w L d) {n:By} {g:Nat} {m':FilM} {f f':Fi} (hf:d.file n=some f) (hm:(n,g) ∈ L.K) (hc:Ch ((L.M g).own g) w w') (hi:FilIs w' L.C L.E g m' f') (ho:∀ k,m'.own g k→(L.M g).own g k∨w.heap.size≤k)
  (hok:f'.Ok) (hd:d'={ d with files:=aX d.files n f' }):∃ L',L'.gd=L.gd∧DkIs w' L' d'∧∀ k,L'.F k→L.F k∨w.heap.size≤k:=by
 have hng:=h.fd _ hm
 have h1:=h.setFile (n:=n) (g:=g) (mo:=L.M g) (m':=m') (f':=f') (C':=L.C) (E':=L.E) (d':=d') (.inl ⟨hm,rfl⟩) (hc.mono fun k _ e=>.inl e)
  (by rw [gG h.map.nd hm];exact h.map.ch hc fun e=>(hng _ e).2.1 rfl) (fun _ h=>h) (fun _ _=>rfl) (fun _ h=>.inl h) (fun k h hn=>absurd h hn) hi ho
  (fun k hk hc=>by
    rcases ho k hk with h2 | h2
    ·exact (hng k h2).2.2 hc
    ·have:=h.lt (.inr (.inr (.inl hc)));omega)
  (by rw [hd];exact fb h.ok hok fun hno=>by rw [hf] at hno;cases hno) (by rw [hd]) (fun gm ops=>by rw [hd];rfl)
 refine ⟨⟨L.gd,L.gm,aX L.K n g,L.C,L.E,fun k=>if k=g then m' else L.M k⟩,rfl,h1.1,fun k hk=>?_⟩;rcases h1.2 k hk with h2 | h2 | h2
 ·exact .inl h2
 ·exact .inl (.inr (.inr (.inr ⟨_,hm,h2⟩)))
 ·exact .inr h2
theorem dJ (n:By) (hn:n.length≤1000) (w:World) {L:DkM} {d:Dk} (h:DkIs w L d):
  Calls Tryz.prog 161 #[.pointer (some ⟨L.gd,0,none⟩),cZ n] w fun e w'=>e=.returned (.int .i64 (dQ d n true))∧∃ L',L'.gd=L.gd∧DkIs w' L' (xI d n)∧(∀ k,L'.F k→L.F k∨w.heap.size≤k)∧Ch L.F w w':=by
 have HH:=hid h;clear h;go_enter Tryz.func161,Tryz.ntmps161;unfold cZ;go_wp2_with fail;refine (dG n hn true w HH.out).mono ?_;rintro e w1 ⟨v,rfl,hv,hd,hc⟩;by_cases h0:dQ d n true=0
 ·have HS:=hid (show xI d n=(dT d n true).setF n Fi.settle by unfold xI;rw [if_pos h0]);obtain ⟨f,g,hf,rfl,hm,hi⟩:=hv.at_ hd h0;have hok:=cD HH.out.ok hf;have HSE:=hid (rk w1 hi hok);have HD:=hid hd;have HC:=hid (hc.mono (S':=L.F) fun k _ e=>.inl e);clear hd hc hi hv;rw [h0];unfold ai at *;go_wp2_with fail;refine HSE.out.mono ?_;rintro e w2 ⟨rfl,m',hi2,ho2,hc2⟩;have hsz:=HC.out.size;have HT:=hid (HD.out.turnFile (d':=xI d n) (f:=f) (by rw [bT];exact hf) hm (hc2.mono fun k _ e=>.inl e) hi2 ho2 (mP hok) (by rw [HS.out];unfold Dk.setF;rw [bT,hf];rfl));have HC2:=hid (HC.out.trans (hc2.mono (S':=L.F) fun k _ e=>.inr (.inr (.inr ⟨_,hm,.inl e⟩))));clear hi2 ho2 hc2;go_wp2_with fail;go_ret;obtain ⟨L',l1,l2,l3⟩:=HT.out;exact ⟨by rw [h0];rfl,L',l1,l2,fun k hk=>(l3 k hk).imp id fun e=>by omega,HC2.out⟩
 ·have HS:=hid (show xI d n=dT d n true by unfold xI;rw [if_neg h0]);have HD:=hid hd;have HC:=hid (hc.mono (S':=L.F) fun k _ e=>.inl e);clear hd hc hv;obtain ⟨x,hxe⟩:∃ x,dQ d n true=x:=⟨_,rfl⟩;have HX:=hid hxe;rw [hxe] at h0 ⊢;have hx:(x == 0)=false:=by simpa using h0
  clear hxe;go_wp2_with fail;go_ret;exact ⟨by rw [HX.out];rfl,L,rfl,by rw [HS.out];exact HD.out,fun k hk=>.inl hk,HC.out⟩
theorem DkIs.dropFile {w w':World} {L:DkM} {d d':Dk} (h:DkIs w L d) {n:By} (hc:Ch (fun k=>k=L.gm) w w') (hm:pk w' L.gm (cR L.K n)) (hd:d'={ d with files:=cR d.files n }):
  DkIs w' ⟨L.gd,L.gm,cR L.K n,L.C,L.E,L.M⟩ d'∧∀ k,(DkM.mk L.gd L.gm (cR L.K n) L.C L.E L.M).F k→L.F k:=by
 have hsub:∀ p ∈ cR L.K n,p ∈ L.K∧p.1≠n:=fun p hp=>by
  have:=List.mem_filter.1 hp;exact ⟨this.1,by simpa using this.2⟩
 have hkeys:∀ {β:Type} (K:List (By × β)),(cR K n).map (·.1)=(K.map (·.1)).filter fun m=>!decide (m=n):=fun K=>by
  unfold cR
  induction K with
  | nil=>rfl
  | cons p K ih=>
    rw [List.map_cons,List.filter_cons,List.filter_cons]
    split
    ·rw [List.map_cons,ih]
    ·exact ih
 subst hd;refine ⟨⟨⟨kx h.ok.nd,Nat.le_trans (List.length_filter_le _ _) h.ok.few,fun p hp=>h.ok.fok p (List.mem_filter.1 hp).1,h.ok.room,h.ok.life,h.ok.at_,h.ok.kind,h.ok.more⟩,?_,hm,?_,?_,?_,h.nm,h.cd,?_,?_⟩,?_⟩
 ·obtain ⟨ops,hb⟩:=h.blk;exact ⟨ops,hc.keep hb fun e=>h.nm e.symm⟩
 ·exact fun k hk=>hc.keep (h.cel k hk) fun e=>h.cd.2 (e ▸ hk)
 ·intro p hp;obtain ⟨h1,h2⟩:=hsub p hp;obtain ⟨f,h3,h4⟩:=h.fil p h1;refine ⟨f,?_,h4.ch hc fun k hk e=>(h.fd p h1 k hk).2.1 e⟩;unfold Dk.file at *;show aC (cR d.files n) p.1=some f;rw [qD h.ok.nd,if_neg h2];exact h3
 ·show (cR d.files n).map (·.1)=(cR L.K n).map (·.1);rw [hkeys,hkeys,h.fls]
 ·exact fun p hp=>h.fd p (hsub p hp).1
 ·exact fun p hp q hq=>h.ff p (hsub p hp).1 q (hsub q hq).1
 ·intro k hk;rcases hk with hk | hk | hk | ⟨p,hp,hk⟩
  ·exact .inl hk
  ·exact .inr (.inl hk)
  ·exact .inr (.inr (.inl hk))
  ·exact .inr (.inr (.inr ⟨p,(hsub p hp).1,hk⟩))
theorem qJ (n:By) (hn:n.length≤1000) (w:World) {L:DkM} {d:Dk} (h:DkIs w L d):
  Calls Tryz.prog 108 #[.pointer (some ⟨L.gd,0,none⟩),cZ n] w fun e w'=>e=.returned (.int .i64 (dQ d n true))∧∃ L',L'.gd=L.gd∧DkIs w' L' (Ax d n)∧(∀ k,L'.F k→L.F k∨w.heap.size≤k)∧Ch L.F w w':=by
 have HH:=hid h;clear h;go_enter Tryz.func108,Tryz.ntmps108;unfold cZ;go_wp2_with fail;refine (dG n hn true w HH.out).mono ?_;rintro e w1 ⟨v,rfl,hv,hd,hc⟩;by_cases h0:dQ d n true=0
 ·have HS:=hid (show Ax d n={ dT d n true with files:=cR (dT d n true).files n } by unfold Ax;rw [if_pos h0,dH]);obtain ⟨w2,hrun,hmp,hgr⟩:=hd.map.del fmT (a:=n) hn 0;obtain ⟨ops,hbk⟩:=hd.blk;obtain ⟨c0,-,-,-,-,-,-,-,hgdl,-⟩:=bH hbk;have HD:=hid hd;have HC:=hid (hc.mono (S':=L.F) fun k _ e=>.inl e);have hc2:Ch (fun k=>k=L.gm) w1 w2:=Ch.of_grown hgr fun k hk=>by injection hk with hk;exact hk.symm
  have HT:=hid (hd.dropFile hc2 hmp HS.out);have HC2:=hid (HC.out.trans (hc2.mono (S':=L.F) fun k _ e=>.inr (.inl e)));unfold cZ at hrun;clear hd hc hv hmp hgr hbk hc2;rw [h0];go_wp2_with fail;go_ret;exact ⟨by rw [h0];rfl,⟨L.gd,L.gm,cR L.K n,L.C,L.E,L.M⟩,rfl,HT.out.1,fun k hk=>.inl (HT.out.2 k hk),HC2.out⟩
 ·have HS:=hid (show Ax d n=dT d n true by unfold Ax;rw [if_neg h0]);have HD:=hid hd;have HC:=hid (hc.mono (S':=L.F) fun k _ e=>.inl e);clear hd hc hv;obtain ⟨x,hxe⟩:∃ x,dQ d n true=x:=⟨_,rfl⟩;have HX:=hid hxe;rw [hxe] at h0 ⊢;have hx:(x == 0)=false:=by simpa using h0
  clear hxe;go_wp2_with fail;go_ret;exact ⟨by rw [HX.out];rfl,L,rfl,by rw [HS.out];exact HD.out,fun k hk=>.inl hk,HC.out⟩
theorem mg (n:By) (hn:n.length≤1000) (k:Int) (w:World) {L:DkM} {d:Dk} (h:DkIs w L d):
  Calls Tryz.prog 176 #[.pointer (some ⟨L.gd,0,none⟩),cZ n,.int .i64 k] w fun e w'=>e=.returned (.int .i64 (tC d n k))∧∃ L',L'.gd=L.gd∧DkIs w' L' (xN d n k)∧(∀ k,L'.F k→L.F k∨w.heap.size≤k)∧Ch L.F w w':=by
 have HH:=hid h;clear h;go_enter Tryz.func176,Tryz.ntmps176;unfold cZ;have HDK:=hid (show (decide (k ≥ 0))=decide (0≤k) from rfl);obtain ⟨r,hr⟩:∃ r,decide (0≤k)=r:=⟨_,rfl⟩;have HR:=hid hr;have hr2:decide (k ≥ 0)=r:=hr;go_wp2_with fail;refine (dG n hn r w HH.out).mono ?_;rintro e w1 ⟨v,rfl,hv,hd,hc⟩;by_cases h0:dQ d n r=0
 ·obtain ⟨f,g,hf,rfl,hm,hi⟩:=hv.at_ hd h0;have hok:=cD HH.out.ok hf;have hfn:=hok.n;have hfw:=hok.lw;have hfs:=hok.ls;have hrt:r=true:=by
   cases r with
   | true=>rfl
   | false=>have:=(qK h0).1;unfold iw at this;simp at this
  subst hrt;have hk0:0≤k:=of_decide_eq_true hr;obtain ⟨A,c,hvn⟩:=hi.lenV;obtain ⟨b0,b1,b2,b3,hgl,hfz⟩:=bd hi.blk;rw [hvn] at b0;have HI:=hid hi;have HD:=hid hd;have HC:=hid (hc.mono (S':=L.F) fun k _ e=>.inl e);have f0:=hfz 0;have f1:=hfz 1;have f2:=hfz 2;have f3:=hfz 3;clear hd hc hi hv hfz hr2;rw [h0];unfold ai at *;by_cases hgt:(f.now.length:Int)<k
  ·have HE:=hid (show tC d n k=14∧xN d n k=dT d n true by
    have h1:tC d n k=14:=by unfold tC Dk.size;rw [HR.out,h0,if_neg (by simp),hf,if_pos hgt]
    exact ⟨h1,by unfold xN;rw [if_neg (by rw [h1];decide),HR.out]⟩)
   go_wp2_with fail;go_ret;exact ⟨by rw [HE.out.1];rfl,L,rfl,by rw [HE.out.2];exact HD.out,fun k hk=>.inl hk,HC.out⟩
  ·have HE:=hid (show tC d n k=0∧xN d n k=(dT d n true).setF n (·.cut k.toNat) by
    have h1:tC d n k=0:=by unfold tC Dk.size;rw [HR.out,h0,if_neg (by simp),hf,if_neg hgt]
    exact ⟨h1,by unfold xN;rw [if_pos h1]⟩)
   have hgd:decide (k > (f.now.length:Int))=false:=decide_eq_false hgt;obtain ⟨j,rfl⟩:∃ j:Nat,k=j:=⟨k.toNat,by omega⟩;obtain ⟨An,cn,en,hcn⟩:=aD HI.out.on;obtain ⟨As,cs,es,hcs⟩:=aD HI.out.os;obtain ⟨Aw,cw,ew,hcw⟩:=aD HI.out.ow;have hln:(L.M g).ps.length=f.now.length:=by rw [HI.out.now];simp
   have hls:(L.M g).qs.length=f.now.length:=by rw [← hfs,HI.out.safe];simp
   rw [hvn] at en;injection en with e1 e2 e3
   subst e1 e3;rw [hls] at es hcs;rw [hfw] at ew hcw;rw [List.length_map,hln] at hcn;rw [es] at b1;rw [ew] at b2;have hj1:(0:Int)≤(j:Int):=by omega
   have hj2:(j:Int)≤(c:Int):=by omega
   have hj3:(j:Int)≤(cs:Int):=by omega
   have hj4:(j:Int)≤(cw:Int):=by omega
   have HLN:=hid (And.intro hvn (And.intro es (And.intro ew (And.intro hln (And.intro hls (And.intro hfw hfs))))));have HCP:=hid (And.intro hcn (And.intro hcs hcw));clear e2 hvn es ew hln hls hfw hfs hcn hcs hcw;go_wp2_with fail;go_region;obtain ⟨w4,hw4⟩:∃ w4,w4=((((w1.setCell ⟨g,0,none⟩ (.slice A j c)).setCell ⟨g,1,none⟩ (.slice As j cs)).setCell ⟨g,2,none⟩ (.slice Aw j cw)).setCell ⟨g,3,none⟩ (.bool true)).drew:=⟨_,rfl⟩;have HW:=hid hw4;have hc4:Ch (fun k=>k=g) w1 w4:=by rw [hw4];exact (((((Ch.refl (fun k=>k=g) w1).setCell (p:=⟨g,0,none⟩) rfl (.slice A j c)).setCell (p:=⟨g,1,none⟩) rfl (.slice As j cs)).setCell (p:=⟨g,2,none⟩) rfl (.slice Aw j cw)).setCell (p:=⟨g,3,none⟩) rfl (.bool true)).drew
   have hb4:w4.heap[g]?=some (wW ⟨.slice A j c,.slice As j cs,.slice Aw j cw,(L.M g).ps.take j,(L.M g).qs.take j⟩ true):=by rw [hw4];exact ae (ae (ae (ae HI.out.blk 0 (.slice A j c)) 1 (.slice As j cs)) 2 (.slice Aw j cw)) 3 (.bool true)
   have HF4:=hid (show FilIs w4 L.C L.E g ⟨.slice A j c,.slice As j cs,.slice Aw j cw,(L.M g).ps.take j,(L.M g).qs.take j⟩ (f.cut j) from by
    obtain ⟨hvn,es,ew,hln,hls,hfw,hfs⟩:=HLN.out;have hjl:j≤f.now.length:=by omega
    have on:=HI.out.on.ch hc4 fun k hk e=>HI.out.g1 (e ▸ hk)
    have os:=HI.out.os.ch hc4 fun k hk e=>HI.out.g2 (e ▸ hk)
    have ow:=HI.out.ow.ch hc4 fun k hk e=>HI.out.g3 (e ▸ hk)
    have g1:=HI.out.g1;have g2:=HI.out.g2;have g3:=HI.out.g3;have d12:=HI.out.d12;have d13:=HI.out.d13;have d23:=HI.out.d23;rw [hvn] at on g1 d12 d13;rw [es] at os g2 d12 d23;rw [ew] at ow g3 d13 d23;refine ⟨hb4,?_,os.take' cJ (by omega),ow.take' gC (by omega),?_,?_,fun p hp=>HI.out.pc p (List.mem_of_mem_take hp),fun p hp=>HI.out.qc p (List.mem_of_mem_take hp),fun e=>g1 ((fD _ _ _ _ _).trans e),fun e=>g2 ((fD _ _ _ _ _).trans e),fun e=>g3 ((fD _ _ _ _ _).trans e),fun k h1 h2=>d12 k ((fD _ _ _ _ _).trans h1) ((fD _ _ _ _ _).trans h2),fun k h1 h2=>d13 k ((fD _ _ _ _ _).trans h1) ((fD _ _ _ _ _).trans h2),fun k h1 h2=>d23 k ((fD _ _ _ _ _).trans h1) ((fD _ _ _ _ _).trans h2)⟩
    ·have:=on.take' cJ (i:=j) (by simp;omega);rw [← List.map_take] at this;exact this
    ·show f.now.take j=((L.M g).ps.take j).map L.E;rw [HI.out.now,List.map_take]
    ·show f.safe.take j=((L.M g).qs.take j).map (Option.map L.E);rw [HI.out.safe,List.map_take])
   have HT:=hid (HD.out.turnFile (d':=xN d n j) (f:=f) (by rw [bT];exact hf) hm (hc4.mono fun k _ e=>.inl e) HF4.out (fun k hk=>.inl (by
    obtain ⟨hvn,es,ew,-⟩:=HLN.out;rcases hk with hk | hk | hk | hk
    ·exact .inl hk
    ·exact .inr (.inl (by rw [hvn];exact (fD _ _ _ _ _).trans hk))
    ·exact .inr (.inr (.inl (by rw [es];exact (fD _ _ _ _ _).trans hk)))
    ·exact .inr (.inr (.inr (by rw [ew];exact (fD _ _ _ _ _).trans hk))))) (xm hok j) (by rw [HE.out.2];unfold Dk.setF;rw [bT,hf,Int.toNat_natCast];rfl))
   have HC2:=hid (HC.out.trans (hc4.mono (S':=L.F) fun k _ e=>.inr (.inr (.inr ⟨_,hm,.inl e⟩))));have hsz:=HC.out.size;clear hc4 hb4 hw4;go_wp2_with fail;go_ret;obtain ⟨L',l1,l2,l3⟩:=HT.out;have hC:=HC2.out;rw [HW.out] at l2 hC;exact ⟨by rw [HE.out.1];rfl,L',l1,l2,fun k hk=>(l3 k hk).imp id fun e=>by omega,hC⟩
 ·have HE:=hid (show tC d n k=dQ d n r∧xN d n k=dT d n r by
   have h1:tC d n k=dQ d n r:=by unfold tC;rw [HR.out,if_pos h0]
   exact ⟨h1,by unfold xN;rw [if_neg (by rw [h1];exact h0),HR.out]⟩)
  have HD:=hid hd;have HC:=hid (hc.mono (S':=L.F) fun k _ e=>.inl e);clear hd hc hv;obtain ⟨x,hxe⟩:∃ x,dQ d n r=x:=⟨_,rfl⟩;have HX:=hid hxe;rw [hxe] at h0 ⊢;have hx:(x == 0)=false:=by simpa using h0
  clear hxe;go_wp2_with fail;go_ret;exact ⟨by rw [HE.out.1,HX.out];rfl,L,rfl,by rw [HE.out.2];exact HD.out,fun k hk=>.inl hk,HC.out⟩
end Go.Proofs.YtdmhbgpejppbkaaGreat
namespace Go.Proofs.YtdmhbgpejppbkaaGreat
open Go.RowKit
structure Dk.Fine (d:Dk):Prop where
 up:d.down=false
 calm:d.at_=0
def Dk.len (d:Dk) (n:By):Nat:=((d.file n).getD .empty).now.length
def Dk.wr (d:Dk) (n:By) (i:Nat) (s:By):Dk:={ d with files:=aX d.files n (((d.file n).getD .empty).put i s) }
def Dk.del (d:Dk) (n:By):Dk:={ d with files:=cR d.files n }
section
variable {d:Dk} {n m:By}
theorem Dk.Fine.e (h:d.Fine) (hn:cW n=true):iw d n true=0:=by unfold iw;rw [if_neg (by rw [hn];decide),if_neg (by rw [h.up];decide),if_pos (.inl h.calm)]
theorem Dk.Fine.s (h:d.Fine) (hn:cW n=true):dT d n true=d:=by unfold dT;rw [if_neg (by rw [hn];decide),if_neg (by rw [h.up];decide),if_pos h.calm]
theorem Dk.Fine.f (h:d.Fine) (hn:cW n=true):dQ d n true=if (d.file n).isSome then 0 else 14:=by unfold dQ;rw [h.e hn,if_neg (by decide)]
theorem Dk.size_some {f:Fi} (hf:d.file n=some f):d.size n=f.now.length:=by unfold Dk.size;rw [hf]
theorem Dk.size_none (hf:d.file n=none):d.size n=-1:=by unfold Dk.size;rw [hf]
theorem Dk.len_some {f:Fi} (hf:d.file n=some f):d.len n=f.now.length:=by unfold Dk.len;rw [hf];rfl
theorem Dk.len_none (hf:d.file n=none):d.len n=0:=by unfold Dk.len;rw [hf];rfl
theorem Dk.len_max:max (d.size n) 0=(d.len n:Int):=by
 cases h:d.file n with
 | none=>rw [Dk.size_none h,Dk.len_none h];rfl
 | some f=>rw [Dk.size_some h,Dk.len_some h];omega
structure Dk.Can (d:Dk) (n:By) (i:Nat):Prop where
 at_:i≤d.len n
 few:d.file n=none→d.files.length<8
 room:i=d.len n→(d.total:Int)<d.room
theorem Dk.Fine.wrE (h:d.Fine) (hn:cW n=true) {i:Nat} {s:By} (hs:s.length=256) (hc:d.Can n i):wrE d n i s=0:=by
 have hr:(decide ((0:Int)≤(i:Int)) && decide (s.length=256))=true:=by rw [decide_eq_true hs,decide_eq_true (by omega)];rfl
 unfold Go.Proofs.YtdmhbgpejppbkaaGreat.wrE;rw [hr,h.f hn];cases hf:d.file n with
 | none=> have h0:d.len n=0:=Dk.len_none hf;have hi:=hc.at_;have h1:=hc.few hf;have h2:=hc.room;have h3:((none:Option Fi).getD Fi.empty).now.length=0:=rfl;simp only [Option.isSome_none,Bool.false_eq_true,if_false,h3];rw [if_neg (by omega),if_neg (by omega),if_neg (by omega),if_neg (by omega)]
 | some f=> have h0:d.len n=f.now.length:=Dk.len_some hf;have hi:=hc.at_;have h2:=hc.room;simp only [Option.isSome_some,if_true,Option.getD_some];rw [if_neg (by omega),if_neg (by omega),if_neg (by omega),if_neg (by omega)]
theorem Dk.Fine.wrS (h:d.Fine) (hn:cW n=true) {i:Nat} {s:By} (hs:s.length=256) (hc:d.Can n i):wrS d n i s=d.wr n i s:=by unfold Go.Proofs.YtdmhbgpejppbkaaGreat.wrS;rw [if_pos (h.wrE hn hs hc),h.s hn];rfl
theorem Dk.Fine.sy (h:d.Fine) (hn:cW n=true) {f:Fi} (hf:d.file n=some f):dQ d n true=0∧xI d n=d.setF n Fi.settle:=by
 have h1:dQ d n true=0:=by rw [h.f hn,hf];rfl
 exact ⟨h1,by unfold xI;rw [if_pos h1,h.s hn]⟩
theorem Dk.Fine.dr (h:d.Fine) (hn:cW n=true) {f:Fi} (hf:d.file n=some f):dQ d n true=0∧Ax d n=d.del n:=by
 have h1:dQ d n true=0:=by rw [h.f hn,hf];rfl
 exact ⟨h1,by unfold Ax;rw [if_pos h1,h.s hn];rfl⟩
theorem Dk.Fine.cu (h:d.Fine) (hn:cW n=true) {f:Fi} (hf:d.file n=some f) {k:Nat} (hk:k≤f.now.length):tC d n k=0∧xN d n k=d.setF n (·.cut k):=by
 have hr:decide ((0:Int)≤(k:Int))=true:=decide_eq_true (by omega);have h1:dQ d n true=0:=by rw [h.f hn,hf];rfl
 have h2:tC d n k=0:=by unfold tC;rw [hr,h1,if_neg (by decide),Dk.size_some hf,if_neg (by omega)]
 exact ⟨h2,by unfold xN;rw [if_pos h2,h.s hn];rfl⟩
theorem Dk.Fine.rd (h:d.Fine) (hn:cW n=true) {f:Fi} (hf:d.file n=some f) {i:Nat} {s:By} (hi:f.now[i]?=some s):sY d n i=0∧yj d n i=s:=by
 have h1:dQ d n true=0:=by rw [h.f hn,hf];rfl
 have hl:i<f.now.length:=by
  by_cases hl:i<f.now.length
  ·exact hl
  ·rw [List.getElem?_eq_none (by omega)] at hi;cases hi
 have h2:sY d n i=0:=by unfold sY;rw [h1,if_neg (by decide),Dk.size_some hf,if_pos (by omega)]
 refine ⟨h2,?_⟩;unfold yj Dk.sec;rw [if_pos h2,hf];simp only [Int.toNat_natCast];rw [List.getD_eq_getElem?_getD,hi];rfl
theorem Dk.Fine.wr (h:d.Fine) {i:Nat} {s:By}:(d.wr n i s).Fine:=⟨h.up,h.calm⟩
theorem Dk.Fine.setF (h:d.Fine) {g:Fi→Fi}:(d.setF n g).Fine:=⟨h.up,h.calm⟩
theorem Dk.Fine.del (h:d.Fine):(d.del n).Fine:=⟨h.up,h.calm⟩
theorem Dk.wr_file (h:d.Ok) {i:Nat} {s:By}:(d.wr n i s).file m=if m=n then some (((d.file n).getD .empty).put i s) else d.file m:=bP h.nd
theorem Dk.setF_file (h:d.Ok) {g:Fi→Fi}:(d.setF n g).file m=if m=n then some (g ((d.file n).getD .empty)) else d.file m:=bP h.nd
theorem Dk.del_file (h:d.Ok):(d.del n).file m=if m=n then none else d.file m:=qD h.nd
theorem zP {f:Fi} {i:Nat} (hi:i≤f.now.length) {s:By}:(f.put i s).now=f.now.take i ++ s :: f.now.drop (i+1):=by
 unfold Fi.put
 split
 ·rename_i h
  subst h;simp
 ·simp only;rw [List.set_eq_take_append_cons_drop,if_pos (by omega)]
end
theorem pL {α β:Type} [DecidableEq α] {K:List (α × β)} (hn:(K.map (·.1)).Nodup) {a:α} {b:β} (g:β→Nat):
  ((aX K a b).map fun p=>g p.2).sum+((aC K a).map g).getD 0=(K.map fun p=>g p.2).sum+g b:=by
 by_cases h:a ∈ K.map (·.1)
 ·unfold aX;rw [if_pos h]
  induction K with
  | nil=>cases h
  | cons p K ih=>
    rw [List.map_cons,List.nodup_cons] at hn;rw [List.map_cons,List.map_cons,List.map_cons,List.sum_cons,List.sum_cons];by_cases e:p.1=a
    ·have h1:aC (p :: K) a=some p.2:=by simp [aC,e]
     have h2:K.map (fun q=>if q.1=a then (a,b) else q)=K:=by refine (List.map_congr_left fun q hq=>?_).trans (List.map_id _);rw [if_neg fun e2=>hn.1 (List.mem_map.2 ⟨q,hq,e2.trans e.symm⟩)];rfl
     rw [h1,h2,if_pos e];simp only [Option.map_some,Option.getD_some];omega
    ·have h1:aC (p :: K) a=aC K a:=by simp [aC,e]
     rw [h1,if_neg e];have:=ih hn.2 ((List.mem_cons.1 h).resolve_left fun e2=>e e2.symm);omega
 ·unfold aX;rw [if_neg h,eu h];simp
theorem Dk.total_wr {d:Dk} (h:d.Ok) {n:By} {i:Nat} {s:By}:(d.wr n i s).total=d.total+if i=d.len n then 1 else 0:=by
 have h1:=pL h.nd (a:=n) (b:=((d.file n).getD .empty).put i s) fun f=>f.now.length
 have h2:((aC d.files n).map fun f=>f.now.length).getD 0=d.len n:=by
  unfold Dk.len Dk.file;cases aC d.files n with
  | none=>rfl
  | some f=>rfl
 rw [h2,sZ] at h1;unfold Dk.total Dk.wr;simp only;unfold Dk.len at *
 split
 ·rename_i e
  rw [if_pos e] at h1;omega
 ·rename_i e
  rw [if_neg e] at h1;omega
theorem Dk.len_wr {d:Dk} (h:d.Ok) {n m:By} {i:Nat} {s:By}:(d.wr n i s).len m=d.len m+if m=n∧i=d.len n then 1 else 0:=by
 unfold Dk.len;rw [Dk.wr_file h];by_cases e:m=n
 ·subst e;rw [if_pos rfl,Option.getD_some,sZ]
  split
  ·rename_i e
   rw [if_pos ⟨rfl,e⟩]
  ·rename_i e
   rw [if_neg fun x=>e x.2];rfl
 ·rw [if_neg e,if_neg fun x=>e x.1];rfl
def zeroS:By:=List.replicate 256 0
def Dk.fill (d:Dk) (n:By):Nat→Dk
 | 0=>d
 | k+1=>(d.fill n k).wr n (d.len n+k) zeroS
end Go.Proofs.YtdmhbgpejppbkaaGreat
namespace Go.Proofs.YtdmhbgpejppbkaaGreat
open Go.Lib (hid)
open Go.RowKit
def Bp (x:Int):Int:=bits .or .u32 (x * 128 % 4294967296) (x / 33554432)
theorem yh (x:Int) (w:World):Calls Tryz.prog 253 #[.int .u32 x,.int .i64 7] w fun e w'=>e=.returned (.int .u32 (Bp x))∧w=w':=by
 have h7:bits BinOp.and IntKind.u64 7 31=7:=by kernel_rfl
 have h8:IntKind.u64.wrap (32 - 7)=25:=by kernel_rfl
 go_enter Tryz.func253,Tryz.ntmps253;go_wp2_with fail;go_ret;exact ⟨rfl,rfl⟩
def fW (x:Int):Obj:=.cells #[.int .u32 x] 223 (0,0)
def xL (a b g:Int):Int:=(a+(g+b)) % 4294967296
def xK (a b g:Int):Int:=Bp ((b+g+(a+(g+b))) % 4294967296)
theorem fV {w:World} {g:Nat} {x:Int} (h:w.heap[g]?=some (fW x)):w.cell? ⟨g,0,none⟩=some (.int .u32 x)∧w.frozen? ⟨g,0,none⟩=false∧g<w.heap.size:=⟨aa h 0,ah h 0,ab h⟩
theorem fA {w:World} {g:Nat} {x:Int} (h:w.heap[g]?=some (fW x)) (y:Int):(w.setCell ⟨g,0,none⟩ (.int .u32 y)).heap[g]?=some (fW y):=ae h 0 _
theorem cr {w:World} {g k:Nat} {x:Int} (h:w.heap[g]?=some (fW x)) (hk:g≠k) (v:Value):(w.setCell ⟨k,0,none⟩ v).heap[g]?=some (fW x):=(Below.heap_setCell _ _ _ _ hk).trans h
theorem tI (pa pg pb:Nat) (a b g:Int) (w:World) (ha:w.heap[pa]?=some (fW a)) (hb:w.heap[pb]?=some (fW b)) (hg:w.heap[pg]?=some (fW g)) (h1:pa≠pb) (h2:pa≠pg) (h3:pb≠pg):
  Calls Tryz.prog 252 #[.pointer (some ⟨pa,0,none⟩),.pointer (some ⟨pg,0,none⟩),.pointer (some ⟨pb,0,none⟩)] w fun e w'=>e=.returned (.tuple #[])∧w'.heap[pa]?=some (fW (xL a b g))∧w'.heap[pb]?=some (fW (xK a b g))∧w'.heap[pg]?=some (fW 0)∧Ch (fun k=>k=pa∨k=pb∨k=pg) w w':=by
 obtain ⟨a0,a1,a2⟩:=fV ha;obtain ⟨b0,b1,b2⟩:=fV hb;obtain ⟨g0,g1,g2⟩:=fV hg;have HF:=hid (show (((w.setCell ⟨pa,0,none⟩ (.int .u32 (xL a b g))).setCell ⟨pb,0,none⟩ (.int .u32 (xK a b g))).setCell ⟨pg,0,none⟩ (.int .u32 0)).heap[pa]?=some (fW (xL a b g))∧(((w.setCell ⟨pa,0,none⟩ (.int .u32 (xL a b g))).setCell ⟨pb,0,none⟩ (.int .u32 (xK a b g))).setCell ⟨pg,0,none⟩ (.int .u32 0)).heap[pb]?=some (fW (xK a b g))∧(((w.setCell ⟨pa,0,none⟩ (.int .u32 (xL a b g))).setCell ⟨pb,0,none⟩ (.int .u32 (xK a b g))).setCell ⟨pg,0,none⟩ (.int .u32 0)).heap[pg]?=some (fW 0)∧
   Ch (fun k=>k=pa∨k=pb∨k=pg) w (((w.setCell ⟨pa,0,none⟩ (.int .u32 (xL a b g))).setCell ⟨pb,0,none⟩ (.int .u32 (xK a b g))).setCell ⟨pg,0,none⟩ (.int .u32 0)) from
  ⟨cr (cr (fA ha _) h1 _) h2 _,cr (fA (cr hb h1.symm _) _) h3 _,fA (cr (cr hg h2.symm _) h3.symm _) _,
    (((Ch.refl (fun k=>k=pa∨k=pb∨k=pg) w).setCell (p:=⟨pa,0,none⟩) (.inl rfl) _).setCell (p:=⟨pb,0,none⟩) (.inr (.inl rfl)) _).setCell (p:=⟨pg,0,none⟩) (.inr (.inr rfl)) _⟩)
 clear ha hb hg;have h1':=h1.symm;have h2':=h2.symm;have h3':=h3.symm;go_enter Tryz.func252,Tryz.ntmps252;go_wp2_with fail;refine (yh _ _).mono ?_;rintro e w1 ⟨rfl,rfl⟩;go_wp2_with fail;exact bodyPost_end (results_none rfl _ _ _) rfl ⟨rfl,HF.out⟩
def vr (g x:Int):Nat→Int
 | 0=>bits .or .u32 g (x % 4294967296 * 16777216 % 4294967296)
 | 1=>bits .or .u32 g (x % 4294967296 * 65536 % 4294967296)
 | 2=>bits .or .u32 g (x % 4294967296 * 256 % 4294967296)
 | _=>bits .or .u32 g (x % 4294967296)
theorem sT {i r:Nat} (h:i % 4=r):Int.tmod (i:Int) 4=(r:Int):=by have:=Int.ofNat_tmod i 4;rw [h] at this;exact this.symm
def dR (s:List UInt8) (a b:Int):Nat→Int × Int × Int
 | 0=>(a,b,0)
 | i+1=>if i % 4=3 then (xL (dR s a b i).1 (dR s a b i).2.1 (vr (dR s a b i).2.2 ((s.getD i 0).toNat) (i % 4)),xK (dR s a b i).1 (dR s a b i).2.1 (vr (dR s a b i).2.2 ((s.getD i 0).toNat) (i % 4)),0)
   else ((dR s a b i).1,(dR s a b i).2.1,vr (dR s a b i).2.2 ((s.getD i 0).toNat) (i % 4))
def zn (w:World) (s:List UInt8) (a b:Int) (i:Nat) (wr:World):Prop:=
 wr.heap[w.heap.size]?=some (fW (dR s a b i).1)∧wr.heap[w.heap.size+1]?=some (fW (dR s a b i).2.1)∧wr.heap[w.heap.size+1+1]?=some (fW (dR s a b i).2.2)∧Below w.heap.size w wr
def zX (a b:Int):Int:=bits .or .u64 (IntKind.u64.wrap (IntKind.u64.wrap a * 4294967296)) (IntKind.u64.wrap b)
theorem uv (a b:Int):0≤zX a b∧zX a b<18446744073709551616:=by
 have h1:0≤IntKind.u64.wrap (IntKind.u64.wrap a * 4294967296)∧IntKind.u64.wrap (IntKind.u64.wrap a * 4294967296)<18446744073709551616:=by rw [IntKind.wrap_u64];omega
 have h2:0≤IntKind.u64.wrap b∧IntKind.u64.wrap b<18446744073709551616:=by rw [IntKind.wrap_u64];omega
 unfold zX;rw [u64_or _ _ h1.1 h1.2 h2.1 h2.2];have h3:=Nat.or_lt_two_pow (n:=64) (x:=(IntKind.u64.wrap (IntKind.u64.wrap a * 4294967296)).toNat) (y:=(IntKind.u64.wrap b).toNat) (by omega) (by omega);refine ⟨Int.natCast_nonneg _,?_⟩;have h4:(2:Nat) ^ 64=18446744073709551616:=by decide
 omega
def fQ (n:Int) (s:List UInt8):Int:=
 let m:=dR s (n / 4294967296) (n % 4294967296) s.length
 if s.length % 4=0 then zX m.1 m.2.1 else zX (xL m.1 m.2.1 m.2.2) (xK m.1 m.2.1 m.2.2)
theorem kH (n:Int) (s:List UInt8):0≤fQ n s∧fQ n s<18446744073709551616:=by
 unfold fQ;simp only
 split <;> exact uv _ _
theorem sW (n:Int) (s:List UInt8) (w:World) (h0:0≤n) (h1:n<18446744073709551616) (hs:s.length≤1000000):Calls Tryz.prog 212 #[.int .u64 n,.string (aj s)] w fun e w'=>e=.returned (.int .u64 (fQ n s))∧Below w.heap.size w w':=by
 have hsz:(aj s).size=s.length:=aw s;go_enter Tryz.func212,Tryz.ntmps212;go_wp2_with fail;go_loopw [9,18] (fun _ iv wr=>∃ i:Nat,iv=.int .i64 i∧i≤s.length∧zn w s (n / 4294967296) (n % 4294967296) i wr) (fun _ iv _=>s.length - (intOf iv).toNat)
 case atStart=>
  refine ⟨0,rfl,Nat.zero_le _,?_,?_,?_,?_⟩
  ·exact ar (ar (af rfl) _) _
  ·exact ar (af (by simp)) _
  ·exact af (by simp)
  ·exact (((Below.refl _ w).alloc (Nat.le_refl _) _).alloc (by simp) _).alloc (by simp;omega) _
 case round=>
  obtain ⟨i,rfl,hi,hI⟩:=hrel;obtain ⟨ia,ib,ig,hb⟩:=hI;have HB:=hid hb;have HA:=hid ia;have HBB:=hid ib;have HG:=hid ig;have hsz2:=hb.size;obtain ⟨a0,a1,a2⟩:=fV ia;obtain ⟨b0,b1,b2⟩:=fV ib;obtain ⟨g0,g1,g2⟩:=fV ig;clear ia ib ig hb;by_cases hlt:i<s.length
  ·have hlt1:(i:Int)<(s.length:Int):=by omega
   have hi0:(0:Int)≤(i:Int):=by omega
   have hr:i % 4=0∨i % 4=1∨i % 4=2∨i % 4=3:=by omega
   rcases hr with hr | hr | hr | hr
   ·have ht:Int.tmod (i:Int) 4=0:=sT hr;have HS:=hid (show dR s (n / 4294967296) (n % 4294967296) (i+1)=((dR s (n / 4294967296) (n % 4294967296) i).1,(dR s (n / 4294967296) (n % 4294967296) i).2.1,vr (dR s (n / 4294967296) (n % 4294967296) i).2.2 ((s.getD i 0).toNat) 0) by
     rw [dR,hr,if_neg (by decide)])
    go_wp2_with fail;go_region;have hw1:IntKind.i64.wrap ((i:Int)+1)=(i:Int)+1:=by rw [IntKind.wrap_i64] <;> omega
    generalize hy:(aj s)[i].toNat=y at *;have hys:(s.getD i 0).toNat=y:=by rw [← hy];simp [List.getD_eq_getElem?_getD,List.getElem?_eq_getElem hlt];rfl
    have HI:=hid (show zn w s (n / 4294967296) (n % 4294967296) (i+1) (wr.setCell ⟨w.heap.size+1+1,0,none⟩ (.int .u32 (vr (dR s (n / 4294967296) (n % 4294967296) i).2.2 y 0))) from by
     unfold zn;rw [HS.out,hys];exact ⟨cr HA.out (by omega) _,cr HBB.out (by omega) _,fA HG.out _,HB.out.setCell (by simp only;omega) _⟩)
    clear hy hys a0 a1 b0 b1 g0 g1 hr;go_wp2_with fail;go_roundw
    case rel=>exact ⟨i+1,by go_num,by omega,HI.out.1,HI.out.2.1,HI.out.2.2.1,HI.out.2.2.2.drew⟩
    case measure=>simp [intOf];omega
   ·have ht:Int.tmod (i:Int) 4=1:=sT hr;have HS:=hid (show dR s (n / 4294967296) (n % 4294967296) (i+1)=((dR s (n / 4294967296) (n % 4294967296) i).1,(dR s (n / 4294967296) (n % 4294967296) i).2.1,vr (dR s (n / 4294967296) (n % 4294967296) i).2.2 ((s.getD i 0).toNat) 1) by
     rw [dR,hr,if_neg (by decide)])
    go_wp2_with fail;go_region;have hw1:IntKind.i64.wrap ((i:Int)+1)=(i:Int)+1:=by rw [IntKind.wrap_i64] <;> omega
    generalize hy:(aj s)[i].toNat=y at *;have hys:(s.getD i 0).toNat=y:=by rw [← hy];simp [List.getD_eq_getElem?_getD,List.getElem?_eq_getElem hlt];rfl
    have HI:=hid (show zn w s (n / 4294967296) (n % 4294967296) (i+1) (wr.setCell ⟨w.heap.size+1+1,0,none⟩ (.int .u32 (vr (dR s (n / 4294967296) (n % 4294967296) i).2.2 y 1))) from by
     unfold zn;rw [HS.out,hys];exact ⟨cr HA.out (by omega) _,cr HBB.out (by omega) _,fA HG.out _,HB.out.setCell (by simp only;omega) _⟩)
    clear hy hys a0 a1 b0 b1 g0 g1 hr;go_wp2_with fail;go_roundw
    case rel=>exact ⟨i+1,by go_num,by omega,HI.out.1,HI.out.2.1,HI.out.2.2.1,HI.out.2.2.2.drew⟩
    case measure=>simp [intOf];omega
   ·have ht:Int.tmod (i:Int) 4=2:=sT hr;have HS:=hid (show dR s (n / 4294967296) (n % 4294967296) (i+1)=((dR s (n / 4294967296) (n % 4294967296) i).1,(dR s (n / 4294967296) (n % 4294967296) i).2.1,vr (dR s (n / 4294967296) (n % 4294967296) i).2.2 ((s.getD i 0).toNat) 2) by
     rw [dR,hr,if_neg (by decide)])
    go_wp2_with fail;go_region;have hw1:IntKind.i64.wrap ((i:Int)+1)=(i:Int)+1:=by rw [IntKind.wrap_i64] <;> omega
    generalize hy:(aj s)[i].toNat=y at *;have hys:(s.getD i 0).toNat=y:=by rw [← hy];simp [List.getD_eq_getElem?_getD,List.getElem?_eq_getElem hlt];rfl
    have HI:=hid (show zn w s (n / 4294967296) (n % 4294967296) (i+1) (wr.setCell ⟨w.heap.size+1+1,0,none⟩ (.int .u32 (vr (dR s (n / 4294967296) (n % 4294967296) i).2.2 y 2))) from by
     unfold zn;rw [HS.out,hys];exact ⟨cr HA.out (by omega) _,cr HBB.out (by omega) _,fA HG.out _,HB.out.setCell (by simp only;omega) _⟩)
    clear hy hys a0 a1 b0 b1 g0 g1 hr;go_wp2_with fail;go_roundw
    case rel=>exact ⟨i+1,by go_num,by omega,HI.out.1,HI.out.2.1,HI.out.2.2.1,HI.out.2.2.2.drew⟩
    case measure=>simp [intOf];omega
   ·have ht:Int.tmod (i:Int) 4=3:=sT hr;have HS:=hid (show dR s (n / 4294967296) (n % 4294967296) (i+1)=(xL (dR s (n / 4294967296) (n % 4294967296) i).1 (dR s (n / 4294967296) (n % 4294967296) i).2.1 (vr (dR s (n / 4294967296) (n % 4294967296) i).2.2 ((s.getD i 0).toNat) 3),xK (dR s (n / 4294967296) (n % 4294967296) i).1 (dR s (n / 4294967296) (n % 4294967296) i).2.1 (vr (dR s (n / 4294967296) (n % 4294967296) i).2.2 ((s.getD i 0).toNat) 3),0) by
     rw [dR,hr,if_pos rfl])
    go_wp2_with fail;go_region;have hw1:IntKind.i64.wrap ((i:Int)+1)=(i:Int)+1:=by rw [IntKind.wrap_i64] <;> omega
    generalize hy:(aj s)[i].toNat=y at *;have hys:(s.getD i 0).toNat=y:=by rw [← hy];simp [List.getD_eq_getElem?_getD,List.getElem?_eq_getElem hlt];rfl
    rw [hys] at HS;clear hy hys a0 a1 b0 b1 g0 g1 hr;go_wp2_with fail;refine (tI _ _ _ (dR s (n / 4294967296) (n % 4294967296) i).1 (dR s (n / 4294967296) (n % 4294967296) i).2.1 (vr (dR s (n / 4294967296) (n % 4294967296) i).2.2 y 3) _ (by exact cr HA.out (by omega) _) (by exact cr HBB.out (by omega) _) (by exact fA HG.out _) (by omega) (by omega) (by omega)).mono ?_;rintro e w2 ⟨rfl,q0,q1,q2,qc⟩;have HI:=hid (show zn w s (n / 4294967296) (n % 4294967296) (i+1) w2 from by
     unfold zn;rw [HS.out];refine ⟨q0,q1,q2,?_⟩;have hbz:=(HB.out.setCell (p:=⟨w.heap.size+1+1,0,none⟩) (by simp only;omega) (.int .u32 (bits BinOp.or IntKind.u32 (dR s (n / 4294967296) (n % 4294967296) i).snd.snd (↑y % 4294967296)))).drew;exact hbz.trans (qc.below (B:=w.heap.size) hbz.size (by rintro k (rfl | rfl | rfl) <;> omega)))
    clear q0 q1 q2 qc;go_wp2_with fail;go_roundw
    case rel=>exact ⟨i+1,by go_num,by omega,HI.out.1,HI.out.2.1,HI.out.2.2.1,HI.out.2.2.2⟩
    case measure=>simp [intOf];omega
  ·have hie:i=s.length:=by omega
   subst hie;have hn0:(0:Int)≤(s.length:Int):=by omega
   by_cases h4:s.length % 4=0
   ·have hc:((s.length:Int) % 4 != 0)=false:=by
     have:(s.length:Int) % 4=0:=by omega
     simp [this]
    have HR:=hid (show fQ n s=zX (dR s (n / 4294967296) (n % 4294967296) s.length).1 (dR s (n / 4294967296) (n % 4294967296) s.length).2.1 from by simp only [fQ,h4,if_true]);clear h4;go_wp2_with fail;go_ret;exact ⟨by rw [HR.out];rfl,HB.out⟩
   ·have hc:((s.length:Int) % 4 != 0)=true:=by
     have:¬ (s.length:Int) % 4=0:=by omega
     simp [this]
    have HR:=hid (show fQ n s=zX (xL (dR s (n / 4294967296) (n % 4294967296) s.length).1 (dR s (n / 4294967296) (n % 4294967296) s.length).2.1 (dR s (n / 4294967296) (n % 4294967296) s.length).2.2) (xK (dR s (n / 4294967296) (n % 4294967296) s.length).1 (dR s (n / 4294967296) (n % 4294967296) s.length).2.1 (dR s (n / 4294967296) (n % 4294967296) s.length).2.2) from by simp only [fQ,h4,if_false]);clear h4;go_wp2_with fail;refine (tI _ _ _ _ _ _ _ HA.out HBB.out HG.out (by omega) (by omega) (by omega)).mono ?_;rintro e w2 ⟨rfl,q0,q1,q2,qc⟩;have HC:=hid (qc.below (B:=w.heap.size) (by omega) (by rintro k (rfl | rfl | rfl) <;> omega));obtain ⟨qa0,qa1,qa2⟩:=fV q0;obtain ⟨qb0,qb1,qb2⟩:=fV q1;clear q0 q1 q2 qc;go_wp2_with fail;go_ret;exact ⟨by rw [HR.out];rfl,HB.out.trans HC.out⟩
end Go.Proofs.YtdmhbgpejppbkaaGreat
