/- The walk of cahierlaw17.WalkStops. -/
import Derived.Test.YtknioodagnjchaaGreatDoorVWe
import Derived.Test.YtknioodagnjchaaGreatDoorVWc
import Derived.Deep.RegionHeld3
set_option maxRecDepth 100000
set_option maxHeartbeats 4000000
namespace Go.Proofs.YtknioodagnjchaaGreatDoor
open Go.RowKit Go.Shelf
attribute [local go_sem] Oper.semAt_some run_store_func
theorem mod_20 (x:Int):∃ k:Nat,wrap64 ((IntKind.u64.wrap x).tmod 20)=(k:Int)∧k<20:=by
 obtain ⟨k,h1,h2⟩:=mod_nat x 20 (by omega) (by omega)
 exact ⟨k,h1,by omega⟩
theorem gone_all (ps:List Pr):goneP ps [] [] false=ps:=by
 show ps.filter (fun p=>!klt p.1 [] && upB [] p.1)=ps
 refine List.filter_eq_self.2 fun p _=>?_
 rw [klt_nil]
 rfl
theorem KbO.one2 {b B M:Nat} {s:Ov} {W W':World} (hc:Ch (fun k=>k=b) W W') (hbB:B+7≤b) (hg:Gok M s W) (hM:b<M):KbO B (B+7) s W s W':=by
 refine ⟨rfl,hc.size,fun k hk hl=>hc.block k hl ?_⟩
 rintro rfl
 rcases hk with hk | hk
 ·omega
 ·have:=(hg _ hk).1;omega
theorem tw_all {W:Pr→Bool}:∀ {l:List Pr},(∀ p ∈ l,W p=true)→l.takeWhile W=l
 | [],_=>rfl
 | a :: l,h=>by rw [List.takeWhile_cons,h a List.mem_cons_self,if_pos rfl,tw_all fun p hp=>h p (List.mem_cons_of_mem _ hp)]
theorem Stay.pure {B gs gm M:Nat} {FP:Pro (Option Pr)} {GP:By→Pro (Option Pr)} (P:List (Pr × Int)→Prop):Stay B gs gm M FP GP (fun _ pre _=>P pre):=
 ⟨fun _ _ _ _ _ _ h _ _ _=>h,fun _ _ _ _ h=>h,fun _ _ _ _ _ h _ _ _=>h⟩
def InI (w3:World) (gs gm bn:Nat) (s:Sf) (S:List Pr) (t:Ov) (pre:List (Pr × Int)) (A:World):Prop:=
 Stl gs gm s S (upB []) t pre A∧w3.heap.size+1≤A.heap.size∧Ch (fun j=>j=gs∨j=gm∨j=bn) w3 A∧A.heap[bn]?=some (.cells #[.int .i64 pre.length] 3 (0,0))∧pre.length≤20
def InX (id:Nat) (w3:World) (gs gm bn:Nat) (s:Sf) (c:Code) (_:List (Pr × Int)) (A:World):Prop:=
 c=.exit id∧ShIs A gs gm s∧Ch (fun j=>j=gs∨j=gm∨j=bn) w3 A∧A.heap[bn]?=some (.cells #[.int .i64 21] 3 (0,0))
def StX (id:Nat) (w9:World) (gs gm e0:Nat) (s:Sf) (c:Code) (_:List (Pr × Int)) (A:World):Prop:=
 c=.exit id∧ShIs A gs gm s∧Ch (fun j=>j=gs∨j=gm∨e0≤j) w9 A
theorem stX_abide {id:Nat} {w9:World} {gs gm e0:Nat} {s:Sf} (h1:gs<w9.heap.size) (h2:gm<w9.heap.size) (h3:e0≤w9.heap.size) (c:Code) (pre:List (Pr × Int)):Abide w9.heap.size (StX id w9 gs gm e0 s c pre):=by
 rintro W l o o' ⟨hc,hs,hch⟩ hl ho hcc
 exact ⟨hc,hs.ch (ch_putObj W l o') (by omega) (by omega),hch.then (ch_putObj W l o') (fun i e=>.inl (.inr (.inr (by omega))))⟩
theorem inX_abide {id:Nat} {w3 w9:World} {gs gm bn:Nat} {s:Sf} (h1:gs<w9.heap.size) (h2:gm<w9.heap.size) (h3:w3.heap.size≤w9.heap.size) (c:Code) (pre:List (Pr × Int)):Abide w9.heap.size (InX id w3 gs gm bn s c pre):=by
 rintro W l o o' ⟨hc,hs,hch,hb⟩ hl ho hcc
 refine ⟨hc,hs.ch (ch_putObj W l o') (by omega) (by omega),hch.then (ch_putObj W l o') (fun i e=>.inr (by omega)),(ch_putObj W l o').keep hb ?_⟩
 rintro rfl
 rw [ho] at hb
 injection hb with hb
 subst hb
 cases hcc
def StI (w9:World) (gs gm e0 bo B:Nat) (s:Sf) (S:List Pr) (k:Nat) (t:Ov) (pre:List (Pr × Int)) (A:World):Prop:=
 Stl gs gm s S (upB []) t pre A∧w9.heap.size+2≤A.heap.size∧Ch (fun j=>j=gs∨j=gm∨e0≤j) w9 A∧OutB prC 2 62 67 e0 bo B t (pre.map (·.1)) A∧pre.length≤k
theorem stops_any (ks:List By) (stop:Int) (low:By) (kv:Value) (w:World) (hk:Sl sC 1 w kv ks):
  Calls Tryz.prog 11 #[kv,.int .i64 stop,.string (mkS low)] w fun e w'=>e=.returned (.bool true)∧Below w.heap.size w w':=by
 have HK:=Lib.hid hk
 clear hk
 refine calls_of_marks Tryz.func11 rfl ?_
 simp only [Tryz.ntmps11,List.size_toArray,List.length_cons,List.length_nil,Nat.reduceAdd,Nat.reduceSub,Array.replicate_succ,Array.replicate_zero,List.push_toArray,List.append_toArray,List.nil_append,List.cons_append]
 have HX1:=Lib.hid (show ((w.alloc (.cells #[.int .i64 stop] 3)).alloc (.cells #[.bool false] 4)).heap[w.heap.size]?=some (.cells #[.int .i64 stop] 3 (0,0)) from blk_alloc (blk_new rfl) _)
 have HR1:=Lib.hid (show ((w.alloc (.cells #[.int .i64 stop] 3)).alloc (.cells #[.bool false] 4)).heap[w.heap.size+1]?=some (.cells #[.bool false] 4 (0,0)) from blk_new (by simp))
 have HB1:=Lib.hid (show Below w.heap.size w ((w.alloc (.cells #[.int .i64 stop] 3)).alloc (.cells #[.bool false] 4)) from ((Below.refl _ w).alloc (Nat.le_refl _) _).alloc (by simp) _)
 go_wp2_with fail
 generalize (w.alloc (.cells #[.int .i64 stop] 3)).alloc (.cells #[.bool false] 4)=w1 at *
 refine (awake17_any w1).mono ?_
 rintro e w2 ⟨rfl,hb⟩
 have HX2:=Lib.hid (blk_keep HX1.out hb)
 have HR2:=Lib.hid (blk_keep HR1.out hb)
 have HB2:=Lib.hid (HB1.out.trans (hb.mono HB1.out.size))
 clear hb HR1 HX1
 go_wp2_with fail
 refine (laid_any ks true kv w2 (HK.out.keep HB2.out)).mono ?_
 rintro e w3 ⟨gs,gm,g,root,rfl,⟨s,hs,hts⟩,⟨base,hbs,hm⟩,hn,hb⟩
 have HWT:=Lib.hid (laidP_wt true (ks.take 200))
 have HTL:=Lib.hid (show (ks.take 200).length≤200 by rw [List.length_take];omega)
 generalize laidP true (ks.take 200)=ps at *
 have HPL:=Lib.hid (show ps.length≤200∧wt ps≤600 by have:=HWT.out;have:=HTL.out;omega)
 have HTS:=Lib.hid hts
 have HS3:=Lib.hid hs
 have HM3:=Lib.hid hm
 have HN:=Lib.hid hn
 have HX3:=Lib.hid (blk_keep HX2.out hb)
 have HR3:=Lib.hid (blk_keep HR2.out hb)
 have HB3:=Lib.hid (HB2.out.trans (hb.mono HB2.out.size))
 have HG2:=Lib.hid (show w.heap.size+1<gs∧w.heap.size+1<gm∧w.heap.size+1<g by have:=hn;have:=blk_lt HR2.out;omega)
 clear hs hts hn hm hbs hb HWT HTL HR2 HX2
 go_wp2_with fail
 refine (wup_any gs root low [] w3).mono ?_
 rintro e w4 ⟨rfl,hup,hb4,hsz4⟩
 have HUP:=Lib.hid hup
 have HB4:=Lib.hid hb4
 have HSZ4:=Lib.hid hsz4
 have HQ5:=Lib.hid (show (w4.alloc (.cells #[ovV w3.heap.size] 79)).heap[w4.heap.size]?=some (.cells #[ovV w3.heap.size] 79 (0,0)) from blk_new rfl)
 have HB5:=Lib.hid (show Below w3.heap.size w3 (w4.alloc (.cells #[ovV w3.heap.size] 79)) from hb4.alloc (by omega) _)
 have hup5:=hup.same (W':=w4.alloc (.cells #[ovV w3.heap.size] 79)) (fun k h1 h2=>Below.heap_alloc _ _ _ (by omega))
 have HU5:=Lib.hid hup5
 have HX5:=Lib.hid (blk_keep HX3.out HB5.out)
 have HSZ5:=Lib.hid (show (w4.alloc (.cells #[ovV w3.heap.size] 79)).heap.size=w3.heap.size+8 by simp;omega)
 clear hup hb4 hsz4 hup5 HUP
 have hfn:=func_nil
 unfold ovV at *
 go_upto_region 5 with fail
 generalize w4.alloc (.cells #[.func (.func 133) #[] #[.pointer (some ⟨w3.heap.size+4,0,none⟩),.pointer (some ⟨w3.heap.size+6,0,none⟩),.pointer (some ⟨w3.heap.size+5,0,none⟩)]] 79)=w5 at *
 have q0:=blk_cell HQ5.out 0
 have q1:=blk_lt HQ5.out
 have x0:=blk_cell HX5.out 0
 have x1:=blk_lt HX5.out
 have x2:=blk_frozen HX5.out 0
 obtain ⟨k,hk,hk20⟩:=mod_20 stop
 go_upto_region 8 with fail
 rw [hk]
 have hc6:=(Ch.refl (fun j=>j=w.heap.size) w5).setCell (p:=⟨w.heap.size,0,none⟩) rfl (.int .i64 k)
 have HX6:=Lib.hid (set1 HX5.out (.int .i64 k))
 have HC6:=Lib.hid hc6
 have HZ6:=Lib.hid (show (w5.setCell ⟨w.heap.size,0,none⟩ (.int .i64 k)).heap.size=w3.heap.size+8 by have:=HSZ5.out;simp [World.setCell];omega)
 clear q0 q1 x0 x1 x2 hk hc6
 generalize w5.setCell ⟨w.heap.size,0,none⟩ (.int .i64 k)=w6 at *
 have HD9:=Lib.hid (show Below w6.heap.size w6 ((w6.alloc (.cells #[] 62)).alloc (.cells #[.slice (some ⟨w6.heap.size,0,none⟩) 0 0] 67)) from ((Below.refl _ w6).alloc (Nat.le_refl _) _).alloc (by simp) _)
 have HBO:=Lib.hid (show ((w6.alloc (.cells #[] 62)).alloc (.cells #[.slice (some ⟨w6.heap.size,0,none⟩) 0 0] 67)).heap[w6.heap.size+1]?=some (.cells #[.slice (some ⟨w6.heap.size,0,none⟩) 0 0] 67 (0,0)) from blk_new (by simp))
 have HOW:=Lib.hid (show Own prC 2 62 w6.heap.size ((w6.alloc (.cells #[] 62)).alloc (.cells #[.slice (some ⟨w6.heap.size,0,none⟩) 0 0] 67)) (.slice (some ⟨w6.heap.size,0,none⟩) 0 0) ([]:List Pr) from Own.alloc (show Own prC 2 62 w6.heap.size (w6.alloc (.cells #[] 62)) (.slice (some ⟨w6.heap.size,0,none⟩) 0 0) ([]:List Pr) from World.ownsRow_lit w6 #[] 0 (Nat.le_refl _) (by simp [maxLen]) (by simp)) _)
 have HZ9:=Lib.hid (show ((w6.alloc (.cells #[] 62)).alloc (.cells #[.slice (some ⟨w6.heap.size,0,none⟩) 0 0] 67)).heap.size=w3.heap.size+10 by have:=HZ6.out;simp;omega)
 have HQ9:=Lib.hid (blk_keep (HC6.out.keep HQ5.out (by have:=HSZ5.out;have:=blk_lt HQ5.out;have:=HG2.out;have:=blk_lt HX3.out;have:=HB4.out.size;omega)) HD9.out)
 have q0:=blk_cell HQ9.out 0
 have q1:=blk_lt HQ9.out
 go_wp2_with fail
 generalize (w6.alloc (.cells #[] 62)).alloc (.cells #[.slice (some ⟨w6.heap.size,0,none⟩) 0 0] 67)=w9 at *
 have HT:=Lib.hid (show Strm (seekT (fromK low false) 20 root) (fun k=>seekT (fromK k true) 20 root) s (upS ps low) from HTS.out.up (by have:=HPL.out;simp;omega) low)
 have HSL:=Lib.hid (show (upS ps low).length≤200 from Nat.le_trans (List.length_filter_le _ _) HPL.out.1)
 have HTW:=Lib.hid (show (upS ps low).takeWhile (fun p=>upB [] p.1)=upS ps low from tw_all (fun _ _=>rfl))
 have HW9:=Lib.hid (show Ch (fun j=>j=w.heap.size) w5 w9 from HC6.out.then (S':=fun _=>False) (Ch.of_below HD9.out) (fun _ h=>h.elim))
 have HZ:=Lib.hid (show gs<w3.heap.size∧gm<w3.heap.size∧w.heap.size+1<gs∧w.heap.size+1<gm∧w4.heap.size=w3.heap.size+7∧w6.heap.size=w3.heap.size+8∧w9.heap.size=w3.heap.size+10 from
  ⟨blk_lt HS3.out.blk,HS3.out.book.lt,HG2.out.1,HG2.out.2.1,HSZ4.out,HZ6.out,HZ9.out⟩)
 have HUK:=Lib.hid (HU5.out.same (W':=w9) (fun k h1 h2=>HW9.out.block k (by have:=HSZ5.out;omega) (by have:=HZ.out;omega)))
 have HS9:=Lib.hid ((HS3.out.ch (S:=fun _=>False) (Ch.of_below HB5.out) id id).ch HW9.out (by have:=HZ.out;omega) (by have:=HZ.out;omega))
 have hsq:=up_seq Fence.wide 8 (fun _=>trivial) rfl (by omega) (fun _ _ _ _ _ h=>callsIn_wide.2 h) gs gm 400 root low [] w3.heap.size ⟨HZ.out.1,HZ.out.2.1⟩ w9 HUK.out (by have:=HZ.out;omega)
 have hst:Stay w9.heap.size gs gm (w9.heap.size+2) (seekT (fromK low false) 20 root) (fun k=>seekT (fromK k true) 20 root) (StI w9 gs gm w6.heap.size (w6.heap.size+1) w3.heap.size s (upS ps low) k):=by
  have h1:=HZ.out
  exact (Stay.stl HT.out (by omega) (by omega)).and ((Stay.sz _).and ((Stay.ch (.inl rfl) (.inr (.inl rfl)) (Nat.le_refl _) (by omega)).and ((Stay.out (F:=fun pre=>pre.map (·.1)) (by omega) (by omega) (by omega) (by omega)).and (Stay.pure fun pre=>pre.length≤k))))
 have HST:=Lib.hid hst
 clear hst
 refine range_pairs (i:=12) (j:=13) (I:=StI w9 gs gm w6.heap.size (w6.heap.size+1) w3.heap.size s (upS ps low) k) (Ix:=StX 0 w9 gs gm w6.heap.size s) (s0:=⟨s,none,.err 0⟩)
  rfl hsq ?gs ?gm ?bb rfl HST.out.abide (stX_abide ?gs ?gm ?e0) HST.out.sto (fun t pre A hi=>⟨hi.1.shs,by have:=hi.1.le;have:=HSL.out;omega,hi.2.1⟩) rfl ?al HST.out.alloc ?assign ?body ?done ?stop
 case gs=>have:=HZ.out;omega
 case gm=>have:=HZ.out;omega
 case e0=>have:=HZ.out;omega
 case bb=>have:=HZ.out;omega
 case al=>
  intro W hb hsz
  exact ⟨⟨HS9.out.ch (S:=fun _=>False) (Ch.of_below hb) id id,rfl,rfl,Nat.zero_le _,fun p hp=>absurd hp List.not_mem_nil,.inl rfl⟩,by omega,Ch.of_below hb,⟨_,blk_keep HBO.out hb,HOW.out.below hb,fun k hk=>⟨(fun e=>by cases e),.inr (by have:=(HOW.out.lt k hk).1;have:=HZ.out;omega)⟩⟩,Nat.zero_le _⟩
 case assign=>
  rintro l ⟨⟨xk,xv⟩,xe⟩ W K hK
  unfold encO at hK ⊢
  simp at hK
  gi_wp2
  exact hK
 case body=>
  rintro l t pre x b W hl ⟨r,hr⟩ hi hgk hx hg hb
  have HI:=Lib.hid hi
  have HX:=Lib.hid hx
  have HGK:=Lib.hid hgk
  have HLR:=Lib.hid hr
  obtain ⟨hxl,hxe,hxw⟩:=hi.1.x hx
  have HXL:=Lib.hid hxl
  have HPK:=Lib.hid hi.2.2.2.2
  have HCW:=Lib.hid hi.2.2.1
  obtain ⟨v,h1,h2,h3⟩:=hi.2.2.2.1
  obtain ⟨Ao,co,hv⟩:=Sl.len' (h2.sl prC_len)
  rw [List.length_map] at hv
  subst hv
  have H1:=Lib.hid h1
  have H2:=Lib.hid h2
  have H3:=Lib.hid h3
  have c0:=blk_cell h1 0
  have c1:=blk_lt h1
  have c2:=blk_frozen h1 0
  have hxs:=HCW.out.keep (blk_keep HX6.out HD9.out) (by have:=HZ.out;omega)
  have hqs:=HCW.out.keep HQ9.out (by have:=HZ.out;omega)
  have x0:=blk_cell hxs 0
  have x1:=blk_lt hxs
  have q0:=blk_cell hqs 0
  have q1:=blk_lt hqs
  obtain ⟨p0,p1,-,-,p4⟩:=pr_cells hb
  have HQS:=Lib.hid hqs
  have HPB:=Lib.hid hb
  have hq2:=List.getElem?_eq_getElem hxl
  generalize (upS ps low)[pre.length]=q at *
  have HFT:=Lib.hid (show pre.map (·.1) ++ [q]=(upS ps low).take (pre.length+1) by
   have h1:pre.map (·.1)=(upS ps low).take pre.length:=by
    have h2:=congrArg (List.map (·.1)) hi.1.n
    unfold okP at h2
    rw [List.map_map] at h2
    exact h2.trans (List.map_id _)
   rw [h1,List.take_add_one,hq2]
   rfl)
  clear hq2
  subst hxe
  clear hi hx hgk h1 h2 h3 hxs hqs hr hb
  unfold encO
  dsimp only
  by_cases hlt:pre.length<k
  ·have hk1:(pre.length:Int)<(k:Int):=by omega
   gi_wp2_with (gi_at_builtin;refine Hid.out ?_)
   refine Lib.hid ?_
   have hoa:=H2.out.alloc (.cells #[.string (mkS q.1),.string (mkS q.2)] 62)
   refine wpListIn_append_sl (ys:=[q]) rfl rfl elPr rfl rfl hoa (Sl.one (q:Pr) (by simp) prC_len rfl) (by simp [maxLen];omega) (by simp;omega) (by have:=HI.out.2.1;have:=HZ.out;simp;omega) ?_
   intro v' w11 ho hgr hat
   obtain ⟨Av,cv,hvv⟩:=Sl.len' (ho.sl prC_len)
   rw [show (pre.map (·.1) ++ [q]).length=pre.length+1 by simp] at hvv
   subst hvv
   have HBW:=Lib.hid (show Below W.heap.size W (W.alloc (prB q)) from (Below.refl _ W).alloc (Nat.le_refl _) _)
   have h7:=OutB.at7 H1.out H2.out HBW.out hgr (by decide)
   have f0:=blk_cell h7 0
   have f1:=blk_lt h7
   have f2:=blk_frozen h7 0
   have HP:=Lib.hid (OutB.push (s:=t) H1.out H2.out H3.out HBW.out (by have:=HI.out.2.1;have:=HZ.out;omega) ho hgr hat (fun g e=>(HGK.out g e).2) (by decide))
   have HP1:=Lib.hid (set1 h7 (.slice Av (pre.length+1) cv))
   have HOF:=Lib.hid ho
   have HQ11:=Lib.hid (HP.out.2.keep HQS.out (by
    rintro (e | ⟨e,-⟩)
    ·have:=HZ.out;omega
    ·have:=HZ.out;omega))
   clear hoa ho hgr hat h7 c0 c1 c2 p0 p1 p4 x0 x1 q0 q1
   gi_upto_region 16 with fail
   generalize w11.setCell ⟨w6.heap.size+1,0,none⟩ (.slice Av (pre.length+1) cv)=w12 at *
   clear f0 f1 f2
   have q0:=blk_cell HQ11.out 0
   have q1:=blk_lt HQ11.out
   gi_wp2_with fail
   have HLL:=Lib.hid ((PushS.keeps (M:=w9.heap.size) HP.out.2 H1.out).same _ _ hl HLR.out rfl)
   have HN13:=Lib.hid (show (w12.alloc (.cells #[.int .i64 0] 3)).heap[w12.heap.size]?=some (.cells #[.int .i64 0] 3 (0,0)) from blk_new rfl)
   have HL13:=Lib.hid (show (w12.alloc (.cells #[.int .i64 0] 3)).heap[l]?=some (.loop r) from blk_alloc HLL.out _)
   have HC13:=Lib.hid (show Below w12.heap.size w12 (w12.alloc (.cells #[.int .i64 0] 3)) from (Below.refl _ _).alloc (Nat.le_refl _) _)
   have HZ13:=Lib.hid (show (w12.alloc (.cells #[.int .i64 0] 3)).heap.size=w12.heap.size+1 by simp)
   generalize w12.alloc (.cells #[.int .i64 0] 3)=w13 at *
   generalize hbn:w12.heap.size=bn at *
   have HWB:=Lib.hid (show w9.heap.size+2≤bn by have:=HI.out.2.1;have:=HP.out.2.size;omega)
   have HS12:=Lib.hid (show ShIs w12 gs gm s by
    have hsh:=HI.out.1.shs
    rw [HI.out.1.eq] at hsh
    exact hsh.ch HP.out.2 (by rintro (e | ⟨e,-⟩) <;> (have:=HZ.out;omega)) (by rintro (e | ⟨e,-⟩) <;> (have:=HZ.out;omega)))
   have HS13:=Lib.hid (HS12.out.ch (S:=fun _=>False) (Ch.of_below (hbn ▸ HC13.out)) id id)
   have HOB:=Lib.hid (show OutB prC 2 62 67 w6.heap.size (w6.heap.size+1) w3.heap.size t ((upS ps low).take (pre.length+1)) w13 by
    have:=HP.out.1
    rw [HFT.out] at this
    exact this.below (hbn ▸ HC13.out))
   have HO13:=Lib.hid (show w13.heap[w6.heap.size+1]?=some (.cells #[.slice Av (pre.length+1) cv] 67 (0,0)) from blk_keep HP1.out (hbn ▸ HC13.out))
   have hup13:=HUK.out.same (W':=w13) (fun j h1 h2=>by
    have hz:=HZ.out
    rw [HC13.out.block j (by omega),HP.out.2.block j (by have:=HI.out.2.1;omega) (by rintro (e | ⟨e,-⟩) <;> omega),HCW.out.block j (by omega) (by omega)])
   have hsq2:=up_seq Fence.wide 6 (fun _=>trivial) rfl (by omega) (fun _ _ _ _ _ h=>callsIn_wide.2 h) gs gm 400 root low [] w3.heap.size ⟨HZ.out.1,HZ.out.2.1⟩ w13 hup13 (by have:=HZ.out;have:=HWB.out;have:=HZ13.out;omega)
   have hst2:Stay w13.heap.size gs gm (w13.heap.size+1) (seekT (fromK low false) 20 root) (fun k=>seekT (fromK k true) 20 root) (InI w13 gs gm bn s (upS ps low)):=by
    have h1:=HZ.out
    have h2:=HWB.out
    have h3:=HZ13.out
    exact (Stay.stl HT.out (by omega) (by omega)).and ((Stay.sz _).and ((Stay.ch (.inl rfl) (.inr (.inl rfl)) (Nat.le_refl _) (by omega)).and ((Stay.cell (F:=fun pre=>#[.int .i64 pre.length]) (by omega) (by omega) (by omega)).and (Stay.pure fun pre=>pre.length≤20))))
   have HST2:=Lib.hid hst2
   clear hst2 hup13
   refine range_pairs_in (l0:=l) (r0:=r) (i:=15) (j:=16) (I:=InI w13 gs gm bn s (upS ps low)) (Ix:=InX 2 w13 gs gm bn s) (s0:=⟨s,none,.err 0⟩) HL13.out
    rfl hsq2 ?gs2 ?gm2 ?bb2 rfl HST2.out.abide (inX_abide ?gs2 ?gm2 (Nat.le_refl _)) HST2.out.sto (fun t pre A hi=>⟨hi.1.shs,by have:=hi.1.le;have:=HSL.out;omega,hi.2.1⟩) rfl ?al2 HST2.out.alloc ?assign2 ?body2 ?done2 ?stop2
   case gs2=>have:=HZ.out;have:=HWB.out;have:=HZ13.out;omega
   case gm2=>have:=HZ.out;have:=HWB.out;have:=HZ13.out;omega
   case bb2=>have:=HZ.out;have:=HWB.out;have:=HZ13.out;omega
   case al2=>
    intro W hb hsz
    exact ⟨⟨HS13.out.ch (S:=fun _=>False) (Ch.of_below hb) id id,rfl,rfl,Nat.zero_le _,fun p hp=>absurd hp List.not_mem_nil,.inl rfl⟩,by omega,Ch.of_below hb,blk_keep HN13.out hb,Nat.zero_le _⟩
   case assign2=>
    rintro l ⟨⟨xk,xv⟩,xe⟩ W K hK
    unfold encO at hK ⊢
    simp at hK
    gi_wp2
    exact hK
   case body2=>
    rintro l2 t2 pre2 x2 b2 W2 hl2 ⟨r2,hr2⟩ hi2 hgk2 hx2 hg2 hb2
    have HI2:=Lib.hid hi2
    have HX2:=Lib.hid hx2
    have HGK2:=Lib.hid hgk2
    obtain ⟨hxl2,hxe2,-⟩:=hi2.1.x hx2
    obtain ⟨p0,p1,-,-,p4⟩:=pr_cells hb2
    have n0:W2.cell? ⟨bn,0,none⟩=some (.int .i64 pre2.length):=blk_cell hi2.2.2.2.1 0
    have n1:=blk_lt hi2.2.2.2.1
    have n2:=blk_frozen hi2.2.2.2.1 0
    have HLE:=Lib.hid hi2.2.2.2.2
    have hO2:=hi2.2.2.1.keep HO13.out (by have:=HZ.out;have:=HWB.out;omega)
    have o0:=blk_cell hO2 0
    have o1:=blk_lt hO2
    have HOB2:=Lib.hid (show OutB prC 2 62 67 w6.heap.size (w6.heap.size+1) w3.heap.size t ((upS ps low).take (pre.length+1)) W2 from HOB.out.ch hi2.2.2.1 (by have:=HZ.out;have:=HWB.out;omega) (fun j h1 h2 h3 h4 h5=>by
     obtain ⟨cur,hcur⟩:=h5
     rintro (e | e | e)
     ·have:=HZ.out;omega
     ·have:=HZ.out;omega
     ·subst e
      rw [HN13.out] at hcur
      injection hcur with e
      injection e with _ e _
      exact absurd e (by decide)))
    obtain ⟨vo,ho1,ho2,-⟩:=HOB2.out
    rw [hO2] at ho1
    injection ho1 with ho1
    injection ho1 with ho1 _ _
    have ho1:vo=.slice Av (pre.length+1) cv:=by injection ho1 with ho1;injection ho1 with ho1 _;exact ho1.symm
    subst ho1
    have HSO:=Lib.hid (ho2.sl prC_len)
    generalize hq3:(upS ps low)[pre2.length]=q2 at *
    subst hxe2
    clear hi2 hgk2 hx2 hb2 hr2 ho2 hO2
    have hw1:IntKind.i64.wrap ((pre2.length:Int)+1)=(pre2.length:Int)+1:=IntWalk.i64_in _ (by have:=HLE.out;omega)
    have hi0:(0:Int)≤(pre2.length:Int):=by omega
    unfold encO
    dsimp only
    by_cases hm:pre2.length<pre.length+1
    ·obtain ⟨g3,off3,he3,hgl3,e0,e1⟩:=HSO.out.pair2 (k:=pre2.length) (by rw [List.length_take];omega)
     rw [List.getElem_take,hq3] at e0 e1
     subst he3
     have hm1:(pre2.length:Int)<(pre.length:Int)+1:=by omega
     clear hq3 hxl2 hm
     have h20:pre2.length<20:=by omega
     gi_wp2_with fail
     refine region_quiet_rd rfl (by kernel_rfl) (by kernel_rfl) ?_
     repeat (gi_big_quiet_step (fail))
     refine wpQuietIn_nil ?_
     rintro _ ⟨nq,rfl⟩
     have h21:¬ (20:Int)<(pre2.length:Int)+1:=by omega
     gi_wp2_with fail
     have hc:=((Ch.refl (fun j=>j=bn) W2).drewN nq).setCell (p:=⟨bn,0,none⟩) rfl (.int .i64 ((pre2.length:Int)+1))
     have hsh:=HI2.out.1.shs
     rw [HI2.out.1.eq] at hsh
     have hkb:=KbO.one2 (s:=t2) hc (B:=w3.heap.size) (by have:=HZ.out;have:=HWB.out;omega) HGK2.out (by have:=HZ13.out;omega)
     refine ⟨keeps_one hc HI2.out.2.2.2.1,⟨s,t2.g,.err 0⟩,⟨hkb.1,hkb.2⟩,HI2.out.1.next HX2.out (hsh.ch hc (by have:=HZ.out;have:=HWB.out;omega) (by have:=HZ.out;have:=HWB.out;omega)),Nat.le_trans HI2.out.2.1 hc.size,HI2.out.2.2.1.trans (hc.mono fun j _ e=>.inr (.inr e)),?_,by rw [List.length_append];simp;omega⟩
     rw [show (((pre2 ++ [((q2,0):Pr × Int)]).length:Nat):Int)=(pre2.length:Int)+1 by simp]
     exact set1 (show (W2.drewN nq).heap[bn]?=some (.cells #[.int .i64 pre2.length] 3 (0,0)) from HI2.out.2.2.2.1) _
    ·have hm1:decide ((pre2.length:Int)<(pre.length:Int)+1)=false:=decide_eq_false (by omega)
     clear hq3 hxl2 hm
     gi_wp2_with fail
     refine region_quiet_rd rfl (by kernel_rfl) (by kernel_rfl) ?_
     repeat (gi_big_quiet_step (fail))
     refine wpQuietIn_nil ?_
     rintro _ ⟨nq,rfl⟩
     by_cases h20:pre2.length<20
     ·clear hm1
      have h21:¬ (20:Int)<(pre2.length:Int)+1:=by omega
      gi_wp2_with fail
      have hc:=((Ch.refl (fun j=>j=bn) W2).drewN nq).setCell (p:=⟨bn,0,none⟩) rfl (.int .i64 ((pre2.length:Int)+1))
      have hsh:=HI2.out.1.shs
      rw [HI2.out.1.eq] at hsh
      have hkb:=KbO.one2 (s:=t2) hc (B:=w3.heap.size) (by have:=HZ.out;have:=HWB.out;omega) HGK2.out (by have:=HZ13.out;omega)
      refine ⟨keeps_one hc HI2.out.2.2.2.1,⟨s,t2.g,.err 0⟩,⟨hkb.1,hkb.2⟩,HI2.out.1.next HX2.out (hsh.ch hc (by have:=HZ.out;have:=HWB.out;omega) (by have:=HZ.out;have:=HWB.out;omega)),Nat.le_trans HI2.out.2.1 hc.size,HI2.out.2.2.1.trans (hc.mono fun j _ e=>.inr (.inr e)),?_,by rw [List.length_append];simp;omega⟩
      rw [show (((pre2 ++ [((q2,0):Pr × Int)]).length:Nat):Int)=(pre2.length:Int)+1 by simp]
      exact set1 (show (W2.drewN nq).heap[bn]?=some (.cells #[.int .i64 pre2.length] 3 (0,0)) from HI2.out.2.2.2.1) _
     ·clear hm1
      have h21:(20:Int)<(pre2.length:Int)+1:=by omega
      gi_wp2_with fail
      have hc:=((Ch.refl (fun j=>j=bn) W2).drewN nq).setCell (p:=⟨bn,0,none⟩) rfl (.int .i64 ((pre2.length:Int)+1))
      have hsh:=HI2.out.1.shs
      rw [HI2.out.1.eq] at hsh
      refine ⟨keeps_one hc HI2.out.2.2.2.1,rfl,hsh.ch hc (by have:=HZ.out;have:=HWB.out;omega) (by have:=HZ.out;have:=HWB.out;omega),HI2.out.2.2.1.trans (hc.mono fun j _ e=>.inr (.inr e)),?_⟩
      have h22:(21:Int)=(pre2.length:Int)+1:=by have:=HLE.out;omega
      rw [h22]
      exact set1 (show (W2.drewN nq).heap[bn]?=some (.cells #[.int .i64 pre2.length] 3 (0,0)) from HI2.out.2.2.2.1) _
   case done2=>
    rintro t3 xs3 W3 hgk3 he3 hi3
    have hdn3:=hi3.1.done he3
    rw [HTW.out] at hdn3
    have HLN:=Lib.hid (show xs3.length=(upS ps low).length by rw [hdn3];exact okP_len _)
    have hsh:=hi3.1.shs
    rw [hi3.1.eq] at hsh
    have HS3:=Lib.hid hsh
    have HC3:=Lib.hid hi3.2.2.1
    have n0:W3.cell? ⟨bn,0,none⟩=some (.int .i64 xs3.length):=blk_cell hi3.2.2.2.1 0
    have n1:=blk_lt hi3.2.2.2.1
    have hO3:=hi3.2.2.1.keep HO13.out (by have:=HZ.out;have:=HWB.out;omega)
    have o0:=blk_cell hO3 0
    have o1:=blk_lt hO3
    have hm1:¬ (xs3.length:Int)<(pre.length:Int)+1:=by have:=HLN.out;have:=HXL.out;omega
    clear hdn3 hsh hi3 hO3 he3 hgk3
    gi_wp2_with fail
    have hcF:Ch (fun j=>PushS 62 w6.heap.size (w6.heap.size+1) w3.heap.size t W j∨j=gs∨j=gm) W W3:=
     ((HP.out.2.mono fun _ _ e=>.inl e).trans (Ch.of_below (hbn ▸ HC13.out))).then HC3.out (fun i e=>by
       rcases e with e | e | e
       ·exact .inl (.inr (.inl e))
       ·exact .inl (.inr (.inr e))
       ·exact .inr (by have:=HP.out.2.size;omega))
    have hz:=HZ.out
    have hsw:=HI.out.2.1
    have hob:OutB prC 2 62 67 w6.heap.size (w6.heap.size+1) w3.heap.size t ((upS ps low).take (pre.length+1)) W3:=HOB.out.ch HC3.out (by have:=HWB.out;omega) (fun j h1 h2 h3 h4 h5=>by
     obtain ⟨cur,hcur⟩:=h5
     rintro (e | e | e)
     ·omega
     ·omega
     ·subst e
      rw [HN13.out] at hcur
      injection hcur with e
      injection e with _ e _
      exact absurd e (by decide))
    refine ⟨keeps_ch hcF ?_,⟨s,t.g,.err 0⟩,⟨rfl,hcF.size,fun j hj hjl=>hcF.block j hjl ?_⟩,HI.out.1.next HX.out HS3.out,Nat.le_trans hsw hcF.size,HCW.out.trans (hcF.mono fun j _ e=>?_),?_,by rw [List.length_append];simp;omega⟩
    ·rintro j o hbj e ho
     rcases e with (e | ⟨-,-,-,cur,e⟩) | e | e
     ·subst e;rw [H1.out] at ho;injection ho with ho;subst ho;rfl
     ·rw [e] at ho;injection ho with ho;subst ho;rfl
     ·omega
     ·omega
    ·rintro ((e | ⟨e1,e2,-⟩) | e | e)
     ·rcases hj with hj | hj
      ·omega
      ·have:=(HGK.out _ hj).1;omega
     ·rcases hj with hj | hj
      ·omega
      ·exact e2 hj
     ·rcases hj with hj | hj
      ·omega
      ·have:=(HGK.out _ hj).1;omega
     ·rcases hj with hj | hj
      ·omega
      ·have:=(HGK.out _ hj).1;omega
    ·rcases e with (e | ⟨e,-⟩) | e | e
     ·exact .inr (.inr (by omega))
     ·exact .inr (.inr e)
     ·exact .inl e
     ·exact .inr (.inl e)
    ·rw [List.map_append]
     show OutB _ _ _ _ _ _ _ _ (pre.map (·.1) ++ [q]) _
     rw [HFT.out]
     exact hob
   case stop2=>
    rintro c pre3 W3 ⟨rfl,hsh,hch,hb3⟩
    refine wpIn_exit ?_
    have HS3:=Lib.hid hsh
    have HC3:=Lib.hid hch
    have n0:W3.cell? ⟨bn,0,none⟩=some (.int .i64 21):=blk_cell hb3 0
    have n1:=blk_lt hb3
    have hO3:=hch.keep HO13.out (by have:=HZ.out;have:=HWB.out;omega)
    have o0:=blk_cell hO3 0
    have o1:=blk_lt hO3
    have hm1:¬ (21:Int)<(pre.length:Int)+1:=by omega
    clear hsh hch hb3 hO3
    gi_wp2_with fail
    have hcF:Ch (fun j=>PushS 62 w6.heap.size (w6.heap.size+1) w3.heap.size t W j∨j=gs∨j=gm) W W3:=
     ((HP.out.2.mono fun _ _ e=>.inl e).trans (Ch.of_below (hbn ▸ HC13.out))).then HC3.out (fun i e=>by
       rcases e with e | e | e
       ·exact .inl (.inr (.inl e))
       ·exact .inl (.inr (.inr e))
       ·exact .inr (by have:=HP.out.2.size;omega))
    have hz:=HZ.out
    have hsw:=HI.out.2.1
    have hob:OutB prC 2 62 67 w6.heap.size (w6.heap.size+1) w3.heap.size t ((upS ps low).take (pre.length+1)) W3:=HOB.out.ch HC3.out (by have:=HWB.out;omega) (fun j h1 h2 h3 h4 h5=>by
     obtain ⟨cur,hcur⟩:=h5
     rintro (e | e | e)
     ·omega
     ·omega
     ·subst e
      rw [HN13.out] at hcur
      injection hcur with e
      injection e with _ e _
      exact absurd e (by decide))
    refine ⟨keeps_ch hcF ?_,⟨s,t.g,.err 0⟩,⟨rfl,hcF.size,fun j hj hjl=>hcF.block j hjl ?_⟩,HI.out.1.next HX.out HS3.out,Nat.le_trans hsw hcF.size,HCW.out.trans (hcF.mono fun j _ e=>?_),?_,by rw [List.length_append];simp;omega⟩
    ·rintro j o hbj e ho
     rcases e with (e | ⟨-,-,-,cur,e⟩) | e | e
     ·subst e;rw [H1.out] at ho;injection ho with ho;subst ho;rfl
     ·rw [e] at ho;injection ho with ho;subst ho;rfl
     ·omega
     ·omega
    ·rintro ((e | ⟨e1,e2,-⟩) | e | e)
     ·rcases hj with hj | hj
      ·omega
      ·have:=(HGK.out _ hj).1;omega
     ·rcases hj with hj | hj
      ·omega
      ·exact e2 hj
     ·rcases hj with hj | hj
      ·omega
      ·have:=(HGK.out _ hj).1;omega
     ·rcases hj with hj | hj
      ·omega
      ·have:=(HGK.out _ hj).1;omega
    ·rcases e with (e | ⟨e,-⟩) | e | e
     ·exact .inr (.inr (by omega))
     ·exact .inr (.inr e)
     ·exact .inl e
     ·exact .inr (.inl e)
    ·rw [List.map_append]
     show OutB _ _ _ _ _ _ _ _ (pre.map (·.1) ++ [q]) _
     rw [HFT.out]
     exact hob
  ·have hk1:(k:Int)≤(pre.length:Int):=by omega
   gi_wp2_with fail
   have hsh:=HI.out.1.shs
   rw [HI.out.1.eq] at hsh
   exact ⟨keeps_ch (S:=fun _=>False) (Ch.refl _ W) (fun _ _ _ h _=>h.elim),rfl,hsh,HCW.out⟩
 case done=>
  rintro D t xs W hD hgk he hi hk
  have hsh:=hi.1.shs
  rw [hi.1.eq] at hsh
  have HS10:=Lib.hid hsh
  have HK10:=Lib.hid hk
  have HC10:=Lib.hid hi.2.2.1
  clear hsh hi hk he hgk
  have HCW3:=Lib.hid (show Ch (fun j=>j=gs∨j=gm∨j=w.heap.size) w3 W from ((Ch.of_below HB5.out).trans (HW9.out.mono fun j _ e=>.inr (.inr e))).then HC10.out (fun i e=>by have:=HZ.out;omega))
  have HMW:=Lib.hid (HM3.out.ch HCW3.out fun j hj=>by
   rcases hj with rfl | rfl | rfl
   ·exact ⟨HN.out.1,HS3.out.no_pr _ (.inl rfl)⟩
   ·exact ⟨HN.out.2.1,HS3.out.no_pr _ (.inr rfl)⟩
   ·refine ⟨by have:=HG2.out;omega,fun cur e=>?_⟩
    rw [HX3.out] at e
    injection e with e
    injection e with _ e _
    exact absurd e (by decide))
  have HRW:=Lib.hid (HCW3.out.keep HR3.out (by have:=HZ.out;omega))
  have HBW:=Lib.hid (show Below w.heap.size w W from HB3.out.trans (HCW3.out.below HB3.out.size (by have:=HZ.out;omega)))
  go_wp2_with fail
  refine (sHead_any gs gm s W HS10.out).mono ?_
  rintro e w21 ⟨rfl,hb⟩
  have HS22:=Lib.hid (show ShIs (w21.alloc (.cells #[.int .i64 s.h.mode,.int .i64 s.h.pages,.int .i64 s.h.trunk,.int .i64 s.h.spare,.int .i64 s.h.root,.int .u64 s.h.change] 51)) gs gm s from (HS10.out.ch (S:=fun _=>False) (Ch.of_below hb) id id).ch (S:=fun _=>False) (Ch.alloc (Ch.refl _ w21) _) id id)
  have HH22:=Lib.hid (show (w21.alloc (.cells #[.int .i64 s.h.mode,.int .i64 s.h.pages,.int .i64 s.h.trunk,.int .i64 s.h.spare,.int .i64 s.h.root,.int .u64 s.h.change] 51)).heap[w21.heap.size]?=some (.cells #[.int .i64 s.h.mode,.int .i64 s.h.pages,.int .i64 s.h.trunk,.int .i64 s.h.spare,.int .i64 s.h.root,.int .u64 s.h.change] 51 (0,0)) from blk_new rfl)
  have HD22:=Lib.hid (show Below W.heap.size W (w21.alloc (.cells #[.int .i64 s.h.mode,.int .i64 s.h.pages,.int .i64 s.h.trunk,.int .i64 s.h.spare,.int .i64 s.h.root,.int .u64 s.h.change] 51)) from hb.alloc hb.size _)
  have HWL:=Lib.hid hb.size
  clear hb
  go_upto_region 27 with fail
  generalize w21.alloc (.cells #[.int .i64 s.h.mode,.int .i64 s.h.pages,.int .i64 s.h.trunk,.int .i64 s.h.spare,.int .i64 s.h.root,.int .u64 s.h.change] 51)=w22 at *
  generalize w21.heap.size=gh at *
  go_wp2_with fail
  refine (taken_any s root ps [] [] false gs gm w22 HS22.out HTS.out (by have:=HPL.out;omega) (by have:=HPL.out;omega)).mono ?_
  rintro e w23 ⟨vu,rfl,hou,hs23,hc⟩
  rw [gone_all] at hou
  have HGW:=Lib.hid (show gs<W.heap.size∧gm<W.heap.size∧W.heap.size≤gh∧w.heap.size+1<gs∧w.heap.size+1<gm∧w9.heap.size≤W.heap.size from ⟨blk_lt HS10.out.blk,HS10.out.book.lt,HWL.out,HZ.out.2.2.1,HZ.out.2.2.2.1,HC10.out.size⟩)
  have HS23:=Lib.hid hs23
  have HU23:=Lib.hid (hou.sl prC_len)
  have HC23:=Lib.hid (show Ch (fun j=>j=gs∨j=gm) W w23 from (Ch.of_below HD22.out).trans hc)
  have HH23:=Lib.hid (hc.keep HH22.out (by have:=HGW.out;omega))
  have HM23:=Lib.hid (HMW.out.ch HC23.out fun j hj=>⟨hj.elim (fun e=>e ▸ HN.out.1) (fun e=>e ▸ HN.out.2.1),HS10.out.no_pr j hj⟩)
  obtain ⟨Au,cu,rfl⟩:=Sl.len' HU23.out
  obtain ⟨Am,cm,mm,mo⟩:=HM23.out.open
  have HMM:=Lib.hid mm
  have MO:=Lib.hid (mo.sl prC_len)
  have m0:=blk_cell mm 0
  have m1:=blk_lt mm
  clear hou hs23 hc mm mo
  go_wp2_with fail
  have hx23:=HC23.out.keep HRW.out (by have:=HGW.out;omega)
  have HXR:=Lib.hid hx23
  have h0:=blk_cell HH23.out 0
  have h1:=blk_cell HH23.out 1
  have h2:=blk_cell HH23.out 2
  have h3:=blk_cell HH23.out 3
  have h4:=blk_cell HH23.out 4
  have h5:=blk_cell HH23.out 5
  have h6:=blk_lt HH23.out
  have r0:=blk_cell hx23 0
  have r1:=blk_lt hx23
  have r2:=blk_frozen hx23 0
  clear hx23
  have e1:¬ gh=w.heap.size+1:=by have:=HGW.out;omega
  have e2:¬ w.heap.size+1=gh:=by have:=HGW.out;omega
  have e3:¬ g=w.heap.size+1:=by have:=HG2.out;omega
  have e4:¬ w.heap.size+1=g:=by have:=HG2.out;omega
  go_region_held3 (fun wn=>wn.cell? ⟨g,0,none⟩=some (.slice Am ps.length cm)∧wn.cell? ⟨gh,0,none⟩=some (.int .i64 s.h.mode)∧wn.cell? ⟨gh,1,none⟩=some (.int .i64 s.h.pages)∧wn.cell? ⟨gh,2,none⟩=some (.int .i64 s.h.trunk)∧wn.cell? ⟨gh,3,none⟩=some (.int .i64 s.h.spare)∧wn.cell? ⟨gh,4,none⟩=some (.int .i64 s.h.root)∧wn.cell? ⟨gh,5,none⟩=some (.int .u64 s.h.change))
   ((first | go_keep | exact HK24.out | exact HK25.out))
   (first
   | (go_at_call 41
      refine (same16_any ps ps _ _ _ (HU23.out.keep (Below.refl _ _).drew) (MO.out.keep (Below.refl _ _).drew) (by have:=HPL.out;omega)).mono ?_
      rintro e w24 ⟨rfl,hb⟩
      rw [decide_eq_true rfl]
      have HB24:=Lib.hid (show Below w23.heap.size w23 w24 from (Below.refl _ w23).drew.trans hb)
      have hh:=blk_keep HH23.out HB24.out
      have HK24:=Lib.hid (And.intro (blk_cell (blk_keep HMM.out HB24.out) 0) (And.intro (blk_cell hh 0) (And.intro (blk_cell hh 1) (And.intro (blk_cell hh 2) (And.intro (blk_cell hh 3) (And.intro (blk_cell hh 4) (blk_cell hh 5)))))))
      clear hb hh)
   | (go_at_call 29
      refine (sHead_any gs gm s _ (HS23.out.ch (S:=fun _=>False) (Ch.of_below HB24.out) id id)).mono ?_
      rintro e w25 ⟨rfl,hb⟩
      have HB25:=Lib.hid (show Below w23.heap.size w23 w25 from HB24.out.trans (hb.mono HB24.out.size))
      have hh:=blk_keep HH23.out HB25.out
      have HK25:=Lib.hid (And.intro (blk_cell (blk_keep HMM.out HB25.out) 0) (And.intro (blk_cell hh 0) (And.intro (blk_cell hh 1) (And.intro (blk_cell hh 2) (And.intro (blk_cell hh 3) (And.intro (blk_cell hh 4) (blk_cell hh 5)))))))
      have s0:=blk_cell (blk_keep HXR.out HB25.out) 0
      have s1:=blk_lt (blk_keep HXR.out HB25.out)
      have s2:=blk_frozen (blk_keep HXR.out HB25.out) 0
      clear hb hh))
  go_wp2_with fail
  have hc1:=(Ch.refl (fun j=>j=w.heap.size+1) w25).setCell (p:=⟨w.heap.size+1,0,none⟩) rfl (.bool true)
  have hk3:=hc1.keep (blk_keep (HC23.out.keep HK10.out (by have:=HGW.out;have:=HZ.out;omega)) HB25.out) (by have:=HGW.out;have:=HZ.out;omega)
  have hc2:=ch_putObj (w25.setCell ⟨w.heap.size+1,0,none⟩ (.bool true)) D (.deferred none)
  have hz:=blk_cell (hc2.keep (set1 (blk_keep HXR.out HB25.out) (.bool true)) (by have:=HGW.out;have:=HZ.out;omega)) 0
  have hb:=((((HC23.out.mono (S':=fun j=>w.heap.size≤j) (fun j _ e=>by have:=HGW.out;omega)).trans (Ch.of_below HB25.out)).trans (hc1.mono (fun j _ e=>by omega))).trans (hc2.mono (fun j _ e=>by have:=HGW.out;have:=HZ.out;omega)))
  exact ret_marks (v:=.bool true) hk3 (by simp [results,Tryz.results11,go_sem,hz]) ⟨rfl,HBW.out.trans (hb.below HBW.out.size (fun j h=>h))⟩
 case stop=>
  rintro D c pre W hD ⟨rfl,hsh,hch⟩ hk
  have HS10:=Lib.hid hsh
  have HK10:=Lib.hid hk
  have HC10:=Lib.hid hch
  clear hsh hch hk
  refine wp_exit ?_
  have HCW3:=Lib.hid (show Ch (fun j=>j=gs∨j=gm∨j=w.heap.size) w3 W from ((Ch.of_below HB5.out).trans (HW9.out.mono fun j _ e=>.inr (.inr e))).then HC10.out (fun i e=>by have:=HZ.out;omega))
  have HMW:=Lib.hid (HM3.out.ch HCW3.out fun j hj=>by
   rcases hj with rfl | rfl | rfl
   ·exact ⟨HN.out.1,HS3.out.no_pr _ (.inl rfl)⟩
   ·exact ⟨HN.out.2.1,HS3.out.no_pr _ (.inr rfl)⟩
   ·refine ⟨by have:=HG2.out;omega,fun cur e=>?_⟩
    rw [HX3.out] at e
    injection e with e
    injection e with _ e _
    exact absurd e (by decide))
  have HRW:=Lib.hid (HCW3.out.keep HR3.out (by have:=HZ.out;omega))
  have HBW:=Lib.hid (show Below w.heap.size w W from HB3.out.trans (HCW3.out.below HB3.out.size (by have:=HZ.out;omega)))
  go_wp2_with fail
  refine (sHead_any gs gm s W HS10.out).mono ?_
  rintro e w21 ⟨rfl,hb⟩
  have HS22:=Lib.hid (show ShIs (w21.alloc (.cells #[.int .i64 s.h.mode,.int .i64 s.h.pages,.int .i64 s.h.trunk,.int .i64 s.h.spare,.int .i64 s.h.root,.int .u64 s.h.change] 51)) gs gm s from (HS10.out.ch (S:=fun _=>False) (Ch.of_below hb) id id).ch (S:=fun _=>False) (Ch.alloc (Ch.refl _ w21) _) id id)
  have HH22:=Lib.hid (show (w21.alloc (.cells #[.int .i64 s.h.mode,.int .i64 s.h.pages,.int .i64 s.h.trunk,.int .i64 s.h.spare,.int .i64 s.h.root,.int .u64 s.h.change] 51)).heap[w21.heap.size]?=some (.cells #[.int .i64 s.h.mode,.int .i64 s.h.pages,.int .i64 s.h.trunk,.int .i64 s.h.spare,.int .i64 s.h.root,.int .u64 s.h.change] 51 (0,0)) from blk_new rfl)
  have HD22:=Lib.hid (show Below W.heap.size W (w21.alloc (.cells #[.int .i64 s.h.mode,.int .i64 s.h.pages,.int .i64 s.h.trunk,.int .i64 s.h.spare,.int .i64 s.h.root,.int .u64 s.h.change] 51)) from hb.alloc hb.size _)
  have HWL:=Lib.hid hb.size
  clear hb
  go_upto_region 27 with fail
  generalize w21.alloc (.cells #[.int .i64 s.h.mode,.int .i64 s.h.pages,.int .i64 s.h.trunk,.int .i64 s.h.spare,.int .i64 s.h.root,.int .u64 s.h.change] 51)=w22 at *
  generalize w21.heap.size=gh at *
  go_wp2_with fail
  refine (taken_any s root ps [] [] false gs gm w22 HS22.out HTS.out (by have:=HPL.out;omega) (by have:=HPL.out;omega)).mono ?_
  rintro e w23 ⟨vu,rfl,hou,hs23,hc⟩
  rw [gone_all] at hou
  have HGW:=Lib.hid (show gs<W.heap.size∧gm<W.heap.size∧W.heap.size≤gh∧w.heap.size+1<gs∧w.heap.size+1<gm∧w9.heap.size≤W.heap.size from ⟨blk_lt HS10.out.blk,HS10.out.book.lt,HWL.out,HZ.out.2.2.1,HZ.out.2.2.2.1,HC10.out.size⟩)
  have HS23:=Lib.hid hs23
  have HU23:=Lib.hid (hou.sl prC_len)
  have HC23:=Lib.hid (show Ch (fun j=>j=gs∨j=gm) W w23 from (Ch.of_below HD22.out).trans hc)
  have HH23:=Lib.hid (hc.keep HH22.out (by have:=HGW.out;omega))
  have HM23:=Lib.hid (HMW.out.ch HC23.out fun j hj=>⟨hj.elim (fun e=>e ▸ HN.out.1) (fun e=>e ▸ HN.out.2.1),HS10.out.no_pr j hj⟩)
  obtain ⟨Au,cu,rfl⟩:=Sl.len' HU23.out
  obtain ⟨Am,cm,mm,mo⟩:=HM23.out.open
  have HMM:=Lib.hid mm
  have MO:=Lib.hid (mo.sl prC_len)
  have m0:=blk_cell mm 0
  have m1:=blk_lt mm
  clear hou hs23 hc mm mo
  go_wp2_with fail
  have hx23:=HC23.out.keep HRW.out (by have:=HGW.out;omega)
  have HXR:=Lib.hid hx23
  have h0:=blk_cell HH23.out 0
  have h1:=blk_cell HH23.out 1
  have h2:=blk_cell HH23.out 2
  have h3:=blk_cell HH23.out 3
  have h4:=blk_cell HH23.out 4
  have h5:=blk_cell HH23.out 5
  have h6:=blk_lt HH23.out
  have r0:=blk_cell hx23 0
  have r1:=blk_lt hx23
  have r2:=blk_frozen hx23 0
  clear hx23
  have e1:¬ gh=w.heap.size+1:=by have:=HGW.out;omega
  have e2:¬ w.heap.size+1=gh:=by have:=HGW.out;omega
  have e3:¬ g=w.heap.size+1:=by have:=HG2.out;omega
  have e4:¬ w.heap.size+1=g:=by have:=HG2.out;omega
  go_region_held3 (fun wn=>wn.cell? ⟨g,0,none⟩=some (.slice Am ps.length cm)∧wn.cell? ⟨gh,0,none⟩=some (.int .i64 s.h.mode)∧wn.cell? ⟨gh,1,none⟩=some (.int .i64 s.h.pages)∧wn.cell? ⟨gh,2,none⟩=some (.int .i64 s.h.trunk)∧wn.cell? ⟨gh,3,none⟩=some (.int .i64 s.h.spare)∧wn.cell? ⟨gh,4,none⟩=some (.int .i64 s.h.root)∧wn.cell? ⟨gh,5,none⟩=some (.int .u64 s.h.change))
   ((first | go_keep | exact HK24.out | exact HK25.out))
   (first
   | (go_at_call 41
      refine (same16_any ps ps _ _ _ (HU23.out.keep (Below.refl _ _).drew) (MO.out.keep (Below.refl _ _).drew) (by have:=HPL.out;omega)).mono ?_
      rintro e w24 ⟨rfl,hb⟩
      rw [decide_eq_true rfl]
      have HB24:=Lib.hid (show Below w23.heap.size w23 w24 from (Below.refl _ w23).drew.trans hb)
      have hh:=blk_keep HH23.out HB24.out
      have HK24:=Lib.hid (And.intro (blk_cell (blk_keep HMM.out HB24.out) 0) (And.intro (blk_cell hh 0) (And.intro (blk_cell hh 1) (And.intro (blk_cell hh 2) (And.intro (blk_cell hh 3) (And.intro (blk_cell hh 4) (blk_cell hh 5)))))))
      clear hb hh)
   | (go_at_call 29
      refine (sHead_any gs gm s _ (HS23.out.ch (S:=fun _=>False) (Ch.of_below HB24.out) id id)).mono ?_
      rintro e w25 ⟨rfl,hb⟩
      have HB25:=Lib.hid (show Below w23.heap.size w23 w25 from HB24.out.trans (hb.mono HB24.out.size))
      have hh:=blk_keep HH23.out HB25.out
      have HK25:=Lib.hid (And.intro (blk_cell (blk_keep HMM.out HB25.out) 0) (And.intro (blk_cell hh 0) (And.intro (blk_cell hh 1) (And.intro (blk_cell hh 2) (And.intro (blk_cell hh 3) (And.intro (blk_cell hh 4) (blk_cell hh 5)))))))
      have s0:=blk_cell (blk_keep HXR.out HB25.out) 0
      have s1:=blk_lt (blk_keep HXR.out HB25.out)
      have s2:=blk_frozen (blk_keep HXR.out HB25.out) 0
      clear hb hh))
  go_wp2_with fail
  have hc1:=(Ch.refl (fun j=>j=w.heap.size+1) w25).setCell (p:=⟨w.heap.size+1,0,none⟩) rfl (.bool true)
  have hk3:=hc1.keep (blk_keep (HC23.out.keep HK10.out (by have:=HGW.out;have:=HZ.out;omega)) HB25.out) (by have:=HGW.out;have:=HZ.out;omega)
  have hc2:=ch_putObj (w25.setCell ⟨w.heap.size+1,0,none⟩ (.bool true)) D (.deferred none)
  have hz:=blk_cell (hc2.keep (set1 (blk_keep HXR.out HB25.out) (.bool true)) (by have:=HGW.out;have:=HZ.out;omega)) 0
  have hb:=((((HC23.out.mono (S':=fun j=>w.heap.size≤j) (fun j _ e=>by have:=HGW.out;omega)).trans (Ch.of_below HB25.out)).trans (hc1.mono (fun j _ e=>by omega))).trans (hc2.mono (fun j _ e=>by have:=HGW.out;have:=HZ.out;omega)))
  exact ret_marks (v:=.bool true) hk3 (by simp [results,Tryz.results11,go_sem,hz]) ⟨rfl,HBW.out.trans (hb.below HBW.out.size (fun j h=>h))⟩
end Go.Proofs.YtknioodagnjchaaGreatDoor
