/- cahierref17.Between. What stays while a tree is gone over; looks that find. A region that draws its order and only reads, walked once, within a loop's round. cahierlaw17.awake is true. The walk of cahierlaw17.WalkFinds. The walk of cahierlaw17.WalkOver. Arguments of the walk's laws: two bounds. -/
import Derived.Test.YtknioodagnjchaaGreatDoorWWc
import Derived.Test.YtknioodagnjchaaGreatDoorWWd
import Derived.Test.YtknioodagnjchaaGreatDoorWAr
import Derived.Sort.BigQuietIn
import Derived.BigQuiet
import Derived.Deep.RegionHeld3
import Derived.OpenShut
namespace Go.Proofs.YtknioodagnjchaaGreatDoor
open Go.RowKit
def btB (low high:By) (p:Pr):Bool:=!klt p.1 low && upB high p.1
set_option maxRecDepth 100000 in
set_option maxHeartbeats 4000000 in
theorem rbtw_any (ps:List Pr) (low high:By) (v:Value) (w:World) (h:Sl prC 2 w v ps) (hl:ps.length≤1000):
  Calls Tryz.prog 39 #[v,.string (mkS low),.string (mkS high)] w fun e w'=>∃ v',e = .returned v'∧Own prC 2 62 w.heap.size w' v' (btwP ps low high)∧Below w.heap.size w w':=by
 obtain ⟨A,c,rfl⟩:=Sl.len' h
 have HV:=Lib.hid h
 have HO:=Lib.hid (show Own prC 2 62 w.heap.size (w.alloc (.cells #[] 62)) (.slice (some ⟨w.heap.size,0,none⟩) 0 0) ([]:List Pr) from World.ownsRow_lit w #[] 0 (Nat.le_refl _) (by simp [maxLen]) (by simp))
 have HB:=Lib.hid ((Below.refl _ w).alloc (Nat.le_refl _) (.cells #[] 62))
 clear h
 go_enter Tryz.func39,Tryz.ntmps39
 go_wp2_with fail
 go_loopw [7,8] (fun s7 s8 wr=>∃ i:Nat,s8 = .int .i64 i∧i≤ps.length∧Own prC 2 62 w.heap.size wr s7 ((ps.take i).filter (btB low high))∧Below w.heap.size w wr) (fun _ s8 _=>ps.length - (intOf s8).toNat)
 case atStart=>exact ⟨0,rfl,Nat.zero_le _,HO.out,HB.out⟩
 case round=>
  obtain ⟨i,rfl,hi,ho,hb⟩:=hrel
  clear HO HB
  have hln:((ps.take i).filter (btB low high)).length≤1000:=Nat.le_trans (List.length_filter_le _ _) (by rw [List.length_take]; omega)
  have HLN:=Lib.hid hln
  obtain ⟨Ao,co,hov⟩:=Sl.len' (ho.sl prC_len)
  have HO3:=Lib.hid ho
  have HB3:=Lib.hid hb
  by_cases hlt:i < ps.length
  ·obtain ⟨b,off,rfl,hbl,c0,c1⟩:=(HV.out.keep HB3.out).pair2 hlt
   have hi0:(0:Int)≤(i:Int):=by omega
   have hi1:(i:Int) < (ps.length:Int):=by omega
   have hi2:IntKind.i64.wrap ((i:Int) + 1) = ((i + 1:Nat):Int):=by rw [IntWalk.i64_in _ (by omega)]; rfl
   generalize hpi:ps[i] = p at *
   have HPI:=Lib.hid hpi
   have HPE:=Lib.hid (show btB low high p = (!klt p.1 low && upB high p.1) from rfl)
   clear hpi ho hb
   have hls:Op.bytesLess (mkS p.1).toList (mkS low).toList = klt p.1 low:=by rw [mkS_toList,mkS_toList]; rfl
   subst hov
   cases hk:klt p.1 low
   ·rw [hk] at hls HPE
    cases high with
    | nil=>
      have he:(mkS []).toList = []:=mkS_toList []
      have HPY:=Lib.hid (show btB low [] p = true by rw [HPE.out]; rfl)
      go_wp2_with (at_builtin; refine Hid.out ?_)
      refine Lib.hid ?_
      refine wpList_append_sl (ys:=[p]) rfl rfl elPr rfl rfl (HO3.out.alloc _) (Sl.one (p:Pr) (by simp) prC_len rfl) (by simp [maxLen]; omega) (by simp; omega) (by have:=HB3.out.size; simp; omega) ?_
      intro v' w6 ho hg hat
      have HO6:=Lib.hid (show Own prC 2 62 w.heap.size w6 v' ((ps.take (i + 1)).filter (btB low ([]))) by rw [List.take_succ_eq_append_getElem hlt,List.filter_append,HPI.out,List.filter_cons,HPY.out]; exact ho)
      have HB6:=Lib.hid (below_app (HB3.out.alloc HB3.out.size _) hg (by have:=HB3.out.size; simp; omega) (fun k hk=>(HO3.out.lt k hk).1))
      clear ho hg hat
      go_wp2_with fail
      go_roundw
      case rel=>exact ⟨i + 1,rfl,hlt,HO6.out,HB6.out⟩
      case measure=>simp [intOf]; omega
    | cons a l=>
      have he:((mkS (a :: l)).toList == []) = false:=by rw [mkS_toList]; rfl
      have he2:¬ (mkS (a :: l)).toList = []:=by rw [mkS_toList]; simp
      have hlh:Op.bytesLess (mkS p.1).toList (mkS (a :: l)).toList = klt p.1 (a :: l):=by rw [mkS_toList,mkS_toList]; rfl
      cases hk2:klt p.1 (a :: l)
      ·rw [hk2] at hlh
       have HPY:=Lib.hid (show btB low (a :: l) p = false by rw [HPE.out]; unfold upB; rw [hk2]; rfl)
       go_wp2_with fail
       go_roundw
       case rel=>exact ⟨i + 1,rfl,hlt,by rw [List.take_succ_eq_append_getElem hlt,List.filter_append,HPI.out,List.filter_cons,HPY.out]; simpa using HO3.out,HB3.out⟩
       case measure=>simp [intOf]; omega
      ·rw [hk2] at hlh
       have HPY:=Lib.hid (show btB low (a :: l) p = true by rw [HPE.out]; unfold upB; rw [hk2]; rfl)
       go_wp2_with (at_builtin; refine Hid.out ?_)
       refine Lib.hid ?_
       refine wpList_append_sl (ys:=[p]) rfl rfl elPr rfl rfl (HO3.out.alloc _) (Sl.one (p:Pr) (by simp) prC_len rfl) (by simp [maxLen]; omega) (by simp; omega) (by have:=HB3.out.size; simp; omega) ?_
       intro v' w6 ho hg hat
       have HO6:=Lib.hid (show Own prC 2 62 w.heap.size w6 v' ((ps.take (i + 1)).filter (btB low (a :: l))) by rw [List.take_succ_eq_append_getElem hlt,List.filter_append,HPI.out,List.filter_cons,HPY.out]; exact ho)
       have HB6:=Lib.hid (below_app (HB3.out.alloc HB3.out.size _) hg (by have:=HB3.out.size; simp; omega) (fun k hk=>(HO3.out.lt k hk).1))
       clear ho hg hat
       go_wp2_with fail
       go_roundw
       case rel=>exact ⟨i + 1,rfl,hlt,HO6.out,HB6.out⟩
       case measure=>simp [intOf]; omega
   ·rw [hk] at hls HPE
    have HPY:=Lib.hid (show btB low high p = false by rw [HPE.out]; rfl)
    go_wp2_with fail
    go_roundw
    case rel=>exact ⟨i + 1,rfl,hlt,by rw [List.take_succ_eq_append_getElem hlt,List.filter_append,HPI.out,List.filter_cons,HPY.out]; simpa using HO3.out,HB3.out⟩
    case measure=>simp [intOf]; omega
  ·obtain rfl:i = ps.length:=by omega
   rw [List.take_length] at ho
   have HO4:=Lib.hid ho
   subst hov
   clear ho hb
   go_wp2_with fail
   go_ret
   exact ⟨_,rfl,HO4.out,HB3.out⟩
end Go.Proofs.YtknioodagnjchaaGreatDoor
namespace Go.Proofs.YtknioodagnjchaaGreatDoor
open Go.RowKit
structure Stay (B gs gm M:Nat) (FP:Pro (Option Pr)) (GP:By→Pro (Option Pr)) (I:Ov→List (Pr × Int)→World→Prop):Prop where
 abide:∀ s pre,Abide B (I s pre)
 alloc:∀ s pre W o,I s pre W→I s pre (W.alloc o)
 sto:∀ s pre A t B',I s pre A→Gok M s A→StO gs gm FP GP s pre A t B'→Gok M t B'→I t pre B'
section
variable {B gs gm M:Nat} {FP:Pro (Option Pr)} {GP:By→Pro (Option Pr)} {I J:Ov→List (Pr × Int)→World→Prop}
theorem Stay.and (h:Stay B gs gm M FP GP I) (k:Stay B gs gm M FP GP J):Stay B gs gm M FP GP (fun s pre A=>I s pre A∧J s pre A):=
 ⟨fun s pre W l o o' hi h1 h2 h3=>⟨h.abide s pre W l o o' hi.1 h1 h2 h3,k.abide s pre W l o o' hi.2 h1 h2 h3⟩,fun s pre W o hi=>⟨h.alloc s pre W o hi.1,k.alloc s pre W o hi.2⟩,fun s pre A t B' hi h1 h2 h3=>⟨h.sto s pre A t B' hi.1 h1 h2 h3,k.sto s pre A t B' hi.2 h1 h2 h3⟩⟩
theorem Stay.sz (c:Nat):Stay B gs gm M FP GP (fun _ _ A=>c≤A.heap.size):=
 ⟨fun _ _ W l _ o' h _ _ _=>Nat.le_trans h (ch_putObj W l o').size,fun _ _ W o h=>by simp; omega,fun _ _ A t B' h _ hs _=>by obtain ⟨-,-,g1,e1,e2,e3,hc⟩:=hs; exact Nat.le_trans h hc.size⟩
theorem Stay.ch {S:Nat→Prop} {w0:World} (h1:S gs) (h2:S gm) (hB:w0.heap.size≤B) (hM:w0.heap.size≤M):Stay B gs gm M FP GP (fun _ _ A=>Ch S w0 A):=
 ⟨fun _ _ W l _ o' h hl _ _=>h.then (ch_putObj W l o') (fun i e=>.inr (by omega)),fun _ _ W o h=>h.alloc o,fun _ _ A t B' h _ hs hg=>by
   obtain ⟨-,-,g1,e1,e2,e3,hc⟩:=hs
   have:=(hg g1 e1).1
   exact h.then hc fun i hi=>by
    rcases hi with rfl | rfl | rfl
    ·exact .inl h1
    ·exact .inl h2
    ·exact .inr (by omega)⟩
theorem Stay.cell {b:Nat} {F:List (Pr × Int)→Array Value} {ty:TypeId} (hb:b < M) (h1:b≠gs) (h2:b≠gm):Stay B gs gm M FP GP (fun _ pre A=>A.heap[b]? = some (.cells (F pre) ty (0,0))):=
 ⟨fun _ _ W l o o' h hl ho hc=>(ch_putObj W l o').keep h (by rintro rfl; rw [ho] at h; injection h with h; subst h; cases hc),fun _ _ W o h=>blk_alloc h o,fun _ _ A t B' h _ hs hg=>by
   obtain ⟨-,-,g1,e1,e2,e3,hc⟩:=hs
   have:=(hg g1 e1).1
   exact hc.keep h (by omega)⟩
theorem Stay.stl {sh:Sf} {S:List Pr} {WN:By→Bool} (hT:Strm FP GP sh S) (h1:gs < B) (h2:gm < B):Stay B gs gm M FP GP (Stl gs gm sh S WN):=
 ⟨fun _ _ W l o o' h hl ho hc=>h.ch (ch_putObj W l o') (by omega) (by omega),fun _ _ W o h=>h.ch (S:=S) (Z:=fun _=>False) (Ch.alloc (Ch.refl _ W) o) id id,fun _ _ _ _ _ h _ hs _=>h.sto hT hs⟩
theorem Stay.out {α:Type} {f:α→List Value} {size:Nat} {e ty:TypeId} {base bo B0:Nat} {F:List (Pr × Int)→List α} (h1:gs < base) (h2:gm < base) (h3:base≤bo) (h4:bo < M):Stay B gs gm M FP GP (fun s pre A=>OutB f size e ty base bo B0 s (F pre) A):=
 ⟨fun _ _ _ _ _ _ h _ ho hc=>h.put ho hc,fun _ _ W o h=>h.below ((Below.refl _ W).alloc (Nat.le_refl _) o),fun _ _ _ _ _ h _ hs hg=>h.sto hs h1 h2 h3 hg h4⟩
end
def lkV (o:Option Pr):Value:=.tuple #[.agg #[.string (mkS (o.getD ([],[])).1),.string (mkS (o.getD ([],[])).2)],.bool o.isSome,.int .i64 0]
theorem skV_ok (o:Option Pr):skV (.ok o) = lkV o:=by cases o <;> rfl
section
variable {gs gm:Nat} {s:Sf} {w:World} {root:Int} {o:Option Pr}
theorem from_ok {k:By} {past:Bool} (hr:(seekT (fromK k past) 20 root).run s = (s,.ok o)) (hS:ShIs w gs gm s):Calls Tryz.prog 34 #[shV gs,.int .i64 root,.string (mkS k),.bool past] w fun e w'=>e = .returned (lkV o)∧ShIs w' gs gm s∧Ch (fun k=>k = gs∨k = gm) w w':=by
 have:=wfrom_any k past root gs gm s w hS
 rw [hr,skV_ok] at this
 exact this
theorem to_ok {k:By} {past:Bool} (hr:(seekT (toK k past) 20 root).run s = (s,.ok o)) (hS:ShIs w gs gm s):Calls Tryz.prog 36 #[shV gs,.int .i64 root,.string (mkS k),.bool past] w fun e w'=>e = .returned (lkV o)∧ShIs w' gs gm s∧Ch (fun k=>k = gs∨k = gm) w w':=by
 have:=wto_any k past root gs gm s w hS
 rw [hr,skV_ok] at this
 exact this
theorem last_ok (hr:(seekT lastK 20 root).run s = (s,.ok o)) (hS:ShIs w gs gm s):Calls Tryz.prog 38 #[shV gs,.int .i64 root] w fun e w'=>e = .returned (lkV o)∧ShIs w' gs gm s∧Ch (fun k=>k = gs∨k = gm) w w':=by
 have:=wlast_any root gs gm s w hS
 rw [hr,skV_ok] at this
 exact this
end
end Go.Proofs.YtknioodagnjchaaGreatDoor
namespace Go.Proofs.YtknioodagnjchaaGreatDoor
open Go.RowKit
section
variable {F:Fence} {n:Nat} {P:Program} {ops:Array Oper} {C:World→Prop}
theorem quiet_op_rd {o:Oper} {a:Act} {K:Act→Prop} {K':Act→World→Prop} {Q':Exit→Act→World→Prop} {w:World} (hnd:∀ c,o.op≠.defer c) (hw:C w) (h:∀ a w',C w'→K a→K' a w')
  (ha:o.askedIn F P a C) (hh:o.quietIn F n P a C K):o.wpIn F n P a w K' Q':=by
 obtain ⟨v,q1,q2⟩:=hh
 have q3:=q1 w hw
 refine ⟨ha w hw,?_⟩
 rw [Oper.semAt_plain F _ _ hnd]
 revert q3
 unfold Oper.quietAtIn
 generalize (execOp a.eval o).run P w = r
 rcases r with ⟨x,w2⟩ | ⟨x,w2⟩
 ·rcases x with u | _ | ⟨f,args⟩ | _ <;> simp only [Oper.quietUponIn,Oper.uponIn]
  all_goals (try (exact fun hf=>hf.elim))
  ·rintro ⟨rfl,rfl⟩
   exact h _ _ hw q2
  ·rintro ⟨rfl,rfl⟩
   exact h _ _ hw q2
  ·rintro ⟨rfl,hd,hc⟩
   exact ⟨hd,hc.mono fun e w3 ⟨he,h3⟩=>by subst he; exact h _ _ h3 q2⟩
 ·simp only [Oper.quietUponIn]
  exact fun hf=>hf.elim
theorem quiet_any_rd {md:Region.Mode} {Q:Act→Prop} {Q':Exit→Act→World→Prop} (hnd:∀ (i:Nat) (o:Oper),ops[i]? = some o→∀ c,o.op≠.defer c) (hQ:∀ a w,C w→Q a→Q' .normal a w):∀ (fuel:Nat) (listed:Array Bool) (a:Act) (w:World),C w→
  wpAnyQIn F n P md ops C Q fuel listed a→wpAnyIn F n P md ops Q' fuel listed a w
 | 0,_,_,_,hw,h=>⟨h.1,hQ _ _ hw h.2⟩
 | fuel + 1,listed,a,w,hw,h=>by
   refine ⟨fun h0=>hQ _ _ hw (h.1 h0),fun i hi=>?_⟩
   have h2:=h.2 i hi
   unfold qOpIn at h2
   unfold wpOpIn
   cases ho:ops[i]? with
   | none=>
     rw [ho] at h2
     exact quiet_any_rd hnd hQ fuel _ _ _ hw h2
   | some o=>
     rw [ho] at h2
     obtain ⟨ha,h3⟩:=h2
     simp only at h3 ⊢
     by_cases hwn:Region.wanted o (yielded ops a.tmps) = true
     ·rw [if_pos hwn] at h3 ⊢
      exact quiet_op_rd (hnd i o ho) hw (fun a' w' hw'=>quiet_any_rd hnd hQ fuel _ a' w' hw') ha h3
     ·rw [if_neg hwn] at h3 ⊢
      exact ⟨ha w hw,quiet_any_rd hnd hQ fuel _ _ _ hw h3⟩
def noDefer:Oper→Bool
 | ⟨_,.defer _,_,_,_,_⟩=>false
 | _=>true
theorem noDefer_spec {o:Oper} (h:noDefer o = true) (c:Call):o.op≠.defer c:=by
 obtain ⟨d,op,t,p,af,g⟩:=o
 rintro rfl
 cases h
theorem region_quiet_rd {id:Nat} {Q:Exit→Act→World→Prop} {a:Act} {w:World} {l:List Oper} (hnd:l.all noDefer = true) (hm:P.follows .mixedOrders = true) (hB:Region.lexB .any l.toArray = true)
  (h:wpQuietIn F n P l.toArray (fun w'=>∃ n,w' = w.drewN n) (fun a'=>∀ w',(∃ n,w' = w.drewN n)→Q .normal a' w') l a):(Code.region id l.toArray true).wpIn F n P Q a w:=by
 simp only [Region.lexB,Bool.and_eq_true] at hB
 refine wpIn_region_any hm (quiet_any_rd (C:=fun w'=>∃ n,w' = w.drewN n) (Q:=fun a'=>∀ w',(∃ n,w' = w.drewN n)→Q .normal a' w') (fun i o ho c=>?_) (fun _ w' hw' h=>h w' hw') _ _ _ _ ⟨1,rfl⟩ ?_)
 ·have hm:o ∈ l:=by
   rw [List.getElem?_toArray] at ho
   exact List.mem_of_getElem? ho
  exact noDefer_spec (List.all_eq_true.1 hnd o hm) c
 ·have:=wpAnyQIn_lex (F:=F) (n:=n) (C:=fun w'=>∃ n,w' = w.drewN n) (md:=.any) hB.1 l 0 (Array.replicate l.toArray.size false) a (by simp) (by simpa using hB.2) h
  simpa using this
end
end Go.Proofs.YtknioodagnjchaaGreatDoor
namespace Go.Proofs.YtknioodagnjchaaGreatDoor
open Go.RowKit Go.Shelf
attribute [local go_sem] Oper.semAt_some
def awP:List Pr:=[([97],[1]),([98],[1]),([99],[1])]
theorem aw_laid:laidP false (List.take 200 [[98],[99],[97]]) = awP:=by decide +kernel
theorem aw_from:fromP awP [98] true = some ([99],[1]):=by decide +kernel
theorem aw_to:toP awP [98] false = some ([98],[1]):=by decide +kernel
theorem aw_last:awP.getLast? = some ([99],[1]):=rfl
theorem aw_down:downS awP [99] = [([98],[1]),([97],[1])]:=by decide +kernel
theorem aw_len:(downS awP [99]).length≤400:=by rw [aw_down]; decide
theorem aw_tw:(downS awP [99]).takeWhile (fun p=>!klt p.1 []) = [([98],[1]),([97],[1])]:=by decide +kernel
theorem KbO.one {b B M:Nat} {s:Ov} {W W':World} (hc:Ch (fun k=>k = b) W W') (hbB:b < B) (hg:Gok M s W) (hM:b < M):KbO B (B + 7) s W s W':=by
 refine ⟨rfl,hc.size,fun k hk hl=>hc.block k hl ?_⟩
 rintro rfl
 rcases hk with hk | hk
 ·omega
 ·have:=(hg _ hk).1; omega
theorem keeps_one {b B:Nat} {W W':World} {cs:Array Value} {ty:TypeId} {fz:Nat × Nat} (hc:Ch (fun k=>k = b) W W') (hb:W.heap[b]? = some (.cells cs ty fz)):KeepsFrom B W W':=
 keeps_ch hc fun k o _ e h=>by
  subst e
  rw [hb] at h
  injection h with h
  subst h
  rfl
def AwI (w8:World) (gs gm bn:Nat) (s:Sf) (t:Ov) (pre:List (Pr × Int)) (A:World):Prop:=
 Stl gs gm s (downS awP [99]) (fun k=>!klt k []) t pre A∧w8.heap.size + 2≤A.heap.size∧Ch (fun k=>k = gs∨k = gm∨k = bn) w8 A∧A.heap[bn]? = some (.cells #[.int .i64 pre.length] 3 (0,0))
set_option maxRecDepth 100000 in
set_option maxHeartbeats 4000000 in
theorem awake17_any (w:World):Calls Tryz.prog 32 #[] w fun e w'=>e = .returned (.bool true)∧Below w.heap.size w w':=by
 refine calls_of_marks Tryz.func32 rfl ?_
 simp only [Tryz.ntmps32,List.size_toArray,List.length_nil,Nat.reduceSub,Array.replicate_succ,Array.replicate_zero,List.push_toArray,List.append_toArray,List.nil_append,List.cons_append]
 have HSL:=Lib.hid (show Sl sC 1 ((w.alloc (.cells #[.bool false] 4)).alloc (.cells #[.string ⟨#[98]⟩,.string ⟨#[99]⟩,.string ⟨#[97]⟩] 9)) (.slice (some ⟨w.heap.size + 1,0,none⟩) 3 3) ([[98],[99],[97]]:List By) from Sl.new (by simp) sC_len rfl rfl)
 have HR0:=Lib.hid (show ((w.alloc (.cells #[.bool false] 4)).alloc (.cells #[.string ⟨#[98]⟩,.string ⟨#[99]⟩,.string ⟨#[97]⟩] 9)).heap[w.heap.size]? = some (.cells #[.bool false] 4 (0,0)) from blk_alloc (blk_new rfl) _)
 have HB1:=Lib.hid (show Below w.heap.size w ((w.alloc (.cells #[.bool false] 4)).alloc (.cells #[.string ⟨#[98]⟩,.string ⟨#[99]⟩,.string ⟨#[97]⟩] 9)) from ((Below.refl _ w).alloc (Nat.le_refl _) _).alloc (by simp) _)
 have HSZ1:=Lib.hid (show ((w.alloc (.cells #[.bool false] 4)).alloc (.cells #[.string ⟨#[98]⟩,.string ⟨#[99]⟩,.string ⟨#[97]⟩] 9)).heap.size = w.heap.size + 2 by simp)
 go_wp2_with fail
 generalize (w.alloc (.cells #[.bool false] 4)).alloc (.cells #[.string ⟨#[98]⟩,.string ⟨#[99]⟩,.string ⟨#[97]⟩] 9) = w1 at *
 refine (laid_any [[98],[99],[97]] false _ w1 HSL.out).mono ?_
 rintro e w2 ⟨gs,gm,g,root,rfl,⟨s,hs,hts⟩,⟨base,hbs,hm⟩,hn,hb⟩
 rw [aw_laid] at hts hm
 have HTS:=Lib.hid hts
 have HN:=Lib.hid hn
 have HR2:=Lib.hid (show (w2.alloc (.cells #[.pointer (some ⟨g,0,none⟩)] 58)).heap[w.heap.size]? = some (.cells #[.bool false] 4 (0,0)) from blk_alloc (blk_keep HR0.out hb) _)
 have HM3:=Lib.hid (show MpIs (w2.alloc (.cells #[.pointer (some ⟨g,0,none⟩)] 58)) g base awP from hm.ch (S:=fun _=>False) (Ch.alloc (Ch.refl _ w2) _) (fun _ h=>h.elim))
 have HS3:=Lib.hid (show ShIs (w2.alloc (.cells #[.pointer (some ⟨g,0,none⟩)] 58)) gs gm s from hs.ch (S:=fun _=>False) (Ch.alloc (Ch.refl _ w2) _) id id)
 have HP3:=Lib.hid (show (w2.alloc (.cells #[.pointer (some ⟨g,0,none⟩)] 58)).heap[w2.heap.size]? = some (.cells #[.pointer (some ⟨g,0,none⟩)] 58 (0,0)) from blk_new rfl)
 have HB3:=Lib.hid (show Below w.heap.size w (w2.alloc (.cells #[.pointer (some ⟨g,0,none⟩)] 58)) from (HB1.out.trans (hb.mono HB1.out.size)).alloc (Nat.le_trans HB1.out.size hb.size) _)
 have HLT3:=Lib.hid (show gs < w2.heap.size∧gm < w2.heap.size∧w1.heap.size≤w2.heap.size∧w2.heap.size < (w2.alloc (.cells #[.pointer (some ⟨g,0,none⟩)] 58)).heap.size from ⟨blk_lt hs.blk,hs.book.lt,hb.size,by simp⟩)
 clear hs hts hbs hm hn hb HSL HR0 HB1
 go_upto_region 2 with fail
 generalize w2.alloc (.cells #[.pointer (some ⟨g,0,none⟩)] 58) = w3 at *
 generalize w2.heap.size = b3 at *
 have HK3:=Lib.hid (Ch.refl (fun k=>k = gs∨k = gm) w3)
 have HRF:=Lib.hid (show (seekT (fromK [98] true) 20 root).run s = (s,.ok (some ([99],[1]))) by rw [HTS.out.from (by decide),aw_from])
 have HRT:=Lib.hid (show (seekT (toK [98] false) 20 root).run s = (s,.ok (some ([98],[1]))) by rw [HTS.out.to (by decide),aw_to])
 have HRL:=Lib.hid (show (seekT lastK 20 root).run s = (s,.ok (some ([99],[1]))) by rw [HTS.out.last (by decide),aw_last])
 go_wp2_with fail
 refine (from_ok HRF.out HS3.out).mono ?_
 rintro e wa ⟨rfl,hs,hc⟩
 have HSC:=Lib.hid hc.size
 have HK4:=Lib.hid (show Ch (fun k=>k = gs∨k = gm) w3 (wa.alloc (.cells #[.string (mkS [99]),.string (mkS [1])] 62)) from (HK3.out.trans hc).alloc _)
 have HS4:=Lib.hid (show ShIs (wa.alloc (.cells #[.string (mkS [99]),.string (mkS [1])] 62)) gs gm s from hs.ch (S:=fun _=>False) (Ch.alloc (Ch.refl _ wa) _) id id)
 have HX4:=Lib.hid (show (wa.alloc (.cells #[.string (mkS [99]),.string (mkS [1])] 62)).heap[wa.heap.size]? = some (prB ([99],[1])) from blk_new rfl)
 have HCX4:=Lib.hid (show Ch (fun k=>k = gs∨k = gm) w3 (wa.alloc (.cells #[.string (mkS [99]),.string (mkS [1])] 62)) from hc.alloc _)
 have HL4:=Lib.hid (show wa.heap.size < (wa.alloc (.cells #[.string (mkS [99]),.string (mkS [1])] 62)).heap.size by simp)
 have HSZ4:=Lib.hid (show w3.heap.size < (wa.alloc (.cells #[.string (mkS [99]),.string (mkS [1])] 62)).heap.size by have:=HSC.out; simp; omega)
 have HGE4:=HSC
 clear hs hc HSC
 unfold lkV
 dsimp only [Option.getD,Option.isSome]
 go_upto_region 3 with fail
 generalize wa.alloc (.cells #[.string (mkS [99]),.string (mkS [1])] 62) = w4 at *
 generalize wa.heap.size = b4 at *
 go_wp2_with fail
 refine (to_ok HRT.out HS4.out).mono ?_
 rintro e wa ⟨rfl,hs,hc⟩
 have HSC:=Lib.hid hc.size
 have HK5:=Lib.hid (show Ch (fun k=>k = gs∨k = gm) w3 (wa.alloc (.cells #[.string (mkS [98]),.string (mkS [1])] 62)) from (HK4.out.trans hc).alloc _)
 have HS5:=Lib.hid (show ShIs (wa.alloc (.cells #[.string (mkS [98]),.string (mkS [1])] 62)) gs gm s from hs.ch (S:=fun _=>False) (Ch.alloc (Ch.refl _ wa) _) id id)
 have HX5:=Lib.hid (show (wa.alloc (.cells #[.string (mkS [98]),.string (mkS [1])] 62)).heap[wa.heap.size]? = some (prB ([98],[1])) from blk_new rfl)
 have HCX5:=Lib.hid (show Ch (fun k=>k = gs∨k = gm) w4 (wa.alloc (.cells #[.string (mkS [98]),.string (mkS [1])] 62)) from hc.alloc _)
 have HL5:=Lib.hid (show wa.heap.size < (wa.alloc (.cells #[.string (mkS [98]),.string (mkS [1])] 62)).heap.size by simp)
 have HSZ5:=Lib.hid (show w4.heap.size < (wa.alloc (.cells #[.string (mkS [98]),.string (mkS [1])] 62)).heap.size by have:=HSC.out; simp; omega)
 have HGE5:=HSC
 clear hs hc HSC
 unfold lkV
 dsimp only [Option.getD,Option.isSome]
 go_upto_region 4 with fail
 generalize wa.alloc (.cells #[.string (mkS [98]),.string (mkS [1])] 62) = w5 at *
 generalize wa.heap.size = b5 at *
 go_wp2_with fail
 refine (last_ok HRL.out HS5.out).mono ?_
 rintro e wa ⟨rfl,hs,hc⟩
 have HSC:=Lib.hid hc.size
 have HK6:=Lib.hid (show Ch (fun k=>k = gs∨k = gm) w3 (wa.alloc (.cells #[.string (mkS [99]),.string (mkS [1])] 62)) from (HK5.out.trans hc).alloc _)
 have HS6:=Lib.hid (show ShIs (wa.alloc (.cells #[.string (mkS [99]),.string (mkS [1])] 62)) gs gm s from hs.ch (S:=fun _=>False) (Ch.alloc (Ch.refl _ wa) _) id id)
 have HX6:=Lib.hid (show (wa.alloc (.cells #[.string (mkS [99]),.string (mkS [1])] 62)).heap[wa.heap.size]? = some (prB ([99],[1])) from blk_new rfl)
 have HCX6:=Lib.hid (show Ch (fun k=>k = gs∨k = gm) w5 (wa.alloc (.cells #[.string (mkS [99]),.string (mkS [1])] 62)) from hc.alloc _)
 have HL6:=Lib.hid (show wa.heap.size < (wa.alloc (.cells #[.string (mkS [99]),.string (mkS [1])] 62)).heap.size by simp)
 have HSZ6:=Lib.hid (show w5.heap.size < (wa.alloc (.cells #[.string (mkS [99]),.string (mkS [1])] 62)).heap.size by have:=HSC.out; simp; omega)
 have HGE6:=HSC
 clear hs hc HSC
 unfold lkV
 dsimp only [Option.getD,Option.isSome]
 go_upto_region 5 with fail
 generalize wa.alloc (.cells #[.string (mkS [99]),.string (mkS [1])] 62) = w6 at *
 generalize wa.heap.size = b6 at *
 have HS7:=Lib.hid (show ShIs (w6.alloc (.cells #[.int .i64 0] 3)) gs gm s from HS6.out.ch (S:=fun _=>False) (Ch.alloc (Ch.refl _ w6) _) id id)
 have HK7:=Lib.hid (show Ch (fun k=>k = gs∨k = gm) w3 (w6.alloc (.cells #[.int .i64 0] 3)) from HK6.out.alloc _)
 have HBN:=Lib.hid (show (w6.alloc (.cells #[.int .i64 0] 3)).heap[w6.heap.size]? = some (.cells #[.int .i64 0] 3 (0,0)) from blk_new rfl)
 have HC67:=Lib.hid (show Below w6.heap.size w6 (w6.alloc (.cells #[.int .i64 0] 3)) from (Below.refl _ w6).alloc (Nat.le_refl _) _)
 go_upto_region 6 with fail
 generalize w6.alloc (.cells #[.int .i64 0] 3) = w7 at *
 generalize hbn:w6.heap.size = bn at *
 go_wp2_with fail
 refine (wdown_any gs root [] [99] w7).mono ?_
 rintro e w8 ⟨rfl,hdn,hb8,hsz8⟩
 have HDN:=Lib.hid hdn
 have HB8:=Lib.hid hb8
 have HSZ8:=Lib.hid hsz8
 clear hdn hb8 hsz8
 unfold ovV
 have hfn:=func_nil
 go_wp2_with fail
 have HT:=Lib.hid (show Strm (downF [99] root) (fun k=>seekT (toK k true) 20 root) s (downS awP [99]) from HTS.out.down (by decide) [99])
 have HG8:=Lib.hid (show gs < w7.heap.size∧gm < w7.heap.size∧bn < w7.heap.size∧bn≠gs∧bn≠gm from
  ⟨blk_lt HS7.out.blk,HS7.out.book.lt,blk_lt HBN.out,fun e=>by have:=blk_lt HS6.out.blk; omega,fun e=>by have:=HS6.out.book.lt; omega⟩)
 have hsq:=down_seq Fence.wide 8 (fun _=>trivial) rfl (by omega) (fun _ _ _ _ _ h=>callsIn_wide.2 h) gs gm 400 root [] [99] w7.heap.size ⟨HG8.out.1,HG8.out.2.1⟩ w8 HDN.out (by have:=HSZ8.out; omega)
 have hst:Stay w8.heap.size gs gm (w8.heap.size + 2) (downF [99] root) (fun k=>seekT (toK k true) 20 root) (AwI w8 gs gm bn s):=by
  have h1:=HG8.out
  have h2:=HSZ8.out
  exact (Stay.stl HT.out (by omega) (by omega)).and ((Stay.sz _).and ((Stay.ch (.inl rfl) (.inr (.inl rfl)) (Nat.le_refl _) (by omega)).and (Stay.cell (F:=fun pre=>#[.int .i64 pre.length]) (by omega) h1.2.2.2.1 h1.2.2.2.2)))
 have HST:=Lib.hid hst
 clear hst
 refine range_pairs (i:=15) (j:=16) (I:=AwI w8 gs gm bn s) (Ix:=fun _ _ _=>False) (s0:=⟨s,none,.err 0⟩)
  rfl hsq ?gs ?gm ?bb rfl HST.out.abide (fun _ _ _ _ _ _ h _ _ _=>h.elim) HST.out.sto (fun s pre A hi=>⟨hi.1.shs,Nat.le_trans hi.1.le aw_len,hi.2.1⟩) rfl ?al HST.out.alloc ?assign ?body ?done (fun _ _ _ _ _ h _=>h.elim)
 case gs=>have:=HG8.out; have:=HSZ8.out; omega
 case gm=>have:=HG8.out; have:=HSZ8.out; omega
 case bb=>have:=HSZ8.out; omega
 case al=>
  intro W hb hsz
  exact ⟨⟨(HS7.out.ch (S:=fun _=>False) (Ch.of_below HB8.out) id id).ch (S:=fun _=>False) (Ch.of_below hb) id id,rfl,rfl,Nat.zero_le _,fun p hp=>absurd hp List.not_mem_nil,.inl rfl⟩,by omega,Ch.of_below hb,blk_keep (blk_keep HBN.out HB8.out) hb⟩
 case assign=>
  rintro l ⟨⟨xk,xv⟩,xe⟩ W K hK
  unfold encO at hK ⊢
  simp at hK
  gi_wp2
  exact hK
 case body=>
  rintro l t pre x b W hl ⟨r,hr⟩ hi hgk hx hg hb
  have HI:=Lib.hid hi
  have HX:=Lib.hid hx
  have HGK:=Lib.hid hgk
  obtain ⟨hxl,hxe,hxw⟩:=hi.1.x hx
  obtain ⟨p0,p1,p2,p3,p4⟩:=pr_cells hb
  have n1:=blk_lt hi.2.2.2
  have n2:=blk_frozen hi.2.2.2 0
  have HW:=Lib.hid (show Ch (fun k=>k = gs∨k = gm∨k = bn) w3 W from ((HK7.out.mono fun k _ h=>h.elim .inl (fun h=>.inr (.inl h))).trans (Ch.of_below HB8.out)).trans hi.2.2.1)
  have HNB:=Lib.hid (show w3.heap.size≤bn by have:=HK6.out.size; omega)
  have h3:=HW.out.keep HP3.out (by have:=HLT3.out; have:=HNB.out; omega)
  have hmw:MpIs W g base awP:=HM3.out.ch HW.out fun k hk=>by
   have hgl:g < w3.heap.size:=by obtain ⟨v,hv,-⟩:=HM3.out; exact blk_lt hv
   rcases hk with rfl | rfl | rfl
   ·exact ⟨HN.out.1,HS3.out.no_pr _ (.inl rfl)⟩
   ·exact ⟨HN.out.2.1,HS3.out.no_pr _ (.inr rfl)⟩
   ·exact ⟨by have:=HNB.out; omega,fun cur h=>by have:=blk_lt h; have:=HNB.out; omega⟩
  obtain ⟨v,hv,ho⟩:=hmw
  have m0:=blk_cell h3 0
  have m1:=blk_lt h3
  have l1:=blk_lt hv
  have hlen:pre.length < 2:=by rw [aw_down] at hxl; exact hxl
  clear hi hx hgk h3
  unfold encO
  subst hxe
  dsimp only
  have hq2:=List.getElem?_eq_getElem hxl
  generalize (downS awP [99])[pre.length] = q at *
  rcases Nat.lt_or_ge pre.length 1 with h1 | h1
  ·have hp0:pre.length = 0:=by omega
   clear h1
   have hqv:q = ([98],[1]):=by
    rw [aw_down,hp0] at hq2
    injection hq2 with hq2
    exact hq2.symm
   subst hqv
   clear hq2
   have n0:W.cell? ⟨bn,0,none⟩ = some (.int .i64 0):=by rw [blk_cell HI.out.2.2.2 0,hp0]; rfl
   obtain ⟨Ar,cr,hvr⟩:=Sl.len' (ho.sl prC_len)
   rw [show awP.length = 3 from rfl] at hvr
   subst hvr
   obtain ⟨g2,off2,he,hgl,c0,c1⟩:=(ho.sl prC_len).pair2 (k:=1 - 0) (by decide)
   subst he
   replace c0:W.cell? ⟨g2,off2+ 2,none⟩ = some (.string (mkS [98])):=c0
   replace c1:W.cell? ⟨g2,off2+ 2 + 1,none⟩ = some (.string (mkS [1])):=c1
   have l0:=blk_cell hv 0
   have HE:=Lib.hid (show (pre ++ [((([98],[1]):Pr),(0:Int))]).length = 0 + 1 by rw [List.length_append,hp0]; rfl)
   clear hxl hlen hp0 ho hv
   gi_wp2_with fail
   refine region_quiet_rd rfl (by kernel_rfl) (by kernel_rfl) ?_
   repeat (gi_big_quiet_step (fail))
   refine wpQuietIn_nil ?_
   rintro _ ⟨nq,rfl⟩
   gi_wp2_with fail
   have hc:=((Ch.refl (fun k=>k = bn) W).drewN nq).setCell (p:=⟨bn,0,none⟩) rfl (.int .i64 (0 + 1))
   have hsh:ShIs ((W.drewN nq).setCell ⟨bn,0,none⟩ (.int .i64 (0 + 1))) gs gm s:=by
    have:=HI.out.1.shs
    rw [HI.out.1.eq] at this
    exact this.ch hc (fun e=>HG8.out.2.2.2.1 e.symm) (fun e=>HG8.out.2.2.2.2 e.symm)
   have hkb:=KbO.one (s:=t) hc HG8.out.2.2.1 HGK.out (by have:=HG8.out; have:=HSZ8.out; omega)
   refine ⟨keeps_one hc HI.out.2.2.2,⟨s,t.g,.err 0⟩,⟨hkb.1,hkb.2⟩,HI.out.1.next HX.out hsh,Nat.le_trans HI.out.2.1 hc.size,HI.out.2.2.1.trans (hc.mono fun k _ e=>.inr (.inr e)),?_⟩
   rw [HE.out]
   exact set1 (show (W.drewN nq).heap[bn]? = some (.cells #[.int .i64 pre.length] 3 (0,0)) from HI.out.2.2.2) _
  ·have hp0:pre.length = 1:=by omega
   clear h1
   have hqv:q = ([97],[1]):=by
    rw [aw_down,hp0] at hq2
    injection hq2 with hq2
    exact hq2.symm
   subst hqv
   clear hq2
   have n0:W.cell? ⟨bn,0,none⟩ = some (.int .i64 1):=by rw [blk_cell HI.out.2.2.2 0,hp0]; rfl
   obtain ⟨Ar,cr,hvr⟩:=Sl.len' (ho.sl prC_len)
   rw [show awP.length = 3 from rfl] at hvr
   subst hvr
   obtain ⟨g2,off2,he,hgl,c0,c1⟩:=(ho.sl prC_len).pair2 (k:=1 - 1) (by decide)
   subst he
   replace c0:W.cell? ⟨g2,off2,none⟩ = some (.string (mkS [97])):=c0
   replace c1:W.cell? ⟨g2,off2 + 1,none⟩ = some (.string (mkS [1])):=c1
   have l0:=blk_cell hv 0
   have HE:=Lib.hid (show (pre ++ [((([97],[1]):Pr),(0:Int))]).length = 1 + 1 by rw [List.length_append,hp0]; rfl)
   clear hxl hlen hp0 ho hv
   gi_wp2_with fail
   refine region_quiet_rd rfl (by kernel_rfl) (by kernel_rfl) ?_
   repeat (gi_big_quiet_step (fail))
   refine wpQuietIn_nil ?_
   rintro _ ⟨nq,rfl⟩
   gi_wp2_with fail
   have hc:=((Ch.refl (fun k=>k = bn) W).drewN nq).setCell (p:=⟨bn,0,none⟩) rfl (.int .i64 (1 + 1))
   have hsh:ShIs ((W.drewN nq).setCell ⟨bn,0,none⟩ (.int .i64 (1 + 1))) gs gm s:=by
    have:=HI.out.1.shs
    rw [HI.out.1.eq] at this
    exact this.ch hc (fun e=>HG8.out.2.2.2.1 e.symm) (fun e=>HG8.out.2.2.2.2 e.symm)
   have hkb:=KbO.one (s:=t) hc HG8.out.2.2.1 HGK.out (by have:=HG8.out; have:=HSZ8.out; omega)
   refine ⟨keeps_one hc HI.out.2.2.2,⟨s,t.g,.err 0⟩,⟨hkb.1,hkb.2⟩,HI.out.1.next HX.out hsh,Nat.le_trans HI.out.2.1 hc.size,HI.out.2.2.1.trans (hc.mono fun k _ e=>.inr (.inr e)),?_⟩
   rw [HE.out]
   exact set1 (show (W.drewN nq).heap[bn]? = some (.cells #[.int .i64 pre.length] 3 (0,0)) from HI.out.2.2.2) _
 case done=>
  rintro D t xs W hD hgk he hi hk
  have hdn:=hi.1.done he
  rw [aw_tw] at hdn
  subst hdn
  have HI:=Lib.hid hi
  have HK:=Lib.hid hk
  have HLT:=Lib.hid (show gs < b3∧gm < b3∧b3 < w3.heap.size∧w3.heap.size≤b4∧b4 < w4.heap.size∧w4.heap.size≤b5∧b5 < w5.heap.size∧w5.heap.size≤b6∧b6 < bn∧w.heap.size + 2≤gs∧w.heap.size + 2≤gm∧w.heap.size + 2≤b3∧bn < w7.heap.size from
   ⟨HLT3.out.1,HLT3.out.2.1,HLT3.out.2.2.2,HGE4.out,HL4.out,HGE5.out,HL5.out,HGE6.out,HL6.out,by have:=HN.out; have:=HSZ1.out; omega,by have:=HN.out; have:=HSZ1.out; omega,by have:=HLT3.out; have:=HSZ1.out; omega,blk_lt HBN.out⟩)
  have HW7:=Lib.hid (show Ch (fun k=>k = gs∨k = gm∨k = bn) w7 W from (Ch.of_below HB8.out).trans hi.2.2.1)
  have x4:=HW7.out.keep (blk_keep (HCX6.out.keep (HCX5.out.keep HX4.out (by have:=HLT.out; omega)) (by have:=HLT.out; omega)) (hbn ▸ HC67.out)) (by have:=HLT.out; omega)
  have x5:=HW7.out.keep (blk_keep (HCX6.out.keep HX5.out (by have:=HLT.out; omega)) (hbn ▸ HC67.out)) (by have:=HLT.out; omega)
  have x6:=HW7.out.keep (blk_keep HX6.out (hbn ▸ HC67.out)) (by have:=HLT.out; omega)
  have x0:=HW7.out.keep (HK7.out.keep HR2.out (by have:=HLT.out; omega)) (by have:=HLT.out; omega)
  obtain ⟨f0,f1,f2,f3,f4⟩:=pr_cells x4
  obtain ⟨g0,g1,g2,g3,g4⟩:=pr_cells x5
  obtain ⟨h0,h1,h2,h3,h4⟩:=pr_cells x6
  have n0:W.cell? ⟨bn,0,none⟩ = some (.int .i64 2):=blk_cell hi.2.2.2 0
  have n1:=blk_lt hi.2.2.2
  have r0:=blk_cell x0 0
  have r1:=blk_lt x0
  have r2:=blk_frozen x0 0
  have z1:(mkS [99]).toList = [99]:=mkS_toList _
  have z2:(mkS [98]).toList = [98]:=mkS_toList _
  clear hi hk x4 x5 x6 hgk he
  dsimp only at f0 g0 h0
  go_wp2_with fail
  have hc1:=(Ch.refl (fun k=>k = w.heap.size) W).setCell (p:=⟨w.heap.size,0,none⟩) rfl (.bool true)
  have hx:=set1 (HW7.out.keep (HK7.out.keep HR2.out (by have:=HLT.out; omega)) (by have:=HLT.out; omega)) (.bool true)
  have hk2:=hc1.keep HK.out (by have:=HLT.out; have:=HSZ8.out; omega)
  have hc2:=ch_putObj (W.setCell ⟨w.heap.size,0,none⟩ (.bool true)) D (.deferred none)
  have hz:=blk_cell (hc2.keep hx (by have:=HLT.out; have:=HSZ8.out; omega)) 0
  have hb:=(((HK7.out.mono (S':=fun k=>w.heap.size≤k) (fun k _ e=>by have:=HLT.out; omega)).trans (HW7.out.mono (fun k _ e=>by have:=HLT.out; omega))).trans (hc1.mono (fun k _ e=>by omega))).trans (hc2.mono (fun k _ e=>by have:=HLT.out; have:=HSZ8.out; omega))
  exact ret_marks (v:=.bool true) hk2 (by simp [results,Tryz.results32,go_sem,hz]) ⟨rfl,HB3.out.trans (hb.below (by have:=HLT.out; omega) (fun k h=>h))⟩
end Go.Proofs.YtknioodagnjchaaGreatDoor
namespace Go.Proofs.YtknioodagnjchaaGreatDoor
open Go.RowKit
theorem MpIs.open {w:World} {g base:Nat} {ps:List Pr} (h:MpIs w g base ps):∃ A c,w.heap[g]? = some (.cells #[.slice A ps.length c] 69 (0,0))∧Own prC 2 62 base w (.slice A ps.length c) ps:=by
 obtain ⟨v,h1,h2⟩:=h
 obtain ⟨A,c,rfl⟩:=Sl.len' (h2.sl prC_len)
 exact ⟨A,c,h1,h2⟩
set_option maxRecDepth 100000 in
set_option maxHeartbeats 4000000 in
theorem finds_any (ks:List By) (long:Bool) (key:By) (kv:Value) (w:World) (hk:Sl sC 1 w kv ks):
  Calls Tryz.prog 8 #[kv,.bool long,.string (mkS key)] w fun e w'=>e = .returned (.bool true)∧Below w.heap.size w w':=by
 have HK:=Lib.hid hk
 clear hk
 go_enter Tryz.func8,Tryz.ntmps8
 go_wp2_with fail
 refine (awake17_any w).mono ?_
 rintro e w0 ⟨rfl,hb⟩
 have HB0:=Lib.hid hb
 clear hb
 go_wp2_with fail
 refine (laid_any ks long kv w0 (HK.out.keep HB0.out)).mono ?_
 rintro e w1 ⟨gs,gm,g,root,rfl,⟨s,hs,hts⟩,⟨base,hbs,hm⟩,hn,hb⟩
 have HWT:=Lib.hid (laidP_wt long (ks.take 200))
 have HTL:=Lib.hid (show (ks.take 200).length≤200 by rw [List.length_take]; omega)
 generalize laidP long (ks.take 200) = ps at *
 have HPL:=Lib.hid (show ps.length≤200 by have:=HWT.out.2; have:=HTL.out; omega)
 have HW6:=Lib.hid (show wt ps + ([]:List Int).length + 60≤4094 by have:=HWT.out.1; have:=HTL.out; simp; omega)
 have HTS:=Lib.hid hts
 have HN:=Lib.hid hn
 have HS1:=Lib.hid hs
 have HM1:=Lib.hid hm
 have HB1:=Lib.hid (HB0.out.trans (hb.mono HB0.out.size))
 clear hs hts hbs hm hn hb HWT HTL
 go_wp2_with fail
 go_loopw [10] (fun iv wr=>∃ i:Nat,i≤2∧iv = .int .i64 i∧ShIs wr gs gm s∧MpIs wr g base ps∧Below w.heap.size w wr) (fun iv _=>2 - (intOf iv).toNat)
 case atStart=>exact ⟨0,by omega,rfl,HS1.out,HM1.out,HB1.out⟩
 case round=>
  clear HS1 HM1 HB1
  obtain ⟨i,hi,rfl,hs,hm,hb⟩:=hrel
  obtain ⟨w3,hw3⟩:∃ w3:World,w3 = wr:=⟨_,rfl⟩
  subst hw3
  have HS3:=Lib.hid hs
  have HM3:=Lib.hid hm
  have HB3:=Lib.hid hb
  clear hs hm hb
  by_cases h2:i < 2
  ·have hpast:∃ past:Bool,((i:Int) == 1) = past:=⟨_,rfl⟩
   obtain ⟨past,hpast⟩:=hpast
   have hi1:(i:Int) < 2:=by omega
   have HRF:=Lib.hid (HTS.out.from HW6.out key past)
   have HRT:=Lib.hid (HTS.out.to HW6.out key past)
   go_upto_region 8 with fail
   clear hpast
   go_wp2_with fail
   refine (from_ok HRF.out HS3.out).mono ?_
   rintro e wa ⟨rfl,hs,hc⟩
   generalize hov:fromP ps key past = o4 at *
   have HS4:=Lib.hid (show ShIs (wa.alloc (.cells #[.string (mkS (o4.getD ([],[])).1),.string (mkS (o4.getD ([],[])).2)] 62)) gs gm s from hs.ch (S:=fun _=>False) (Ch.alloc (Ch.refl _ wa) _) id id)
   have HM4:=Lib.hid (show MpIs (wa.alloc (.cells #[.string (mkS (o4.getD ([],[])).1),.string (mkS (o4.getD ([],[])).2)] 62)) g base ps from (HM3.out.ch hc fun k hk=>⟨hk.elim (fun e=>e ▸ HN.out.1) (fun e=>e ▸ HN.out.2.1),HS3.out.no_pr k hk⟩).ch (S:=fun _=>False) (Ch.alloc (Ch.refl _ wa) _) (fun _ h=>h.elim))
   have HX4:=Lib.hid (show (wa.alloc (.cells #[.string (mkS (o4.getD ([],[])).1),.string (mkS (o4.getD ([],[])).2)] 62)).heap[wa.heap.size]? = some (prB (o4.getD ([],[]))) from blk_new rfl)
   have HC4:=Lib.hid (show Ch (fun k=>k = gs∨k = gm) w3 (wa.alloc (.cells #[.string (mkS (o4.getD ([],[])).1),.string (mkS (o4.getD ([],[])).2)] 62)) from hc.alloc _)
   have HL4:=Lib.hid (show w3.heap.size≤wa.heap.size∧wa.heap.size < (wa.alloc (.cells #[.string (mkS (o4.getD ([],[])).1),.string (mkS (o4.getD ([],[])).2)] 62)).heap.size from ⟨hc.size,by simp⟩)
   clear hs hc
   unfold lkV
   go_upto_region 9 with fail
   generalize wa.alloc (.cells #[.string (mkS (o4.getD ([],[])).1),.string (mkS (o4.getD ([],[])).2)] 62) = w4 at *
   generalize wa.heap.size = b4 at *
   obtain ⟨Am,cm,mm,mo⟩:=HM4.out.open
   have m0:=blk_cell mm 0
   have m1:=blk_lt mm
   have MO:=Lib.hid (mo.sl prC_len)
   clear mm mo
   go_wp2_with fail
   refine (rfrom_any ps key past _ w4 MO.out (by have:=HPL.out; omega)).mono ?_
   rintro e wa ⟨rfl,hb⟩
   rw [hov]
   have HS5:=Lib.hid (show ShIs (wa.alloc (.cells #[.string (mkS (o4.getD ([],[])).1),.string (mkS (o4.getD ([],[])).2)] 62)) gs gm s from (HS4.out.ch (S:=fun _=>False) (Ch.of_below hb) id id).ch (S:=fun _=>False) (Ch.alloc (Ch.refl _ wa) _) id id)
   have HM5:=Lib.hid (show MpIs (wa.alloc (.cells #[.string (mkS (o4.getD ([],[])).1),.string (mkS (o4.getD ([],[])).2)] 62)) g base ps from (HM4.out.ch (S:=fun _=>False) (Ch.of_below hb) (fun _ h=>h.elim)).ch (S:=fun _=>False) (Ch.alloc (Ch.refl _ wa) _) (fun _ h=>h.elim))
   have HX5:=Lib.hid (show (wa.alloc (.cells #[.string (mkS (o4.getD ([],[])).1),.string (mkS (o4.getD ([],[])).2)] 62)).heap[wa.heap.size]? = some (prB (o4.getD ([],[]))) from blk_new rfl)
   have HC5:=Lib.hid (show Ch (fun k=>k = gs∨k = gm) w4 (wa.alloc (.cells #[.string (mkS (o4.getD ([],[])).1),.string (mkS (o4.getD ([],[])).2)] 62)) from (Ch.of_below hb).alloc _)
   have HL5:=Lib.hid (show w4.heap.size≤wa.heap.size∧wa.heap.size < (wa.alloc (.cells #[.string (mkS (o4.getD ([],[])).1),.string (mkS (o4.getD ([],[])).2)] 62)).heap.size from ⟨hb.size,by simp⟩)
   clear hb m0 m1 MO
   unfold opV
   go_upto_region 10 with fail
   generalize wa.alloc (.cells #[.string (mkS (o4.getD ([],[])).1),.string (mkS (o4.getD ([],[])).2)] 62) = w5 at *
   generalize wa.heap.size = b5 at *
   go_wp2_with fail
   refine (to_ok HRT.out HS5.out).mono ?_
   rintro e wa ⟨rfl,hs,hc⟩
   generalize hov:toP ps key past = o6 at *
   have HS6:=Lib.hid (show ShIs (wa.alloc (.cells #[.string (mkS (o6.getD ([],[])).1),.string (mkS (o6.getD ([],[])).2)] 62)) gs gm s from hs.ch (S:=fun _=>False) (Ch.alloc (Ch.refl _ wa) _) id id)
   have HM6:=Lib.hid (show MpIs (wa.alloc (.cells #[.string (mkS (o6.getD ([],[])).1),.string (mkS (o6.getD ([],[])).2)] 62)) g base ps from (HM5.out.ch hc fun k hk=>⟨hk.elim (fun e=>e ▸ HN.out.1) (fun e=>e ▸ HN.out.2.1),HS5.out.no_pr k hk⟩).ch (S:=fun _=>False) (Ch.alloc (Ch.refl _ wa) _) (fun _ h=>h.elim))
   have HX6:=Lib.hid (show (wa.alloc (.cells #[.string (mkS (o6.getD ([],[])).1),.string (mkS (o6.getD ([],[])).2)] 62)).heap[wa.heap.size]? = some (prB (o6.getD ([],[]))) from blk_new rfl)
   have HC6:=Lib.hid (show Ch (fun k=>k = gs∨k = gm) w5 (wa.alloc (.cells #[.string (mkS (o6.getD ([],[])).1),.string (mkS (o6.getD ([],[])).2)] 62)) from hc.alloc _)
   have HL6:=Lib.hid (show w5.heap.size≤wa.heap.size∧wa.heap.size < (wa.alloc (.cells #[.string (mkS (o6.getD ([],[])).1),.string (mkS (o6.getD ([],[])).2)] 62)).heap.size from ⟨hc.size,by simp⟩)
   clear hs hc
   unfold lkV
   go_upto_region 11 with fail
   generalize wa.alloc (.cells #[.string (mkS (o6.getD ([],[])).1),.string (mkS (o6.getD ([],[])).2)] 62) = w6 at *
   generalize wa.heap.size = b6 at *
   obtain ⟨Am,cm,mm,mo⟩:=HM6.out.open
   have m0:=blk_cell mm 0
   have m1:=blk_lt mm
   have MO:=Lib.hid (mo.sl prC_len)
   clear mm mo
   go_wp2_with fail
   refine (rto_any ps key past _ w6 MO.out (by have:=HPL.out; omega)).mono ?_
   rintro e wa ⟨rfl,hb⟩
   rw [hov]
   have HS7:=Lib.hid (show ShIs (wa.alloc (.cells #[.string (mkS (o6.getD ([],[])).1),.string (mkS (o6.getD ([],[])).2)] 62)) gs gm s from (HS6.out.ch (S:=fun _=>False) (Ch.of_below hb) id id).ch (S:=fun _=>False) (Ch.alloc (Ch.refl _ wa) _) id id)
   have HM7:=Lib.hid (show MpIs (wa.alloc (.cells #[.string (mkS (o6.getD ([],[])).1),.string (mkS (o6.getD ([],[])).2)] 62)) g base ps from (HM6.out.ch (S:=fun _=>False) (Ch.of_below hb) (fun _ h=>h.elim)).ch (S:=fun _=>False) (Ch.alloc (Ch.refl _ wa) _) (fun _ h=>h.elim))
   have HX7:=Lib.hid (show (wa.alloc (.cells #[.string (mkS (o6.getD ([],[])).1),.string (mkS (o6.getD ([],[])).2)] 62)).heap[wa.heap.size]? = some (prB (o6.getD ([],[]))) from blk_new rfl)
   have HC7:=Lib.hid (show Ch (fun k=>k = gs∨k = gm) w6 (wa.alloc (.cells #[.string (mkS (o6.getD ([],[])).1),.string (mkS (o6.getD ([],[])).2)] 62)) from (Ch.of_below hb).alloc _)
   have HL7:=Lib.hid (show w6.heap.size≤wa.heap.size∧wa.heap.size < (wa.alloc (.cells #[.string (mkS (o6.getD ([],[])).1),.string (mkS (o6.getD ([],[])).2)] 62)).heap.size from ⟨hb.size,by simp⟩)
   clear hb m0 m1 MO
   unfold opV
   go_upto_region 12 with fail
   generalize wa.alloc (.cells #[.string (mkS (o6.getD ([],[])).1),.string (mkS (o6.getD ([],[])).2)] 62) = w7 at *
   generalize wa.heap.size = b7 at *
   have HG:=Lib.hid (show gs < w3.heap.size∧gm < w3.heap.size from ⟨blk_lt HS3.out.blk,HS3.out.book.lt⟩)
   have x4:=HC7.out.keep (HC6.out.keep (HC5.out.keep HX4.out (by have:=HG.out; have:=HL4.out; omega)) (by have:=HG.out; have:=HL4.out; omega)) (by have:=HG.out; have:=HL4.out; omega)
   have x5:=HC7.out.keep (HC6.out.keep HX5.out (by have:=HG.out; have:=HL4.out; have:=HL5.out; omega)) (by have:=HG.out; have:=HL4.out; have:=HL5.out; omega)
   have x6:=HC7.out.keep HX6.out (by have:=HG.out; have:=HL4.out; have:=HL5.out; have:=HL6.out; omega)
   obtain ⟨f0,f1,-,-,f4⟩:=pr_cells x4
   obtain ⟨g0,g1,-,-,g4⟩:=pr_cells x5
   obtain ⟨h0,h1,-,-,h4⟩:=pr_cells x6
   obtain ⟨k0,k1,-,-,k4⟩:=pr_cells HX7.out
   have HB7:=Lib.hid (show Below w.heap.size w w7 from HB3.out.trans ((((HC4.out.trans HC5.out).trans HC6.out).trans HC7.out).below HB3.out.size (by have:=HN.out; have:=HB0.out.size; omega)))
   clear x4 x5 x6
   generalize o4.getD ([],[]) = q4 at *
   generalize o6.getD ([],[]) = q6 at *
   generalize o4.isSome = e4 at *
   generalize o6.isSome = e6 at *
   go_wp2_with fail
   go_roundw
   case rel=>exact ⟨i + 1,by omega,by go_num,HS7.out,HM7.out,HB7.out⟩
   case measure=>simp [intOf]; omega
  ·obtain rfl:i = 2:=by omega
   clear hi
   have HRL:=Lib.hid (HTS.out.last HW6.out)
   go_wp2_with fail
   refine (last_ok HRL.out HS3.out).mono ?_
   rintro e wa ⟨rfl,hs,hc⟩
   generalize hov:ps.getLast? = o4 at *
   have HS4:=Lib.hid (show ShIs (wa.alloc (.cells #[.string (mkS (o4.getD ([],[])).1),.string (mkS (o4.getD ([],[])).2)] 62)) gs gm s from hs.ch (S:=fun _=>False) (Ch.alloc (Ch.refl _ wa) _) id id)
   have HM4:=Lib.hid (show MpIs (wa.alloc (.cells #[.string (mkS (o4.getD ([],[])).1),.string (mkS (o4.getD ([],[])).2)] 62)) g base ps from (HM3.out.ch hc fun k hk=>⟨hk.elim (fun e=>e ▸ HN.out.1) (fun e=>e ▸ HN.out.2.1),HS3.out.no_pr k hk⟩).ch (S:=fun _=>False) (Ch.alloc (Ch.refl _ wa) _) (fun _ h=>h.elim))
   have HX4:=Lib.hid (show (wa.alloc (.cells #[.string (mkS (o4.getD ([],[])).1),.string (mkS (o4.getD ([],[])).2)] 62)).heap[wa.heap.size]? = some (prB (o4.getD ([],[]))) from blk_new rfl)
   have HC4:=Lib.hid (show Ch (fun k=>k = gs∨k = gm) w3 (wa.alloc (.cells #[.string (mkS (o4.getD ([],[])).1),.string (mkS (o4.getD ([],[])).2)] 62)) from hc.alloc _)
   have HL4:=Lib.hid (show w3.heap.size≤wa.heap.size∧wa.heap.size < (wa.alloc (.cells #[.string (mkS (o4.getD ([],[])).1),.string (mkS (o4.getD ([],[])).2)] 62)).heap.size from ⟨hc.size,by simp⟩)
   clear hs hc
   unfold lkV
   go_upto_region 15 with fail
   generalize wa.alloc (.cells #[.string (mkS (o4.getD ([],[])).1),.string (mkS (o4.getD ([],[])).2)] 62) = w4 at *
   generalize wa.heap.size = b4 at *
   have HB4:=Lib.hid (show Below w.heap.size w w4 from HB3.out.trans (HC4.out.below HB3.out.size (by have:=HN.out; have:=HB0.out.size; omega)))
   obtain ⟨Am,cm,mm,mo⟩:=HM4.out.open
   have m0:=blk_cell mm 0
   have m1:=blk_lt mm
   have MO:=Lib.hid (mo.sl prC_len)
   obtain ⟨f0,f1,-,-,f4⟩:=pr_cells HX4.out
   clear mm mo
   by_cases hps:ps = []
   ·subst hps
    rw [List.getLast?_nil] at hov
    subst hov
    have hz:(mkS []).toList = []:=mkS_toList []
    clear HRL
    dsimp only [Option.getD,Option.isSome,List.length_nil] at *
    go_wp2_with fail
    go_ret
    exact ⟨rfl,HB4.out⟩
   ·have hlen:0 < ps.length:=List.length_pos_iff.2 hps
    obtain ⟨b,off,rfl,hbl,c0,c1⟩:=MO.out.pair2 (k:=ps.length - 1) (by omega)
    have hq:ps.getLast? = some (ps[ps.length - 1]'(by omega)):=by rw [List.getLast?_eq_getElem?,List.getElem?_eq_getElem]
    rw [hq] at hov
    generalize ps[ps.length - 1]'(by omega) = q at *
    subst hov
    have hz:((ps.length:Int) == 0) = false:=by simpa using hps
    have hi0:(0:Int)≤(ps.length:Int) - 1:=by omega
    have hi1:(ps.length:Int) - 1 < (ps.length:Int):=by omega
    have hi2:IntKind.i64.wrap ((ps.length:Int) - 1) = ((ps.length - 1:Nat):Int):=by have:=HPL.out; rw [IntWalk.i64_in _ (by omega)]; omega
    clear HRL hq
    dsimp only [Option.getD,Option.isSome] at *
    go_wp2_with fail
    go_quiet (fail)
    go_wp2_with fail
    go_ret
    exact ⟨rfl,HB4.out.trans ⟨rfl,rfl,rfl,Nat.le_refl _,fun _ _=>rfl⟩⟩
end Go.Proofs.YtknioodagnjchaaGreatDoor
namespace Go.Proofs.YtknioodagnjchaaGreatDoor
open Go.RowKit
set_option maxRecDepth 100000 in
set_option maxHeartbeats 4000000 in
theorem overl_any (ks:List By) (long:Bool) (low high:By) (kv:Value) (w:World) (hk:Sl sC 1 w kv ks):
  Calls Tryz.prog 9 #[kv,.bool long,.agg #[.string (mkS low),.string (mkS high)]] w fun e w'=>e = .returned (.bool true)∧Below w.heap.size w w':=by
 have HK:=Lib.hid hk
 have HX1:=Lib.hid (show (w.alloc (.cells #[.string (mkS low),.string (mkS high)] 72)).heap[w.heap.size]? = some (.cells #[.string (mkS low),.string (mkS high)] 72 (0,0)) from blk_new rfl)
 have HB1:=Lib.hid (show Below w.heap.size w (w.alloc (.cells #[.string (mkS low),.string (mkS high)] 72)) from (Below.refl _ w).alloc (Nat.le_refl _) _)
 clear hk
 go_enter Tryz.func9,Tryz.ntmps9
 go_wp2_with fail
 generalize w.alloc (.cells #[.string (mkS low),.string (mkS high)] 72) = w1 at *
 refine (awake17_any w1).mono ?_
 rintro e w2 ⟨rfl,hb⟩
 have HX2:=Lib.hid (blk_keep HX1.out hb)
 have HB2:=Lib.hid (HB1.out.trans (hb.mono HB1.out.size))
 clear hb HX1
 go_wp2_with fail
 refine (laid_any ks long kv w2 (HK.out.keep HB2.out)).mono ?_
 rintro e w3 ⟨gs,gm,g,root,rfl,⟨s,hs,hts⟩,⟨base,hbs,hm⟩,hn,hb⟩
 have HWT:=Lib.hid (laidP_wt long (ks.take 200))
 have HTL:=Lib.hid (show (ks.take 200).length≤200 by rw [List.length_take]; omega)
 generalize laidP long (ks.take 200) = ps at *
 have HPL:=Lib.hid (show ps.length≤200∧wt ps≤600 by have:=HWT.out; have:=HTL.out; omega)
 have HTS:=Lib.hid hts
 have HN:=Lib.hid hn
 have HS3:=Lib.hid hs
 have HX3:=Lib.hid (blk_keep HX2.out hb)
 have HB3:=Lib.hid (HB2.out.trans (hb.mono HB2.out.size))
 have HG2:=Lib.hid (show w.heap.size < gs∧w.heap.size < gm by have:=hn; have:=blk_lt HX2.out; omega)
 obtain ⟨Am,cm,mm,mo⟩:=hm.open
 have m0:=blk_cell mm 0
 have m1:=blk_lt mm
 have MO:=Lib.hid (mo.sl prC_len)
 have x0:=blk_cell HX3.out 0
 have x1:=blk_cell HX3.out 1
 have x2:=blk_lt HX3.out
 have mmx:=Lib.hid mm
 clear hs hts hbs hm hn hb HWT HTL HX2 mm mo
 go_wp2_with fail
 go_region_held3 (fun wn=>wn.cell? ⟨g,0,none⟩ = some (.slice Am ps.length cm)∧wn.cell? ⟨w.heap.size,0,none⟩ = some (.string (mkS low))∧wn.cell? ⟨w.heap.size,1,none⟩ = some (.string (mkS high)))
  ((first | go_keep | exact HDX.out))
  ((go_at_call 39
    refine (rbtw_any ps low high _ _ (MO.out.keep (Below.refl _ _).drew) (by have:=HPL.out; omega)).mono ?_
    rintro e w4 ⟨vw,rfl,ho,hb⟩
    have HO4:=Lib.hid ho
    have HD4:=Lib.hid hb
    have HDX:=Lib.hid (And.intro (blk_cell (blk_keep (show w3.drew.heap[g]? = _ from mmx.out) hb) 0) (And.intro (blk_cell (blk_keep (show w3.drew.heap[w.heap.size]? = _ from HX3.out) hb) 0) (blk_cell (blk_keep (show w3.drew.heap[w.heap.size]? = _ from HX3.out) hb) 1)))
    clear ho hb))
 have HD4:=Lib.hid (show Below w3.heap.size w3 w4 from (Below.refl _ w3).drew.trans HD4.out)
 have HS4:=Lib.hid (HS3.out.ch (S:=fun _=>False) (Ch.of_below HD4.out) id id)
 have HX4:=Lib.hid (blk_keep HX3.out HD4.out)
 have HB4:=Lib.hid (HB3.out.trans (HD4.out.mono HB3.out.size))
 clear m0 m1 x0 x1 x2
 have x0:=blk_cell HX4.out 0
 have x1:=blk_cell HX4.out 1
 have x2:=blk_lt HX4.out
 go_wp2_with fail
 refine (taken_any s root ps low high false gs gm w4 HS4.out HTS.out (by have:=HPL.out; omega) (by have:=HPL.out; omega)).mono ?_
 rintro e w5 ⟨vu,rfl,hou,hs5,hc⟩
 have HS5:=Lib.hid hs5
 have HC5:=Lib.hid hc
 have HU5:=Lib.hid hou
 have HX5:=Lib.hid (hc.keep HX4.out (by have:=HG2.out; omega))
 have HB5:=Lib.hid (HB4.out.trans (hc.below HB4.out.size (by have:=HG2.out; omega)))
 obtain ⟨Au,cu,rfl⟩:=Sl.len' (hou.sl prC_len)
 clear hs5 hc hou x0 x1 x2
 have x0:=blk_cell HX5.out 0
 have x1:=blk_cell HX5.out 1
 have x2:=blk_lt HX5.out
 go_wp2_with fail
 refine (taken_any s root ps low high true gs gm w5 HS5.out HTS.out (by have:=HPL.out; omega) (by have:=HPL.out; omega)).mono ?_
 rintro e w6 ⟨vd,rfl,hod,hs6,hc⟩
 have HG4:=Lib.hid (show gs < w3.heap.size∧gm < w3.heap.size∧w3.heap.size≤w4.heap.size from ⟨blk_lt HS3.out.blk,HS3.out.book.lt,HD4.out.size⟩)
 have HU6:=Lib.hid (HU5.out.ch hc fun k hk e=>by have:=(HU5.out.lt k hk).1; have:=HG4.out; omega)
 have HO6:=Lib.hid ((HO4.out.ch HC5.out fun k hk e=>by have h0:w3.heap.size≤k:=(HO4.out.lt k hk).1; have:=HG4.out; omega).ch hc fun k hk e=>by have h0:w3.heap.size≤k:=(HO4.out.lt k hk).1; have:=HG4.out; omega)
 have HD6:=Lib.hid hod
 have HB6:=Lib.hid (HB5.out.trans (hc.below HB5.out.size (by have:=HG2.out; omega)))
 obtain ⟨Ad,cd,rfl⟩:=Sl.len' (hod.sl prC_len)
 clear hod hs6 hc x0 x1 x2 HX5 HS5
 have hln:(goneP ps low high true).length = (goneP ps low high false).length:=by unfold goneP; exact List.length_reverse
 rw [hln]
 have HRV:=Lib.hid (show goneP ps low high true = (goneP ps low high false).reverse from rfl)
 have HBT:=Lib.hid (show btwP ps low high = goneP ps low high false from rfl)
 rw [HBT.out] at HO6
 have HLL:=Lib.hid (show (goneP ps low high false).length≤200 from Nat.le_trans (List.length_filter_le _ _) HPL.out.1)
 rw [hln] at HD6
 rw [HRV.out] at HD6
 clear hln HRV HBT HO4 HU5
 generalize goneP ps low high false = L at *
 go_wp2_with fail
 refine (same16_any L L _ _ w6 (HU6.out.sl prC_len) (HO6.out.sl prC_len) (by have:=HLL.out; omega)).mono ?_
 rintro e w7 ⟨rfl,hb⟩
 rw [decide_eq_true rfl]
 have HU7:=Lib.hid ((HU6.out.below hb).sl prC_len)
 have HD7:=Lib.hid ((HD6.out.below hb).sl prC_len)
 have HB7:=Lib.hid (HB6.out.trans (hb.mono HB6.out.size))
 clear hb HU6 HD6 HO6
 go_wp2_with fail
 go_loopw [15] (fun iv wr=>∃ i:Nat,i≤L.length∧iv = .int .i64 i∧Below w7.heap.size w7 wr) (fun iv _=>L.length - (intOf iv).toNat)
 case atStart=>exact ⟨0,Nat.zero_le _,rfl,Below.refl _ _⟩
 case round=>
  obtain ⟨i,hi,rfl,hb⟩:=hrel
  have HBR:=Lib.hid hb
  by_cases hlt:i < L.length
  ·obtain ⟨b,off,rfl,hbl,c0,c1⟩:=(HU7.out.keep hb).pair2 hlt
   obtain ⟨b2,off2,rfl,hbl2,d0,d1⟩:=(HD7.out.keep hb).pair2 (k:=L.length - 1 - i) (by rw [List.length_reverse]; omega)
   have hq:L.reverse[L.length - 1 - i]'(by rw [List.length_reverse]; omega) = L[i]:=by
    rw [List.getElem_reverse]
    congr 1
    omega
   rw [hq] at d0 d1
   generalize L[i] = q at *
   have hl2:=HLL.out
   have hi1:(i:Int) < (L.length:Int):=by omega
   have hi0:(0:Int)≤(i:Int):=by omega
   have hi2:IntKind.i64.wrap ((L.length:Int) - 1) = (L.length:Int) - 1:=IntWalk.i64_in _ (by omega)
   have hi3:IntKind.i64.wrap ((L.length:Int) - 1 - (i:Int)) = ((L.length - 1 - i:Nat):Int):=by rw [IntWalk.i64_in _ (by omega)]; omega
   have hi4:((L.length - 1 - i:Nat):Int) < (L.length:Int):=by omega
   have hi5:(0:Int)≤((L.length - 1 - i:Nat):Int):=by omega
   clear hb hq
   go_wp2_with fail
   go_quiet (fail)
   go_wp2_with fail
   go_roundw
   case rel=>exact ⟨i + 1,by omega,by go_num,HBR.out.trans ⟨rfl,rfl,rfl,Nat.le_refl _,fun _ _=>rfl⟩⟩
   case measure=>simp [intOf]; omega
  ·obtain rfl:i = L.length:=by omega
   clear hlt hi
   go_wp2_with fail
   go_ret
   exact ⟨rfl,HB7.out.trans (HBR.out.mono HB7.out.size)⟩
end Go.Proofs.YtknioodagnjchaaGreatDoor
namespace Go.Proofs.YtknioodagnjchaaGreatDoor
open Go.ChangeShapes Go.WideShapes Go.ChangeAt Go.RowKit Go.Deep Go.Joins
theorem cells_two:Tryz.prog.cellsOf 72 = 2:=by kernel_rfl
set_option maxRecDepth 100000 in
theorem read_bounds {H:Type} {enc:TypeId × Value→H} {w:World} {base:Nat} {v:Value} {d:DataW H} {p:List MemPlace} (hval:Value.okWide Tryz.prog w .any base 72 v) (h:DataW.Trod enc Tryz.prog w 0 (fun _=>true) true 72 v d p) (_:∀ x ∈ p,x.block < w.heap.size):
  ∃ b:By × By,v = .agg #[.string (mkS b.1),.string (mkS b.2)]:=by
 obtain ⟨cs,rfl,hsz,_⟩:∃ cs,v = .agg cs∧cs.size = Tryz.prog.cellsOf 72∧Row.okWide Tryz.prog w .any base 72 cs:=by
  simpa [Value.okWide,Tryz.underlying72] using hval
 rw [cells_two] at hsz
 obtain ⟨l⟩:=cs
 have hsz:l.length = 2:=hsz
 obtain ⟨fuel,hf⟩:=h
 obtain ⟨xs,m,-,-,-,hl,hel⟩:=Go.DataW.trod_array Tryz.underlying72 hf
 match l,hsz with
 | [c0,c1],_=>
   have h0:=hel 0 (by omega)
   have h1:=hel 1 (by omega)
   rw [cells_str,List.getElem?_eq_getElem (by omega)] at h0 h1
   obtain ⟨s0,e0,-,-⟩:=DataW.trod_string Tryz.underlying9 h0
   obtain ⟨s1,e1,-,-⟩:=DataW.trod_string Tryz.underlying9 h1
   simp [Value.cells] at e0 e1
   subst e0 e1
   exact ⟨(bs s0,bs s1),rfl⟩
end Go.Proofs.YtknioodagnjchaaGreatDoor
