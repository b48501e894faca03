/- What stays while a tree is gone over; looks that find. A region that draws its order and only reads, walked once, within a loop's round. cahierlaw17.awake is true. The walk of cahierlaw17.WalkFinds. Programs that only read, on an armed shelf; what is gone over there; plain. -/
import Derived.Test.YtknioodagnjchaaGreatDoorUWd
import Derived.Test.YtknioodagnjchaaGreatDoorUBtw
import Derived.Sort.BigQuietIn
import Derived.BigQuiet
set_option maxRecDepth 100000
set_option maxHeartbeats 4000000
namespace Go.Proofs.YtknioodagnjchaaGreatDoor
open Go.RowKit
structure Stay (B gs gm M:Nat) (FP:Pro (Option Pr)) (GP:By→Pro (Option Pr)) (I:Ov→List (Pr × Int)→World→Prop):Prop where
 abide:∀ s pre,fL B (I s pre)
 alloc:∀ s pre W o,I s pre W→I s pre (W.alloc o)
 sto:∀ s pre A t B',I s pre A→nN M s A→qV gs gm FP GP s pre A t B'→nN M t B'→I t pre B'
section
variable {B gs gm M:Nat} {FP:Pro (Option Pr)} {GP:By→Pro (Option Pr)} {I J:Ov→List (Pr × Int)→World→Prop}
theorem Stay.and (h:Stay B gs gm M FP GP I) (k:Stay B gs gm M FP GP J):Stay B gs gm M FP GP (fun s pre A=>I s pre A∧J s pre A):=
 ⟨fun s pre W l o o' hi h1 h2 h3=>⟨h.abide s pre W l o o' hi.1 h1 h2 h3,k.abide s pre W l o o' hi.2 h1 h2 h3⟩,fun s pre W o hi=>⟨h.alloc s pre W o hi.1,k.alloc s pre W o hi.2⟩,fun s pre A t B' hi h1 h2 h3=>⟨h.sto s pre A t B' hi.1 h1 h2 h3,k.sto s pre A t B' hi.2 h1 h2 h3⟩⟩
theorem Stay.sz (c:Nat):Stay B gs gm M FP GP (fun _ _ A=>c≤A.heap.size):=
 ⟨fun _ _ W l _ o' h _ _ _=>Nat.le_trans h (bR W l o').size,fun _ _ W o h=>by simp;omega,fun _ _ A t B' h _ hs _=>by obtain ⟨-,-,g1,e1,e2,e3,hc⟩:=hs;exact Nat.le_trans h hc.size⟩
theorem Stay.ch {S:Nat→Prop} {w0:World} (h1:S gs) (h2:S gm) (hB:w0.heap.size≤B) (hM:w0.heap.size≤M):Stay B gs gm M FP GP (fun _ _ A=>Ch S w0 A):=
 ⟨fun _ _ W l _ o' h hl _ _=>h.then (bR W l o') (fun i e=>.inr (by omega)),fun _ _ W o h=>h.alloc o,fun _ _ A t B' h _ hs hg=>by
   obtain ⟨-,-,g1,e1,e2,e3,hc⟩:=hs;have:=(hg g1 e1).1
   exact h.then hc fun i hi=>by
    rcases hi with rfl | rfl | rfl
    ·exact .inl h1
    ·exact .inl h2
    ·exact .inr (by omega)⟩
theorem Stay.cell {b:Nat} {F:List (Pr × Int)→Array Value} {ty:TypeId} (hb:b<M) (h1:b≠gs) (h2:b≠gm):Stay B gs gm M FP GP (fun _ pre A=>A.heap[b]?=some (.cells (F pre) ty (0,0))):=
 ⟨fun _ _ W l o o' h hl ho hc=>(bR W l o').keep h (by rintro rfl;rw [ho] at h;injection h with h;subst h;cases hc),fun _ _ W o h=>ai h o,fun _ _ A t B' h _ hs hg=>by
   obtain ⟨-,-,g1,e1,e2,e3,hc⟩:=hs;have:=(hg g1 e1).1;exact hc.keep h (by omega)⟩
theorem Stay.stl {sh:Sf} {S:List Pr} {WN:By→Bool} (hT:Strm FP GP sh S) (h1:gs<B) (h2:gm<B):Stay B gs gm M FP GP (Stl gs gm sh S WN):=
 ⟨fun _ _ W l o o' h hl ho hc=>h.ch (bR W l o') (by omega) (by omega),fun _ _ W o h=>h.ch (S:=S) (Z:=fun _=>False) (Ch.alloc (Ch.refl _ W) o) id id,fun _ _ _ _ _ h _ hs _=>h.sto hT hs⟩
theorem Stay.out {α:Type} {f:α→List Value} {size:Nat} {e ty:TypeId} {base bo B0:Nat} {F:List (Pr × Int)→List α} (h1:gs<base) (h2:gm<base) (h3:base≤bo) (h4:bo<M):Stay B gs gm M FP GP (fun s pre A=>OutB f size e ty base bo B0 s (F pre) A):=
 ⟨fun _ _ _ _ _ _ h _ ho hc=>h.put ho hc,fun _ _ W o h=>h.below ((Below.refl _ W).alloc (Nat.le_refl _) o),fun _ _ _ _ _ h _ hs hg=>h.sto hs h1 h2 h3 hg h4⟩
end
def vn (o:Option Pr):Value:=.tuple #[.agg #[.string (ap (o.getD ([],[])).1),.string (ap (o.getD ([],[])).2)],.bool o.isSome,.int .i64 0]
theorem px (o:Option Pr):dm (.ok o)=vn o:=by cases o <;> rfl
section
variable {gs gm:Nat} {s:Sf} {w:World} {root:Int} {o:Option Pr}
theorem ut {k:By} {past:Bool} (hr:(au (cY k past) 20 root).run s=(s,.ok o)) (hS:ShIs w gs gm s):Calls Tryz.prog 34 #[bt gs,.int .i64 root,.string (ap k),.bool past] w fun e w'=>e=.returned (vn o)∧ShIs w' gs gm s∧Ch (fun k=>k=gs∨k=gm) w w':=by have:=jr k past root gs gm s w hS;rw [hr,px] at this;exact this
theorem vJ {k:By} {past:Bool} (hr:(au (kE k past) 20 root).run s=(s,.ok o)) (hS:ShIs w gs gm s):Calls Tryz.prog 36 #[bt gs,.int .i64 root,.string (ap k),.bool past] w fun e w'=>e=.returned (vn o)∧ShIs w' gs gm s∧Ch (fun k=>k=gs∨k=gm) w w':=by have:=mW k past root gs gm s w hS;rw [hr,px] at this;exact this
theorem um (hr:(au lastK 20 root).run s=(s,.ok o)) (hS:ShIs w gs gm s):Calls Tryz.prog 38 #[bt gs,.int .i64 root] w fun e w'=>e=.returned (vn o)∧ShIs w' gs gm s∧Ch (fun k=>k=gs∨k=gm) w w':=by have:=lV root gs gm s w hS;rw [hr,px] at this;exact this
end
end Go.Proofs.YtknioodagnjchaaGreatDoor
namespace Go.Proofs.YtknioodagnjchaaGreatDoor
open Go.RowKit
section
variable {F:Fence} {n:Nat} {P:Program} {ops:Array Oper} {C:World→Prop}
theorem oh {o:Oper} {a:Act} {K:Act→Prop} {K':Act→World→Prop} {Q':Exit→Act→World→Prop} {w:World} (hnd:∀ c,o.op≠.defer c) (hw:C w) (h:∀ a w',C w'→K a→K' a w')
  (ha:o.askedIn F P a C) (hh:o.quietIn F n P a C K):o.wpIn F n P a w K' Q':=by
 obtain ⟨v,q1,q2⟩:=hh;have q3:=q1 w hw;refine ⟨ha w hw,?_⟩;rw [Oper.semAt_plain F _ _ hnd];revert q3;unfold Oper.quietAtIn;generalize (execOp a.eval o).run P w=r;rcases r with ⟨x,w2⟩ | ⟨x,w2⟩
 ·rcases x with u | _ | ⟨f,args⟩ | _ <;> simp only [Oper.quietUponIn,Oper.uponIn]
  all_goals (try (exact fun hf=>hf.elim))
  ·rintro ⟨rfl,rfl⟩;exact h _ _ hw q2
  ·rintro ⟨rfl,rfl⟩;exact h _ _ hw q2
  ·rintro ⟨rfl,hd,hc⟩;exact ⟨hd,hc.mono fun e w3 ⟨he,h3⟩=>by subst he;exact h _ _ h3 q2⟩
 ·simp only [Oper.quietUponIn];exact fun hf=>hf.elim
theorem eV {md:Region.Mode} {Q:Act→Prop} {Q':Exit→Act→World→Prop} (hnd:∀ (i:Nat) (o:Oper),ops[i]?=some o→∀ c,o.op≠.defer c) (hQ:∀ a w,C w→Q a→Q' .normal a w):∀ (fuel:Nat) (listed:Array Bool) (a:Act) (w:World),C w→
  wpAnyQIn F n P md ops C Q fuel listed a→wpAnyIn F n P md ops Q' fuel listed a w
 | 0,_,_,_,hw,h=>⟨h.1,hQ _ _ hw h.2⟩
 | fuel+1,listed,a,w,hw,h=>by
   refine ⟨fun h0=>hQ _ _ hw (h.1 h0),fun i hi=>?_⟩;have h2:=h.2 i hi;unfold qOpIn at h2;unfold wpOpIn;cases ho:ops[i]? with
   | none=> rw [ho] at h2;exact eV hnd hQ fuel _ _ _ hw h2
   | some o=>
     rw [ho] at h2;obtain ⟨ha,h3⟩:=h2;simp only at h3 ⊢;by_cases hwn:Region.wanted o (yielded ops a.tmps)=true
     ·rw [if_pos hwn] at h3 ⊢;exact oh (hnd i o ho) hw (fun a' w' hw'=>eV hnd hQ fuel _ a' w' hw') ha h3
     ·rw [if_neg hwn] at h3 ⊢;exact ⟨ha w hw,eV hnd hQ fuel _ _ _ hw h3⟩
def qA:Oper→Bool
 | ⟨_,.defer _,_,_,_,_⟩=>false
 | _=>true
theorem ns {o:Oper} (h:qA o=true) (c:Call):o.op≠.defer c:=by obtain ⟨d,op,t,p,af,g⟩:=o;rintro rfl;cases h
theorem cH {id:Nat} {Q:Exit→Act→World→Prop} {a:Act} {w:World} {l:List Oper} (hnd:l.all qA=true) (hm:P.follows .mixedOrders=true) (hB:Region.lexB .any l.toArray=true)
  (h:wpQuietIn F n P l.toArray (fun w'=>∃ n,w'=w.drewN n) (fun a'=>∀ w',(∃ n,w'=w.drewN n)→Q .normal a' w') l a):(Code.region id l.toArray true).wpIn F n P Q a w:=by
 simp only [Region.lexB,Bool.and_eq_true] at hB;refine wpIn_region_any hm (eV (C:=fun w'=>∃ n,w'=w.drewN n) (Q:=fun a'=>∀ w',(∃ n,w'=w.drewN n)→Q .normal a' w') (fun i o ho c=>?_) (fun _ w' hw' h=>h w' hw') _ _ _ _ ⟨1,rfl⟩ ?_)
 ·have hm:o ∈ l:=by rw [List.getElem?_toArray] at ho;exact List.mem_of_getElem? ho
  exact ns (List.all_eq_true.1 hnd o hm) c
 ·have:=wpAnyQIn_lex (F:=F) (n:=n) (C:=fun w'=>∃ n,w'=w.drewN n) (md:=.any) hB.1 l 0 (Array.replicate l.toArray.size false) a (by simp) (by simpa using hB.2) h;simpa using this
end
end Go.Proofs.YtknioodagnjchaaGreatDoor
namespace Go.Proofs.YtknioodagnjchaaGreatDoor
open Go.Lib (hid)
open Go.RowKit Go.Shelf
attribute [local go_sem] Oper.semAt_some
def awP:List Pr:=[([97],[1]),([98],[1]),([99],[1])]
theorem uI:dX false (List.take 200 [[98],[99],[97]])=awP:=by decide +kernel
theorem uJ:fJ awP [98] true=some ([99],[1]):=by decide +kernel
theorem vT:nU awP [98] false=some ([98],[1]):=by decide +kernel
theorem uH:awP.getLast?=some ([99],[1]):=rfl
theorem kL:fK awP [99]=[([98],[1]),([97],[1])]:=by decide +kernel
theorem vA:(fK awP [99]).length≤400:=by rw [kL];decide
theorem vS:(fK awP [99]).takeWhile (fun p=>!aU p.1 [])=[([98],[1]),([97],[1])]:=by decide +kernel
theorem KbO.one {b B M:Nat} {s:Ov} {W W':World} (hc:Ch (fun k=>k=b) W W') (hbB:b<B) (hg:nN M s W) (hM:b<M):KbO B (B+7) s W s W':=by
 refine ⟨rfl,hc.size,fun k hk hl=>hc.block k hl ?_⟩;rintro rfl;rcases hk with hk | hk
 ·omega
 ·have:=(hg _ hk).1;omega
theorem mz {b B:Nat} {W W':World} {cs:Array Value} {ty:TypeId} {fz:Nat × Nat} (hc:Ch (fun k=>k=b) W W') (hb:W.heap[b]?=some (.cells cs ty fz)):KeepsFrom B W W':=
 gV hc fun k o _ e h=>by
  subst e;rw [hb] at h;injection h with h
  subst h;rfl
def AwI (w8:World) (gs gm bn:Nat) (s:Sf) (t:Ov) (pre:List (Pr × Int)) (A:World):Prop:=
 Stl gs gm s (fK awP [99]) (fun k=>!aU k []) t pre A∧w8.heap.size+2≤A.heap.size∧Ch (fun k=>k=gs∨k=gm∨k=bn) w8 A∧A.heap[bn]?=some (.cells #[.int .i64 pre.length] 3 (0,0))
theorem ph (w:World):Calls Tryz.prog 32 #[] w fun e w'=>e=.returned (.bool true)∧Below w.heap.size w w':=by
 refine g9 Tryz.func32 rfl ?_;simp only [Tryz.ntmps32,List.size_toArray,List.length_nil,Nat.reduceSub,Array.replicate_succ,Array.replicate_zero,List.push_toArray,List.append_toArray,List.nil_append,List.cons_append];have HSL:=hid (show Sl sC 1 ((w.alloc (.cells #[.bool false] 4)).alloc (.cells #[.string ⟨#[98]⟩,.string ⟨#[99]⟩,.string ⟨#[97]⟩] 9)) (.slice (some ⟨w.heap.size+1,0,none⟩) 3 3) ([[98],[99],[97]]:List By) from Sl.new (by simp) aQ rfl rfl);have HR0:=hid (show ((w.alloc (.cells #[.bool false] 4)).alloc (.cells #[.string ⟨#[98]⟩,.string ⟨#[99]⟩,.string ⟨#[97]⟩] 9)).heap[w.heap.size]?=some (.cells #[.bool false] 4 (0,0)) from ai (ag rfl) _);have HB1:=hid (show Below w.heap.size w ((w.alloc (.cells #[.bool false] 4)).alloc (.cells #[.string ⟨#[98]⟩,.string ⟨#[99]⟩,.string ⟨#[97]⟩] 9)) from ((Below.refl _ w).alloc (Nat.le_refl _) _).alloc (by simp) _);have HSZ1:=hid (show ((w.alloc (.cells #[.bool false] 4)).alloc (.cells #[.string ⟨#[98]⟩,.string ⟨#[99]⟩,.string ⟨#[97]⟩] 9)).heap.size=w.heap.size+2 by simp);go_wp2_with fail;generalize (w.alloc (.cells #[.bool false] 4)).alloc (.cells #[.string ⟨#[98]⟩,.string ⟨#[99]⟩,.string ⟨#[97]⟩] 9)=w1 at *;refine (oC [[98],[99],[97]] false _ w1 HSL.out).mono ?_;rintro e w2 ⟨gs,gm,g,root,rfl,⟨s,hs,hts⟩,⟨base,hbs,hm⟩,hn,hb⟩;rw [uI] at hts hm;have HTS:=hid hts;have HN:=hid hn;have HR2:=hid (show (w2.alloc (.cells #[.pointer (some ⟨g,0,none⟩)] 58)).heap[w.heap.size]?=some (.cells #[.bool false] 4 (0,0)) from ai (ab HR0.out hb) _);have HM3:=hid (show MpIs (w2.alloc (.cells #[.pointer (some ⟨g,0,none⟩)] 58)) g base awP from hm.ch (S:=fun _=>False) (Ch.alloc (Ch.refl _ w2) _) (fun _ h=>h.elim));have HS3:=hid (show ShIs (w2.alloc (.cells #[.pointer (some ⟨g,0,none⟩)] 58)) gs gm s from hs.ch (S:=fun _=>False) (Ch.alloc (Ch.refl _ w2) _) id id);have HP3:=hid (show (w2.alloc (.cells #[.pointer (some ⟨g,0,none⟩)] 58)).heap[w2.heap.size]?=some (.cells #[.pointer (some ⟨g,0,none⟩)] 58 (0,0)) from ag rfl);have HB3:=hid (show Below w.heap.size w (w2.alloc (.cells #[.pointer (some ⟨g,0,none⟩)] 58)) from (HB1.out.trans (hb.mono HB1.out.size)).alloc (Nat.le_trans HB1.out.size hb.size) _);have HLT3:=hid (show gs<w2.heap.size∧gm<w2.heap.size∧w1.heap.size≤w2.heap.size∧w2.heap.size<(w2.alloc (.cells #[.pointer (some ⟨g,0,none⟩)] 58)).heap.size from ⟨aj hs.blk,hs.book.lt,hb.size,by simp⟩);clear hs hts hbs hm hn hb HSL HR0 HB1;go_upto_region 2 with fail
 generalize w2.alloc (.cells #[.pointer (some ⟨g,0,none⟩)] 58)=w3 at *;generalize w2.heap.size=b3 at *;have HK3:=hid (Ch.refl (fun k=>k=gs∨k=gm) w3);have HRF:=hid (show (au (cY [98] true) 20 root).run s=(s,.ok (some ([99],[1]))) by rw [HTS.out.from (by decide),uJ]);have HRT:=hid (show (au (kE [98] false) 20 root).run s=(s,.ok (some ([98],[1]))) by rw [HTS.out.to (by decide),vT]);have HRL:=hid (show (au lastK 20 root).run s=(s,.ok (some ([99],[1]))) by rw [HTS.out.last (by decide),uH]);go_wp2_with fail;refine (ut HRF.out HS3.out).mono ?_;rintro e wa ⟨rfl,hs,hc⟩;have HSC:=hid hc.size;have HK4:=hid (show Ch (fun k=>k=gs∨k=gm) w3 (wa.alloc (.cells #[.string (ap [99]),.string (ap [1])] 62)) from (HK3.out.trans hc).alloc _);have HS4:=hid (show ShIs (wa.alloc (.cells #[.string (ap [99]),.string (ap [1])] 62)) gs gm s from hs.ch (S:=fun _=>False) (Ch.alloc (Ch.refl _ wa) _) id id);have HX4:=hid (show (wa.alloc (.cells #[.string (ap [99]),.string (ap [1])] 62)).heap[wa.heap.size]?=some (dj ([99],[1])) from ag rfl);have HCX4:=hid (show Ch (fun k=>k=gs∨k=gm) w3 (wa.alloc (.cells #[.string (ap [99]),.string (ap [1])] 62)) from hc.alloc _);have HL4:=hid (show wa.heap.size<(wa.alloc (.cells #[.string (ap [99]),.string (ap [1])] 62)).heap.size by simp);have HSZ4:=hid (show w3.heap.size<(wa.alloc (.cells #[.string (ap [99]),.string (ap [1])] 62)).heap.size by have:=HSC.out;simp;omega);have HGE4:=HSC;clear hs hc HSC;unfold vn;dsimp only [Option.getD,Option.isSome];go_upto_region 3 with fail
 generalize wa.alloc (.cells #[.string (ap [99]),.string (ap [1])] 62)=w4 at *;generalize wa.heap.size=b4 at *;go_wp2_with fail;refine (vJ HRT.out HS4.out).mono ?_;rintro e wa ⟨rfl,hs,hc⟩;have HSC:=hid hc.size;have HK5:=hid (show Ch (fun k=>k=gs∨k=gm) w3 (wa.alloc (.cells #[.string (ap [98]),.string (ap [1])] 62)) from (HK4.out.trans hc).alloc _);have HS5:=hid (show ShIs (wa.alloc (.cells #[.string (ap [98]),.string (ap [1])] 62)) gs gm s from hs.ch (S:=fun _=>False) (Ch.alloc (Ch.refl _ wa) _) id id);have HX5:=hid (show (wa.alloc (.cells #[.string (ap [98]),.string (ap [1])] 62)).heap[wa.heap.size]?=some (dj ([98],[1])) from ag rfl);have HCX5:=hid (show Ch (fun k=>k=gs∨k=gm) w4 (wa.alloc (.cells #[.string (ap [98]),.string (ap [1])] 62)) from hc.alloc _);have HL5:=hid (show wa.heap.size<(wa.alloc (.cells #[.string (ap [98]),.string (ap [1])] 62)).heap.size by simp);have HSZ5:=hid (show w4.heap.size<(wa.alloc (.cells #[.string (ap [98]),.string (ap [1])] 62)).heap.size by have:=HSC.out;simp;omega);have HGE5:=HSC;clear hs hc HSC;unfold vn;dsimp only [Option.getD,Option.isSome];go_upto_region 4 with fail
 generalize wa.alloc (.cells #[.string (ap [98]),.string (ap [1])] 62)=w5 at *;generalize wa.heap.size=b5 at *;go_wp2_with fail;refine (um HRL.out HS5.out).mono ?_;rintro e wa ⟨rfl,hs,hc⟩;have HSC:=hid hc.size;have HK6:=hid (show Ch (fun k=>k=gs∨k=gm) w3 (wa.alloc (.cells #[.string (ap [99]),.string (ap [1])] 62)) from (HK5.out.trans hc).alloc _);have HS6:=hid (show ShIs (wa.alloc (.cells #[.string (ap [99]),.string (ap [1])] 62)) gs gm s from hs.ch (S:=fun _=>False) (Ch.alloc (Ch.refl _ wa) _) id id);have HX6:=hid (show (wa.alloc (.cells #[.string (ap [99]),.string (ap [1])] 62)).heap[wa.heap.size]?=some (dj ([99],[1])) from ag rfl);have HCX6:=hid (show Ch (fun k=>k=gs∨k=gm) w5 (wa.alloc (.cells #[.string (ap [99]),.string (ap [1])] 62)) from hc.alloc _);have HL6:=hid (show wa.heap.size<(wa.alloc (.cells #[.string (ap [99]),.string (ap [1])] 62)).heap.size by simp);have HSZ6:=hid (show w5.heap.size<(wa.alloc (.cells #[.string (ap [99]),.string (ap [1])] 62)).heap.size by have:=HSC.out;simp;omega);have HGE6:=HSC;clear hs hc HSC;unfold vn;dsimp only [Option.getD,Option.isSome];go_upto_region 5 with fail
 generalize wa.alloc (.cells #[.string (ap [99]),.string (ap [1])] 62)=w6 at *;generalize wa.heap.size=b6 at *;have HS7:=hid (show ShIs (w6.alloc (.cells #[.int .i64 0] 3)) gs gm s from HS6.out.ch (S:=fun _=>False) (Ch.alloc (Ch.refl _ w6) _) id id);have HK7:=hid (show Ch (fun k=>k=gs∨k=gm) w3 (w6.alloc (.cells #[.int .i64 0] 3)) from HK6.out.alloc _);have HBN:=hid (show (w6.alloc (.cells #[.int .i64 0] 3)).heap[w6.heap.size]?=some (.cells #[.int .i64 0] 3 (0,0)) from ag rfl);have HC67:=hid (show Below w6.heap.size w6 (w6.alloc (.cells #[.int .i64 0] 3)) from (Below.refl _ w6).alloc (Nat.le_refl _) _);go_upto_region 6 with fail
 generalize w6.alloc (.cells #[.int .i64 0] 3)=w7 at *;generalize hbn:w6.heap.size=bn at *;go_wp2_with fail;refine (lW gs root [] [99] w7).mono ?_;rintro e w8 ⟨rfl,hdn,hb8,hsz8⟩;have HDN:=hid hdn;have HB8:=hid hb8;have HSZ8:=hid hsz8;clear hdn hb8 hsz8;unfold ua;have hfn:=oM;go_wp2_with fail;have HT:=hid (show Strm (eu [99] root) (fun k=>au (kE k true) 20 root) s (fK awP [99]) from HTS.out.down (by decide) [99]);have HG8:=hid (show gs<w7.heap.size∧gm<w7.heap.size∧bn<w7.heap.size∧bn≠gs∧bn≠gm from
  ⟨aj HS7.out.blk,HS7.out.book.lt,aj HBN.out,fun e=>by have:=aj HS6.out.blk;omega,fun e=>by have:=HS6.out.book.lt;omega⟩)
 have hsq:=oQ Fence.wide 8 (fun _=>trivial) rfl (by omega) (fun _ _ _ _ _ h=>callsIn_wide.2 h) gs gm 400 root [] [99] w7.heap.size ⟨HG8.out.1,HG8.out.2.1⟩ w8 HDN.out (by have:=HSZ8.out;omega);have hst:Stay w8.heap.size gs gm (w8.heap.size+2) (eu [99] root) (fun k=>au (kE k true) 20 root) (AwI w8 gs gm bn s):=by have h1:=HG8.out;have h2:=HSZ8.out;exact (Stay.stl HT.out (by omega) (by omega)).and ((Stay.sz _).and ((Stay.ch (.inl rfl) (.inr (.inl rfl)) (Nat.le_refl _) (by omega)).and (Stay.cell (F:=fun pre=>#[.int .i64 pre.length]) (by omega) h1.2.2.2.1 h1.2.2.2.2)))
 have HST:=hid hst;clear hst
 refine gP (i:=15) (j:=16) (I:=AwI w8 gs gm bn s) (Ix:=fun _ _ _=>False) (s0:=⟨s,none,.err 0⟩)
  rfl hsq ?gs ?gm ?bb rfl HST.out.abide (fun _ _ _ _ _ _ h _ _ _=>h.elim) HST.out.sto (fun s pre A hi=>⟨hi.1.shs,Nat.le_trans hi.1.le vA,hi.2.1⟩) rfl ?al HST.out.alloc ?assign ?body ?done (fun _ _ _ _ _ h _=>h.elim)
 case gs=>have:=HG8.out;have:=HSZ8.out;omega
 case gm=>have:=HG8.out;have:=HSZ8.out;omega
 case bb=>have:=HSZ8.out;omega
 case al=> intro W hb hsz;exact ⟨⟨(HS7.out.ch (S:=fun _=>False) (Ch.of_below HB8.out) id id).ch (S:=fun _=>False) (Ch.of_below hb) id id,rfl,rfl,Nat.zero_le _,fun p hp=>absurd hp List.not_mem_nil,.inl rfl⟩,by omega,Ch.of_below hb,ab (ab HBN.out HB8.out) hb⟩
 case assign=> rintro l ⟨⟨xk,xv⟩,xe⟩ W K hK;unfold fC at hK ⊢;simp at hK;gi_wp2;exact hK
 case body=>
  rintro l t pre x b W hl ⟨r,hr⟩ hi hgk hx hg hb;have HI:=hid hi;have HX:=hid hx;have HGK:=hid hgk;obtain ⟨hxl,hxe,hxw⟩:=hi.1.x hx;obtain ⟨p0,p1,p2,p3,p4⟩:=ak hb;have n1:=aj hi.2.2.2;have n2:=ac hi.2.2.2 0;have HW:=hid (show Ch (fun k=>k=gs∨k=gm∨k=bn) w3 W from ((HK7.out.mono fun k _ h=>h.elim .inl (fun h=>.inr (.inl h))).trans (Ch.of_below HB8.out)).trans hi.2.2.1);have HNB:=hid (show w3.heap.size≤bn by have:=HK6.out.size;omega);have h3:=HW.out.keep HP3.out (by have:=HLT3.out;have:=HNB.out;omega)
  have hmw:MpIs W g base awP:=HM3.out.ch HW.out fun k hk=>by
   have hgl:g<w3.heap.size:=by obtain ⟨v,hv,-⟩:=HM3.out;exact aj hv
   rcases hk with rfl | rfl | rfl
   ·exact ⟨HN.out.1,HS3.out.no_pr _ (.inl rfl)⟩
   ·exact ⟨HN.out.2.1,HS3.out.no_pr _ (.inr rfl)⟩
   ·exact ⟨by have:=HNB.out;omega,fun cur h=>by have:=aj h;have:=HNB.out;omega⟩
  obtain ⟨v,hv,ho⟩:=hmw;have m0:=ae h3 0;have m1:=aj h3;have l1:=aj hv;have hlen:pre.length<2:=by rw [kL] at hxl;exact hxl
  clear hi hx hgk h3;unfold fC;subst hxe;dsimp only;have hq2:=List.getElem?_eq_getElem hxl;generalize (fK awP [99])[pre.length]=q at *;rcases Nat.lt_or_ge pre.length 1 with h1 | h1
  ·have hp0:pre.length=0:=by omega
   clear h1;have hqv:q=([98],[1]):=by
    rw [kL,hp0] at hq2;injection hq2 with hq2
    exact hq2.symm
   subst hqv;clear hq2;have n0:W.cell? ⟨bn,0,none⟩=some (.int .i64 0):=by rw [ae HI.out.2.2.2 0,hp0];rfl
   obtain ⟨Ar,cr,hvr⟩:=Sl.len' (ho.sl cj);rw [show awP.length=3 from rfl] at hvr;subst hvr;obtain ⟨g2,off2,he,hgl,c0,c1⟩:=(ho.sl cj).pair2 (k:=1 - 0) (by decide);subst he;replace c0:W.cell? ⟨g2,off2+ 2,none⟩=some (.string (ap [98])):=c0;replace c1:W.cell? ⟨g2,off2+ 2+1,none⟩=some (.string (ap [1])):=c1;have l0:=ae hv 0;have HE:=hid (show (pre ++ [((([98],[1]):Pr),(0:Int))]).length=0+1 by rw [List.length_append,hp0];rfl);clear hxl hlen hp0 ho hv;gi_wp2_with fail;refine cH rfl (by kernel_rfl) (by kernel_rfl) ?_
   repeat (gi_big_quiet_step (fail))
   refine wpQuietIn_nil ?_;rintro _ ⟨nq,rfl⟩;gi_wp2_with fail;have hc:=((Ch.refl (fun k=>k=bn) W).drewN nq).setCell (p:=⟨bn,0,none⟩) rfl (.int .i64 (0+1));have hsh:ShIs ((W.drewN nq).setCell ⟨bn,0,none⟩ (.int .i64 (0+1))) gs gm s:=by have:=HI.out.1.shs;rw [HI.out.1.eq] at this;exact this.ch hc (fun e=>HG8.out.2.2.2.1 e.symm) (fun e=>HG8.out.2.2.2.2 e.symm)
   have hkb:=KbO.one (s:=t) hc HG8.out.2.2.1 HGK.out (by have:=HG8.out;have:=HSZ8.out;omega);refine ⟨mz hc HI.out.2.2.2,⟨s,t.g,.err 0⟩,⟨hkb.1,hkb.2⟩,HI.out.1.next HX.out hsh,Nat.le_trans HI.out.2.1 hc.size,HI.out.2.2.1.trans (hc.mono fun k _ e=>.inr (.inr e)),?_⟩;rw [HE.out];exact jv (show (W.drewN nq).heap[bn]?=some (.cells #[.int .i64 pre.length] 3 (0,0)) from HI.out.2.2.2) _
  ·have hp0:pre.length=1:=by omega
   clear h1;have hqv:q=([97],[1]):=by
    rw [kL,hp0] at hq2;injection hq2 with hq2
    exact hq2.symm
   subst hqv;clear hq2;have n0:W.cell? ⟨bn,0,none⟩=some (.int .i64 1):=by rw [ae HI.out.2.2.2 0,hp0];rfl
   obtain ⟨Ar,cr,hvr⟩:=Sl.len' (ho.sl cj);rw [show awP.length=3 from rfl] at hvr;subst hvr;obtain ⟨g2,off2,he,hgl,c0,c1⟩:=(ho.sl cj).pair2 (k:=1 - 1) (by decide);subst he;replace c0:W.cell? ⟨g2,off2,none⟩=some (.string (ap [97])):=c0;replace c1:W.cell? ⟨g2,off2+1,none⟩=some (.string (ap [1])):=c1;have l0:=ae hv 0;have HE:=hid (show (pre ++ [((([97],[1]):Pr),(0:Int))]).length=1+1 by rw [List.length_append,hp0];rfl);clear hxl hlen hp0 ho hv;gi_wp2_with fail;refine cH rfl (by kernel_rfl) (by kernel_rfl) ?_
   repeat (gi_big_quiet_step (fail))
   refine wpQuietIn_nil ?_;rintro _ ⟨nq,rfl⟩;gi_wp2_with fail;have hc:=((Ch.refl (fun k=>k=bn) W).drewN nq).setCell (p:=⟨bn,0,none⟩) rfl (.int .i64 (1+1));have hsh:ShIs ((W.drewN nq).setCell ⟨bn,0,none⟩ (.int .i64 (1+1))) gs gm s:=by have:=HI.out.1.shs;rw [HI.out.1.eq] at this;exact this.ch hc (fun e=>HG8.out.2.2.2.1 e.symm) (fun e=>HG8.out.2.2.2.2 e.symm)
   have hkb:=KbO.one (s:=t) hc HG8.out.2.2.1 HGK.out (by have:=HG8.out;have:=HSZ8.out;omega);refine ⟨mz hc HI.out.2.2.2,⟨s,t.g,.err 0⟩,⟨hkb.1,hkb.2⟩,HI.out.1.next HX.out hsh,Nat.le_trans HI.out.2.1 hc.size,HI.out.2.2.1.trans (hc.mono fun k _ e=>.inr (.inr e)),?_⟩;rw [HE.out];exact jv (show (W.drewN nq).heap[bn]?=some (.cells #[.int .i64 pre.length] 3 (0,0)) from HI.out.2.2.2) _
 case done=>
  rintro D t xs W hD hgk he hi hk;have hdn:=hi.1.done he;rw [vS] at hdn;subst hdn;have HI:=hid hi;have HK:=hid hk;have HLT:=hid (show gs<b3∧gm<b3∧b3<w3.heap.size∧w3.heap.size≤b4∧b4<w4.heap.size∧w4.heap.size≤b5∧b5<w5.heap.size∧w5.heap.size≤b6∧b6<bn∧w.heap.size+2≤gs∧w.heap.size+2≤gm∧w.heap.size+2≤b3∧bn<w7.heap.size from
   ⟨HLT3.out.1,HLT3.out.2.1,HLT3.out.2.2.2,HGE4.out,HL4.out,HGE5.out,HL5.out,HGE6.out,HL6.out,by have:=HN.out;have:=HSZ1.out;omega,by have:=HN.out;have:=HSZ1.out;omega,by have:=HLT3.out;have:=HSZ1.out;omega,aj HBN.out⟩)
  have HW7:=hid (show Ch (fun k=>k=gs∨k=gm∨k=bn) w7 W from (Ch.of_below HB8.out).trans hi.2.2.1);have x4:=HW7.out.keep (ab (HCX6.out.keep (HCX5.out.keep HX4.out (by have:=HLT.out;omega)) (by have:=HLT.out;omega)) (hbn ▸ HC67.out)) (by have:=HLT.out;omega);have x5:=HW7.out.keep (ab (HCX6.out.keep HX5.out (by have:=HLT.out;omega)) (hbn ▸ HC67.out)) (by have:=HLT.out;omega);have x6:=HW7.out.keep (ab HX6.out (hbn ▸ HC67.out)) (by have:=HLT.out;omega);have x0:=HW7.out.keep (HK7.out.keep HR2.out (by have:=HLT.out;omega)) (by have:=HLT.out;omega);obtain ⟨f0,f1,f2,f3,f4⟩:=ak x4;obtain ⟨g0,g1,g2,g3,g4⟩:=ak x5;obtain ⟨h0,h1,h2,h3,h4⟩:=ak x6;have n0:W.cell? ⟨bn,0,none⟩=some (.int .i64 2):=ae hi.2.2.2 0;have n1:=aj hi.2.2.2;have r0:=ae x0 0;have r1:=aj x0;have r2:=ac x0 0;have z1:(ap [99]).toList=[99]:=aL _;have z2:(ap [98]).toList=[98]:=aL _;clear hi hk x4 x5 x6 hgk he;dsimp only at f0 g0 h0;go_wp2_with fail;have hc1:=(Ch.refl (fun k=>k=w.heap.size) W).setCell (p:=⟨w.heap.size,0,none⟩) rfl (.bool true);have hx:=jv (HW7.out.keep (HK7.out.keep HR2.out (by have:=HLT.out;omega)) (by have:=HLT.out;omega)) (.bool true);have hk2:=hc1.keep HK.out (by have:=HLT.out;have:=HSZ8.out;omega);have hc2:=bR (W.setCell ⟨w.heap.size,0,none⟩ (.bool true)) D (.deferred none);have hz:=ae (hc2.keep hx (by have:=HLT.out;have:=HSZ8.out;omega)) 0;have hb:=(((HK7.out.mono (S':=fun k=>w.heap.size≤k) (fun k _ e=>by have:=HLT.out;omega)).trans (HW7.out.mono (fun k _ e=>by have:=HLT.out;omega))).trans (hc1.mono (fun k _ e=>by omega))).trans (hc2.mono (fun k _ e=>by have:=HLT.out;have:=HSZ8.out;omega));exact jz (v:=.bool true) hk2 (by simp [results,Tryz.results32,go_sem,hz]) ⟨rfl,HB3.out.trans (hb.below (by have:=HLT.out;omega) (fun k h=>h))⟩
end Go.Proofs.YtknioodagnjchaaGreatDoor
namespace Go.Proofs.YtknioodagnjchaaGreatDoor
open Go.RowKit
theorem MpIs.open {w:World} {g base:Nat} {ps:List Pr} (h:MpIs w g base ps):∃ A c,w.heap[g]?=some (.cells #[.slice A ps.length c] 69 (0,0))∧Own kq 2 62 base w (.slice A ps.length c) ps:=by obtain ⟨v,h1,h2⟩:=h;obtain ⟨A,c,rfl⟩:=Sl.len' (h2.sl cj);exact ⟨A,c,h1,h2⟩
end Go.Proofs.YtknioodagnjchaaGreatDoor
namespace Go.Proofs.YtknioodagnjchaaGreatDoor
def Pro.Reads {α:Type}:Pro α→Prop
 | .pure _=>True
 | .fail _=>True
 | .get _ k=>∀ l,(k l).Reads
 | .put _ _ _=>False
 | .new _=>False
 | .free _ _=>False
theorem Pro.Reads.bind {α β:Type}:∀ (p:Pro α) (f:α→Pro β),p.Reads→(∀ a,(f a).Reads)→(p.bind f).Reads
 | .pure a,_,_,hf=>hf a
 | .fail _,_,_,_=>trivial
 | .get _ k,f,hp,hf=>fun l=>Pro.Reads.bind (k l) f (hp l) hf
 | .put _ _ _,_,hp,_=>hp.elim
 | .new _,_,hp,_=>hp.elim
 | .free _ _,_,hp,_=>hp.elim
theorem Pro.Reads.rest {α:Type}:∀ (p:Pro α) (s:Sf),p.Reads→s.left≤0→(p.run s).1=s
 | .pure _,_,_,_=>rfl
 | .fail _,_,_,_=>rfl
 | .get n k,s,hp,hl=>by
   have hb0:ba s=s:=by unfold ba;rw [if_neg (by omega)]
   simp only [Pro.run];rw [hb0]
   split
   ·exact Pro.Reads.rest (k (s.B n)) s (hp _) hl
   ·rfl
 | .put _ _ _,_,hp,_=>hp.elim
 | .new _,_,hp,_=>hp.elim
 | .free _ _,_,hp,_=>hp.elim
theorem Pro.Reads.armed {α:Type}:∀ (p:Pro α) (s:Sf) (m:Int),p.Reads→s.left=-1→0≤m→(p.run s).1=s→∃ b,0≤b∧(p.run { s with left:=m }=({ s with left:=b },.err 11)∨p.run { s with left:=m }=({ s with left:=b },(p.run s).2))
 | .pure a,s,m,_,_,hm,_=>⟨m,hm,.inr rfl⟩
 | .fail e,s,m,_,_,hm,_=>⟨m,hm,.inr rfl⟩
 | .get n k,s,m,hp,hl,hm,hs=>by
   have hb0:ba s=s:=by unfold ba;rw [if_neg (by omega)]
   by_cases h0:m=0
   ·subst h0;refine ⟨0,by omega,.inl ?_⟩;have h1:bU { s with left:=0 } n=11:=by unfold bU;rw [if_pos rfl]
    have h2:ba { s with left:=0 }={ s with left:=0 }:=by unfold ba;rw [if_neg (by simp)]
    simp only [Pro.run];rw [h1,if_neg (by decide),h2]
   ·have h1:bU { s with left:=m } n=bU s n:=by unfold bU;rw [if_neg (show ¬ ({ s with left:=m }:Sf).left=0 from h0),if_neg (show ¬ s.left=0 by omega)]
    have h2:ba { s with left:=m }={ s with left:=m - 1 }:=by unfold ba;rw [if_pos (by simp only;omega)]
    simp only [Pro.run] at hs ⊢;rw [h1,h2];rw [hb0] at hs ⊢;by_cases hz:bU s n=0
    ·rw [if_pos hz] at hs ⊢;rw [if_pos hz];exact Pro.Reads.armed (k (s.B n)) s (m - 1) (hp _) hl (by omega) hs
    ·rw [if_neg hz,if_neg hz];exact ⟨m - 1,by omega,.inr rfl⟩
 | .put _ _ _,_,_,hp,_,_,_=>hp.elim
 | .new _,_,_,hp,_,_,_=>hp.elim
 | .free _ _,_,_,hp,_,_,_=>hp.elim
def vt (e:Int):Pr × Int:=(([],[]),e)
structure Fls (gs gm:Nat) (sh:Sf) (S:List Pr) (s:Ov) (pre:List (Pr × Int)) (A:World):Prop where
 shs:ShIs A gs gm s.s
 eq:∃ b:Int,0≤b∧s.s={ sh with left:=b }
 n:(∃ n,n≤S.length∧pre=ro (S.take n)∧(s.a=.err 0∨s.a=.err 11∨s.a=.ok S[n]?))∨∃ n,n≤S.length∧pre=ro (S.take n) ++ [vt 11]
section
variable {gs gm:Nat} {sh:Sf} {S:List Pr} {WN:By→Bool} {s t:Ov} {pre:List (Pr × Int)} {A B:World} {FP:Pro (Option Pr)} {GP:By→Pro (Option Pr)}
theorem qy (ps:List Pr):(ro ps).length=ps.length:=List.length_map ..
theorem lg {FP:Pro (Option Pr)} {GP:By→Pro (Option Pr)} (hF:FP.Reads) (hG:∀ k,(GP k).Reads) (pre:List (Pr × Int)):(gS FP GP pre).Reads:=by
 unfold gS
 split
 ·exact hF
 ·exact hG _
theorem Fls.len (h:Fls gs gm sh S s pre A):pre.length≤S.length+1:=by
 rcases h.n with ⟨n,h1,rfl,-⟩ | ⟨n,h1,rfl⟩
 ·rw [qy,List.length_take];omega
 ·rw [List.length_append,qy,List.length_take];show min n S.length+1≤_;omega
theorem Fls.sto (h:Fls gs gm sh S s pre A) (hl:sh.left=-1) (hF:FP.Reads) (hG:∀ k,(GP k).Reads) (hT:Strm FP GP sh S) (hs:qV gs gm FP GP s pre A t B):Fls gs gm sh S t pre B:=by
 obtain ⟨h1,h2,-⟩:=hs;obtain ⟨b,hb,he⟩:=h.eq;rw [he] at h1;obtain ⟨b',hb',hr⟩:=Pro.Reads.armed (gS FP GP pre) sh b (lg hF hG pre) hl hb (Pro.Reads.rest _ sh (lg hF hG pre) (by omega));refine ⟨h2,⟨b',hb',?_⟩,?_⟩
 ·rcases hr with hr | hr
  ·rw [hr] at h1;injection h1 with e1 e2;exact e1.symm
  ·rw [hr] at h1;injection h1 with e1 e2;exact e1.symm
 ·rcases h.n with ⟨n,h3,h4,-⟩ | h3
  ·left;refine ⟨n,h3,h4,?_⟩;rcases hr with hr | hr
   ·rw [hr] at h1;injection h1 with e1 e2;exact .inr (.inl e2.symm)
   ·rw [hr] at h1;injection h1 with e1 e2
    have:=hT.look h3;rw [← h4] at this;rw [this] at e2;exact .inr (.inr e2.symm)
  ·exact .inr h3
theorem Fls.x {x:Pr × Int} (h:Fls gs gm sh S s pre A) (hx:qd WN s pre x):∃ n,n≤S.length∧pre=ro (S.take n)∧((∃ hn:n<S.length,x=(S[n],0))∨x=vt 11):=by
 obtain ⟨hz,hx⟩:=hx;rcases h.n with ⟨n,h1,h2,h3⟩ | ⟨n,h1,h2⟩
 ·refine ⟨n,h1,h2,?_⟩;rcases hx with ⟨p,e1,e2,rfl⟩ | ⟨e,e1,e2,rfl⟩
  ·rcases h3 with e3 | e3 | e3
   ·rw [e1] at e3;cases e3
   ·rw [e1] at e3;cases e3
   ·rw [e1] at e3;injection e3 with e3
    obtain ⟨hl,rfl⟩:=List.getElem?_eq_some_iff.1 e3.symm;exact .inl ⟨hl,rfl⟩
  ·rcases h3 with e3 | e3 | e3
   ·rw [e1] at e3;injection e3 with e3
    exact absurd e3 e2
   ·rw [e1] at e3;injection e3 with e3
    subst e3;exact .inr rfl
   ·rw [e1] at e3;cases e3
 ·exfalso;have:=hz (vt 11) (by rw [h2];simp);exact absurd this (by decide)
theorem Fls.next {x:Pr × Int} (h:Fls gs gm sh S s pre A) (hx:qd WN s pre x) (hB:ShIs B gs gm s.s):Fls gs gm sh S ⟨s.s,s.g,.err 0⟩ (pre ++ [x]) B:=by
 obtain ⟨n,h1,h2,h3⟩:=h.x hx;refine ⟨hB,h.eq,?_⟩;rcases h3 with ⟨hn,rfl⟩ | rfl
 ·left;refine ⟨n+1,hn,?_,.inl rfl⟩;rw [List.take_succ_eq_append_getElem hn,h2];unfold ro;rw [List.map_append];rfl
 ·right;exact ⟨n,h1,by rw [h2]⟩
end
end Go.Proofs.YtknioodagnjchaaGreatDoor
