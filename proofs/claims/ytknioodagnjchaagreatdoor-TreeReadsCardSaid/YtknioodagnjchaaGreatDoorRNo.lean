/- slices.Values, AppendSeq, Collect, Sorted at ints. strings.Builder: copyCheck, WriteByte, WriteString (the shelf's contracts fell at this dump: turned by hand). slices.BinarySearch at strings. node: unlike, Good. node: Good, Find; what a node is in memory. -/
import Derived.Test.YtknioodagnjchaaGreatDoorRTGood
import Derived.Test.YtknioodagnjchaaGreatDoorRSp
import Derived.Test.YtknioodagnjchaaGreatDoorRPl
import Derived.RangeFuncBox
import Derived.RangeFuncLeaves
import Derived.RangeFuncNested
import Derived.Shelf.Abstract
import Derived.OwnWalkIn
import Derived.TacticsInMore
import Derived.LoopNIn
import Derived.LoopIn
import Derived.Maps.AppendAt
import Derived.Sort.OwnSorted
import Derived.Shelf.SlIterI.Sorted
import Derived.Lib.Builder
import Derived.Lib.AppendStr
import Derived.Lib.UnsafeStr
import Derived.Laws.Externs
import Derived.Shelf.RegionOpenPlain
import Derived.Shelf.Strings.Builder1
set_option maxRecDepth 100000
set_option maxHeartbeats 2000000
namespace Go.Proofs.YtknioodagnjchaaGreatDoor
open Go.Lib (hid)
open Go.RowKit Go.Shelf Go.Sort
attribute [local go_sem] Oper.semAt_some
theorem mM (zs:List Int) {k:Nat} (h:k<zs.length):zs.take (k+1)=zs.take k ++ [zs[k]]:=List.take_succ_eq_append_getElem h
theorem pm (F:Fence) (n:Nat) (h7:F.fn 214) (hro:F.round=none) (hn:1≤n) (l Bs n₀ b off cap:Nat) (zs:List Int) (hreach:zs.length≤1000000) (hb:b<n₀) (J Jx:List Int→World→Prop)
  (hY:∀ pre x W,J pre W→pre.length<zs.length→YieldAt F (n - 1) Tryz.prog l #[.int .i64 x] W fun e W'=>
    (e=.returned (.bool true)∧J (pre ++ [x]) W'∧Below n₀ W W')∨(e=.returned (.bool false)∧Jx (pre ++ [x]) W'))
  (W:World) (hBs:W.cell? ⟨Bs,0,none⟩=some (.slice (some ⟨b,off,none⟩) zs.length cap)) (hc:∀ j (h:j<zs.length),W.cell? ⟨b,off+j,none⟩=some (.int .i64 zs[j])) (h0:J [] W):
  CallsIn F n Tryz.prog 214 #[.func (.yield l) #[] #[],.pointer (some ⟨Bs,0,none⟩)] W fun e W'=>(∃ v,e=.returned v)∧
   ((∃ ys,ys=zs∧J ys W')∨(∃ pre,pre <+: zs∧Jx pre W')):=by
 refine callsIn_of_wp Tryz.func214 rfl h7 ?_ hro;simp only [Tryz.ntmps214,List.size_toArray,List.length_cons,List.length_nil,Nat.reduceAdd,Nat.reduceSub,Array.replicate_succ,Array.replicate_zero,List.push_toArray,List.append_toArray,List.nil_append,List.cons_append];gi_wp2
 gi_loopw [7] (fun i wr=>∃ k:Nat,k≤zs.length∧i=.int .i64 k∧J (zs.take k) wr∧Below n₀ W wr)
  (fun i _=>zs.length - (intOf i).toNat)
 case atStart=>exact ⟨0,Nat.zero_le _,rfl,h0,Below.refl _ _⟩
 case round=>
  obtain ⟨k,hk,rfl,hJs,hnx⟩:=hrel;by_cases hlt:k<zs.length
  ·obtain ⟨fn,tmps,assign,body,hy,hR⟩:=hY _ zs[k] wr hJs (by rw [List.length_take];omega);have hcx':=(hnx.cell (p:=⟨b,off+k,none⟩) hb).trans (hc k hlt);gi_wp2;refine hR.mono ?_;rintro e W3 (⟨rfl,hJ3,hk3⟩ | ⟨rfl,hJx3⟩)
   ·gi_wp2;go_roundw
    case rel=>exact ⟨k+1,by omega,by simp,by rw [mM zs hlt];exact hJ3,hnx.trans hk3⟩
    case measure=>simp [intOf];omega
   ·gi_wp2;refine bodyPost_ret (results_none rfl _ _ _) rfl ?_;exact ⟨⟨_,rfl⟩,.inr ⟨_,by rw [← mM zs hlt];exact List.take_prefix _ _,hJx3⟩⟩
  ·obtain rfl:k=zs.length:=by omega
   gi_wp2;go_end0;exact ⟨⟨_,rfl⟩,.inl ⟨_,List.take_length,hJs⟩⟩
theorem kL (F:Fence) (n:Nat) (h7:F.fn 214) (hro:F.round=none) (l Bs:Nat) (A:Option Addr) (c:Nat) (J:List Int→World→Prop) (W:World) (hBs:W.cell? ⟨Bs,0,none⟩=some (.slice A 0 c)) (h0:J [] W):
  CallsIn F n Tryz.prog 214 #[.func (.yield l) #[] #[],.pointer (some ⟨Bs,0,none⟩)] W fun e W'=>(∃ v,e=.returned v)∧J [] W':=by
 refine callsIn_of_wp Tryz.func214 rfl h7 ?_ hro;simp only [Tryz.ntmps214,List.size_toArray,List.length_cons,List.length_nil,Nat.reduceAdd,Nat.reduceSub,Array.replicate_succ,Array.replicate_zero,List.push_toArray,List.append_toArray,List.nil_append,List.cons_append];gi_wp2;gi_loopw [7] (fun i wr=>i=.int .i64 0∧J [] wr) (fun _ _=>0)
 case atStart=>exact ⟨rfl,h0⟩
 case round=> obtain ⟨rfl,hJs⟩:=hrel;gi_wp2;go_end0;exact ⟨⟨_,rfl⟩,hJs⟩
theorem qt (F:Fence) (n:Nat) (h5:F.fn 188) (hro:F.round=none) (a:Option Addr) (len cap:Nat) (w:World):
  CallsIn F n Tryz.prog 188 #[.slice a len cap] w fun e w'=>e=.returned (.func (.func 214) #[] #[.pointer (some ⟨w.heap.size,0,none⟩)])∧w'=w.alloc (.cells #[.slice a len cap] 37):=by
 refine callsIn_of_wp Tryz.func188 rfl h5 ?_ hro;simp only [Tryz.ntmps188,List.size_toArray,List.length_cons,List.length_nil,Nat.reduceAdd,Nat.reduceSub,Array.replicate_succ,Array.replicate_zero,List.push_toArray,List.append_toArray,List.nil_append,List.cons_append];gi_wp2;go_ret;exact ⟨rfl,rfl⟩
theorem ms (F:Fence) (n:Nat) (h7:F.fn 214) (hro:F.round=none) (hn:1≤n) (Bs n₀:Nat) (sv:Value) (zs:List Int) (hreach:zs.length≤1000000) (w:World) (hBs:Bs<w.heap.size)
  (hc:w.cell? ⟨Bs,0,none⟩=some sv) (hI:∃ w0:World,w0.heap.size≤n₀∧Sl iC 1 w0 sv zs∧Below w0.heap.size w0 w):
  SeqStopsK F n Tryz.prog 214 #[.pointer (some ⟨Bs,0,none⟩)] (fun x:Int=>#[Value.int .i64 x]) (Below n₀) (fun ys=>ys=zs) (fun pre=>pre <+: zs) zs.length w:=fun l J Jx W hW _ _ hY h0=>by
 have hc':=(hW.cell (p:=⟨Bs,0,none⟩) hBs).trans hc;obtain ⟨w0,h0n,hsl,hb0⟩:=hI;rcases hsl.cases with ⟨A,c,rfl,rfl⟩ | ⟨b,off,cap,rfl,hne,hlt,hsl'⟩
 ·exact (kL F n h7 hro l Bs A c J W hc' h0).mono fun e W' ⟨he,hj⟩=>⟨he,.inl ⟨_,rfl,hj⟩⟩
 ·refine pm F n h7 hro hn l Bs n₀ b off cap zs hreach (by omega) J Jx hY W hc' (fun j hj=>?_) h0;have:=(hsl'.cells hj).2 0 _ rfl;rw [Nat.mul_one,Nat.add_zero] at this;exact (hW.cell (p:=⟨b,off+j,none⟩) (show b<w.heap.size by have:=hb0.size;omega)).trans ((hb0.cell (p:=⟨b,off+j,none⟩) hlt).trans this)
theorem tP:(Tryz.prog.info? 3).map (fun i=>(i.zero,i.size,i.bytes))=some (some (.int .i64 0),1,8):=by kernel_rfl
theorem jI (l:List Int):l.flatMap iC=l.map (Value.int .i64):=by
 induction l with
 | nil=>rfl
 | cons a l ih=>rw [List.flatMap_cons,ih];rfl
theorem qn (F:Fence) (n:Nat) (h3:F.fn 224) (h5:F.fn 214) (hro:F.round=none) (hn:3≤n) (Bs:Nat) (sv:Value) (zs:List Int) (hlen:zs.length≤1000000) (w w0:World) (hBs:Bs<w.heap.size)
  (hcs:w.cell? ⟨Bs,0,none⟩=some sv) (hsl:Sl iC 1 w0 sv zs) (hb0:Below w0.heap.size w0 w):
  CallsIn F n Tryz.prog 224 #[.slice none 0 0,.func (.func 214) #[] #[.pointer (some ⟨Bs,0,none⟩)]] w fun e W'=>∃ v,e=.returned v∧Own iC 1 3 w.heap.size W' v zs∧Below w.heap.size w W':=by
 have h1:1≤n:=by omega
 obtain ⟨i0,hi,hz0,hz1,hz2⟩:=info_parts tP;refine callsIn_of_wp_marks Tryz.func224 rfl h3 ?_ hro;simp only [Tryz.ntmps224,List.size_toArray,List.length_cons,List.length_nil,Nat.reduceAdd,Nat.reduceSub,Array.replicate_succ,Array.replicate_zero,List.push_toArray,List.append_toArray,List.nil_append,List.cons_append];gi_wp2;have bO:=Boxed.new w 37 (.slice none 0 0);have hB0:Below w.heap.size w (w.alloc (.cells #[.slice none 0 0] 37)):=(Below.refl _ w).alloc (Nat.le_refl _) _;have hcs2:=(hB0.cell (p:=⟨Bs,0,none⟩) hBs).trans hcs
 refine wpIn_rangeFunc_ownG hro h1 (gf:=214) (lb:=#[.pointer (some ⟨Bs,0,none⟩)]) rfl h5 (enters_of Tryz.func214 (by kernel_rfl) rfl)
  (ms F (n - 1) h5 hro (by omega) Bs w.heap.size sv zs hlen _ (by simp;omega) hcs2 ⟨w0,hb0.size,hsl,hb0.trans (hB0.mono hb0.size)⟩) belowK_t (belowK_b (by simp)) (Below.refl _ _) (fun _=>rfl)
  (fun pre W=>(∃ v,Boxed W w.heap.size 37 v∧W.ownsRow w.heap.size 3 1 v pre.length (pre.map (Value.int .i64))∧(v=.slice none 0 0↔pre=[]))∧Below w.heap.size w W)
  (fun _ _ _=>False)
  (OwnFrom.and (Own.from (holdsRow_own w.heap.size w.heap.size 37 3 1 (fun pre=>pre.length) (fun pre=>pre.map (Value.int .i64)) (fun pre v=>v=.slice none 0 0↔pre=[])) _) (ownFrom_below (Nat.le_refl _) (by simp)))
  (fun _ _ _ _ _ hs _ _=>hs)
  ⟨⟨_,bO,World.ownsRow_nil _ _ _ _,by simp⟩,hB0⟩
  (fun x=>{ tmps:=#[.slice none 0 0,.func (.func 214) #[] #[.pointer (some ⟨Bs,0,none⟩)],.pointer (some ⟨w.heap.size,0,none⟩),undef,.slice none 0 0,.int .i64 x,.func (.func 214) #[] #[.pointer (some ⟨Bs,0,none⟩)],.int .i64 x,undef,undef,undef,undef,undef],defers:=[] }) ?assign ?body ?done ?stop
 case assign=> intro l x W K hK;gi_wp2;exact hK
 case body=> rintro l pre x W ⟨⟨v,hv,hrow,hnil⟩,hB⟩ hlt;have hc:=hv.cell;gi_wp2_with (gi_at_builtin;refine wpListIn_append_own _ rfl _ _ 37 rfl w.heap.size 3 i0 (.int .i64 0) 1 8 Tryz.underlying37 hi hz0 hz1 hz2 rfl (by decide) _ _ _ rfl (hrow.alloc _) ⟨W.heap.size,0,none⟩ 1 1 [.int .i64 x] rfl rfl (cell_one_new _ _ _) (by simp [Value.oneCell']) (by simp [maxLen];omega) (by omega) (by have:=hB.size;simp;omega) ?_;intro v' w1 hown' hgrow _;obtain ⟨g',cap',rfl⟩:=ownsRow_succ hown';obtain ⟨hv1,hv2,hr2,hk2,hb2⟩:=hv.appended (by decide) hrow hB.size (Nat.le_refl _) hown' hgrow;have hc1:=hv1.cell;have hf1:=hv1.frozen);exact ⟨hk2.from _,hb2,⟨_,hv2,by simpa using hr2,by simp⟩,hB.trans hb2⟩
 case done=> rintro D ys W hD rfl ⟨⟨v,hv,hrow,hnil⟩,hB⟩ hK;have hc:=hv.cell;gi_wp2;refine ⟨by simp,.inl ⟨_,_,rfl,run_takeDeferred hK,?_⟩⟩;refine ⟨_,results_tmp rfl _ _ _,v,rfl,?_,hB.trans (belowK_b (w:=w) (Nat.le_refl _) W D _ _ (by simp at hD;omega) hK rfl rfl)⟩;unfold Own;rw [jI];exact ownsRow_putObj hrow _ hK rfl
 case stop=> rintro D c pre W _ _ h _;exact h.elim
theorem ny (F:Fence) (n:Nat) (h2:F.fn 212) (h3:F.fn 224) (h5:F.fn 214) (hro:F.round=none) (hn:4≤n) (Bs:Nat) (sv:Value) (zs:List Int) (hlen:zs.length≤1000000) (w w0:World) (hBs:Bs<w.heap.size)
  (hcs:w.cell? ⟨Bs,0,none⟩=some sv) (hsl:Sl iC 1 w0 sv zs) (hb0:Below w0.heap.size w0 w):
  CallsIn F n Tryz.prog 212 #[.func (.func 214) #[] #[.pointer (some ⟨Bs,0,none⟩)]] w fun e W'=>∃ v,e=.returned v∧Own iC 1 3 w.heap.size W' v zs∧Below w.heap.size w W':=by
 have h1:1≤n:=by omega
 refine callsIn_of_wp Tryz.func212 rfl h2 ?_ hro;simp only [Tryz.ntmps212,List.size_toArray,List.length_cons,List.length_nil,Nat.reduceAdd,Nat.reduceSub,Array.replicate_succ,Array.replicate_zero,List.push_toArray,List.append_toArray,List.nil_append,List.cons_append];gi_wp2_with (gi_at_call 224;refine (qn F (n - 1) h3 h5 hro (by omega) Bs sv zs hlen w w0 hBs hcs hsl hb0).mono ?_;rintro e w' ⟨v,rfl,ho,hb⟩);go_ret;exact ⟨v,rfl,ho,hb⟩
def jP (zs:List Int):List Int:=zs.mergeSort fun x y=>decide (x≤y)
theorem jO (zs:List Int):(jP zs).length=zs.length:=List.length_mergeSort _
theorem my (Bs:Nat) (sv:Value) (zs:List Int) (hlen:zs.length≤1000000) (w w0:World) (hBs:Bs<w.heap.size)
  (hcs:w.cell? ⟨Bs,0,none⟩=some sv) (hsl:Sl iC 1 w0 sv zs) (hb0:Below w0.heap.size w0 w):
  Calls Tryz.prog 187 #[.func (.func 214) #[] #[.pointer (some ⟨Bs,0,none⟩)]] w fun e W'=>∃ v,e=.returned v∧Own iC 1 3 w.heap.size W' v (jP zs)∧Below w.heap.size w W':=by
 go_enter Tryz.func187,Tryz.ntmps187;go_wp2_with fail;refine ((callsIn_wide (n:=4)).1 (ny Fence.wide 4 trivial trivial trivial rfl (by omega) Bs sv zs hlen w w0 hBs hcs hsl hb0)).mono ?_;rintro e w1 ⟨v,rfl,ho,hb⟩;have HO:=hid ho;have HB:=hid hb;rcases ho.2 with ⟨rfl,h0⟩ | ⟨g,cap,cur,rfl,hbase,hg,hcap,hmx,hcc,htk⟩
 ·have hz:zs=[]:=List.eq_nil_of_length_eq_zero h0;subst hz;clear ho hb;go_wp2_with fail;refine (Tryz.slices_Sort_int_none none 0 w1).mono ?_;rintro e w2 ⟨rfl,rfl⟩;go_wp2_with fail;go_ret;exact ⟨_,rfl,by rw [show jP []=[] by simp [jP]];exact HO.out,HB.out⟩
 ·have hH:Holds (Value.int .i64) w1 g 0 zs.toArray:=holds_of_block_i hg (by rw [Nat.mul_one,jI] at htk;exact htk);have hgl:=aj hg;have HG:=hid (And.intro hg (And.intro hcap (And.intro hmx hcc)));clear ho hb htk hg hcap hmx hcc;go_wp2_with fail;refine (Tryz.slices_Sort_int g 0 cap zs w1 hH hgl (by omega)).mono ?_;rintro e w2 ⟨rfl,q,os,rfl⟩;go_wp2_with fail;go_ret;refine ⟨_,rfl,?_,HB.out.grown (grownBy_sorted_i _) HB.out.size (fun j hj=>by cases hj;exact hbase)⟩;unfold Own;rw [jI,jO];exact ownsRow_sorted_i (by simp) hbase HG.out.1 HG.out.2.1 HG.out.2.2.1 HG.out.2.2.2
end Go.Proofs.YtknioodagnjchaaGreatDoor
namespace Go.Proofs.YtknioodagnjchaaGreatDoor
open Go.Lib (hid)
open Go.RowKit Go.Shelf
theorem pd:(Tryz.prog.info? 206).map (·.size)=some 2:=by kernel_rfl
theorem sD:liesAt Tryz.prog Tryz.prog.depth 206 (2 / Tryz.prog.cellsOf 206) 0 206 1=true:=by kernel_rfl
theorem gH (b:Nat) (w:World) (h0:w.cell? ⟨b,0,none⟩=some (.pointer (some ⟨b,0,none⟩))):
  Calls Tryz.prog 182 #[.pointer (some ⟨b,0,none⟩)] w fun e w'=>e=.returned (.tuple #[])∧w'=w:=by
 obtain ⟨j,hj,_⟩:=Option.map_eq_some_iff.1 pd;go_enter Tryz.func182,Tryz.ntmps182;go_wp2;rw [Lib.run_neq_ptr_same w _ Tryz.underlying204 hj];go_wp2;go_end0;exact ⟨rfl,rfl⟩
theorem fX (b:Nat) (w:World) (h0:w.cell? ⟨b,0,none⟩=some (.pointer none)) (hsh:w.shape? b=some (206,2)) (hfz:w.frozen? ⟨b,0,none⟩=false):
  Calls Tryz.prog 182 #[.pointer (some ⟨b,0,none⟩)] w fun e w'=>e=.returned (.tuple #[])∧w'=w.setCell ⟨b,0,none⟩ (.pointer (some ⟨b,0,none⟩)):=by
 obtain ⟨j,hj,hjs⟩:=Option.map_eq_some_iff.1 pd;go_enter Tryz.func182,Tryz.ntmps182;go_wp2;rw [Lib.run_to_unsafe w ⟨b,0,none⟩ Tryz.underlying204 Tryz.underlying256 hj (by rw [hjs];decide) hsh (Nat.zero_lt_succ 1)];simp only [Result.andThen];rw [Oper.upon_value];go_wp2;rw [run_callFunc_extern Tryz.func210 (by kernel_rfl) (by kernel_rfl) (by kernel_rfl) (e:=Extern.AbiNoEscape.same) (by kernel_rfl)];rw [Lib.run_noEscape];simp only [Result.andThen];rw [Oper.upon_value];go_wp2;rw [Lib.run_from_unsafe w ⟨b,0,none⟩ Tryz.underlying256 Tryz.underlying204 hj hsh sD];simp only [Result.andThen];rw [Oper.upon_value];go_wp2;go_end0;exact ⟨rfl,rfl⟩
def Bu (B b:Nat) (l:List UInt8) (w:World):Prop:=Lib.IsBuilder 206 5 B b (Lib.byteCells l) w
theorem hQ (B b:Nat) (l:List UInt8) (w:World) (h:Bu B b l w):
  Calls Tryz.prog 182 #[.pointer (some ⟨b,0,none⟩)] w fun e w'=>e=.returned (.tuple #[])∧(Lib.BuilderAt 206 5 B b (.pointer (some ⟨b,0,none⟩)) (Lib.byteCells l) w'∧Below B w w'):=by
 rcases h with h | h
 ·refine (fX b w h.cell0 h.shape h.frozen0).mono ?_;rintro e w' ⟨rfl,rfl⟩;exact ⟨rfl,h.used _,(Below.refl B w).setCell (p:=⟨b,0,none⟩) h.1 _⟩
 ·refine (gH b w h.cell0).mono ?_;rintro e w' ⟨rfl,rfl⟩;exact ⟨rfl,h,Below.refl B _⟩
theorem Bu.new {w:World} {b:Nat} (hb:w.heap[b]?=some (.cells #[.pointer none,.slice none 0 0] 206 (0,0))) {B:Nat} (hB:B≤b):Bu B b [] w:=
 .inl ⟨hB,_,hb,World.ownsRow_nil _ _ _ _,by simp [Value.ownBlock]⟩
theorem kU (B b:Nat) (l:List UInt8) (c:UInt8) (w:World) (h:Bu B b l w) (hlen:l.length≤1000000) (hBw:B≤w.heap.size):
  Calls Tryz.prog 200 #[.pointer (some ⟨b,0,none⟩),.int .u8 c.toNat] w fun e w'=>e=.returned .nilIface∧Bu B b (l ++ [c]) w'∧Below B w w':=by
 obtain ⟨i0,hi,hz0,hz1,hz2⟩:=info_parts o5;have HL:(Lib.byteCells l).length≤1000000:=by rw [Lib.byteCells_length];exact hlen
 have HE:=hid (show Lib.byteCells (l ++ [c])=Lib.byteCells l ++ [.int .u8 c.toNat] by simp [Lib.byteCells]);go_enter Tryz.func200,Tryz.ntmps200;go_wp2_with fail;refine (hQ B b l _ h).mono ?_;clear h;generalize Lib.byteCells l=bs at *;rintro e w1 ⟨rfl,h1,hb1⟩;have HB1:=hid hb1;have hs1:=hb1.size;clear hb1;obtain ⟨hB,v,hbk,hown,hne⟩:=h1;have HO:=hid hown;have HN:=hid hne;have HBK:=hid hbk;have c0:w1.cell? ⟨b,0,none⟩=some (.pointer (some ⟨b,0,none⟩)):=by rw [Lib.cell_of_heap hbk];rfl
 have c1:w1.cell? ⟨b,1,none⟩=some v:=by rw [Lib.cell_of_heap hbk];rfl
 have hlt:b<w1.heap.size:=aj hbk;clear hown hne hbk;go_wp2_with (at_builtin;refine wpList_append_own _ rfl _ _ 46 rfl B 5 i0 (.int .u8 0) 1 1 Tryz.underlying46 hi hz0 hz1 hz2 rfl (by decide) _ _ _ rfl (HO.out.alloc _) ⟨w1.heap.size,0,none⟩ 1 1 [.int .u8 c.toNat] rfl rfl ?c1 ?c2 ?c3 ?c4 ?c5 ?_)
 case c1=>
  intro j u hj
  match j,hj with
  | 0,hj=>simp at hj;subst hj;simp [Addr.add]
 case c2=>intro u hu;simp at hu;subst hu;rfl
 case c3=>unfold maxLen;omega
 case c4=>omega
 case c5=>simp;omega
 intro v' w2 hown' hgrow _;have hb2:w2.heap[b]?=some (.cells #[.pointer (some ⟨b,0,none⟩),v] 206 (0,0)):=by rw [hgrow.block b (by simp;omega) (fun e=>HN.out e.symm),Lib.alloc_old w1 _ b hlt];exact HBK.out
 have d0:w2.cell? ⟨b,0,none⟩=some (.pointer (some ⟨b,0,none⟩)):=by rw [Lib.cell_of_heap hb2];rfl
 have d1:w2.cell? ⟨b,1,none⟩=some v:=by rw [Lib.cell_of_heap hb2];rfl
 have f1:w2.frozen? ⟨b,1,none⟩=false:=Lib.frozen_of_heap hb2 1;obtain ⟨g,cap,rfl⟩:∃ g cap,v'=.slice (some ⟨g,0,none⟩) (bs.length+1) cap:=by
  rcases hown'.2 with ⟨_,h0⟩ | ⟨g,cap,cur,hv,_⟩
  ·omega
  ·exact ⟨g,cap,hv⟩
 have HP:=hid (Lib.BuilderAt.put (T:=206) (e:=5) hB hb2 (bs':=bs ++ [.int .u8 c.toNat]) (by simpa using hown') (by decide));have HW:=hid (((HB1.out.alloc (by omega) _).grown hgrow (by simp;omega) (fun k hk=>(HO.out.lt k hk).1)).setCell (p:=⟨b,1,none⟩) hB (.slice (some ⟨g,0,none⟩) (bs.length+1) cap));have HB2:=hid hb2;clear hown' hgrow hb2;go_wp2_with fail;go_ret;refine ⟨rfl,?_,HW.out⟩;unfold Bu;rw [HE.out];exact .inr HP.out
theorem cS (B b:Nat) (l s:List UInt8) (w:World) (h:Bu B b l w) (hlen:l.length≤1000000) (hs:s.length≤1000000) (hBw:B≤w.heap.size):
  Calls Tryz.prog 145 #[.pointer (some ⟨b,0,none⟩),.string (al s)] w fun e w'=>e=.returned (.tuple #[.int .i64 s.length,.nilIface])∧Bu B b (l ++ s) w'∧Below B w w':=by
 obtain ⟨i0,hi,hz0,hz1,hz2⟩:=info_parts o5;have HL:(Lib.byteCells l).length≤1000000:=by rw [Lib.byteCells_length];exact hlen
 have hsz:(al s).size=s.length:=aq s;have HSZ:=hid hsz;have HE:=hid (show Lib.byteCells (l ++ s)=Lib.byteCells l ++ Lib.strCells (al s) by simp [Lib.byteCells,Lib.strCells,al]);have hsl:(al s).size≤1000000:=by omega
 clear hsz;go_enter Tryz.func145,Tryz.ntmps145;go_wp2_with fail;refine (hQ B b l _ h).mono ?_;clear h;generalize Lib.byteCells l=bs at *;generalize al s=sv at *;rintro e w1 ⟨rfl,h1,hb1⟩;have HB1:=hid hb1;have hs1:=hb1.size;clear hb1;obtain ⟨hB,v,hbk,hown,hne⟩:=h1;have HO:=hid hown;have HN:=hid hne;have HBK:=hid hbk;have c0:w1.cell? ⟨b,0,none⟩=some (.pointer (some ⟨b,0,none⟩)):=by rw [Lib.cell_of_heap hbk];rfl
 have c1:w1.cell? ⟨b,1,none⟩=some v:=by rw [Lib.cell_of_heap hbk];rfl
 have hlt:b<w1.heap.size:=aj hbk;clear hown hne hbk;go_wp2_with (at_builtin;refine Lib.wpList_append_own_string _ rfl _ _ 46 9 rfl B 5 i0 Tryz.underlying46 Tryz.underlying9 hi hz0 hz1 hz2 _ _ _ rfl HO.out sv rfl ?c3 ?c4 ?c5 ?_)
 case c3=>unfold maxLen;omega
 case c4=>omega
 case c5=>omega
 intro v' w2 hown' hgrow _;have hb2:w2.heap[b]?=some (.cells #[.pointer (some ⟨b,0,none⟩),v] 206 (0,0)):=by rw [hgrow.block b hlt (fun e=>HN.out e.symm)];exact HBK.out
 have d0:w2.cell? ⟨b,0,none⟩=some (.pointer (some ⟨b,0,none⟩)):=by rw [Lib.cell_of_heap hb2];rfl
 have d1:w2.cell? ⟨b,1,none⟩=some v:=by rw [Lib.cell_of_heap hb2];rfl
 have f1:w2.frozen? ⟨b,1,none⟩=false:=Lib.frozen_of_heap hb2 1;obtain ⟨ao,n',cap,rfl⟩:∃ ao n' cap,v'=.slice ao n' cap:=by
  rcases hown'.2 with ⟨hv,_⟩ | ⟨g,cap,cur,hv,_⟩
  ·exact ⟨_,_,_,hv⟩
  ·exact ⟨_,_,_,hv⟩
 have HP:=hid (Lib.BuilderAt.put (T:=206) (e:=5) hB hb2 (bs':=bs ++ Lib.strCells sv) (by simpa [Lib.strCells_length] using hown') (by decide));have HW:=hid ((HB1.out.grown hgrow (by omega) (fun k hk=>(HO.out.lt k hk).1)).setCell (p:=⟨b,1,none⟩) hB (.slice ao n' cap));clear hown' hgrow hb2;go_wp2_with fail;go_ret2;refine ⟨by rw [HSZ.out];rfl,?_,HW.out⟩;unfold Bu;rw [HE.out];exact .inr HP.out
end Go.Proofs.YtknioodagnjchaaGreatDoor
namespace Go.Proofs.YtknioodagnjchaaGreatDoor
open Go.Lib (hid)
open Go.RowKit
theorem oy (a b:ByteArray):(a.toList == b.toList)=decide (a=b):=by
 rw [ByteArray.toList_eq,ByteArray.toList_eq];by_cases h:a=b
 ·subst h;simp
 ·rw [decide_eq_false h];exact beq_eq_false_iff_ne.2 fun e=>h (mn e)
theorem ox (s:ByteArray) (w:World):Calls Tryz.prog 191 #[.string s] w fun e w'=>e=.returned (.bool false)∧w=w':=by go_enter Tryz.func191,Tryz.ntmps191;go_wp2;go_ret;exact ⟨by simp,rfl⟩
theorem iM (s:ByteArray) (w:World):Calls Tryz.prog 160 #[.string s] w fun e w'=>e=.returned (.bool false)∧w=w':=by go_enter Tryz.func160,Tryz.ntmps160;go_wp2;go_ret;exact ⟨by simp,rfl⟩
theorem m5 (a b:ByteArray) (w:World):Calls Tryz.prog 159 #[.string a,.string b] w fun e w'=>e=.returned (.bool (Op.bytesLess a.toList b.toList))∧w=w':=by go_enter Tryz.func159,Tryz.ntmps159;go_wp2_with (first | (go_at_call 191;refine (ox _ _).mono ?_;rintro e w' ⟨rfl,rfl⟩));go_ret;exact ⟨rfl,rfl⟩
theorem td {ks:List By} {k:By} (hs:ks.Pairwise fun a b=>bK a b=true) {j:Nat} (hj:j<ks.length):bK ks[j] k=decide (j<bB ks k):=by
 obtain ⟨h1,h2,_⟩:=gR (k:=k) hs;by_cases h:j<bB ks k
 ·rw [decide_eq_true h];exact h1 _ (List.mem_take_iff_getElem.2 ⟨j,by omega,rfl⟩)
 ·rw [decide_eq_false h];exact h2 _ (List.mem_drop_iff_getElem.2 ⟨j - bB ks k,by omega,by congr 1;omega⟩)
theorem tO {ks:List By} {k:By} (h:bB ks k<ks.length):fO ks k=decide (ks[bB ks k]=k):=by unfold fO;rw [List.getElem?_eq_getElem h];simp
theorem tN {ks:List By} {k:By} (h:¬ bB ks k<ks.length):fO ks k=false:=by unfold fO;rw [List.getElem?_eq_none (by omega)];simp
theorem nF (ks:List By) (k:By) (v:Value) (w:World) (h:Sl sC 1 w v ks) (hl:ks.length≤1000000) (hs:ks.Pairwise fun a b=>bK a b=true):
  Calls Tryz.prog 111 #[v,.string (al k)] w fun e w'=>e=.returned (.tuple #[.int .i64 (bB ks k),.bool (fO ks k)])∧Below w.heap.size w w':=by
 obtain ⟨A,c,rfl⟩:=Sl.len' h;have H:=hid h;have hlb:=(gR (k:=k) hs).2.2;have HLB:=hid (fun (j:Nat) (hj:j<ks.length)=>td (k:=k) hs hj);have HIS:=hid (tO (ks:=ks) (k:=k));have HNO:=hid (tN (ks:=ks) (k:=k));clear h hs;generalize hm:bB ks k=m at *;have HM:=hid hm;clear hm;obtain ⟨x,hx⟩:∃ x,al k=x:=⟨_,rfl⟩;rw [hx];have HX:=hid hx;clear hx;go_enter Tryz.func111,Tryz.ntmps111;go_wp2_with fail;go_loopw [7,8] (fun s7 s8 wr=>∃ lo hi:Nat,s7=.int .i64 lo∧s8=.int .i64 hi∧lo≤m∧m≤hi∧hi≤ks.length∧Below w.heap.size w wr) (fun s7 s8 _=>(intOf s8).toNat - (intOf s7).toNat)
 case atStart=>exact ⟨0,ks.length,rfl,rfl,Nat.zero_le _,hlb,Nat.le_refl _,Below.refl _ _⟩
 case round=>
  obtain ⟨lo,hi,rfl,rfl,h1,h2,h3,hb⟩:=hrel;have HB:=hid hb;clear hb;by_cases hlt:lo<hi
  ·obtain ⟨b,off,rfl,hbl,_,hc⟩:=(H.out.keep HB.out).key (show (lo+hi) / 2<ks.length by omega);have hkk:bK ks[(lo+hi) / 2] k=decide ((lo+hi) / 2<m):=HLB.out _ (by omega);have hby:Op.bytesLess (al ks[(lo+hi) / 2]).toList x.toList=bK ks[(lo+hi) / 2] k:=by rw [← HX.out,aL,aL];rfl
   rw [hkk] at hby
   clear hkk;generalize al ks[(lo+hi) / 2]=y at *;by_cases hm:(lo+hi) / 2<m
   ·rw [decide_eq_true hm] at hby
    go_wp2_with (first | (go_at_call 159;refine (m5 _ _ _).mono ?_;rw [hby];rintro e w' ⟨rfl,rfl⟩));go_roundw
    case rel=>exact ⟨(lo+hi) / 2+1,hi,by rw [show ((lo:Int)+(hi:Int)) / 2+1=(((lo+hi) / 2+1:Nat):Int) by omega],rfl,by omega,h2,h3,HB.out⟩
    case measure=>simp [intOf];omega
   ·rw [decide_eq_false hm] at hby
    go_wp2_with (first | (go_at_call 159;refine (m5 _ _ _).mono ?_;rw [hby];rintro e w' ⟨rfl,rfl⟩));go_roundw
    case rel=>exact ⟨lo,(lo+hi) / 2,rfl,by rw [show ((lo:Int)+(hi:Int)) / 2=(((lo+hi) / 2:Nat):Int) by omega],h1,by omega,by omega,HB.out⟩
    case measure=>simp [intOf];omega
  ·obtain rfl:lo=m:=by omega
   by_cases hn:lo<ks.length
   ·obtain ⟨b,off,rfl,hbl,_,hc⟩:=(H.out.keep HB.out).key hn;have hI:=HIS.out hn;have hq:(((al ks[lo]).toList) == x.toList)=fO ks k:=by
     rw [oy,hI,← HX.out];by_cases e:ks[lo]=k
     ·rw [e];simp
     ·rw [decide_eq_false e,decide_eq_false (fun h=>e (sb h))]
    have hI2:=hq;clear hI;generalize al ks[lo]=y at *;cases hi':fO ks k
    ·rw [hi'] at hq;go_wp2_with (first | (go_at_call 160;refine (iM _ _).mono ?_;rintro e w' ⟨rfl,rfl⟩));go_ret2;exact ⟨by first | rfl | (rw [hi'];rfl),HB.out⟩
    ·rw [hi'] at hq;go_wp2_with (first | (go_at_call 160;refine (iM _ _).mono ?_;rintro e w' ⟨rfl,rfl⟩));go_ret2;exact ⟨by first | rfl | (rw [hi'];rfl),HB.out⟩
   ·have hI:=HNO.out hn;have hnb:¬ ((lo:Int)<(ks.length:Int)):=by omega
    go_wp2_with (first | (go_at_call 160;refine (iM _ _).mono ?_;rintro e w' ⟨rfl,rfl⟩));go_ret2;exact ⟨by first | rfl | (rw [hI];rfl),HB.out⟩
end Go.Proofs.YtknioodagnjchaaGreatDoor
namespace Go.Proofs.YtknioodagnjchaaGreatDoor
open Go.Lib (hid)
open Go.RowKit Go.Sort
def g6 (c:Ce):Bool:=!aE c
theorem qQ (c:Ce) (w:World) (hl:c.data.length≤1000000):Calls Tryz.prog 155 #[.agg #[.int .i64 c.size,.string (al c.data),.int .i64 c.page]] w fun e w'=>e=.returned (.bool (g6 c))∧Below w.heap.size w w':=by have HA:=hid ((Below.refl _ w).alloc (Nat.le_refl _) (cF c));have HG:=hid (ag (w0:=w) (g:=w.heap.size) (o:=cF c) rfl);have hsz:=aq c.data;go_enter Tryz.func155,Tryz.ntmps155;go_wp2_with fail;refine (oh c _ hl).mono ?_;rintro e w1 ⟨rfl,hb⟩;have HB:=hid (HA.out.trans (hb.mono (show w.heap.size≤(w.alloc (cF c)).heap.size from HA.out.size)));clear hb;go_wp2_with fail;go_ret;exact ⟨rfl,HB.out⟩
theorem Sl.cell3 {w:World} {cs:List Ce} {A:Option Addr} {n c:Nat} (h:Sl cC 3 w (.slice A n c) cs) {k:Nat} (hk:k<cs.length):∃ b off,A=some ⟨b,off,none⟩∧b<w.heap.size∧n=cs.length∧w.cell? ⟨b,off+k * 3,none⟩=some (.int .i64 cs[k].size)∧w.cell? ⟨b,off+k * 3+1,none⟩=some (.string (al cs[k].data))∧w.cell? ⟨b,off+k * 3+2,none⟩=some (.int .i64 cs[k].page):=by
 obtain ⟨A',c',he,h⟩:=h;injection he with e1 e2 e3
 subst e1 e2;obtain ⟨b,off,rfl,hlt,hc⟩:=h (by rintro rfl;simp at hk);have:=hc k cs[k] (List.getElem?_eq_getElem hk);exact ⟨b,off,rfl,hlt,rfl,this 0 _ rfl,this 1 _ rfl,this 2 _ rfl⟩
theorem om (v:Value) (xs:List Ce) (w:World) (h:Sl cC 3 w v xs) (hl:xs.length≤1000000) (hd:∀ c ∈ xs,c.data.length≤1000000):
  Calls Tryz.prog 186 #[v,.func (Fn.func 155) #[] #[]] w fun e w'=>e=.returned (.int .i64 (dB g6 xs))∧Below w.heap.size w w':=by
 obtain ⟨A,c,rfl⟩:=Sl.len' h;have H:=hid h;have HD:=hid hd;clear h hd;go_enter Tryz.func186,Tryz.ntmps186;go_wp2_with fail;go_loopw [8] (fun i wr=>∃ k:Nat,k≤xs.length∧i=.int .i64 k∧(∀ j (h:j<xs.length),j<k→g6 xs[j]=false)∧Below w.heap.size w wr) (fun i _=>xs.length - (intOf i).toNat)
 case atStart=>exact ⟨0,Nat.zero_le _,rfl,fun _ _ h=>absurd h (Nat.not_lt_zero _),Below.refl _ _⟩
 case round=>
  obtain ⟨k,hk,rfl,hno,hb⟩:=hrel;have HN:=hid hno;have HB:=hid hb;clear hno hb;by_cases hlt:k<xs.length
  ·obtain ⟨b,off,rfl,hbl,_,e0,e1,e2⟩:=(H.out.keep HB.out).cell3 hlt;have hk0:(0:Int)≤(k:Int):=by omega
   have hk1:(k:Int)<(xs.length:Int):=by omega
   have HI:=hid (show g6 xs[k]=true→dB g6 xs=k from fun h=>kv hlt h HN.out);have HU:=hid (show g6 xs[k]=false→∀ j (h:j<xs.length),j<k+1→g6 xs[j]=false from fun h=>qR HN.out hlt h);have hdl:=HD.out _ (List.getElem_mem hlt);generalize xs[k]=x at *;go_wp2_with fail;refine (qQ x wr hdl).mono ?_;rintro e w' ⟨rfl,hb⟩;have HB2:=hid (HB.out.trans (hb.mono HB.out.size));clear hb;cases hx:g6 x
   ·have HX:=hid (HU.out hx);go_wp2_with fail;go_roundw
    case rel=>exact ⟨k+1,by omega,by go_num,HX.out,HB2.out⟩
    case measure=>simp [intOf];omega
   ·have HX:=hid (HI.out hx);go_wp2_with fail;go_ret;exact ⟨oM HX.out.symm,HB2.out⟩
  ·have HX:=hid (iA (p:=g6) hlt HN.out);go_wp2_with fail;go_ret;exact ⟨oM HX.out.symm,HB.out⟩
theorem kQ (v:Value) (xs:List Ce) (w:World) (h:Sl cC 3 w v xs) (hl:xs.length≤1000000) (hd:∀ c ∈ xs,c.data.length≤1000000):
  Calls Tryz.prog 157 #[v,.func (Fn.func 155) #[] #[]] w fun e w'=>e=.returned (.bool (xs.any g6))∧Below w.heap.size w w':=by
 go_enter Tryz.func157,Tryz.ntmps157;go_wp2_with fail;refine (om v xs w h hl hd).mono ?_;rintro e w' ⟨rfl,hb⟩;have HB:=hid hb;clear hb;have HF:=hid (ku g6 xs);generalize dB g6 xs=m at *;go_wp2_with fail;go_ret;exact ⟨oN HF.out,HB.out⟩
theorem kW (zs:List Int):(jP zs).Perm zs:=List.mergeSort_perm ..
theorem oK (zs:List Int):(jP zs).Pairwise (·≤·):=by have:=List.pairwise_mergeSort (le:=fun x y:Int=>decide (x≤y)) (fun a b c h1 h2=>by simp at *;omega) (fun a b=>by simp;omega) zs;exact this.imp fun h=>by simpa using h
theorem fv {zs:List Int} {j:Nat} (h:j<zs.length):zs.toArray[j]! = zs[j]:=by simp [h]
theorem nV {zs:List Int} (h:zs.Pairwise (·≤·)):(Lib.compact zs).length=zs.length↔zs.Nodup:=by
 have h1:(Lib.compact zs).length=zs.length↔∀ j,j<zs.length→Lib.keeps zs.toArray j=true:=by
  unfold Lib.compact Lib.compactUpTo;rw [List.length_map];constructor
  ·intro e j hj;have:((List.range zs.length).filter (Lib.keeps zs.toArray)).length=(List.range zs.length).length:=by rw [e,List.length_range]
   exact List.length_filter_eq_length_iff.1 this j (List.mem_range.2 hj)
  ·intro e;rw [List.filter_eq_self.2 (fun j hj=>e j (List.mem_range.1 hj)),List.length_range]
 rw [h1];constructor
 ·intro e
  have step:∀ j (hj:j+1<zs.length),zs[j]<zs[j+1]:=fun j hj=>by
   have h2:=e (j+1) hj;unfold Lib.keeps at h2;rw [decide_eq_true_eq,fv hj,show j+1 - 1=j by omega,fv (by omega)] at h2;have h3:=List.pairwise_iff_getElem.1 h j (j+1) (by omega) hj (by omega);rcases h2 with h2 | h2
   ·omega
   ·omega
  have lt:∀ d j (hj:j+d+1<zs.length),zs[j]<zs[j+d+1]:=fun d=>by
   induction d with
   | zero=>intro j hj;exact step j hj
   | succ d ih=> intro j hj;have a1:=ih j (by omega);have a2:=step (j+d+1) (by omega);have a3:zs[j+(d+1)+1]=zs[j+d+1+1]:=rfl;omega
  refine List.pairwise_iff_getElem.2 fun i j hi hj hij=>?_
  obtain ⟨d,rfl⟩:∃ d,j=i+d+1:=⟨j - i - 1,by omega⟩;have:=lt d i hj;omega
 ·intro hn j hj;unfold Lib.keeps;rw [decide_eq_true_eq];by_cases h0:j=0
  ·exact .inl h0
  ·refine .inr ?_;rw [fv hj,fv (by omega)];intro e;have:=(List.pairwise_iff_getElem.1 hn) (j - 1) j (by omega) hj (by omega);exact this e.symm
theorem tq {zs:List Int} (hn:zs.Nodup):Lib.compact zs=zs:=by
 refine Lib.compact_all zs fun j hj=>?_
 unfold Lib.keeps;rw [decide_eq_true_eq];by_cases h0:j=0
 ·exact .inl h0
 ·refine .inr ?_;rw [fv hj,fv (by omega)];intro e;exact (List.pairwise_iff_getElem.1 hn) (j - 1) j (by omega) hj (by omega) e.symm
theorem lC:∀ (l:List Int) (a:Int),(∀ x ∈ l,x≤l.foldl max a)∧a≤l.foldl max a∧(l.foldl max a=a∨l.foldl max a ∈ l)
 | [],a=>⟨fun _ h=>absurd h List.not_mem_nil,Int.le_refl _,.inl rfl⟩
 | b :: l,a=>by
   obtain ⟨h1,h2,h3⟩:=lC l (max a b);rw [List.foldl_cons];refine ⟨fun x hx=>?_,by omega,?_⟩
   ·rcases List.mem_cons.1 hx with rfl | hx
    ·omega
    ·exact h1 x hx
   ·rcases h3 with h3 | h3
    ·rw [h3];rcases Int.le_total a b with h | h
     ·rw [Int.max_eq_right h];exact .inr List.mem_cons_self
     ·rw [Int.max_eq_left h];exact .inl rfl
    ·exact .inr (List.mem_cons_of_mem _ h3)
theorem oc {l:List Int} (h:l≠[]):Lib.maxOf l ∈ l∧∀ x ∈ l,x≤Lib.maxOf l:=by
 unfold Lib.maxOf;obtain ⟨h1,h2,h3⟩:=lC l (l.headD 0);refine ⟨?_,h1⟩;rcases h3 with h3 | h3
 ·rw [h3];cases l with
  | nil=>exact absurd rfl h
  | cons a l=>exact List.mem_cons_self
 ·exact h3
theorem pp {l:List Int} (h:l≠[]) (hn:l.Nodup):bP l=(cm ((jP l).headD 0) && cm (Lib.maxOf l)):=by
 unfold bP;rw [decide_eq_true hn,Bool.true_and];obtain ⟨h1,h2⟩:=oc h;have hp:=kW l;have hw:=oK l;cases hs:jP l with
 | nil=>rw [hs] at hp;exact absurd hp.symm.eq_nil h
 | cons a s=>
   rw [hs] at hp hw;have ha:a ∈ l:=hp.mem_iff.1 List.mem_cons_self
   have hmin:∀ x ∈ l,a≤x:=fun x hx=>by
    rcases List.mem_cons.1 (hp.mem_iff.2 hx) with rfl | hx
    ·exact Int.le_refl _
    ·exact (List.pairwise_cons.1 hw).1 x hx
   rw [List.headD_cons];cases hall:l.all cm
   ·
    have:∃ x ∈ l,cm x=false:=by rw [List.all_eq_false] at hall;obtain ⟨x,hx,h⟩:=hall;exact ⟨x,hx,by simpa using h⟩
    obtain ⟨x,hx,h⟩:=this;have:=hmin x hx;have:=h2 x hx;unfold cm at h ⊢;symm;simp at h ⊢;intro _ _ _;omega
   ·rw [List.all_eq_true] at hall;rw [hall a ha,hall _ h1];rfl
theorem nS (v:Value) (l:List Int) (w:World) (h:Sl iC 1 w v l) (hne:l≠[]) (hl:l.length≤1000000):
  Calls Tryz.prog 158 #[v] w fun e w'=>e=.returned (.bool (bP l))∧Below w.heap.size w w':=by
 obtain ⟨A0,c,rfl⟩:=Sl.len' h;obtain ⟨b,off,rfl,hbl⟩:∃ b off,A0=some ⟨b,off,none⟩∧b<w.heap.size:=by
  obtain ⟨A',c',he,hx⟩:=h;obtain ⟨b,off,e,hb,_⟩:=hx hne;injection he with e1
  exact ⟨b,off,e1.trans e,hb⟩
 have H:=hid h;have hpos:=List.length_pos_iff.2 hne;clear h;go_enter Tryz.func158,Tryz.ntmps158;go_wp2_with fail;refine ((callsIn_wide (n:=4)).1 (qt Fence.wide 4 trivial rfl (some ⟨b,off,none⟩) l.length c w)).mono ?_;rintro e w1 ⟨rfl,rfl⟩;have HA:=hid ((Below.refl _ w).alloc (Nat.le_refl _) (.cells #[.slice (some ⟨b,off,none⟩) l.length c] 37));go_wp2_with fail;refine (my w.heap.size (.slice (some ⟨b,off,none⟩) l.length c) l hl _ w (by simp) (by simp) H.out HA.out).mono ?_;rintro e w2 ⟨sv,rfl,ho,hb2⟩;have HB2:=hid (HA.out.trans (hb2.mono HA.out.size));have hs2:=hb2.size;have hs1:=HA.out.size;rcases ho.2 with ⟨rfl,h0⟩ | ⟨g,cap,cur,rfl,hbase,hg,hcap,hmx,hcc,htk⟩
 ·rw [jO] at h0;omega
 ·have hH:Holds (Value.int .i64) w2 g 0 (jP l).toArray:=holds_of_block_i hg (by rw [Nat.mul_one,jI] at htk;exact htk);have hgl:=aj hg;have HPW:=hid (nV (oK l));have HND:=hid (show (jP l).Nodup↔l.Nodup from (kW l).nodup_iff);have hlen:=jO l;have HUN:=hid (fun hn:l.Nodup=>pp hne hn);have HUF:=hid (fun hn:¬ l.Nodup=>(show bP l=false by unfold bP;rw [decide_eq_false hn];rfl));clear ho hb2 htk hg hmx hcc;generalize jP l=zs at *;have HLEN:=hid hlen;have hlz:zs.length≤1000000:=by omega
  have hpz:0<zs.length:=by omega
  clear hlen;have hz0:=hH 0 (by simpa using hpz);rw [Nat.add_zero] at hz0;have HZ0:=hid hz0;have HH:=hid hH;clear hH hz0;go_wp2_with fail;refine (Tryz.slices_Compact_int g 0 cap zs w2 HH.out (by omega) hcap).mono ?_;rintro e w3 ⟨rfl,q,rfl⟩;by_cases hnd:l.Nodup
  ·have hcid:Lib.compact zs=zs:=tq (HND.out.2 hnd);have hw3:putRow (Value.int .i64) (Sort.ahead w2 q) g 0 (Lib.compact zs ++ List.replicate (zs.length - (Lib.compact zs).length) 0).toArray=Sort.ahead w2 q:=by rw [hcid,Nat.sub_self,List.replicate_zero,List.append_nil];exact putRow_self _ _ _ _ _ HH.out
   rw [hw3,hcid];have HW3:=hid (show Below w2.heap.size w2 (Sort.ahead w2 q) from ⟨rfl,rfl,rfl,Nat.le_refl _,fun _ _=>rfl⟩);have hcell:(Sort.ahead w2 q).cell? ⟨g,0,none⟩=some (.int .i64 (zs.headD 0)):=by
    have:=HZ0.out;cases zs with
    | nil=>simp at hpz
    | cons a zs=>simpa using this.1
   have hgl3:g<(Sort.ahead w2 q).heap.size:=hgl;have HU:=hid (HUN.out hnd);clear hw3 hcid hnd;generalize Sort.ahead w2 q=w3 at *;have hq:((zs.length:Int) == (l.length:Int))=true:=by rw [HLEN.out];simp
   have HB3:=hid (HB2.out.trans (HW3.out.mono HB2.out.size));have HS3:=hid (H.out.keep HB3.out);have HQ:=hid hq;have hx0:(0:Int)<(zs.length:Int):=by omega
   generalize zs.headD 0=z0 at *;go_wp2_with fail;refine (ia z0 w3).mono ?_;rintro e w4 ⟨rfl,rfl⟩;cases hp:cm z0
   ·have HV:=hid (show bP l=false by rw [HU.out,hp];rfl);clear hp;go_wp2_with fail;go_ret;exact ⟨by rw [HV.out];rfl,HB3.out⟩
   ·have HV:=hid (show bP l=cm (Lib.maxOf l) by rw [HU.out,hp];rfl);clear hp;go_wp2_with fail
    refine (Tryz.slices_Max_int b off l.length c l w3 hpos (Nat.le_refl _) (by omega) (fun j hj=>by
     have:=(HS3.out.cells hj).2 0 _ rfl;rw [Nat.mul_one,Nat.add_zero] at this;rw [List.getD_eq_getElem?_getD,List.getElem?_eq_getElem hj];exact this)).mono ?_
    rw [List.take_length];generalize Lib.maxOf l=mx at *;rintro e w4 ⟨rfl,rfl⟩;go_wp2_with fail;refine (ia mx _).mono ?_;rintro e w5 ⟨rfl,rfl⟩;go_wp2_with fail;go_ret;exact ⟨by rw [HV.out];rfl,HB3.out⟩
  ·have hcl:(Lib.compact zs).length≠zs.length:=fun e=>hnd (HND.out.1 (HPW.out.1 e))
   have HW3:=hid (HB2.out.grown (show w2.grownBy (grow (putRow (Value.int .i64) (Sort.ahead w2 q) g 0 (Lib.compact zs ++ List.replicate (zs.length - (Lib.compact zs).length) 0).toArray) #[]) (some g) from grownBy_sorted_i _) HB2.out.size (fun j hj=>by cases hj;exact (by omega)));rw [grow_empty] at HW3;have hq:(((Lib.compact zs).length:Int) == (l.length:Int))=false:=by have:=HLEN.out;simp;omega
   have HV:=hid (HUF.out hnd);clear hcl hnd;generalize putRow (Value.int .i64) (Sort.ahead w2 q) g 0 (Lib.compact zs ++ List.replicate (zs.length - (Lib.compact zs).length) 0).toArray=w3 at *;generalize (Lib.compact zs).length=m at *;go_wp2_with fail;go_ret;exact ⟨by rw [HV.out];rfl,HW3.out⟩
end Go.Proofs.YtknioodagnjchaaGreatDoor
namespace Go.Proofs.YtknioodagnjchaaGreatDoor
open Go.Lib (hid)
open Go.RowKit
structure Nd.Bd (n:Nd):Prop where
 k:n.keys.length≤2000
 c:n.cells.length≤2000
 d:n.kids.length≤2000
 kl:∀ k ∈ n.keys,k.length≤100000
 cl:∀ c ∈ n.cells,c.data.length≤100000
structure NdS (w:World) (n:Nd) (vk vc vd:Value):Prop where
 k:Sl sC 1 w vk n.keys
 c:Sl cC 3 w vc n.cells
 d:Sl iC 1 w vd n.kids
def NdV (w:World) (v:Value) (n:Nd):Prop:=∃ vk vc vd,v=.agg #[.bool n.leaf,vk,vc,vd]∧NdS w n vk vc vd
def ap (n:Nd) (vk vc vd:Value):Obj:=.cells #[.bool n.leaf,vk,vc,vd] 110 (0,0)
theorem NdS.keep {w w':World} {n:Nd} {vk vc vd:Value} (h:NdS w n vk vc vd) (hb:Below w.heap.size w w'):NdS w' n vk vc vd:=⟨h.k.keep hb,h.c.keep hb,h.d.keep hb⟩
theorem NdV.keep {w w':World} {n:Nd} {v:Value} (h:NdV w v n) (hb:Below w.heap.size w w'):NdV w' v n:=by obtain ⟨vk,vc,vd,rfl,h⟩:=h;exact ⟨vk,vc,vd,rfl,h.keep hb⟩
theorem aa {w:World} {g:Nat} {n:Nd} {vk vc vd:Value} (hh:w.heap[g]?=some (ap n vk vc vd)):w.cell? ⟨g,0,none⟩=some (.bool n.leaf)∧w.cell? ⟨g,1,none⟩=some vk∧w.cell? ⟨g,2,none⟩=some vc∧w.cell? ⟨g,3,none⟩=some vd∧g<w.heap.size:=
 ⟨ac hh 0,ac hh 1,ac hh 2,ac hh 3,aj hh⟩
theorem sI (l:List Ce):l.any g6=!l.all aE:=by
 induction l with
 | nil=>rfl
 | cons a l ih=>rw [List.any_cons,List.all_cons,ih,g6,Bool.not_and]
theorem iy (n:Nd) (v:Value) (w:World) (h:NdV w v n) (hb:n.Bd):Calls Tryz.prog 110 #[v] w fun e w'=>e=.returned (.bool (aB n))∧Below w.heap.size w w':=by
 obtain ⟨vk,vc,vd,rfl,hs⟩:=h;obtain ⟨A1,c1,rfl⟩:=Sl.len' hs.k;obtain ⟨A2,c2,rfl⟩:=Sl.len' hs.c;obtain ⟨A3,c3,rfl⟩:=Sl.len' hs.d;have HW0:=hid ((Below.refl _ w).alloc (Nat.le_refl _) (ap n (.slice A1 n.keys.length c1) (.slice A2 n.cells.length c2) (.slice A3 n.kids.length c3)));have HG0:=hid (ag (w0:=w) (g:=w.heap.size) (o:=ap n (.slice A1 n.keys.length c1) (.slice A2 n.cells.length c2) (.slice A3 n.kids.length c3)) rfl);have HS0:=hid (hs.keep HW0.out);obtain ⟨nl,nk,nc,nd⟩:=n;have HB:=hid hb;have hk2:=hb.k;have hc2:=hb.c;have hd2:=hb.d;simp only at hk2 hc2 hd2 HS0 HG0 HW0;clear hs hb;go_enter Tryz.func110,Tryz.ntmps110;go_upto_region 1 with fail
 generalize hw1:w.alloc (.cells #[.bool nl,.slice A1 nk.length c1,.slice A2 nc.length c2,.slice A3 nd.length c3] 110)=w1 at *;have hw2:w.alloc (ap ⟨nl,nk,nc,nd⟩ (.slice A1 nk.length c1) (.slice A2 nc.length c2) (.slice A3 nd.length c3))=w1:=hw1;rw [hw2] at HW0 HG0 HS0;clear hw1 hw2;obtain ⟨a0,a1,a2,a3,a4⟩:=aa HG0.out;simp only at a0 a1 a2 a3;go_wp2_with fail;refine (pB nk _ w1 HS0.out.k (by omega) (fun k hk=>by have:=HB.out.kl k hk;omega)).mono ?_;rintro e w2 ⟨rfl,hb⟩;have HW2:=hid (HW0.out.trans (hb.mono HW0.out.size));have HG2:=hid (ae HG0.out hb);have HS2:=hid (HS0.out.keep hb);clear hb a0 a1 a2 a3 a4;obtain ⟨a0,a1,a2,a3,a4⟩:=aa HG2.out;simp only at a0 a1 a2 a3;cases hr:aO nk
 ·have HV:=hid (show aB ⟨nl,nk,nc,nd⟩=false by unfold aB;rw [hr];rfl);clear hr;go_wp2_with fail;go_ret;exact ⟨by rw [HV.out];rfl,HW2.out⟩
 ·cases nl
  ·
   have HV:=hid (show aB ⟨false,nk,nc,nd⟩=(decide (nk≠[]) && decide (nd.length=nk.length+1) && decide (nc=[]) && bP nd) by unfold aB;rw [hr];rfl);clear hr;by_cases h1:nk=[]
   ·have HV2:=hid (show aB ⟨false,nk,nc,nd⟩=false by rw [HV.out];simp [h1]);have hl:¬ ((0:Int)<(nk.length:Int)):=by rw [h1];simp
    have hl2:nk.length=0:=by rw [h1];rfl
    clear h1;go_wp2_with fail;go_ret;exact ⟨by rw [HV2.out];rfl,HW2.out⟩
   ·have hl:0<nk.length:=List.length_pos_iff.2 h1;have hl2:(0:Int)<(nk.length:Int):=by omega
    by_cases h2:nd.length=nk.length+1
    ·have hq:((nd.length:Int) == (nk.length:Int)+1)=true:=by rw [h2];simp
     have hdne:nd≠[]:=by rintro rfl;simp at h2
     by_cases h3:nc=[]
     ·have HV2:=hid (show aB ⟨false,nk,nc,nd⟩=bP nd by rw [HV.out];simp [h1,h2,h3]);have hz:((nc.length:Int) == 0)=true:=by rw [h3];rfl
      clear h1 h2 h3;go_wp2_with fail;refine (nS _ nd w2 HS2.out.d hdne (by omega)).mono ?_;rintro e w3 ⟨rfl,hb⟩;have HW3:=hid (HW2.out.trans (hb.mono HW2.out.size));clear hb;go_wp2_with fail;go_ret;exact ⟨by rw [HV2.out];rfl,HW3.out⟩
     ·have HV2:=hid (show aB ⟨false,nk,nc,nd⟩=false by rw [HV.out];simp [h3]);have hz:((nc.length:Int) == 0)=false:=by have:=List.length_pos_iff.2 h3;simp;omega
      clear h1 h2 h3;go_wp2_with fail;go_ret;exact ⟨by rw [HV2.out];rfl,HW2.out⟩
    ·have HV2:=hid (show aB ⟨false,nk,nc,nd⟩=false by rw [HV.out];simp [h2]);have hq:((nd.length:Int) == (nk.length:Int)+1)=false:=by simp;omega
     clear h1 h2;go_wp2_with fail;go_ret;exact ⟨by rw [HV2.out];rfl,HW2.out⟩
  ·
   have HV:=hid (show aB ⟨true,nk,nc,nd⟩=(decide (nc.length=nk.length) && decide (nd=[]) && nc.all aE) by unfold aB;rw [hr];rfl);clear hr;by_cases h1:nc.length=nk.length
   ·have hq:((nc.length:Int) == (nk.length:Int))=true:=by rw [h1];simp
    by_cases h2:nd=[]
    ·have HV2:=hid (show aB ⟨true,nk,nc,nd⟩=!nc.any g6 by rw [HV.out,sI];simp [h1,h2]);have hz:((nd.length:Int) == 0)=true:=by rw [h2];rfl
     clear h1 h2;go_wp2_with fail;refine (kQ _ nc w2 HS2.out.c (by omega) (fun c hc=>by have:=HB.out.cl c hc;omega)).mono ?_;rintro e w3 ⟨rfl,hb⟩;have HW3:=hid (HW2.out.trans (hb.mono HW2.out.size));clear hb;generalize nc.any g6=o at *;go_wp2_with fail;go_ret;exact ⟨by rw [HV2.out];rfl,HW3.out⟩
    ·have HV2:=hid (show aB ⟨true,nk,nc,nd⟩=false by rw [HV.out];simp [h2]);have hz:((nd.length:Int) == 0)=false:=by have:=List.length_pos_iff.2 h2;simp;omega
     clear h1 h2;go_wp2_with fail;go_ret;exact ⟨by rw [HV2.out];rfl,HW2.out⟩
   ·have HV2:=hid (show aB ⟨true,nk,nc,nd⟩=false by rw [HV.out];simp [h1]);have hq:((nc.length:Int) == (nk.length:Int))=false:=by simp;omega
    clear h1;go_wp2_with fail;go_ret;exact ⟨by rw [HV2.out];rfl,HW2.out⟩
theorem iB (n:Nd) (k:By) (v:Value) (w:World) (h:NdV w v n) (hb:n.Bd) (hg:aB n=true):Calls Tryz.prog 60 #[v,.string (al k)] w fun e w'=>e=.returned (.tuple #[.int .i64 (bB n.keys k),.bool (fO n.keys k)])∧Below w.heap.size w w':=by
 have HR:=hid (show n.keys.Pairwise fun a b=>bK a b=true from by
  have:aO n.keys=true:=by unfold aB at hg;rw [Bool.and_eq_true] at hg;exact hg.1
  exact (rises_pw.1 this).2)
 have HV:=hid h;obtain ⟨vk,vc,vd,rfl,hs⟩:=h;have HW0:=hid ((Below.refl _ w).alloc (Nat.le_refl _) (ap n vk vc vd));have HG0:=hid (ag (w0:=w) (g:=w.heap.size) (o:=ap n vk vc vd) rfl);have HS0:=hid (hs.keep HW0.out);have HB:=hid hb;have HGD:=hid hg;clear hs hb hg;go_enter Tryz.func60,Tryz.ntmps60;go_upto_region 1 with fail
 generalize hw1:w.alloc (.cells #[.bool n.leaf,vk,vc,vd] 110)=w1 at *;have hw2:w.alloc (ap n vk vc vd)=w1:=hw1;rw [hw2] at HW0 HG0 HS0;clear hw1 hw2;obtain ⟨a0,a1,a2,a3,a4⟩:=aa HG0.out;go_wp2_with fail;refine (iy n _ w1 ⟨vk,vc,vd,rfl,HS0.out⟩ HB.out).mono ?_;rw [HGD.out];rintro e w2 ⟨rfl,hb⟩;have HW2:=hid (HW0.out.trans (hb.mono HW0.out.size));have HG2:=hid (ae HG0.out hb);have HS2:=hid (HS0.out.keep hb);clear hb a0 a1 a2 a3 a4;obtain ⟨a0,a1,a2,a3,a4⟩:=aa HG2.out;go_wp2_with fail;refine (nF n.keys k vk w2 HS2.out.k (by have:=HB.out.k;omega) HR.out).mono ?_;rintro e w3 ⟨rfl,hb⟩;have HW3:=hid (HW2.out.trans (hb.mono HW2.out.size));clear hb;go_wp2_with fail;go_ret2;exact ⟨rfl,HW3.out⟩
end Go.Proofs.YtknioodagnjchaaGreatDoor
