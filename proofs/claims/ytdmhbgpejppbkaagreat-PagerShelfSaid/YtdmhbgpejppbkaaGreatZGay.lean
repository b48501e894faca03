/- pager: begin, done, told, Head, start, Begin. head.Decode of what Encode gave. -/
import Derived.Test.YtdmhbgpejppbkaaGreatZGax
import Derived.Test.YtdmhbgpejppbkaaGreatZGar
set_option maxRecDepth 100000
set_option maxHeartbeats 4000000
namespace Go.Proofs.YtdmhbgpejppbkaaGreat
open Go.Lib (hid)
open Go.RowKit Go.Maps
structure Pgr.Up (P:Pgr):Prop where
 over:P.over=false
 lost:P.lost=false
 down:P.d.down=false
 life:P.d.life=P.life
def fG (i:Option Bool) (busy:Bool):Int:=match i with
 | none=>0
 | some b=>if b=busy then 0 else 40
theorem en (w:World) {L:PgL} {P:Pgr} (h:PgIs w L P) (hu:P.Up):
  Calls Tryz.prog 53 #[au L.gp,.slice none 0 0] w fun e w'=>e=.returned (.int .i64 0)∧Below w.heap.size w w':=by
 cases hb:P.busy
 ·skip;have hC:=ai h.blk;have hl:=hC.lt;have c0:=hC.c0;have c10:=hC.c10;have c11:=hC.c11;have c12:=hC.c12;have c13:=hC.c13;rw [hu.over] at c11;rw [hu.lost] at c12;rw [hb] at c13;have HD:=hid (fun (y:Up w)=>bL y.w (h.dk.ch (Ch.of_below (S:=fun _=>False) y.h) (fun _ _ h=>h)));have HL:=hid (fun (y:Up w)=>cr y.w (h.dk.ch (Ch.of_below (S:=fun _=>False) y.h) (fun _ _ h=>h)));rw [hu.down] at HD;rw [hu.life] at HL;unfold au at *;have HH:=hid h;have HU:=hid hu.lost;clear h hC hu;go_enter Tryz.func53,Tryz.ntmps53;go_upto_region 3 with fail
  refine ar (by kernel_rfl) (by kernel_rfl) ?_;have f0:=aE c0 hl;have f10:=aE c10 hl;have f11:=aE c11 hl
  repeat (go_big_quiet_step (first
   | (go_at_call 63;(with_reducible exact bd (HD.out _)))
   | (go_at_call 44;(with_reducible exact bd (HL.out _)))))
  refine wpQuiet_nil ?_;rintro w1 ⟨⟨_,hb1⟩,rfl⟩;have HB1:=hid hb1;have hC:=ai (HH.out.below hb1).blk;have k12:=hC.c12;have k13:=hC.c13;rw [HU.out] at k12;rw [hb] at k13;have kl:=hC.lt;skip;clear hC hb1 c0 c10 c11 c12 c13 f0 f10 f11 HD HL;go_upto_region 14 with fail
  refine ar (by kernel_rfl) (by kernel_rfl) ?_;have f13:=aE k13 kl;skip
  repeat (go_big_quiet_step (fail))
  refine wpQuiet_nil ?_;rintro w2 ⟨⟨_,hb2⟩,rfl⟩;have HB2:=hid (HB1.out.trans (hb2.mono HB1.out.size));clear hb2 f13;go_wp2_with fail;go_ret;exact ⟨rfl,HB2.out⟩
 ·skip;have hC:=ai h.blk;have hl:=hC.lt;have c0:=hC.c0;have c10:=hC.c10;have c11:=hC.c11;have c12:=hC.c12;have c13:=hC.c13;rw [hu.over] at c11;rw [hu.lost] at c12;rw [hb] at c13;have HD:=hid (fun (y:Up w)=>bL y.w (h.dk.ch (Ch.of_below (S:=fun _=>False) y.h) (fun _ _ h=>h)));have HL:=hid (fun (y:Up w)=>cr y.w (h.dk.ch (Ch.of_below (S:=fun _=>False) y.h) (fun _ _ h=>h)));rw [hu.down] at HD;rw [hu.life] at HL;unfold au at *;have HH:=hid h;have HU:=hid hu.lost;clear h hC hu;go_enter Tryz.func53,Tryz.ntmps53;go_upto_region 3 with fail
  refine ar (by kernel_rfl) (by kernel_rfl) ?_;have f0:=aE c0 hl;have f10:=aE c10 hl;have f11:=aE c11 hl
  repeat (go_big_quiet_step (first
   | (go_at_call 63;(with_reducible exact bd (HD.out _)))
   | (go_at_call 44;(with_reducible exact bd (HL.out _)))))
  refine wpQuiet_nil ?_;rintro w1 ⟨⟨_,hb1⟩,rfl⟩;have HB1:=hid hb1;have hC:=ai (HH.out.below hb1).blk;have k12:=hC.c12;have k13:=hC.c13;rw [HU.out] at k12;rw [hb] at k13;have kl:=hC.lt;skip;clear hC hb1 c0 c10 c11 c12 c13 f0 f10 f11 HD HL;go_upto_region 14 with fail
  refine ar (by kernel_rfl) (by kernel_rfl) ?_;have f13:=aE k13 kl;skip
  repeat (go_big_quiet_step (fail))
  refine wpQuiet_nil ?_;rintro w2 ⟨⟨_,hb2⟩,rfl⟩;have HB2:=hid (HB1.out.trans (hb2.mono HB1.out.size));clear hb2 f13;go_wp2_with fail;go_ret;exact ⟨rfl,HB2.out⟩
theorem aN (b:Bool) (g:Nat) (w:World) {L:PgL} {P:Pgr} (h:PgIs w L P) (hu:P.Up) (ca:w.cell? ⟨g,0,none⟩=some (.bool b)) (cg:g<w.heap.size):
  Calls Tryz.prog 53 #[au L.gp,.slice (some ⟨g,0,none⟩) 1 1] w fun e w'=>e=.returned (.int .i64 (fG (some b) P.busy))∧Below w.heap.size w w':=by
 cases hb:P.busy <;> cases b
 ·skip;have hC:=ai h.blk;have hl:=hC.lt;have c0:=hC.c0;have c10:=hC.c10;have c11:=hC.c11;have c12:=hC.c12;have c13:=hC.c13;rw [hu.over] at c11;rw [hu.lost] at c12;rw [hb] at c13;have HD:=hid (fun (y:Up w)=>bL y.w (h.dk.ch (Ch.of_below (S:=fun _=>False) y.h) (fun _ _ h=>h)));have HL:=hid (fun (y:Up w)=>cr y.w (h.dk.ch (Ch.of_below (S:=fun _=>False) y.h) (fun _ _ h=>h)));rw [hu.down] at HD;rw [hu.life] at HL;unfold au at *;have HH:=hid h;have HU:=hid hu.lost;clear h hC hu;go_enter Tryz.func53,Tryz.ntmps53;go_upto_region 3 with fail
  refine ar (by kernel_rfl) (by kernel_rfl) ?_;have f0:=aE c0 hl;have f10:=aE c10 hl;have f11:=aE c11 hl
  repeat (go_big_quiet_step (first
   | (go_at_call 63;(with_reducible exact bd (HD.out _)))
   | (go_at_call 44;(with_reducible exact bd (HL.out _)))))
  refine wpQuiet_nil ?_;rintro w1 ⟨⟨_,hb1⟩,rfl⟩;have HB1:=hid hb1;have hC:=ai (HH.out.below hb1).blk;have k12:=hC.c12;have k13:=hC.c13;rw [HU.out] at k12;rw [hb] at k13;have kl:=hC.lt;have ka:=(hb1.cell (p:=⟨g,0,none⟩) cg).trans ca;have kg:=Nat.lt_of_lt_of_le cg hb1.size;clear hC hb1 c0 c10 c11 c12 c13 f0 f10 f11 HD HL;go_upto_region 14 with fail
  refine ar (by kernel_rfl) (by kernel_rfl) ?_;have f13:=aE k13 kl;have fa:=aE ka kg
  repeat (go_big_quiet_step (fail))
  refine wpQuiet_nil ?_;rintro w2 ⟨⟨_,hb2⟩,rfl⟩;have HB2:=hid (HB1.out.trans (hb2.mono HB1.out.size));clear hb2 f13;go_wp2_with fail;go_ret;exact ⟨rfl,HB2.out⟩
 ·skip;have hC:=ai h.blk;have hl:=hC.lt;have c0:=hC.c0;have c10:=hC.c10;have c11:=hC.c11;have c12:=hC.c12;have c13:=hC.c13;rw [hu.over] at c11;rw [hu.lost] at c12;rw [hb] at c13;have HD:=hid (fun (y:Up w)=>bL y.w (h.dk.ch (Ch.of_below (S:=fun _=>False) y.h) (fun _ _ h=>h)));have HL:=hid (fun (y:Up w)=>cr y.w (h.dk.ch (Ch.of_below (S:=fun _=>False) y.h) (fun _ _ h=>h)));rw [hu.down] at HD;rw [hu.life] at HL;unfold au at *;have HH:=hid h;have HU:=hid hu.lost;clear h hC hu;go_enter Tryz.func53,Tryz.ntmps53;go_upto_region 3 with fail
  refine ar (by kernel_rfl) (by kernel_rfl) ?_;have f0:=aE c0 hl;have f10:=aE c10 hl;have f11:=aE c11 hl
  repeat (go_big_quiet_step (first
   | (go_at_call 63;(with_reducible exact bd (HD.out _)))
   | (go_at_call 44;(with_reducible exact bd (HL.out _)))))
  refine wpQuiet_nil ?_;rintro w1 ⟨⟨_,hb1⟩,rfl⟩;have HB1:=hid hb1;have hC:=ai (HH.out.below hb1).blk;have k12:=hC.c12;have k13:=hC.c13;rw [HU.out] at k12;rw [hb] at k13;have kl:=hC.lt;have ka:=(hb1.cell (p:=⟨g,0,none⟩) cg).trans ca;have kg:=Nat.lt_of_lt_of_le cg hb1.size;clear hC hb1 c0 c10 c11 c12 c13 f0 f10 f11 HD HL;go_upto_region 14 with fail
  refine ar (by kernel_rfl) (by kernel_rfl) ?_;have f13:=aE k13 kl;have fa:=aE ka kg
  repeat (go_big_quiet_step (fail))
  refine wpQuiet_nil ?_;rintro w2 ⟨⟨_,hb2⟩,rfl⟩;have HB2:=hid (HB1.out.trans (hb2.mono HB1.out.size));clear hb2 f13;go_wp2_with fail;go_ret;exact ⟨rfl,HB2.out⟩
 ·skip;have hC:=ai h.blk;have hl:=hC.lt;have c0:=hC.c0;have c10:=hC.c10;have c11:=hC.c11;have c12:=hC.c12;have c13:=hC.c13;rw [hu.over] at c11;rw [hu.lost] at c12;rw [hb] at c13;have HD:=hid (fun (y:Up w)=>bL y.w (h.dk.ch (Ch.of_below (S:=fun _=>False) y.h) (fun _ _ h=>h)));have HL:=hid (fun (y:Up w)=>cr y.w (h.dk.ch (Ch.of_below (S:=fun _=>False) y.h) (fun _ _ h=>h)));rw [hu.down] at HD;rw [hu.life] at HL;unfold au at *;have HH:=hid h;have HU:=hid hu.lost;clear h hC hu;go_enter Tryz.func53,Tryz.ntmps53;go_upto_region 3 with fail
  refine ar (by kernel_rfl) (by kernel_rfl) ?_;have f0:=aE c0 hl;have f10:=aE c10 hl;have f11:=aE c11 hl
  repeat (go_big_quiet_step (first
   | (go_at_call 63;(with_reducible exact bd (HD.out _)))
   | (go_at_call 44;(with_reducible exact bd (HL.out _)))))
  refine wpQuiet_nil ?_;rintro w1 ⟨⟨_,hb1⟩,rfl⟩;have HB1:=hid hb1;have hC:=ai (HH.out.below hb1).blk;have k12:=hC.c12;have k13:=hC.c13;rw [HU.out] at k12;rw [hb] at k13;have kl:=hC.lt;have ka:=(hb1.cell (p:=⟨g,0,none⟩) cg).trans ca;have kg:=Nat.lt_of_lt_of_le cg hb1.size;clear hC hb1 c0 c10 c11 c12 c13 f0 f10 f11 HD HL;go_upto_region 14 with fail
  refine ar (by kernel_rfl) (by kernel_rfl) ?_;have f13:=aE k13 kl;have fa:=aE ka kg
  repeat (go_big_quiet_step (fail))
  refine wpQuiet_nil ?_;rintro w2 ⟨⟨_,hb2⟩,rfl⟩;have HB2:=hid (HB1.out.trans (hb2.mono HB1.out.size));clear hb2 f13;go_wp2_with fail;go_ret;exact ⟨rfl,HB2.out⟩
 ·skip;have hC:=ai h.blk;have hl:=hC.lt;have c0:=hC.c0;have c10:=hC.c10;have c11:=hC.c11;have c12:=hC.c12;have c13:=hC.c13;rw [hu.over] at c11;rw [hu.lost] at c12;rw [hb] at c13;have HD:=hid (fun (y:Up w)=>bL y.w (h.dk.ch (Ch.of_below (S:=fun _=>False) y.h) (fun _ _ h=>h)));have HL:=hid (fun (y:Up w)=>cr y.w (h.dk.ch (Ch.of_below (S:=fun _=>False) y.h) (fun _ _ h=>h)));rw [hu.down] at HD;rw [hu.life] at HL;unfold au at *;have HH:=hid h;have HU:=hid hu.lost;clear h hC hu;go_enter Tryz.func53,Tryz.ntmps53;go_upto_region 3 with fail
  refine ar (by kernel_rfl) (by kernel_rfl) ?_;have f0:=aE c0 hl;have f10:=aE c10 hl;have f11:=aE c11 hl
  repeat (go_big_quiet_step (first
   | (go_at_call 63;(with_reducible exact bd (HD.out _)))
   | (go_at_call 44;(with_reducible exact bd (HL.out _)))))
  refine wpQuiet_nil ?_;rintro w1 ⟨⟨_,hb1⟩,rfl⟩;have HB1:=hid hb1;have hC:=ai (HH.out.below hb1).blk;have k12:=hC.c12;have k13:=hC.c13;rw [HU.out] at k12;rw [hb] at k13;have kl:=hC.lt;have ka:=(hb1.cell (p:=⟨g,0,none⟩) cg).trans ca;have kg:=Nat.lt_of_lt_of_le cg hb1.size;clear hC hb1 c0 c10 c11 c12 c13 f0 f10 f11 HD HL;go_upto_region 14 with fail
  refine ar (by kernel_rfl) (by kernel_rfl) ?_;have f13:=aE k13 kl;have fa:=aE ka kg
  repeat (go_big_quiet_step (fail))
  refine wpQuiet_nil ?_;rintro w2 ⟨⟨_,hb2⟩,rfl⟩;have HB2:=hid (HB1.out.trans (hb2.mono HB1.out.size));clear hb2 f13;go_wp2_with fail;go_ret;exact ⟨rfl,HB2.out⟩
end Go.Proofs.YtdmhbgpejppbkaaGreat
namespace Go.Proofs.YtdmhbgpejppbkaaGreat
open Go.Lib (hid)
open Go.RowKit
def jT (l:List UInt8):Obj:=.cells #[.string (ak l)] 9 (0,0)
theorem db (k:Nat) (a b:List UInt8) (g:Nat) (w:World) (hg:w.heap[g]?=some (jT (a ++ b))) (ha:a.length=k) (h1:1≤k) (h8:k≤8) (hb:b.length≤1000):
  Calls Tryz.prog 155 #[.int .i64 k,.pointer (some ⟨g,0,none⟩)] w fun e w'=>e=.returned (.int .u64 (dp a))∧w'.heap[g]?=some (jT b)∧Ch (fun j=>j=g) w w':=by
 have c0:=aa hg 0;have hlt:=af hg;simp only [List.getElem?_toArray,List.getElem?_cons_zero] at c0;have hsz:(ak (a ++ b)).size=k+b.length:=by rw [ay,List.length_append,ha]
 have x1:(ak (a ++ b)).extract 0 k=ak a:=by rw [cJ,aP];exact congrArg ak (by rw [← ha];simp)
 have x2:(ak (a ++ b)).extract k (ak (a ++ b)).size=ak b:=by rw [hsz,cJ,aP];exact congrArg ak (by rw [← ha];simp)
 have HU:=hid (fun w'=>show Calls Tryz.prog 156 #[.string (ak a)] w' fun e w''=>e=.returned (.tuple #[.int .u64 (dp a),.int .i64 0])∧Below w'.heap.size w' w'' by
  have:=dX (ak a) w' (by rw [ay];omega) (by rw [ay];omega);rw [aP] at this;exact this)
 have HG0:=hid (show w.heap[g]?=some (.cells #[.string (ak (a ++ b))] 9 (0,0)) from hg);have hk1:(k:Int)≤((ak (a ++ b)).size:Int):=by omega
 have hk0:(0:Int)≤(k:Int):=by omega
 generalize ak (a ++ b)=s at *;clear hg ha h1 h8 hb hsz;go_enter Tryz.func155,Tryz.ntmps155;go_wp2_with fail;refine (HU.out w).mono ?_;rintro e w1 ⟨rfl,hb1⟩;have hg1:w1.heap[g]?=some (.cells #[.string s] 9 (0,0)):=aw HG0.out hb1;have c0:=aa hg1 0;have hlt:=af hg1;have z0:=ab hg1 0;simp only [List.getElem?_toArray,List.getElem?_cons_zero] at c0
 have HF:=hid (show (w1.setCell ⟨g,0,none⟩ (.string (ak b))).heap[g]?=some (jT b)∧Ch (fun j=>j=g) w (w1.setCell ⟨g,0,none⟩ (.string (ak b))) from
  ⟨ae hg1 0 (.string (ak b)),(Ch.of_below (S:=fun j=>j=g) hb1).setCell (p:=⟨g,0,none⟩) rfl _⟩)
 have HX:=hid hb1;clear hg1 hb1;go_wp2_with fail;go_ret;exact ⟨rfl,HF.out⟩
theorem rV (g:Nat) (w:World):(Instr.index 188 (.agg #[.pointer (some ⟨g,0,none⟩),.pointer (some ⟨g,1,none⟩),.pointer (some ⟨g,2,none⟩),.pointer (some ⟨g,3,none⟩),.pointer (some ⟨g,4,none⟩)]) (.int .i64 0)).run Tryz.prog w=.ok (.pointer (some ⟨g,0,none⟩)) w:=by kernel_rfl
theorem rU (g:Nat) (w:World):(Instr.index 188 (.agg #[.pointer (some ⟨g,0,none⟩),.pointer (some ⟨g,1,none⟩),.pointer (some ⟨g,2,none⟩),.pointer (some ⟨g,3,none⟩),.pointer (some ⟨g,4,none⟩)]) (.int .i64 1)).run Tryz.prog w=.ok (.pointer (some ⟨g,1,none⟩)) w:=by kernel_rfl
theorem rT (g:Nat) (w:World):(Instr.index 188 (.agg #[.pointer (some ⟨g,0,none⟩),.pointer (some ⟨g,1,none⟩),.pointer (some ⟨g,2,none⟩),.pointer (some ⟨g,3,none⟩),.pointer (some ⟨g,4,none⟩)]) (.int .i64 2)).run Tryz.prog w=.ok (.pointer (some ⟨g,2,none⟩)) w:=by kernel_rfl
theorem rS (g:Nat) (w:World):(Instr.index 188 (.agg #[.pointer (some ⟨g,0,none⟩),.pointer (some ⟨g,1,none⟩),.pointer (some ⟨g,2,none⟩),.pointer (some ⟨g,3,none⟩),.pointer (some ⟨g,4,none⟩)]) (.int .i64 3)).run Tryz.prog w=.ok (.pointer (some ⟨g,3,none⟩)) w:=by kernel_rfl
theorem rR (g:Nat) (w:World):(Instr.index 188 (.agg #[.pointer (some ⟨g,0,none⟩),.pointer (some ⟨g,1,none⟩),.pointer (some ⟨g,2,none⟩),.pointer (some ⟨g,3,none⟩),.pointer (some ⟨g,4,none⟩)]) (.int .i64 4)).run Tryz.prog w=.ok (.pointer (some ⟨g,4,none⟩)) w:=by kernel_rfl
theorem pn {n:Nat} (h:n≤4096):dp (az 4 n)=n:=by
 have h1:(256:Nat) ^ 4=4294967296:=by decide
 exact dz 4 _ (by omega)
theorem uO {n:Nat} (h:n<18446744073709551616):dp (az 8 n)=n:=by
 have h1:(256:Nat) ^ 8=18446744073709551616:=by decide
 exact dz 8 _ (by omega)
def gg:Obj:=.cells #[.int .i64 0,.int .i64 0,.int .i64 0,.int .i64 0,.int .i64 0,.int .u64 0] 38 (0,0)
theorem tg:gg=cX ⟨0,0,0,0,0,0⟩:=rfl
theorem gU {n:Nat} (h:n≤1000000):IntKind.i64.wrap (n:Int)=(n:Int):=IntWalk.i64_in _ (by omega)
theorem qm (h:He) (w:World) (hg:h.Good):Calls Tryz.prog 104 #[.string (ak (bI h))] w fun e w'=>e=.returned (.tuple #[eH h,.int .i64 0])∧Below w.heap.size w w':=by
 have HEN:=hid (fun w=>ll h w hg);have hsz:(ak (bI h)).size=232:=by rw [ay,iH]
 obtain ⟨T6,hT6⟩:∃ T,T=List.replicate 196 (0:UInt8):=⟨_,rfl⟩;obtain ⟨T5,hT5⟩:∃ T,T=az 8 h.change ++ T6:=⟨_,rfl⟩;obtain ⟨T4,hT4⟩:∃ T,T=az 4 h.root ++ T5:=⟨_,rfl⟩;obtain ⟨T3,hT3⟩:∃ T,T=az 4 h.spare ++ T4:=⟨_,rfl⟩;obtain ⟨T2,hT2⟩:∃ T,T=az 4 h.trunk ++ T3:=⟨_,rfl⟩;obtain ⟨T1,hT1⟩:∃ T,T=az 4 h.pages ++ T2:=⟨_,rfl⟩;obtain ⟨T0,hT0⟩:∃ T,T=az 4 h.mode ++ T1:=⟨_,rfl⟩;have l6:T6.length=196:=by rw [hT6,List.length_replicate]
 have l5:T5.length=204:=by rw [hT5,List.length_append,aq,l6]
 have l4:T4.length=208:=by rw [hT4,List.length_append,aq,l5]
 have l3:T3.length=212:=by rw [hT3,List.length_append,aq,l4]
 have l2:T2.length=216:=by rw [hT2,List.length_append,aq,l3]
 have l1:T1.length=220:=by rw [hT1,List.length_append,aq,l2]
 have l0:T0.length=224:=by rw [hT0,List.length_append,aq,l1]
 have hx8:(ak (bI h)).extract 8 232=ak T0:=by
  rw [cJ,aP];refine congrArg ak ?_;have:bI h=pV ++ T0:=by rw [hT0,hT1,hT2,hT3,hT4,hT5,hT6];unfold bI;simp only [List.append_assoc]
  rw [this,List.drop_append_of_le_length (by decide),List.drop_eq_nil_of_le (by decide),List.nil_append,List.take_of_length_le (by omega)]
 have HT0:=hid (And.intro hT0 l1);have HT1:=hid (And.intro hT1 l2);have HT2:=hid (And.intro hT2 l3);have HT3:=hid (And.intro hT3 l4);have HT4:=hid (And.intro hT4 l5);have HT5:=hid (And.intro hT5 l6);clear hT0 hT1 hT2 hT3 hT4 hT5 hT6 l0 l1 l2 l3 l4 l5 l6;obtain ⟨g1,g2,g3,g4,g5,g6,g7⟩:=hg;obtain ⟨m,p,t,s,r,c⟩:=h;simp only at *;generalize bI ⟨m,p,t,s,r,c⟩=L at *;generalize ak L=z at *;unfold eH ko at HEN ⊢;simp only at HEN ⊢;go_enter Tryz.func104,Tryz.ntmps104;go_wp2_with fail;have hA:=(((Below.refl w.heap.size w).alloc (Nat.le_refl _) gg).alloc (by simp) (jT T0)).alloc (by simp;omega) gg;have HR0:=hid (aj (aj (ah (w0:=w) (o:=gg) rfl) (jT T0)) gg);have HE0:=hid (aj (ah (w0:=w.alloc gg) (g:=w.heap.size+1) (o:=jT T0) (by simp)) gg);have HH0:=hid (ah (w0:=(w.alloc gg).alloc (jT T0)) (g:=w.heap.size+1+1) (o:=gg) (by simp));have HB0:=hid hA;clear hA;have hw0:∃ w0,((w.alloc gg).alloc (jT T0)).alloc gg=w0:=⟨_,rfl⟩;obtain ⟨w0,hw0⟩:=hw0;rw [hw0] at HR0 HE0 HH0 HB0;unfold gg jT at hw0;rw [hw0];obtain ⟨gr,hgr⟩:∃ g,g=w.heap.size:=⟨_,rfl⟩;obtain ⟨ge,hge⟩:∃ g,g=w.heap.size+1:=⟨_,rfl⟩;obtain ⟨gh,hgh⟩:∃ g,g=w.heap.size+1+1:=⟨_,rfl⟩;have n1:gr≠ge:=by omega
 have n2:gh≠ge:=by omega
 have n3:gr≠gh:=by omega
 have n4:gr≤ge:=by omega
 have n5:gr≤gh:=by omega
 rw [← hgh,← hge,← hgr];rw [← hgh] at HH0;rw [← hge] at HE0;rw [← hgr] at HR0 HB0;rw [tg] at HH0;have HGR:=hid hgr;clear hgh hge hw0 hgr;have i0:=rV gh;have i1:=rU gh;have i2:=rT gh;have i3:=rS gh;have i4:=rR gh;have u1:=gU (n:=m) (by omega);have u2:=gU (n:=p) (by omega);have u3:=gU (n:=t) (by omega);have u4:=gU (n:=s) (by omega);have u5:=gU (n:=r) (by omega);refine wp_loop_rounds 6 ?_;rw [rounds_succ];go_wp2_with fail;refine (db 4 (az 4 m) T1 ge w0 (by rw [← HT0.out.1];exact HE0.out) (aq _ _) (by decide) (by decide) (by have:=HT0.out.2;omega)).mono ?_;rw [pn (by omega)];rintro e w1 ⟨rfl,he,hc⟩;have hr:=hc.keep HR0.out n1;have hh:=hc.keep HH0.out n2;have hb:=HB0.out.trans (hc.below (B:=gr) (by have:=HB0.out.size;have:=HGR.out;omega) (fun k e=>e ▸ n4));have hgl:=af hh;have hgz:=ab hh 0;obtain ⟨x0,x1,x2,x3,x4,x5,-⟩:=ct hh;simp only at x0 x1 x2 x3 x4 x5;have hc2:Ch (fun j=>j=gh) w1 (w1.setCell ⟨gh,0,none⟩ (.int .i64 m)):=(Ch.refl (fun j=>j=gh) w1).setCell (p:=⟨gh,0,none⟩) rfl _;have HH1:=hid (show (w1.setCell ⟨gh,0,none⟩ (.int .i64 m)).heap[gh]?=some (cX ⟨m,0,0,0,0,0⟩) from ae hh 0 (.int .i64 m));have HE1:=hid (hc2.keep he (Ne.symm n2));have HR1:=hid (hc2.keep hr n3);have HB1:=hid (hb.trans (hc2.below (B:=gr) (by have:=hb.size;have:=HGR.out;omega) (fun k e=>e ▸ n5)));clear he hc hr hh hc2 hb;go_wp2_with fail;generalize w1.setCell ⟨gh,0,none⟩ (.int .i64 m)=w1 at *;clear hgl hgz x0 x1 x2 x3 x4 x5;rw [rounds_succ];go_wp2_with fail;refine (db 4 (az 4 p) T2 ge w1 (by rw [← HT1.out.1];exact HE1.out) (aq _ _) (by decide) (by decide) (by have:=HT1.out.2;omega)).mono ?_;rw [pn (by omega)];rintro e w2 ⟨rfl,he,hc⟩;have hr:=hc.keep HR1.out n1;have hh:=hc.keep HH1.out n2;have hb:=HB1.out.trans (hc.below (B:=gr) (by have:=HB1.out.size;have:=HGR.out;omega) (fun k e=>e ▸ n4));have hgl:=af hh;have hgz:=ab hh 1;obtain ⟨x0,x1,x2,x3,x4,x5,-⟩:=ct hh;simp only at x0 x1 x2 x3 x4 x5;have hc2:Ch (fun j=>j=gh) w2 (w2.setCell ⟨gh,1,none⟩ (.int .i64 p)):=(Ch.refl (fun j=>j=gh) w2).setCell (p:=⟨gh,1,none⟩) rfl _;have HH2:=hid (show (w2.setCell ⟨gh,1,none⟩ (.int .i64 p)).heap[gh]?=some (cX ⟨m,p,0,0,0,0⟩) from ae hh 1 (.int .i64 p));have HE2:=hid (hc2.keep he (Ne.symm n2));have HR2:=hid (hc2.keep hr n3);have HB2:=hid (hb.trans (hc2.below (B:=gr) (by have:=hb.size;have:=HGR.out;omega) (fun k e=>e ▸ n5)));clear he hc hr hh hc2 hb;go_wp2_with fail;generalize w2.setCell ⟨gh,1,none⟩ (.int .i64 p)=w2 at *;clear hgl hgz x0 x1 x2 x3 x4 x5;rw [rounds_succ];go_wp2_with fail;refine (db 4 (az 4 t) T3 ge w2 (by rw [← HT2.out.1];exact HE2.out) (aq _ _) (by decide) (by decide) (by have:=HT2.out.2;omega)).mono ?_;rw [pn (by omega)];rintro e w3 ⟨rfl,he,hc⟩;have hr:=hc.keep HR2.out n1;have hh:=hc.keep HH2.out n2;have hb:=HB2.out.trans (hc.below (B:=gr) (by have:=HB2.out.size;have:=HGR.out;omega) (fun k e=>e ▸ n4));have hgl:=af hh;have hgz:=ab hh 2;obtain ⟨x0,x1,x2,x3,x4,x5,-⟩:=ct hh;simp only at x0 x1 x2 x3 x4 x5;have hc2:Ch (fun j=>j=gh) w3 (w3.setCell ⟨gh,2,none⟩ (.int .i64 t)):=(Ch.refl (fun j=>j=gh) w3).setCell (p:=⟨gh,2,none⟩) rfl _;have HH3:=hid (show (w3.setCell ⟨gh,2,none⟩ (.int .i64 t)).heap[gh]?=some (cX ⟨m,p,t,0,0,0⟩) from ae hh 2 (.int .i64 t));have HE3:=hid (hc2.keep he (Ne.symm n2));have HR3:=hid (hc2.keep hr n3);have HB3:=hid (hb.trans (hc2.below (B:=gr) (by have:=hb.size;have:=HGR.out;omega) (fun k e=>e ▸ n5)));clear he hc hr hh hc2 hb;go_wp2_with fail;generalize w3.setCell ⟨gh,2,none⟩ (.int .i64 t)=w3 at *;clear hgl hgz x0 x1 x2 x3 x4 x5;rw [rounds_succ];go_wp2_with fail;refine (db 4 (az 4 s) T4 ge w3 (by rw [← HT3.out.1];exact HE3.out) (aq _ _) (by decide) (by decide) (by have:=HT3.out.2;omega)).mono ?_;rw [pn (by omega)];rintro e w4 ⟨rfl,he,hc⟩;have hr:=hc.keep HR3.out n1;have hh:=hc.keep HH3.out n2;have hb:=HB3.out.trans (hc.below (B:=gr) (by have:=HB3.out.size;have:=HGR.out;omega) (fun k e=>e ▸ n4));have hgl:=af hh;have hgz:=ab hh 3;obtain ⟨x0,x1,x2,x3,x4,x5,-⟩:=ct hh;simp only at x0 x1 x2 x3 x4 x5;have hc2:Ch (fun j=>j=gh) w4 (w4.setCell ⟨gh,3,none⟩ (.int .i64 s)):=(Ch.refl (fun j=>j=gh) w4).setCell (p:=⟨gh,3,none⟩) rfl _;have HH4:=hid (show (w4.setCell ⟨gh,3,none⟩ (.int .i64 s)).heap[gh]?=some (cX ⟨m,p,t,s,0,0⟩) from ae hh 3 (.int .i64 s));have HE4:=hid (hc2.keep he (Ne.symm n2));have HR4:=hid (hc2.keep hr n3);have HB4:=hid (hb.trans (hc2.below (B:=gr) (by have:=hb.size;have:=HGR.out;omega) (fun k e=>e ▸ n5)));clear he hc hr hh hc2 hb;go_wp2_with fail;generalize w4.setCell ⟨gh,3,none⟩ (.int .i64 s)=w4 at *;clear hgl hgz x0 x1 x2 x3 x4 x5;rw [rounds_succ];go_wp2_with fail;refine (db 4 (az 4 r) T5 ge w4 (by rw [← HT4.out.1];exact HE4.out) (aq _ _) (by decide) (by decide) (by have:=HT4.out.2;omega)).mono ?_;rw [pn (by omega)];rintro e w5 ⟨rfl,he,hc⟩;have hr:=hc.keep HR4.out n1;have hh:=hc.keep HH4.out n2;have hb:=HB4.out.trans (hc.below (B:=gr) (by have:=HB4.out.size;have:=HGR.out;omega) (fun k e=>e ▸ n4));have hgl:=af hh;have hgz:=ab hh 4;obtain ⟨x0,x1,x2,x3,x4,x5,-⟩:=ct hh;simp only at x0 x1 x2 x3 x4 x5;have hc2:Ch (fun j=>j=gh) w5 (w5.setCell ⟨gh,4,none⟩ (.int .i64 r)):=(Ch.refl (fun j=>j=gh) w5).setCell (p:=⟨gh,4,none⟩) rfl _;have HH5:=hid (show (w5.setCell ⟨gh,4,none⟩ (.int .i64 r)).heap[gh]?=some (cX ⟨m,p,t,s,r,0⟩) from ae hh 4 (.int .i64 r));have HE5:=hid (hc2.keep he (Ne.symm n2));have HR5:=hid (hc2.keep hr n3);have HB5:=hid (hb.trans (hc2.below (B:=gr) (by have:=hb.size;have:=HGR.out;omega) (fun k e=>e ▸ n5)));clear he hc hr hh hc2 hb;go_wp2_with fail;generalize w5.setCell ⟨gh,4,none⟩ (.int .i64 r)=w5 at *;clear hgl hgz x0 x1 x2 x3 x4 x5;rw [rounds_succ];go_wp2_with fail;refine (db 8 (az 8 c) T6 ge w5 (by rw [← HT5.out.1];exact HE5.out) (aq _ _) (by decide) (by decide) (by have:=HT5.out.2;omega)).mono ?_;rw [uO (by omega)];clear i0 i1 i2 i3 i4 u1 u2 u3 u4 u5 g1 g2 g3 g4 g5 g6 g7 hx8;rintro e w6 ⟨rfl,he,hc⟩;have hr:=hc.keep HR5.out n1;have hh:=hc.keep HH5.out n2;have hb:=HB5.out.trans (hc.below (B:=gr) (by have:=HB5.out.size;have:=HGR.out;omega) (fun k e=>e ▸ n4));have hgl:=af hh;have hgz:=ab hh 5;obtain ⟨x0,x1,x2,x3,x4,x5,-⟩:=ct hh;simp only at x0 x1 x2 x3 x4 x5;have hc2:Ch (fun j=>j=gh) w6 (w6.setCell ⟨gh,5,none⟩ (.int .u64 c)):=(Ch.refl (fun j=>j=gh) w6).setCell (p:=⟨gh,5,none⟩) rfl _;have HH6:=hid (show (w6.setCell ⟨gh,5,none⟩ (.int .u64 c)).heap[gh]?=some (cX ⟨m,p,t,s,r,c⟩) from ae hh 5 (.int .u64 c));have HR6:=hid (hc2.keep hr n3);have HB6:=hid (hb.trans (hc2.below (B:=gr) (by have:=hb.size;have:=HGR.out;omega) (fun k e=>e ▸ n5)));clear he hc hr hh hc2 hb;go_upto_region 12 with fail
 generalize w6.setCell ⟨gh,5,none⟩ (.int .u64 c)=w6 at *;clear hgl hgz x0 x1 x2 x3 x4 x5;obtain ⟨c0,c1,c2,c3,c4,c5,cl⟩:=ct HH6.out;simp only at c0 c1 c2 c3 c4 c5;go_wp2_with fail;refine (HEN.out w6).mono ?_;rintro e w7 ⟨rfl,hb7⟩;have HH7:=hid (aw HH6.out hb7);have HR7:=aw HR6.out hb7;have HB7:=HB6.out.trans (hb7.mono (by have:=HB6.out.size;have:=HGR.out;omega));have hzz:(z.toList != z.toList)=false:=by simp
 have HR7':=hid HR7;have HB7':=hid HB7;clear c0 c1 c2 c3 c4 c5 cl hb7 HR7 HB7 hsz n1 n2 n3 n4 n5;go_upto_region 15 with fail
 have HR7:=HR7'.out;have HB7:=HB7'.out;clear hzz;obtain ⟨c0,c1,c2,c3,c4,c5,cl⟩:=ct HH7.out;simp only at c0 c1 c2 c3 c4 c5;have r1:=af HR7;have r2:=ab HR7;have r20:=r2 0;have r21:=r2 1;have r22:=r2 2;have r23:=r2 3;have r24:=r2 4;have r25:=r2 5;have y0:=aa HR7 0;have y1:=aa HR7 1;have y2:=aa HR7 2;have y3:=aa HR7 3;have y4:=aa HR7 4;have y5:=aa HR7 5;simp only [List.getElem?_toArray,List.getElem?_cons_succ,List.getElem?_cons_zero] at y0 y1 y2 y3 y4 y5;obtain ⟨w8,hw8⟩:∃ w8,w8=(((((w7.setCell ⟨gr,0,none⟩ (.int .i64 m)).setCell ⟨gr,1,none⟩ (.int .i64 p)).setCell ⟨gr,2,none⟩ (.int .i64 t)).setCell ⟨gr,3,none⟩ (.int .i64 s)).setCell ⟨gr,4,none⟩ (.int .i64 r)).setCell ⟨gr,5,none⟩ (.int .u64 c):=⟨_,rfl⟩;have hg8:w8.heap[gr]?=some (cX ⟨m,p,t,s,r,c⟩):=by rw [hw8];exact ae (ae (ae (ae (ae (ae HR7 0 (.int .i64 m)) 1 (.int .i64 p)) 2 (.int .i64 t)) 3 (.int .i64 s)) 4 (.int .i64 r)) 5 (.int .u64 c)
 have HB8:=hid (show Below gr w w8 by
  rw [hw8];exact (((((HB7.setCell (p:=⟨gr,0,none⟩) (Nat.le_refl _) _).setCell (p:=⟨gr,1,none⟩) (Nat.le_refl _) _).setCell (p:=⟨gr,2,none⟩) (Nat.le_refl _) _).setCell (p:=⟨gr,3,none⟩) (Nat.le_refl _) _).setCell (p:=⟨gr,4,none⟩) (Nat.le_refl _) _).setCell (p:=⟨gr,5,none⟩) (Nat.le_refl _) _)
 have HW8:=hid hw8;have HG8:=hid hg8;clear hw8 hg8 HB7 HR7 r2;go_wp2_with fail;rw [← HW8.out];obtain ⟨q0,q1,q2,q3,q4,q5,ql⟩:=ct HG8.out;simp only at q0 q1 q2 q3 q4 q5;exact bodyPost_ret (v:=.tuple #[.agg #[.int .i64 m,.int .i64 p,.int .i64 t,.int .i64 s,.int .i64 r,.int .u64 c],.int .i64 0]) (by simp [results,Tryz.results104,go_sem,q0,q1,q2,q3,q4,q5]) rfl ⟨rfl,by rw [← HGR.out];exact HB8.out⟩
end Go.Proofs.YtdmhbgpejppbkaaGreat
