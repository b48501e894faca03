/- spare.Give over a shelf's book. -/
import Derived.Test.YtdmhbgpejppbkaaGreatXGbd
import Derived.Deep.RegionWith
namespace Go.Proofs.YtdmhbgpejppbkaaGreat
open Go.RowKit Go.Maps
theorem yx (w:World) (n:Nat) (h:n≤1000000):(Instr.makeSlice 30 (.int .i64 n) (.int .i64 n)).run Tryz.prog w=.ok (.slice (some ⟨w.heap.size,0,none⟩) n n) (w.alloc (.cells ((List.replicate n (0:Int)).flatMap iC).toArray 3)):=by
 obtain ⟨i,hi,hz,hsz,hby⟩:∃ i,Tryz.prog.info? 3=some i∧i.zero=some (.int .i64 0)∧i.size=1∧i.bytes=8:=by
  have h:=(show (Tryz.prog.info? 3).map (fun i=>(i.zero,i.size,i.bytes))=some (some (.int .i64 0),1,8) by kernel_rfl);cases hi:Tryz.prog.info? 3 with
  | none=>rw [hi] at h;cases h
  | some i=> rw [hi] at h;simp only [Option.map_some,Option.some.injEq,Prod.mk.injEq] at h;exact ⟨i,rfl,h.1,h.2.1,h.2.2⟩
 have e:madeCells (Value.cells (.int .i64 0)) n=((List.replicate n (0:Int)).flatMap iC).toArray:=by
  rw [← Array.toList_inj,show Value.cells (.int .i64 0)=#[.int .i64 0] from rfl,toList_madeCells_one];clear h
  induction n with
  | zero=>rfl
  | succ n ih=> rw [List.replicate_succ,List.replicate_succ,List.flatMap_cons,ih];rfl
 rw [run_make w 30 3 i _ Tryz.underlying30 hi hz .i64 .i64 n n (by omega) (Int.le_refl _) (by rw [hby];omega) (by omega),hsz,Nat.mul_one,Int.toNat_natCast,e]
end Go.Proofs.YtdmhbgpejppbkaaGreat
