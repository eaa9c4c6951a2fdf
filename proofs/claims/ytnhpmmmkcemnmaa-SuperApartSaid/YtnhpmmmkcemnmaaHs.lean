/- A geometry in a block of its own: stored whole, read whole. -/
import Derived.Test.YtnhpmmmkcemnmaaHl
namespace Go.Proofs.Ytnhpmmmkcemnmaa.Pc
open Go.RowKit Go.Proofs.YtnhpmmmkcemnmaaW.PrintWords Go.Proofs.YtnhpmmmkcemnmaaW.PrintLast Go.Proofs.YtnhpmmmkcemnmaaW.PrintMore
set_option linter.unusedVariables false
set_option linter.unusedSimpArgs false

def HG3 (w : World) (g : Nat) (x y z : Int) : Prop := w.heap[g]? = some (.cells #[.int .i64 x, .int .i64 y, .int .i64 z] 57 (0, 0))
theorem HG3.lt {w : World} {g : Nat} {x y z : Int} (h : HG3 w g x y z) : g < w.heap.size := blk_lt h
theorem HG3.below {w w1 : World} {g : Nat} {x y z : Int} (h : HG3 w g x y z) (hb : Below w.heap.size w w1) : HG3 w1 g x y z := (hb.block g h.lt).trans h
theorem HG3.c0 {w : World} {g : Nat} {x y z : Int} (h : HG3 w g x y z) : w.cell? ⟨g, 0, none⟩ = some (.int .i64 x) := (blk_cell h 0).trans rfl
theorem HG3.c1 {w : World} {g : Nat} {x y z : Int} (h : HG3 w g x y z) : w.cell? ⟨g, 1, none⟩ = some (.int .i64 y) := (blk_cell h 1).trans rfl
theorem HG3.c2 {w : World} {g : Nat} {x y z : Int} (h : HG3 w g x y z) : w.cell? ⟨g, 2, none⟩ = some (.int .i64 z) := (blk_cell h 2).trans rfl
section
variable {ops : Array Oper} {rest : List Oper} {o : Oper} {a : Act} {Q : Exit → Act → World → Prop}
theorem store_geom_event {w0 W : World} (hgd : o.guard = none) (hd : o.dst = none) (p : Tmp) (v : Operand) (ho : o.op = .store 57 (.tmp p) v) {g : Nat} {x y z x' y' z' : Int} (hb : HG3 W g x' y' z')
    (hp : a.eval (.tmp p) = .pointer (some ⟨g, 0, none⟩)) (hv : a.eval v = .agg #[.int .i64 x, .int .i64 y, .int .i64 z]) (hg : w0.heap.size ≤ g) (HB : Below w0.heap.size w0 W)
    (h : ∀ w1, HG3 w1 g x y z → W.grownBy w1 (some g) → Below w0.heap.size w0 w1 → wpList Try.prog ops Q rest a w1) : wpList Try.prog ops Q (o :: rest) a W := by
  have hb1 := blk_set hb 0 (.int .i64 x)
  have hb2 := blk_set hb1 1 (.int .i64 y)
  have hb3 := blk_set hb2 2 (.int .i64 z)
  have e0 : W.cell? ⟨g, 0, none⟩ = some (.int .i64 x') := hb.c0
  have e1 : (W.setCell ⟨g, 0, none⟩ (.int .i64 x)).cell? ⟨g, 1, none⟩ = some (.int .i64 y') := (blk_cell hb1 1).trans rfl
  have e2 : ((W.setCell ⟨g, 0, none⟩ (.int .i64 x)).setCell ⟨g, 1, none⟩ (.int .i64 y)).cell? ⟨g, 2, none⟩ = some (.int .i64 z') := (blk_cell hb2 2).trans rfl
  have f0 := blk_frozen hb 0
  have f1 := blk_frozen hb1 1
  have f2 := blk_frozen hb2 2
  refine store_event hgd ho hd (w1 := ((W.setCell ⟨g, 0, none⟩ (.int .i64 x)).setCell ⟨g, 1, none⟩ (.int .i64 y)).setCell ⟨g, 2, none⟩ (.int .i64 z)) ?_ (fun w' e => e ▸ h _ ?_ ?_ (((HB.setCell hg _).setCell hg _).setCell hg _))
  · unfold execOp
    simp only [ho]
    simp only [hp, hv]
    simp [go_sem, stored, e0, e1, e2, f0, f1, f2]
  · exact hb3
  · refine ⟨rfl, rfl, rfl, by simp [World.setCell], fun k hk hne => ?_⟩
    have hk' : k ≠ g := fun e => hne (by rw [e])
    rw [Below.heap_setCell _ _ _ k hk', Below.heap_setCell _ _ _ k hk', Below.heap_setCell _ _ _ k hk']
end
end Go.Proofs.Ytnhpmmmkcemnmaa.Pc
