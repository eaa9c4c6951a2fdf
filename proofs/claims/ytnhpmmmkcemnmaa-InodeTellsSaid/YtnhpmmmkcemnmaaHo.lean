/- Rows of numbers by value, as they come in: opened. -/
import Derived.Test.YtnhpmmmkcemnmaaHp
import Derived.OpenShut
import Derived.ChangeArms
import Derived.WideShapes
import Derived.Lib.SmallJoins
namespace Go.Proofs.Ytnhpmmmkcemnmaa.Pc
open Go.RowKit Go.ChangeShapes Go.WideShapes Go.ChangeAt Go.Joins Go.Proofs.YtnhpmmmkcemnmaaW.PrintWords
set_option linter.unusedVariables false
set_option linter.unusedSimpArgs false

def IsNum (v : Value) : Prop := ∃ a : Int, v = .int .i64 a ∧ (Lit.int .i64 a).wf = true
/-- A type whose values are n numbers. -/
def Ints (t n : Nat) : Prop := ∀ {H : Type} (enc : TypeId × Value → H) (w : World) (base : Nat) (spare : Nat → Bool) (held : Bool) (fuel : Nat) (cs : List Value) (x : DataW H × List MemPlace),
  DataW.trod enc Try.prog w base spare held fuel t cs = some x → cs.length = n ∧ ∀ v ∈ cs, IsNum v
theorem ints3 : Ints 3 1 := by
  intro H enc w base spare held fuel cs x h
  obtain ⟨a, rfl, _, ha⟩ := DataW.trod_int Try.underlying3 h
  exact ⟨rfl, fun v hv => by simp at hv; exact ⟨a, hv, ha⟩⟩
theorem ints_array {t e n s : Nat} (hs : 0 < s) (hu : Try.prog.underlying t = some (.array n e)) (hc : Try.prog.cellsOf t = n * s) (he : Try.prog.cellsOf e = s) (hI : Ints e s) : Ints t (n * s) := by
  intro H enc w base spare held fuel cs x h
  obtain ⟨xs, m, _, _, hl, hxl, hat⟩ := DataW.trod_array hu h
  rw [hc] at hl
  refine ⟨hl, fun v hv => ?_⟩
  obtain ⟨j, hj, rfl⟩ := List.getElem_of_mem hv
  have hi : j / s < n := (Nat.div_lt_iff_lt_mul hs).2 (by omega)
  have h1 := hat (j / s) hi
  rw [List.getElem?_eq_getElem (by omega), he] at h1
  obtain ⟨h2, h3⟩ := hI enc w base spare held m _ _ h1
  have hjj : j / s * s + j % s = j := by rw [Nat.mul_comm]; exact Nat.div_add_mod j s
  refine h3 _ (List.mem_of_getElem? (i := j % s) ?_)
  rw [List.getElem?_take, if_pos (Nat.mod_lt _ hs), List.getElem?_drop, hjj, List.getElem?_eq_getElem hj]
theorem ints49 : Ints 49 12 := ints_array (s := 1) (by omega) Try.underlying49 (by kernel_rfl) (by kernel_rfl) ints3
theorem ints71 : Ints 71 6 := ints_array (s := 1) (by omega) Try.underlying71 (by kernel_rfl) (by kernel_rfl) ints3
theorem isnum_in {H : Type} {enc : TypeId × Value → H} {w : World} {base : Nat} {spare : Nat → Bool} {held : Bool} {m : Nat} {cs : List Value} {y : DataW H × List MemPlace} {e s o j : Nat} (hI : Ints e s)
    (h : DataW.trod enc Try.prog w base spare held m e ((cs.drop o).take s) = some y) (h0 : o ≤ j) (h1 : j < o + s) (hj : j < cs.length) : IsNum cs[j] := by
  obtain ⟨_, h3⟩ := hI enc w base spare held m _ _ h
  refine h3 _ (List.mem_of_getElem? (i := j - o) ?_)
  rw [List.getElem?_take, if_pos (by omega), List.getElem?_drop, show o + (j - o) = j by omega, List.getElem?_eq_getElem hj]
theorem ints73 : Ints 73 11 := by
  intro H enc w base spare held fuel cs x h
  obtain ⟨xs, m, _, _, hl, hxl, hat⟩ := DataW.trod_struct Try.underlying73 h
  rw [show Try.prog.cellsOf 73 = 11 by kernel_rfl] at hl
  have c3 : Try.prog.cellsOf 3 = 1 := by kernel_rfl
  have c71 : Try.prog.cellsOf 71 = 6 := by kernel_rfl
  have hxl' : xs.length = 6 := hxl
  have a0 : DataW.trod enc Try.prog w base spare held m 3 ((cs.drop 0).take (Try.prog.cellsOf 3)) = xs[0]? := hat 0 _ rfl
  have a1 : DataW.trod enc Try.prog w base spare held m 3 ((cs.drop 1).take (Try.prog.cellsOf 3)) = xs[1]? := hat 1 _ rfl
  have a2 : DataW.trod enc Try.prog w base spare held m 3 ((cs.drop 2).take (Try.prog.cellsOf 3)) = xs[2]? := hat 2 _ rfl
  have a3 : DataW.trod enc Try.prog w base spare held m 71 ((cs.drop 3).take (Try.prog.cellsOf 71)) = xs[3]? := hat 3 _ rfl
  have a4 : DataW.trod enc Try.prog w base spare held m 3 ((cs.drop 9).take (Try.prog.cellsOf 3)) = xs[4]? := hat 4 _ rfl
  have a5 : DataW.trod enc Try.prog w base spare held m 3 ((cs.drop 10).take (Try.prog.cellsOf 3)) = xs[5]? := hat 5 _ rfl
  rw [c3, List.getElem?_eq_getElem (by omega)] at a0 a1 a2 a4 a5
  rw [c71, List.getElem?_eq_getElem (by omega)] at a3
  refine ⟨hl, fun v hv => ?_⟩
  obtain ⟨j, hj, rfl⟩ := List.getElem_of_mem hv
  have : j = 0 ∨ j = 1 ∨ j = 2 ∨ (3 ≤ j ∧ j < 9) ∨ j = 9 ∨ j = 10 := by omega
  rcases this with e | e | e | e | e | e
  · exact isnum_in ints3 a0 (by omega) (by omega) hj
  · exact isnum_in ints3 a1 (by omega) (by omega) hj
  · exact isnum_in ints3 a2 (by omega) (by omega) hj
  · exact isnum_in ints71 a3 (by omega) (by omega) hj
  · exact isnum_in ints3 a4 (by omega) (by omega) hj
  · exact isnum_in ints3 a5 (by omega) (by omega) hj
theorem ints74 : Ints 74 44 := ints_array (s := 11) (by omega) Try.underlying74 (by kernel_rfl) (by kernel_rfl) ints73
theorem nums_of {cs : List Value} (h : ∀ v ∈ cs, IsNum v) : ∃ ps : List Int, cs = nums .i64 ps ∧ ∀ p ∈ ps, (Lit.int .i64 p).wf = true := by
  induction cs with
  | nil => exact ⟨[], rfl, fun p hp => by cases hp⟩
  | cons v cs ih =>
    obtain ⟨ps, rfl, hp⟩ := ih (fun u hu => h u (List.mem_cons_of_mem _ hu))
    obtain ⟨a, rfl, ha⟩ := h v List.mem_cons_self
    refine ⟨a :: ps, rfl, fun p hp' => ?_⟩
    rcases List.mem_cons.1 hp' with rfl | h'
    · exact ha
    · exact hp p h'
theorem open_row {t n : Nat} (hI : Ints t n) {H : Type} {enc : TypeId × Value → H} {w : World} {base : Nat} {spare : Nat → Bool} {held : Bool} {r : Reach} {b0 : Nat} {v : Value} {d : DataW H} {p : List MemPlace}
    (hu : (∃ m e, Try.prog.underlying t = some (.array m e)) ∨ ∃ fs, Try.prog.underlying t = some (.struct fs)) (hv : Value.okWide Try.prog w r b0 t v) (h : DataW.Trod enc Try.prog w base spare held t v d p) :
    ∃ ps : List Int, v = .agg (nums .i64 ps).toArray ∧ ps.length = n ∧ ∀ x ∈ ps, (Lit.int .i64 x).wf = true := by
  have hagg : ∃ cs : Array Value, v = .agg cs := by
    rcases hu with ⟨m, e, hu⟩ | ⟨fs, hu⟩
    · simp only [Value.okWide, hu] at hv
      obtain ⟨cs, h1, _⟩ := hv
      exact ⟨cs, h1⟩
    · obtain ⟨cs, h1, _⟩ := okWide_struct hu hv
      exact ⟨cs, h1⟩
  obtain ⟨cs, rfl⟩ := hagg
  obtain ⟨fuel, hf⟩ := h
  obtain ⟨hl, hn⟩ := hI enc w base spare held fuel _ _ hf
  obtain ⟨ps, hps, hw⟩ := nums_of hn
  simp only [Value.cells] at hps hl
  refine ⟨ps, ?_, ?_, hw⟩
  · rw [← hps]
  · rw [hps] at hl
    simpa [nums] using hl
end Go.Proofs.Ytnhpmmmkcemnmaa.Pc
