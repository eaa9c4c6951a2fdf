/- Inodes and lists of four by value: compared; opened as they come in. -/
import Derived.Test.YtnhpmmmkcemnmaaHp
namespace Go.Proofs.Ytnhpmmmkcemnmaa.Pc
open Go.RowKit Go.Proofs.YtnhpmmmkcemnmaaW.PrintWords Go.Proofs.YtnhpmmmkcemnmaaW.PrintLast Go.Proofs.YtnhpmmmkcemnmaaW.PrintMore
set_option linter.unusedVariables false
set_option linter.unusedSimpArgs false

theorem part_int (xs : List Int) (i : Nat) (hi : i < xs.length) (W : World) : (part 3 (nums .i64 xs).toArray i).run Try.prog W = .ok (.int .i64 (xs.getD i 0)) W :=
  run_part_plain (P := Try.prog) W (by simp [Program.plainKey, Try.underlying3]) (by simp [nums, hi, List.getD_eq_getElem?_getD])
theorem part_row {t n : Nat} (hr : Row t n) (xs : List Int) (i : Nat) (hi : i + n ≤ xs.length) (W : World) : (part t (nums .i64 xs).toArray i).run Try.prog W = .ok (.agg (nums .i64 ((xs.drop i).take n)).toArray) W := by
  obtain ⟨d, hu, hd⟩ := hr.kind
  have hagg : (isAgg t).run Try.prog W = .ok true W := by
    unfold isAgg
    rw [Sem.run_bind, run_underlying hu W]
    cases d <;> simp_all
  have hsz : (sizeOf t).run Try.prog W = .ok n W := by
    have := hr.size
    cases hq : Try.prog.info? t with
    | none => rw [hq] at this; cases this
    | some j =>
      rw [hq] at this
      simp only [Option.map_some, Option.some.injEq] at this
      simp [sizeOf, typeInfo, hq, this]
  have he : (nums .i64 xs).toArray.extract i (i + n) = (nums .i64 ((xs.drop i).take n)).toArray := by
    simp [nums, List.extract_toArray, List.map_take, List.map_drop]
  simp [part, Sem.run_bind, hagg, hsz, he]
  simp [nums, List.map_take, List.map_drop]
/-- Compared number by number, at whatever depth from m on. -/
def EqD (t n m : Nat) : Prop := ∀ (d : Nat) (W : World) (xs ys : List Int), xs.length = n → ys.length = n → (Op.equalIn (d + m) t (.agg (nums .i64 xs).toArray) (.agg (nums .i64 ys).toArray)).run Try.prog W = .ok (xs == ys) W
theorem EqD.row {t n m : Nat} (h : EqD t n m) (hm : m ≤ 10000) (hg : Try.prog.eqGuardType Try.prog.depth t = false) : EqRow t n := by
  refine ⟨fun W xs ys h1 h2 => ?_, hg⟩
  have := h (10000 - m) W xs ys h1 h2
  rw [show 10000 - m + m = 10000 by omega] at this
  unfold Op.equal Op.maxDepth
  exact this
theorem eqd71 : EqD 71 6 2 := by
  intro d W xs ys h1 h2
  obtain ⟨i0, hi, _, _, _⟩ := info_parts info3
  rw [show d + 2 = (d + 1) + 1 from rfl, run_equalIn_array (P := Try.prog) W (d + 1) _ _ Try.underlying71 hi, show Try.prog.cellsOf 3 = 1 by kernel_rfl, eqItems_nums d 3 .i64 Try.underlying3 xs ys (List.range 6) (fun i hi => by have := List.mem_range.1 hi; omega)]
  have := all_range xs ys (by omega)
  rw [h1] at this
  rw [this]
theorem l11 {i : List Int} (h : i.length = 11) : ∃ a0 a1 a2 a3 a4 a5 a6 a7 a8 a9 a10, i = [a0, a1, a2, a3, a4, a5, a6, a7, a8, a9, a10] := by
  rcases i with _ | ⟨a0, _ | ⟨a1, _ | ⟨a2, _ | ⟨a3, _ | ⟨a4, _ | ⟨a5, _ | ⟨a6, _ | ⟨a7, _ | ⟨a8, _ | ⟨a9, _ | ⟨a10, _ | ⟨a11, r⟩⟩⟩⟩⟩⟩⟩⟩⟩⟩⟩⟩ <;> simp at h
  exact ⟨a0, a1, a2, a3, a4, a5, a6, a7, a8, a9, a10, rfl⟩
theorem eqd73 : EqD 73 11 3 := by
  intro d W xs ys h1 h2
  refine eqA_of (d := d + 2) Try.underlying73 (by kernel_rfl) ?_
  have ei : ∀ i, (Op.equalIn (d + 2) 3 (.int .i64 (xs.getD i 0)) (.int .i64 (ys.getD i 0))).run Try.prog W = .ok (xs.getD i 0 == ys.getD i 0) W := fun i => run_equalIn_int W (d + 1) 3 .i64 .i64 _ _ Try.underlying3
  have pi : ∀ i, i < 11 → (part 3 (nums .i64 xs).toArray i).run Try.prog W = .ok (.int .i64 (xs.getD i 0)) W := fun i hi => part_int xs i (by omega) W
  have qi : ∀ i, i < 11 → (part 3 (nums .i64 ys).toArray i).run Try.prog W = .ok (.int .i64 (ys.getD i 0)) W := fun i hi => part_int ys i (by omega) W
  have pd := part_row row71 xs 3 (by omega) W
  have qd := part_row row71 ys 3 (by omega) W
  have ed := eqd71 d W ((xs.drop 3).take 6) ((ys.drop 3).take 6) (by simp; omega) (by simp; omega)
  have he : (xs == ys) = ((xs.getD 0 0 == ys.getD 0 0) && ((xs.getD 1 0 == ys.getD 1 0) && ((xs.getD 2 0 == ys.getD 2 0) && (((xs.drop 3).take 6 == (ys.drop 3).take 6) && ((xs.getD 9 0 == ys.getD 9 0) && (xs.getD 10 0 == ys.getD 10 0)))))) := by
    obtain ⟨a0, a1, a2, a3, a4, a5, a6, a7, a8, a9, a10, rfl⟩ := l11 h1
    obtain ⟨b0, b1, b2, b3, b4, b5, b6, b7, b8, b9, b10, rfl⟩ := l11 h2
    rw [Bool.eq_iff_iff]
    simp [and_assoc]
  rw [he]
  exact eqf_cons rfl (pi 0 (by omega)) (qi 0 (by omega)) (ei 0) (eqf_cons rfl (pi 1 (by omega)) (qi 1 (by omega)) (ei 1) (eqf_cons rfl (pi 2 (by omega)) (qi 2 (by omega)) (ei 2) (eqf_cons rfl pd qd ed (eqf_cons rfl (pi 9 (by omega)) (qi 9 (by omega)) (ei 9) (eqf_last rfl (pi 10 (by omega)) (qi 10 (by omega)) (ei 10))))))
theorem eqrow73 : EqRow 73 11 := eqd73.row (by omega) (by kernel_rfl)
theorem items73 (d : Nat) (W : World) (xs ys : List Int) : ∀ is : List Nat, (∀ i ∈ is, i * 11 + 11 ≤ xs.length ∧ i * 11 + 11 ≤ ys.length) →
    (Op.eqItems (d + 3) 73 11 (nums .i64 xs).toArray (nums .i64 ys).toArray is).run Try.prog W = .ok (is.all fun i => (xs.drop (i * 11)).take 11 == (ys.drop (i * 11)).take 11) W := by
  intro is
  induction is with
  | nil => intro _; simp [Op.eqItems]
  | cons i is ih =>
    intro h
    obtain ⟨h1, h2⟩ := h i List.mem_cons_self
    have ih := ih fun j hj => h j (List.mem_cons_of_mem _ hj)
    have p1 := part_row row73 xs (i * 11) h1 W
    have p2 := part_row row73 ys (i * 11) h2 W
    have p3 := eqd73 d W ((xs.drop (i * 11)).take 11) ((ys.drop (i * 11)).take 11) (by simp; omega) (by simp; omega)
    simp only [Op.eqItems, Sem.run_bind, p1, p2, p3, Result.andThen_ok, List.all_cons]
    cases hc : ((xs.drop (i * 11)).take 11 == (ys.drop (i * 11)).take 11)
    · simp
    · simpa using ih
theorem eqd74 : EqD 74 44 4 := by
  intro d W xs ys h1 h2
  have hi : ∃ i, Try.prog.info? 73 = some i := by
    have := row73.size
    cases hq : Try.prog.info? 73 with
    | none => rw [hq] at this; cases this
    | some i => exact ⟨i, rfl⟩
  obtain ⟨i0, hi⟩ := hi
  rw [show d + 4 = (d + 3) + 1 from rfl, run_equalIn_array (P := Try.prog) W (d + 3) _ _ Try.underlying74 hi, show Try.prog.cellsOf 73 = 11 by kernel_rfl, items73 d W xs ys (List.range 4) (fun i hi => by have := List.mem_range.1 hi; omega)]
  congr 1
  rw [Bool.eq_iff_iff, List.all_eq_true, beq_iff_eq]
  constructor
  · intro g
    have key : ∀ k, k ≤ 4 → xs.take (k * 11) = ys.take (k * 11) := by
      intro k
      induction k with
      | zero => intro _; simp
      | succ k ih =>
        intro hk
        have := g k (List.mem_range.2 (by omega))
        rw [beq_iff_eq] at this
        rw [Nat.succ_mul, List.take_add, List.take_add, ih (by omega), this]
    have := key 4 (Nat.le_refl _)
    rwa [List.take_of_length_le (by omega), List.take_of_length_le (by omega)] at this
  · intro e i _
    rw [e, beq_self_eq_true]
theorem eqrow74 : EqRow 74 44 := eqd74.row (by omega) (by kernel_rfl)
end Go.Proofs.Ytnhpmmmkcemnmaa.Pc
