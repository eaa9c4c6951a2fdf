/- Read for fewer inodes, or blocks, than it was laid for, a sector of bits is read just if none beyond is taken: for every four numbers. -/
import Derived.Test.YtnhpmmmkcemnmaaPcx26
import Derived.Test.YtnhpmmmkcemnmaaQe
namespace Go.Proofs.Ytnhpmmmkcemnmaa.Pure
open Go.RowKit Go.Proofs.Ytnhpmmmkcemnmaa.Pc Go.Proofs.YtnhpmmmkcemnmaaW.PrintWords Go.Proofs.YtnhpmmmkcemnmaaW.PrintLast Go.Proofs.YtnhpmmmkcemnmaaW.PrintMore

/-- Two lists of numbers, compared one by one. -/
theorem sameInts_l0 (a b : List Int) (hab : a.length = b.length) (hm : a.length ≤ 1000000) (d : Nat) : ∀ (k i : Nat), i + d = a.length → d < k →
    purlinlaw0_SameInts.l0 k a b (i : Int) = some (a.drop i == b.drop i) := by
  induction d with
  | zero =>
    intro k i hi hk
    obtain ⟨k, rfl⟩ : ∃ m, k = m + 1 := ⟨k - 1, by omega⟩
    simp only [purlinlaw0_SameInts.l0]
    rw [if_neg (by omega), List.drop_eq_nil_of_le (by omega), List.drop_eq_nil_of_le (by omega)]
    rfl
  | succ d ih =>
    intro k i hi hk
    obtain ⟨k, rfl⟩ : ∃ m, k = m + 1 := ⟨k - 1, by omega⟩
    simp only [purlinlaw0_SameInts.l0]
    have w : wrap64 ((i : Int) + 1) = ((i + 1 : Nat) : Int) := wrap64_is (by omega) (by omega)
    have ra : rd a (i : Int) = a.getD i 0 := rfl
    have rb : rd b (i : Int) = b.getD i 0 := rfl
    rw [if_pos (by omega), if_pos (by omega), if_pos (by omega), w, ra, rb, ih k (i + 1) (by omega) (by omega)]
    have ha : i < a.length := by omega
    have hb : i < b.length := by omega
    rw [List.drop_eq_getElem_cons ha, List.drop_eq_getElem_cons hb, List.getD_eq_getElem?_getD, List.getD_eq_getElem?_getD, List.getElem?_eq_getElem ha, List.getElem?_eq_getElem hb, Option.getD_some, Option.getD_some]
    by_cases e : a[i] = b[i]
    · rw [if_pos e, e, List.cons_beq_cons, beq_self_eq_true, Bool.true_and]
    · rw [if_neg e, List.cons_beq_cons, beq_eq_false_iff_ne.mpr e, Bool.false_and]
theorem sameInts_is (a : List Int) (hm : a.length ≤ 1000000) (K : Nat) (hK : a.length < K) : purlinlaw0_SameInts.f K a a = some true := by
  unfold purlinlaw0_SameInts.f
  rw [if_pos rfl, show (0 : Int) = ((0 : Nat) : Int) from rfl, sameInts_l0 a a rfl hm a.length K 0 (by omega) (by omega), beq_self_eq_true]

/-- The numbers below N of which g holds. -/
def F (g : Nat → Bool) (N : Nat) : List Nat := (List.range N).filter g
theorem F_succ (g : Nat → Bool) (N : Nat) : F g (N + 1) = F g N ++ (if g N = true then [N] else []) := by
  unfold F
  rw [List.range_succ, List.filter_append]
  congr 1
  by_cases h : g N = true
  · rw [if_pos h]
    simp [h]
  · rw [if_neg h]
    simp [h]
theorem F_len (g : Nat → Bool) (N : Nat) : (F g N).length ≤ N := by
  have := List.length_filter_le g (List.range N)
  simpa [F] using this
theorem mem_F (g : Nat → Bool) (N j : Nat) : j ∈ F g N ↔ j < N ∧ g j = true := by
  unfold F
  rw [List.mem_filter, List.mem_range]
theorem has_F (g : Nat → Bool) (N j : Nat) : hasZ (setZ N (intsZ (F g N))) j = (decide (j < N) && g j) := by
  rw [hasZ_setZ]
  by_cases h : j < N
  · rw [decide_eq_true h, Bool.true_and, Bool.true_and]
    by_cases q : g j = true
    · rw [q]
      exact decide_eq_true ((mem_ints _ _).2 ((mem_F _ _ _).2 ⟨h, q⟩))
    · rw [Bool.eq_false_iff.mpr q]
      exact decide_eq_false fun z => q ((mem_F _ _ _).1 ((mem_ints _ _).1 z)).2
  · rw [decide_eq_false h]
    rfl
def fitsF (g : Nat → Bool) (N n : Nat) : Prop := ∀ j, j < N → g j = true → j < n
theorem fits_F (g : Nat → Bool) (N n : Nat) : fitsZ (setZ N (intsZ (F g N))) n ↔ fitsF g N n := by
  unfold fitsZ fitsF
  constructor
  · intro h j h1 h2
    exact h j (by rw [has_F, decide_eq_true h1, h2]; rfl)
  · intro h j hj
    rw [has_F, Bool.and_eq_true] at hj
    exact h j (of_decide_eq_true hj.1) hj.2
theorem F_fits (g : Nat → Bool) (N n : Nat) (hn : n ≤ N) (h : fitsF g N n) : F g N = F g n := by
  obtain ⟨d, rfl⟩ : ∃ d, N = n + d := ⟨N - n, by omega⟩
  clear hn
  induction d with
  | zero => rfl
  | succ d ih =>
    have : g (n + d) ≠ true := fun e => by
      have := h (n + d) (by omega) e
      omega
    rw [← Nat.add_assoc, F_succ, if_neg this, List.append_nil]
    exact ih fun j h1 h2 => h j (by omega) h2
theorem all_F (g : Nat → Bool) (N n : Nat) (hn : n ≤ N) (h : fitsF g N n) : allZ (cutZ (setZ N (intsZ (F g N))) n) n = F g N := by
  rw [F_fits g N n hn h]
  unfold allZ F
  refine List.filter_congr fun j hj => ?_
  have hj := List.mem_range.1 hj
  have := has_F g N j
  rw [F_fits g N n hn h] at this
  unfold F at this
  rw [hasZ_cutZ, this, decide_eq_true hj, decide_eq_true (show j < N by omega)]
  rfl
/-- The last one is the greatest. -/
theorem last_F (g : Nat → Bool) : ∀ N, F g N ≠ [] → ∃ L, rd (intsZ (F g N)) (((intsZ (F g N)).length : Int) - 1) = ((L : Nat) : Int) ∧ L < N ∧ g L = true ∧ ∀ j, j < N → g j = true → j ≤ L
  | 0, h => absurd rfl h
  | N + 1, h => by
    by_cases q : g N = true
    · refine ⟨N, ?_, by omega, q, fun j h1 _ => by omega⟩
      rw [F_succ, if_pos q]
      unfold intsZ
      rw [List.map_append]
      have hm : List.map (fun x : Nat => (x : Int)) [N] = [(N : Int)] := rfl
      rw [hm]
      have e : ((((F g N).map fun x : Nat => (x : Int)) ++ [(N : Int)]).length : Int) - 1 = ((((F g N).map fun x : Nat => (x : Int)).length : Nat) : Int) := by
        rw [List.length_append, List.length_singleton]
        omega
      rw [e]
      show (_ ++ [(N : Int)]).getD (((((F g N).map fun x : Nat => (x : Int)).length : Nat) : Int)).toNat 0 = _
      rw [Int.toNat_natCast, List.getD_eq_getElem?_getD, List.getElem?_append_right (Nat.le_refl _), Nat.sub_self]
      rfl
    · rw [F_succ, if_neg q, List.append_nil] at h ⊢
      obtain ⟨L, h1, h2, h3, h4⟩ := last_F g N h
      refine ⟨L, h1, by omega, h3, fun j g1 g2 => h4 j ?_ g2⟩
      by_cases e : j = N
      · rw [e] at g2
        exact absurd g2 q
      · omega

/-- Bit j of a number. -/
def pW (x : Int) (j : Nat) : Bool := decide (Go.bits .and .i64 (shr .i64 x (j : Int)) 1 = 1)
def qW (x : Int) (j : Nat) : Bool := decide (j % 3 = 0) && pW x (j / 3)
theorem q_step (x : Int) (i : Nat) : F (qW x) (3 * (i + 1)) = F (qW x) (3 * i) ++ (if pW x i = true then [3 * i] else []) := by
  have e0 : qW x (3 * i) = pW x i := by
    unfold qW
    rw [show 3 * i / 3 = i by omega, decide_eq_true (show 3 * i % 3 = 0 by omega)]
    rfl
  have e1 : qW x (3 * i + 1) = false := by
    unfold qW
    rw [decide_eq_false (show ¬ (3 * i + 1) % 3 = 0 by omega)]
    rfl
  have e2 : qW x (3 * i + 1 + 1) = false := by
    unfold qW
    rw [decide_eq_false (show ¬ (3 * i + 1 + 1) % 3 = 0 by omega)]
    rfl
  rw [show 3 * (i + 1) = 3 * i + 1 + 1 + 1 by omega, F_succ, F_succ, F_succ, e0, e1, e2, if_neg Bool.false_ne_true, List.append_nil, if_neg Bool.false_ne_true, List.append_nil]

theorem widths_end (x y : Nat → Bool) (N M : Nat) (nm : 4 ≤ N ∧ N ≤ 32 ∧ 16 ≤ M ∧ M ≤ 96) (K : Nat) (hK : 900 ≤ K) (p q : List Int) (f : Int) (b : Bool)
    (hb : b = true ↔ (fitsF x 32 N ∧ fitsF y 96 M))
    (hr : (p, q, f) = readGroupZ (sealZ 71 (group_Lay.body (setZ 32 (intsZ (F x 32))) (setZ 96 (intsZ (F y 96))))) N M) :
    purlinlaw11_GroupWidths.j1 (K + 1 + 1) N M (intsZ (F x 32)) (intsZ (F y 96)) 0 p q f b = some true := by
  have lx := F_len x 32
  have ly := F_len y 96
  have lx2 : (intsZ (F x 32)).length ≤ 32 := by unfold intsZ; rw [List.length_map]; exact lx
  have ly2 : (intsZ (F y 96)).length ≤ 96 := by unfold intsZ; rw [List.length_map]; exact ly
  have hs := read_group (setZ 32 (intsZ (F x 32))) (setZ 96 (intsZ (F y 96))) (setZ_by _ _) (setZ_by _ _) (by rw [setZ_len]; omega) (by rw [setZ_len]; omega) N M nm
  rw [fits_F, fits_F, ← hr] at hs
  clear hr
  have ew := purlinlaw11_awake.is K (by omega)
  simp only [purlinlaw11_GroupWidths.j1]
  rw [if_pos trivial]
  simp only [purlinlaw11_GroupWidths.j2]
  by_cases h : b = true
  · have hf := hb.1 h
    have hs1 := hs.1 hf
    obtain ⟨rfl, h1⟩ := Prod.mk.inj hs1
    obtain ⟨rfl, rfl⟩ := Prod.mk.inj h1
    subst h
    have a1 := all_F x 32 N (by omega) hf.1
    have a2 := all_F y 96 M (by omega) hf.2
    have c1 := cutZ_by (setZ 32 (intsZ (F x 32))) N
    have c2 := cutZ_by (setZ 96 (intsZ (F y 96))) M
    have d1 := cutZ_len (setZ 32 (intsZ (F x 32))) N
    have d2 := cutZ_len (setZ 96 (intsZ (F y 96))) M
    clear hs hs1 h1 hb hf
    generalize cutZ (setZ 32 (intsZ (F x 32))) N = X at a1 c1 d1
    generalize cutZ (setZ 96 (intsZ (F y 96))) M = Y at a2 c2 d2
    have e1 := bits_All.is X c1 (by omega) N (by omega) K (by omega)
    have e2 := bits_All.is Y c2 (by omega) M (by omega) K (by omega)
    rw [a1] at e1
    rw [a2] at e2
    have e3 := sameInts_is (intsZ (F x 32)) (by omega) K (by omega)
    have e4 := sameInts_is (intsZ (F y 96)) (by omega) K (by omega)
    have t1 : Int.tdiv ((N : Int) + 7) 8 = (((N + 7) / 8 : Nat) : Int) := by rw [Int.tdiv_eq_ediv_of_nonneg (by omega)]; omega
    have t2 : Int.tdiv ((M : Int) + 7) 8 = (((M + 7) / 8 : Nat) : Int) := by rw [Int.tdiv_eq_ediv_of_nonneg (by omega)]; omega
    have w1 : wrap64 (Int.tdiv (wrap64 ((N : Int) + 7)) 8) = (((N + 7) / 8 : Nat) : Int) := by
      rw [wrap64_is (x := (N : Int) + 7) (by omega) (by omega), t1]
      exact wrap64_is (by omega) (by omega)
    have w2 : wrap64 (Int.tdiv (wrap64 ((M : Int) + 7)) 8) = (((M + 7) / 8 : Nat) : Int) := by
      rw [wrap64_is (x := (M : Int) + 7) (by omega) (by omega), t2]
      exact wrap64_is (by omega) (by omega)
    rw [if_neg (by decide), if_pos rfl, e1, Option.bind_some, e3, Option.bind_some, if_pos rfl, e2, Option.bind_some, e4, Option.bind_some, if_pos rfl, w1, w2, d1, d2, if_pos rfl, if_pos rfl, ew]
    rfl
  · have hs2 := hs.2 fun z => h (hb.2 z)
    obtain ⟨rfl, h1⟩ := Prod.mk.inj hs2
    obtain ⟨rfl, rfl⟩ := Prod.mk.inj h1
    have hbf := Bool.eq_false_iff.mpr h
    subst hbf
    rw [if_neg (by decide), if_neg Bool.false_ne_true, ew]
    rfl

theorem fits_last (g : Nat → Bool) (N n : Nat) : F g N ≠ [] → ∃ r : Int, rd (intsZ (F g N)) (((intsZ (F g N)).length : Int) - 1) = r ∧ (r < (n : Int) ↔ fitsF g N n) := by
  intro h
  obtain ⟨L, h1, h2, h3, h4⟩ := last_F g N h
  refine ⟨_, h1, ⟨fun hl j g1 g2 => ?_, fun hf => ?_⟩⟩
  · have := h4 j g1 g2
    omega
  · have := hf L h2 h3
    omega
theorem fits_nil (g : Nat → Bool) (N n : Nat) (h : F g N = []) : fitsF g N n := by
  intro j g1 g2
  have := (mem_F g N j).2 ⟨g1, g2⟩
  rw [h] at this
  exact absurd this List.not_mem_nil
theorem ints_len (l : List Nat) : (intsZ l).length = l.length := by unfold intsZ; rw [List.length_map]

theorem widths_all (a0 a1 : Int) (N M : Nat) (nm : 4 ≤ N ∧ N ≤ 32 ∧ 16 ≤ M ∧ M ≤ 96) (K : Nat) (hK : 900 ≤ K) :
    purlinlaw11_GroupWidths.l0 (K + 1 + 1 + 1) a0 a1 N M (intsZ (F (pW a0) 32)) (intsZ (F (qW a1) 96)) 32 = some true := by
  have lx := F_len (pW a0) 32
  have ly := F_len (qW a1) 96
  have lx2 := ints_len (F (pW a0) 32)
  have ly2 := ints_len (F (qW a1) 96)
  have fx := fits_last (pW a0) 32 N
  have fy := fits_last (qW a1) 96 M
  have gx := fits_nil (pW a0) 32 N
  have gy := fits_nil (qW a1) 96 M
  have en := widths_end (pW a0) (qW a1) N M nm K hK
  have e1 := bits_Of.is 32 (by omega) (intsZ (F (pW a0) 32)) (by omega) (K + 1 + 1) (by omega)
  have e2 := bits_Of.is 96 (by omega) (intsZ (F (qW a1) 96)) (by omega) (K + 1 + 1) (by omega)
  rw [show ((32 : Nat) : Int) = 32 from rfl] at e1
  rw [show ((96 : Nat) : Int) = 96 from rfl] at e2
  have hx := setZ_by 32 (intsZ (F (pW a0) 32))
  have hy := setZ_by 96 (intsZ (F (qW a1) 96))
  have sx := setZ_len 32 (intsZ (F (pW a0) 32))
  have sy := setZ_len 96 (intsZ (F (qW a1) 96))
  generalize setZ 32 (intsZ (F (pW a0) 32)) = X at e1 en hx sx
  generalize setZ 96 (intsZ (F (qW a1) 96)) = Y at e2 en hy sy
  have e3 := group_Lay.yes X Y hx hy (by unfold sizesZ; omega) (K + 1 + 1) (by omega)
  have hb : By (sealZ 71 (group_Lay.body X Y)) := sealZ_by (by omega) (by omega) (groupZ_by hx hy)
  have e4 := group_Read.is _ hb N M (K + 1 + 1) (by omega)
  generalize sealZ 71 (group_Lay.body X Y) = c at e3 e4 en
  generalize readGroupZ c N M = R at e4 en
  obtain ⟨p, q, f⟩ := R
  have en1 := fun b hb => en p q f b hb rfl
  clear en
  generalize hA : F (pW a0) 32 = A at *
  generalize hB : F (qW a1) 96 = B at *
  generalize hC : intsZ A = A' at *
  generalize hD : intsZ B = B' at *
  have wA := Aside0.mk (fun h : A' ≠ [] => show wrap64 ((A'.length : Int) - 1) = (A'.length : Int) - 1 from by
    have := List.length_pos_iff.mpr h
    exact wrap64_is (by omega) (by omega))
  have wB := Aside0.mk (fun h : B' ≠ [] => show wrap64 ((B'.length : Int) - 1) = (B'.length : Int) - 1 from by
    have := List.length_pos_iff.mpr h
    exact wrap64_is (by omega) (by omega))
  have second : ∀ b : Bool, (b = true ↔ fitsF (qW a1) 96 M) → fitsF (pW a0) 32 N → purlinlaw11_GroupWidths.j1 (K + 1 + 1) N M A' B' 0 p q f b = some true := fun b h1 h2 =>
    en1 b ⟨fun h => ⟨h2, h1.1 h⟩, fun h => h1.2 h.2⟩
  have tail : fitsF (pW a0) 32 N → (if (B'.length : Int) = 0 then (purlinlaw11_GroupWidths.j1 (K + 1 + 1) N M A' B' 0 p q f true) else (if 0 ≤ (wrap64 ((B'.length : Int) - 1)) then (if (wrap64 ((B'.length : Int) - 1)) < (B'.length : Int) then (purlinlaw11_GroupWidths.j1 (K + 1 + 1) N M A' B' 0 p q f (decide ((rd B' (wrap64 ((B'.length : Int) - 1))) < (M : Int)))) else (none)) else (none))) = some true := by
    intro hf
    by_cases h : (B'.length : Int) = 0
    · rw [if_pos h]
      exact second true ⟨fun _ => gy (List.eq_nil_of_length_eq_zero (by omega)), fun _ => rfl⟩ hf
    · have hne : B' ≠ [] := fun z => h (by rw [z]; rfl)
      have hne2 : B ≠ [] := fun z => hne (by rw [← hD, z]; rfl)
      obtain ⟨r, r1, r2⟩ := fy hne2
      rw [if_neg h, wB.out hne, if_pos (by omega), if_pos (by omega), r1]
      exact second _ ⟨fun z => r2.1 (of_decide_eq_true z), fun z => decide_eq_true (r2.2 z)⟩ hf
  simp only [purlinlaw11_GroupWidths.l0]
  rw [if_neg (by omega), e1, Option.bind_some, e2, Option.bind_some, e3, Option.bind_some]
  simp only []
  rw [e4, Option.bind_some]
  simp only []
  by_cases h : (A'.length : Int) = 0
  · rw [if_pos h]
    exact tail (gx (List.eq_nil_of_length_eq_zero (by omega)))
  · have hne : A' ≠ [] := fun z => h (by rw [z]; rfl)
    have hne2 : A ≠ [] := fun z => hne (by rw [← hC, z]; rfl)
    obtain ⟨r, r1, r2⟩ := fx hne2
    rw [if_neg h, wA.out hne, if_pos (by omega), if_pos (by omega), r1]
    by_cases hr : r < (N : Int)
    · rw [if_pos hr]
      exact tail (r2.1 hr)
    · rw [if_neg hr]
      exact en1 false ⟨fun z => absurd z Bool.false_ne_true, fun z => absurd (r2.2 z.1) hr⟩

theorem ints_add (l : List Nat) (i : Nat) : intsZ (l ++ [i]) = intsZ l ++ [(i : Int)] := by unfold intsZ; rw [List.map_append]; rfl
theorem widths_l0 (a0 a1 : Int) (N M : Nat) (nm : 4 ≤ N ∧ N ≤ 32 ∧ 16 ≤ M ∧ M ≤ 96) (d : Nat) : ∀ (K i : Nat), i + d = 32 → 903 + d ≤ K →
    purlinlaw11_GroupWidths.l0 K a0 a1 N M (intsZ (F (pW a0) i)) (intsZ (F (qW a1) (3 * i))) (i : Int) = some true := by
  induction d with
  | zero =>
    intro K i hi hK
    obtain ⟨k, rfl⟩ : ∃ m, K = m + 1 + 1 + 1 := ⟨K - 3, by omega⟩
    obtain rfl : i = 32 := by omega
    exact widths_all a0 a1 N M nm k (by omega)
  | succ d ih =>
    intro K i hi hK
    obtain ⟨K, rfl⟩ : ∃ m, K = m + 1 := ⟨K - 1, by omega⟩
    have ih := ih K (i + 1) (by omega) (by omega)
    have lx := F_len (pW a0) i
    have ly := F_len (qW a1) (3 * i)
    have lx2 := ints_len (F (pW a0) i)
    have ly2 := ints_len (F (qW a1) (3 * i))
    rw [q_step, F_succ] at ih
    generalize F (pW a0) i = A at *
    generalize F (qW a1) (3 * i) = B at *
    have hA : (intsZ A).length < 17592186044416 := by omega
    have hB : (intsZ B).length < 17592186044416 := by omega
    have w : wrap64 ((i : Int) + 1) = ((i + 1 : Nat) : Int) := wrap64_is (by omega) (by omega)
    have w3 : wrap64 (3 * (i : Int)) = ((3 * i : Nat) : Int) := wrap64_is (by omega) (by omega)
    have c1 : (i : Int) < 32 := by omega
    have c2 : 0 ≤ (i : Int) := by omega
    have p1 : (Go.bits .and .i64 (shr .i64 a0 (i : Int)) 1 = 1) ↔ pW a0 i = true := by unfold pW; exact decide_eq_true_iff.symm
    have p2 : (Go.bits .and .i64 (shr .i64 a1 (i : Int)) 1 = 1) ↔ pW a1 i = true := by unfold pW; exact decide_eq_true_iff.symm
    simp only [purlinlaw11_GroupWidths.l0]
    rw [if_pos c1, if_pos c2, w, w3]
    by_cases h1 : pW a0 i = true
    · rw [if_pos (p1.2 h1), if_pos hA, Option.bind_some]
      rw [if_pos h1, ints_add] at ih
      by_cases h2 : pW a1 i = true
      · rw [if_pos (p2.2 h2), if_pos hB]
        rw [if_pos h2, ints_add] at ih
        exact ih
      · rw [if_neg fun z => h2 (p2.1 z)]
        rw [if_neg h2, List.append_nil] at ih
        exact ih
    · rw [if_neg fun z => h1 (p1.1 z)]
      rw [if_neg h1, List.append_nil] at ih
      by_cases h2 : pW a1 i = true
      · rw [if_pos (p2.2 h2), if_pos hB]
        rw [if_pos h2, ints_add] at ih
        exact ih
      · rw [if_neg fun z => h2 (p2.1 z)]
        rw [if_neg h2, List.append_nil] at ih
        exact ih

theorem GroupWidths : purlinlaw11_GroupWidths.Pure := by
  intro a0 a1 a2 a3 _ _ _ _
  refine ⟨1000, ?_⟩
  obtain ⟨t, ht, t0, t1⟩ := Low_is a2 29 (by omega) (by omega)
  obtain ⟨s, hs, s0, s1⟩ := Low_is a3 81 (by omega) (by omega)
  obtain ⟨N, hN⟩ := Int.eq_ofNat_of_zero_le (show 0 ≤ 4 + t by omega)
  obtain ⟨M, hM⟩ := Int.eq_ofNat_of_zero_le (show 0 ≤ 16 + s by omega)
  have e := widths_l0 a0 a1 N M (by omega) 32 1000 0 (by omega) (by omega)
  unfold purlinlaw11_GroupWidths.f
  rw [ht, Option.bind_some, hs, Option.bind_some, hN, hM, wrap64_is (x := (N : Int)) (by omega) (by omega), wrap64_is (x := (M : Int)) (by omega) (by omega)]
  exact e

end Go.Proofs.Ytnhpmmmkcemnmaa.Pure
