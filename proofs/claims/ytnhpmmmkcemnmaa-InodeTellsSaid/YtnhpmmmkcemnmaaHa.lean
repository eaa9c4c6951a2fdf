/- Arrays of numbers in blocks of their own: made, copied into, loaded whole, compared. -/
import Derived.Test.YtnhpmmmkcemnmaaHw
import Derived.ChangeKeysEq
import Derived.Laws.Rows
namespace Go.Proofs.Ytnhpmmmkcemnmaa.Pc
open Go.RowKit Go.Proofs.YtnhpmmmkcemnmaaW.PrintWords Go.Proofs.YtnhpmmmkcemnmaaW.PrintLast Go.Proofs.YtnhpmmmkcemnmaaW.PrintMore
set_option linter.unusedVariables false
set_option linter.unusedSimpArgs false

/-- A block of numbers that is known whole, with its type. -/
def HA (w : World) (g te : Nat) (k : IntKind) (cur : List Int) : Prop := w.heap[g]? = some (.cells (nums k cur).toArray te (0, 0))
theorem HA.lt {w : World} {g te : Nat} {k : IntKind} {cur : List Int} (h : HA w g te k cur) : g < w.heap.size := blk_lt h
theorem HA.below {w w1 : World} {g te : Nat} {k : IntKind} {cur : List Int} (h : HA w g te k cur) (hb : Below w.heap.size w w1) : HA w1 g te k cur := (hb.block g h.lt).trans h
theorem HA.grown {w w1 : World} {g te : Nat} {k : IntKind} {cur : List Int} {row : Option Nat} (h : HA w g te k cur) (hg : w.grownBy w1 row) (hne : some g ≠ row) : HA w1 g te k cur := blk_grown h hg hne

/-! ### compared -/
theorem eqItems_nums {w : World} (d e : Nat) (k : IntKind) (he : Try.prog.underlying e = some (.int k)) (xs ys : List Int) : ∀ is : List Nat, (∀ i ∈ is, i < xs.length ∧ i < ys.length) →
    (Op.eqItems (d + 1) e 1 (nums k xs).toArray (nums k ys).toArray is).run Try.prog w = .ok (is.all fun i => xs.getD i 0 == ys.getD i 0) w := by
  have hp : Try.prog.plainKey e = true := by simp [Program.plainKey, he]
  intro is
  induction is with
  | nil => intro _; simp [Op.eqItems]
  | cons i is ih =>
    intro h
    obtain ⟨h1, h2⟩ := h i List.mem_cons_self
    have ih := ih fun j hj => h j (List.mem_cons_of_mem _ hj)
    have p1 : (part e (nums k xs).toArray (i * 1)).run Try.prog w = .ok (.int k (xs.getD i 0)) w := run_part_plain (P := Try.prog) w hp (by simp [nums, h1, List.getD_eq_getElem?_getD])
    have p2 : (part e (nums k ys).toArray (i * 1)).run Try.prog w = .ok (.int k (ys.getD i 0)) w := run_part_plain (P := Try.prog) w hp (by simp [nums, h2, List.getD_eq_getElem?_getD])
    have p3 := run_equalIn_int (P := Try.prog) w d e k k (xs.getD i 0) (ys.getD i 0) he
    simp only [Op.eqItems, Sem.run_bind, p1, p2, p3, Result.andThen_ok, List.all_cons]
    cases hc : (xs.getD i 0 == ys.getD i 0)
    · simp
    · simpa using ih
theorem all_range (xs ys : List Int) (h : xs.length = ys.length) : ((List.range xs.length).all fun i => xs.getD i 0 == ys.getD i 0) = (xs == ys) := by
  rw [Bool.eq_iff_iff, List.all_eq_true, beq_iff_eq]
  constructor
  · intro g
    apply List.ext_getElem h
    intro i h1 h2
    have := g i (List.mem_range.2 h1)
    rw [beq_iff_eq, List.getD_eq_getElem?_getD, List.getD_eq_getElem?_getD, List.getElem?_eq_getElem h1, List.getElem?_eq_getElem h2] at this
    exact this
  · intro e i _
    rw [e, beq_self_eq_true]
theorem equal_arr (W : World) (t e : Nat) (k : IntKind) (n : Nat) (i : TypeInfo) (hu : Try.prog.underlying t = some (.array n e)) (hi : Try.prog.info? e = some i) (hc : Try.prog.cellsOf e = 1) (he : Try.prog.underlying e = some (.int k)) (xs ys : List Int) (h1 : xs.length = n) (h2 : ys.length = n) :
    (Op.equal t (.agg (nums k xs).toArray) (.agg (nums k ys).toArray)).run Try.prog W = .ok (xs == ys) W := by
  unfold Op.equal Op.maxDepth
  rw [run_equalIn_array (P := Try.prog) W 9999 _ _ hu hi, hc, eqItems_nums 9998 e k he xs ys (List.range n) (fun i hi => by have := List.mem_range.1 hi; omega), ← h1, all_range xs ys (by omega)]
section
variable {ops : Array Oper} {rest : List Oper} {o : Oper} {a : Act} {Q : Exit → Act → World → Prop}
theorem load_arr_event {W : World} (hgd : o.guard = none) (ty : TypeId) (x : Operand) (ho : o.op = .load ty x) {g te : Nat} {k : IntKind} {cur : List Int} (hb : HA W g te k cur) (n e : Nat) (hx : a.eval x = .pointer (some ⟨g, 0, none⟩))
    (hu : Try.prog.underlying ty = some (.array n e)) (hi : (Try.prog.info? ty).map (·.size) = some n) (hn : cur.length = n)
    (h : wpList Try.prog ops Q rest (a.put o.dst (.agg (nums k cur).toArray)) W) : wpList Try.prog ops Q (o :: rest) a W :=
  wpList_load_row hgd ty x ho g hx te _ (0, 0) (.array n e) hb hu rfl (by rw [hi]; simp [nums, hn]) h
theorem eq_arr_event {W : World} (hgd : o.guard = none) (t e : Nat) (k : IntKind) (n : Nat) (i : TypeInfo) (hu : Try.prog.underlying t = some (.array n e)) (hi : Try.prog.info? e = some i) (hc : Try.prog.cellsOf e = 1) (he : Try.prog.underlying e = some (.int k)) (hm : Try.prog.eqGuardType Try.prog.depth t = false) (x y : Operand) (rt : TypeId)
    (ho : o.op = .binOp .eql t x y rt) (xs ys : List Int) (h1 : xs.length = n) (h2 : ys.length = n) (hx : a.eval x = .agg (nums k xs).toArray) (hy : a.eval y = .agg (nums k ys).toArray)
    (h : wpList Try.prog ops Q rest (a.put o.dst (.bool (xs == ys))) W) : wpList Try.prog ops Q (o :: rest) a W := by
  refine Kd.event_run hgd (w1 := W) (v := .bool (xs == ys)) ?_ h
  have := equal_arr W t e k n i hu hi hc he xs ys h1 h2
  have hg := run_eqGuard_agg (P := Try.prog) W .eql t x y (nums k xs).toArray (nums k ys).toArray hm
  simp [execOp, ho, hx, hy, binOp, this, hg, Result.andThen]
theorem copy_arr_event {w0 W : World} (hgd : o.guard = none) (d s : Operand) (ho : o.op = .call { callee := .builtin .copy, args := #[d, s], argTypes := #[22, 22] }) (te : Nat)
    (dp sp : Option Addr) (dLen dCap sLen sCap : Nat) (hd : a.eval d = .slice dp dLen dCap) (hs : a.eval s = .slice sp sLen sCap) (g off : Nat) (cur ys : List Int) (hb : HA W g te .u8 cur)
    (hdp : 0 < min sLen dLen → dp = some ⟨g, off, none⟩) (hr : Kd.C (Kd.int .u8) W sp sLen ys) (hfit : off + min sLen dLen ≤ cur.length) (hg : w0.heap.size ≤ g) (HB : Below w0.heap.size w0 W)
    (h : ∀ w1, HA w1 g te .u8 (cur.take off ++ (ys.take (min sLen dLen) ++ cur.drop (off + min sLen dLen))) → (∀ q, q ≠ g → w1.heap[q]? = W.heap[q]?) → Below w0.heap.size w0 w1 → wpList Try.prog ops Q rest (a.put o.dst (goInt ((min sLen dLen : Nat) : Int))) w1) : wpList Try.prog ops Q (o :: rest) a W := by
  have hR := Kd.reads_of_C (d := 0) hr
  have hm : ys.length = sLen := hR.1
  have hlen : (nums .u8 (ys.take (min sLen dLen))).length = min sLen dLen := by simp [nums]; omega
  have hsz : (Try.prog.info? 5).map (·.size) = some 1 := by
    obtain ⟨i0, hi, hz0, hz1, hz2⟩ := info_parts info5
    rw [hi, Option.map_some, hz1]
  by_cases h0 : min sLen dLen = 0
  · refine wpList_copy_nothing hgd d s 22 22 ho 5 Try.underlying22 hsz dp sp dLen dCap sLen sCap hd hs h0 ?_
    have := h W (by rw [h0]; simpa using hb) (fun _ _ => rfl) HB
    rw [h0] at this
    exact this
  · obtain ⟨ad, hA, hc⟩ := hR.2.2 (by omega)
    have hsrc : ∀ j u, (nums .u8 (ys.take (min sLen dLen)))[j]? = some u → W.cell? (ad.add j) = some u := fun j u hu => by
      have hj : j < min sLen dLen := by
        have := (List.getElem?_eq_some_iff.1 hu).1
        rwa [hlen] at this
      rw [hc j (by omega), ← hu]
      simp [nums, hj, List.getElem?_take, List.getElem?_eq_getElem (show j < ys.length by omega), List.getD_eq_getElem?_getD]
    have hone : ∀ u ∈ nums .u8 (ys.take (min sLen dLen)), u.oneCell' = true := by
      intro u hu
      simp only [nums, List.mem_map] at hu
      obtain ⟨q, _, rfl⟩ := hu
      rfl
    have hdp' := hdp (by omega)
    subst hdp'
    subst hA
    refine wpList_copy_own hgd d s 22 22 ho 5 Try.underlying22 hsz g off dLen dCap ad sLen sCap hd hs (nums .u8 cur).toArray te hb (nums .u8 (ys.take (min sLen dLen))) hlen hsrc (by rw [hlen]; simpa [nums] using hfit) hone ?_
    rw [hlen]
    refine h _ ?_ (fun q hq => setRow_other _ _ _ _ hq) (below_setRow HB hg _)
    unfold HA
    rw [setRow_heap W g (nums .u8 cur).toArray _ te (0, 0) hb]
    simp [nums, splice, List.map_take, List.map_drop, List.append_assoc]
    try omega
end
end Go.Proofs.Ytnhpmmmkcemnmaa.Pc
