/- Rows of numbers by value (arrays, structs of numbers): loaded, indexed, stored, compared; two bytes appended. -/
import Derived.Test.YtnhpmmmkcemnmaaHa
import Derived.Deep.MidRow
import Derived.DeepKeys
import Derived.Laws.BitsLemmas
import Derived.IntWalk
import Derived.Deep.AppendLies
import Derived.Maps.AppendAt
namespace Go.Proofs.Ytnhpmmmkcemnmaa.Pc
open Go.RowKit Go.Proofs.YtnhpmmmkcemnmaaW.PrintWords Go.Proofs.YtnhpmmmkcemnmaaW.PrintLast Go.Proofs.YtnhpmmmkcemnmaaW.PrintMore
set_option linter.unusedVariables false
set_option linter.unusedSimpArgs false

/-- A type of n cells that is an array or a struct. -/
structure Row (t n : Nat) : Prop where
  kind : ∃ d, Try.prog.underlying t = some d ∧ d.isRow = true
  size : (Try.prog.info? t).map (·.size) = some n
theorem row49 : Row 49 12 := ⟨⟨_, Try.underlying49, rfl⟩, by kernel_rfl⟩
theorem row71 : Row 71 6 := ⟨⟨_, Try.underlying71, rfl⟩, by kernel_rfl⟩
theorem row73 : Row 73 11 := ⟨⟨_, Try.underlying73, rfl⟩, by kernel_rfl⟩
theorem row74 : Row 74 44 := ⟨⟨_, Try.underlying74, rfl⟩, by kernel_rfl⟩
theorem nums_one {k : IntKind} {xs : List Int} : (nums k xs).toArray.all (·.oneCell') = true := by
  refine all_oneCell_toArray (fun v hv => ?_)
  simp only [nums, List.mem_map] at hv
  obtain ⟨q, _, rfl⟩ := hv
  rfl
theorem nums_size (k : IntKind) (xs : List Int) : (nums k xs).toArray.size = xs.length := by simp [nums]
theorem HA.set_ {w : World} {g te : Nat} {k : IntKind} {cur : List Int} (h : HA w g te k cur) (i : Nat) (x : Int) : HA (w.setCell ⟨g, i, none⟩ (.int k x)) g te k (cur.set i x) := by
  have := blk_set h i (.int k x)
  unfold HA
  rw [this]
  simp [nums, List.map_set]
theorem HA.cell {w : World} {g te : Nat} {k : IntKind} {cur : List Int} (h : HA w g te k cur) (i : Nat) (hi : i < cur.length) : w.cell? ⟨g, i, none⟩ = some (.int k (cur.getD i 0)) := by
  rw [blk_cell h i]
  simp [nums, hi, List.getD_eq_getElem?_getD]
theorem HA.frozen {w : World} {g te : Nat} {k : IntKind} {cur : List Int} (h : HA w g te k cur) (i : Nat) : w.frozen? ⟨g, i, none⟩ = false := blk_frozen h i
theorem HA.far {w : World} {g te : Nat} {k : IntKind} {cur : List Int} (h : HA w g te k cur) {p : Addr} (hp : g ≠ p.block) (u : Value) : HA (w.setCell p u) g te k cur := blk_far h hp u
theorem HA.drewN {w : World} {g te : Nat} {k : IntKind} {cur : List Int} (h : HA w g te k cur) (n : Nat) : HA (w.drewN n) g te k cur := h
theorem HA.drew {w : World} {g te : Nat} {k : IntKind} {cur : List Int} (h : HA w g te k cur) : HA w.drew g te k cur := h
theorem HA.below0 {w w1 : World} {g te B : Nat} {k : IntKind} {cur : List Int} (h : HA w g te k cur) (hb : Below B w w1) (hg : g < B) : HA w1 g te k cur := (hb.block g hg).trans h
/-- It lies there, from an offset on. -/
theorem HA.range {w : World} {g te : Nat} {k : IntKind} {cur : List Int} (h : HA w g te k cur) (lo n : Nat) (hn : lo + n ≤ cur.length) : w.rangeAt g lo (nums k ((cur.drop lo).take n)) := by
  intro j v hv
  have hj : j < n := by
    have := (List.getElem?_eq_some_iff.1 hv).1
    simp [nums] at this
    omega
  rw [blk_cell h (lo + j), ← hv]
  simp [nums, List.getElem?_drop, hj]

/-! ### run equations -/
theorem load_row_run {W : World} {g te : Nat} {k : IntKind} {cur : List Int} (hb : HA W g te k cur) {ty : Nat} (hr : Row ty cur.length) :
    (Instr.loadAt ty (.pointer (some ⟨g, 0, none⟩))).run Try.prog W = .ok (.agg (nums k cur).toArray) W := by
  obtain ⟨d, hu, hd⟩ := hr.kind
  simp only [Instr.loadAt, Instr.sureAddr, Sem.run_bind, Sem.run_pure, Result.andThen_ok]
  exact run_loadVar_row W g te ty _ (0, 0) d hb hu (by cases d <;> simp_all) (by rw [hr.size, nums_size])
theorem load_mid_run {W : World} {g te : Nat} {k : IntKind} {cur : List Int} (hb : HA W g te k cur) {ty lo n : Nat} (hr : Row ty n) (hn : lo + n ≤ cur.length) :
    (Instr.loadAt ty (.pointer (some ⟨g, lo, none⟩))).run Try.prog W = .ok (.agg (nums k ((cur.drop lo).take n)).toArray) W := by
  obtain ⟨d, hu, hd⟩ := hr.kind
  exact run_loadAt_mid W g lo ty (nums k ((cur.drop lo).take n)) d (hb.range lo n hn) hu hd (by rw [hr.size]; simp [nums]; omega)
theorem store_row_run {W : World} {g te : Nat} {k : IntKind} {old new : List Int} (hb : HA W g te k old) {ty : Nat} (hr : Row ty new.length) (hl : old.length = new.length) :
    (Instr.storeAt ty (.pointer (some ⟨g, 0, none⟩)) (.agg (nums k new).toArray)).run Try.prog W = .ok () (W.setRow g (nums k new).toArray) := by
  simp only [Instr.storeAt, Instr.sureAddr, Sem.run_bind, Sem.run_pure, Result.andThen_ok]
  exact run_storeVar_row W g te ty _ _ hb (by rw [hr.size, nums_size]) (by rw [nums_size, nums_size, hl]) nums_one
theorem HA.setRow {w : World} {g te : Nat} {k : IntKind} {old : List Int} (h : HA w g te k old) (new : List Int) : HA (w.setRow g (nums k new).toArray) g te k new := setRow_heap w g _ _ te (0, 0) h
theorem HA.setRow_far {w : World} {g g' te : Nat} {k : IntKind} {old : List Int} (h : HA w g te k old) (hne : g ≠ g') (cs : Array Value) : HA (w.setRow g' cs) g te k old := (setRow_other w g' g cs hne).trans h
theorem grown_setRow (w : World) (g : Nat) (cs : Array Value) : w.grownBy (w.setRow g cs) (some g) := ⟨rfl, rfl, rfl, by simp [World.setRow], fun k hk hne => setRow_other w g k cs (fun e => hne (by rw [e]))⟩
theorem index_arr_run {t n : Nat} (hu : Try.prog.underlying t = some (.array n 3)) (xs : List Int) (i : Nat) (hi : i < n) (hx : xs.length = n) (W : World) :
    (Instr.index t (.agg (nums .i64 xs).toArray) (.int .i64 (i : Int))).run Try.prog W = .ok (.int .i64 (xs.getD i 0)) W := by
  have hp : Try.prog.plainKey 3 = true := by simp [Program.plainKey, Try.underlying3]
  have h0 : 0 ≤ (i : Int) ∧ (i : Int) < (n : Int) := by omega
  obtain ⟨i0, hi0, hz0, hz1, hz2⟩ := info_parts info3
  have hs : (sizeOf 3).run Try.prog W = .ok 1 W := by simp [sizeOf, typeInfo, hi0, hz1]
  have p1 : (part 3 (nums .i64 xs).toArray (i * 1)).run Try.prog W = .ok (.int .i64 (xs.getD i 0)) W := run_part_plain (P := Try.prog) W hp (by simp [nums, hx, hi, List.getD_eq_getElem?_getD, List.getElem?_eq_getElem (show i < xs.length by omega)])
  have hv : ¬ i = i + 1 := by omega
  simp [Instr.index, run_underlying hu, asIntOf, hi, Sem.run_bind, hs]
  simpa using p1

/-! ### as operations -/
theorem load_row_exec {W : World} {ev : Operand → Value} {o : Oper} {ty : Nat} {x : Operand} (ho : o.op = .load ty x) {g te : Nat} {k : IntKind} {cur : List Int} (hb : HA W g te k cur) (hx : ev x = .pointer (some ⟨g, 0, none⟩)) (hr : Row ty cur.length) :
    (execOp ev o).run Try.prog W = .ok (.value (.agg (nums k cur).toArray)) W := by
  unfold execOp
  simp only [ho, hx, load_row_run hb hr, Sem.run_bind, Sem.run_pure, Result.andThen_ok]
theorem store_row_exec {W : World} {ev : Operand → Value} {o : Oper} {ty : Nat} {x y : Operand} (ho : o.op = .store ty x y) {g te : Nat} {k : IntKind} {old new : List Int} (hb : HA W g te k old) (hx : ev x = .pointer (some ⟨g, 0, none⟩)) (hy : ev y = .agg (nums k new).toArray) (hr : Row ty new.length) (hl : old.length = new.length) :
    (execOp ev o).run Try.prog W = .ok .skip (W.setRow g (nums k new).toArray) := by
  unfold execOp
  simp only [ho, hx, hy, store_row_run hb hr hl, Sem.run_bind, Sem.run_pure, Result.andThen_ok]
theorem store_cell_exec {W : World} {ev : Operand → Value} {o : Oper} {x y : Operand} (ho : o.op = .store 3 x y) {g te : Nat} {cur : List Int} (hb : HA W g te .i64 cur) (i : Nat) (hi : i < cur.length) (u : Int) (hx : ev x = .pointer (some ⟨g, i, none⟩)) (hy : ev y = .int .i64 u) :
    (execOp ev o).run Try.prog W = .ok .skip (W.setCell ⟨g, i, none⟩ (.int .i64 u)) := by
  have hc := hb.cell i hi
  have hf := hb.frozen i
  unfold execOp
  simp only [ho]
  simp only [hx, hy]
  simp [go_sem, stored, hc, hf]
section
variable {ops : Array Oper} {rest : List Oper} {o : Oper} {a : Act} {Q : Exit → Act → World → Prop}
theorem load_row_event {W : World} (hgd : o.guard = none) {ty : Nat} (x : Operand) (ho : o.op = .load ty x) {g te : Nat} {k : IntKind} {cur : List Int} (hb : HA W g te k cur) (hx : a.eval x = .pointer (some ⟨g, 0, none⟩)) (hr : Row ty cur.length)
    (h : wpList Try.prog ops Q rest (a.put o.dst (.agg (nums k cur).toArray)) W) : wpList Try.prog ops Q (o :: rest) a W :=
  Kd.event_run hgd (load_row_exec ho hb hx hr) h
theorem store_row_event {w0 W : World} (hgd : o.guard = none) (hd : o.dst = none) {ty : Nat} (p : Tmp) (y : Operand) (ho : o.op = .store ty (.tmp p) y) {g te : Nat} {k : IntKind} {old new : List Int} (hb : HA W g te k old) (hx : a.eval (.tmp p) = .pointer (some ⟨g, 0, none⟩)) (hy : a.eval y = .agg (nums k new).toArray) (hr : Row ty new.length) (hl : old.length = new.length)
    (hg : w0.heap.size ≤ g) (HB : Below w0.heap.size w0 W)
    (h : ∀ w1, HA w1 g te k new → W.grownBy w1 (some g) → Below w0.heap.size w0 w1 → wpList Try.prog ops Q rest a w1) : wpList Try.prog ops Q (o :: rest) a W :=
  store_event hgd ho hd (store_row_exec ho hb hx hy hr hl) (fun w' e => e ▸ h _ (hb.setRow new) (grown_setRow W g _) (below_setRow HB hg _))
theorem store_cell_event {w0 W : World} (hgd : o.guard = none) (hd : o.dst = none) (p : Tmp) (y : Operand) (ho : o.op = .store 3 (.tmp p) y) {g te : Nat} {cur : List Int} (hb : HA W g te .i64 cur) (i : Nat) (hi : i < cur.length) (u : Int) (hx : a.eval (.tmp p) = .pointer (some ⟨g, i, none⟩)) (hy : a.eval y = .int .i64 u)
    (hg : w0.heap.size ≤ g) (HB : Below w0.heap.size w0 W)
    (h : ∀ w1, HA w1 g te .i64 (cur.set i u) → W.grownBy w1 (some g) → Below w0.heap.size w0 w1 → wpList Try.prog ops Q rest a w1) : wpList Try.prog ops Q (o :: rest) a W :=
  store_event hgd ho hd (store_cell_exec ho hb i hi u hx hy) (fun w' e => e ▸ h _ (hb.set_ i u) ⟨rfl, rfl, rfl, by simp [World.setCell], fun k hk hne => Below.heap_setCell W _ _ k (fun e => hne (by rw [e]))⟩ (HB.setCell hg _))
end

/-! ### bytes appended that were just built -/
theorem lit_reads (W : World) (ys : List Int) (hm : ys.length ≤ 1000000) : Kd.C (Kd.int .u8) (W.alloc (.cells (nums .u8 ys).toArray 5)) (some ⟨W.heap.size, 0, none⟩) ys.length ys := by
  have h := (HB8.new_ W ys).reads 0 ys.length (by omega) (by omega)
  rwa [List.drop_zero, List.take_length] at h
section
variable {ops : Array Oper} {rest : List Oper} {o : Oper} {a : Act} {Q : Exit → Act → World → Prop} {Kc : Act → World → Prop}
theorem append_lit_event {w0 W : World} (hgd : o.guard = none) (s x : Operand) (ho : o.op = .call { callee := .builtin .append, args := #[s, x], argTypes := #[22, 22] }) (v : Value) (xs ys : List Int) (hs : a.eval s = v) (hx : a.eval x = .slice (some ⟨W.heap.size, 0, none⟩) ys.length ys.length)
    (HO : Kd.R (Kd.int .u8) 5 W w0.heap.size (fun _ => True) v xs) (HB : Below w0.heap.size w0 W) (hl : xs.length + ys.length ≤ 1000000)
    (h : ∀ v1 w1, Kd.R (Kd.int .u8) 5 w1 w0.heap.size (fun _ => True) v1 (xs ++ ys) → Below w0.heap.size w0 w1 → (W.alloc (.cells (nums .u8 ys).toArray 5)).grownBy w1 v.ownBlock → (v1.ownBlock = v.ownBlock ∨ ∃ b, v1.ownBlock = some b ∧ W.heap.size ≤ b) → wpList Try.prog ops Q rest (a.put o.dst v1) w1) :
    wpList Try.prog ops Q (o :: rest) a (W.alloc (.cells (nums .u8 ys).toArray 5)) := by
  refine Kd.R_append_rows (Kd.int .u8) (w0 := w0) w0.heap.size hgd s x 22 5 (.int .u8 0) 1 ho Try.underlying22 info5 rfl (by decide) (by omega) v xs ys _ _ _ (fun _ => True) (fun _ => False) hs hx (Kd.R_alloc HO _) (lit_reads W ys (by omega)) (fun _ _ h => h) (fun _ h => h.elim) (fun _ _ => trivial) (below_alloc HB _) (below_alloc HB _).size (by omega) ?_
  intro v1 w1 ho1 hb1 hg1 hat1
  refine h v1 w1 ho1 hb1 hg1 ?_
  rcases hat1 with e | ⟨b, e1, e2⟩
  · exact .inl e
  · exact .inr ⟨b, e1, by simp at e2; omega⟩
theorem append_lit_step {w0 W : World} (hw : Region.wanted o (yielded ops a.tmps) = true) (s x : Operand) (ho : o.op = .call { callee := .builtin .append, args := #[s, x], argTypes := #[22, 22] }) (v : Value) (xs ys : List Int) (hs : a.eval s = v) (hx : a.eval x = .slice (some ⟨W.heap.size, 0, none⟩) ys.length ys.length)
    (HO : Kd.R (Kd.int .u8) 5 W w0.heap.size (fun _ => True) v xs) (HB : Below w0.heap.size w0 W) (hl : xs.length + ys.length ≤ 1000000)
    (h : ∀ v1 w1, Kd.R (Kd.int .u8) 5 w1 w0.heap.size (fun _ => True) v1 (xs ++ ys) → Below w0.heap.size w0 w1 → (W.alloc (.cells (nums .u8 ys).toArray 5)).grownBy w1 v.ownBlock → (v1.ownBlock = v.ownBlock ∨ ∃ b, v1.ownBlock = some b ∧ W.heap.size ≤ b) → Kc (a.put o.dst v1) w1) :
    if Region.wanted o (yielded ops a.tmps) = true then Oper.wp Try.prog o a (W.alloc (.cells (nums .u8 ys).toArray 5)) Kc Q else Kc (a.put o.dst undef) (W.alloc (.cells (nums .u8 ys).toArray 5)) := by
  refine Kd.R_append_rows_step (Kd.int .u8) (w0 := w0) w0.heap.size hw s x 22 5 (.int .u8 0) 1 ho Try.underlying22 info5 rfl (by decide) (by omega) v xs ys _ _ _ (fun _ => True) (fun _ => False) hs hx (Kd.R_alloc HO _) (lit_reads W ys (by omega)) (fun _ _ h => h) (fun _ h => h.elim) (fun _ _ => trivial) (below_alloc HB _) (below_alloc HB _).size (by omega) ?_
  intro v1 w1 ho1 hb1 hg1 hat1
  refine h v1 w1 ho1 hb1 hg1 ?_
  rcases hat1 with e | ⟨b, e1, e2⟩
  · exact .inl e
  · exact .inr ⟨b, e1, by simp at e2; omega⟩
end

section
variable {ops : Array Oper} {o : Oper} {a : Act} {Q : Exit → Act → World → Prop} {Kc : Act → World → Prop}
theorem skip_step {W w1 : World} (hw : Region.wanted o (yielded ops a.tmps) = true) (hrun : (execOp a.eval o).run Try.prog W = .ok .skip w1) (h : Kc (a.put o.dst undef) w1) : if Region.wanted o (yielded ops a.tmps) = true then Oper.wp Try.prog o a W Kc Q else Kc (a.put o.dst undef) W := by
  rw [if_pos hw]
  unfold Oper.wp
  rw [hrun]
  exact h
theorem store_cell_step {w0 W : World} (hw : Region.wanted o (yielded ops a.tmps) = true) (x y : Operand) (ho : o.op = .store 3 x y) {g te : Nat} {cur : List Int} (hb : HA W g te .i64 cur) (i : Nat) (hi : i < cur.length) (u : Int) (hx : a.eval x = .pointer (some ⟨g, i, none⟩)) (hy : a.eval y = .int .i64 u)
    (hg : w0.heap.size ≤ g) (HB : Below w0.heap.size w0 W)
    (h : ∀ w1, HA w1 g te .i64 (cur.set i u) → W.grownBy w1 (some g) → Below w0.heap.size w0 w1 → Kc (a.put o.dst undef) w1) :
    if Region.wanted o (yielded ops a.tmps) = true then Oper.wp Try.prog o a W Kc Q else Kc (a.put o.dst undef) W :=
  skip_step hw (store_cell_exec ho hb i hi u hx hy) (h _ (hb.set_ i u) ⟨rfl, rfl, rfl, by simp [World.setCell], fun k hk hne => Below.heap_setCell W _ _ k (fun e => hne (by rw [e]))⟩ (HB.setCell hg _))
end
/-- A row of bytes of the call's own, that is not empty: where it lies. -/
theorem R_at {w : World} {base : Nat} {ok : Nat → Prop} {v : Value} {xs : List Int} (h : Kd.R (Kd.int .u8) 5 w base ok v xs) (h0 : 0 < xs.length) :
    ∃ g cap, v = .slice (some ⟨g, 0, none⟩) xs.length cap ∧ g < w.heap.size ∧ base ≤ g ∧ xs.length ≤ cap ∧ ∀ i, i < xs.length → w.cell? ⟨g, i, none⟩ = some (.int .u8 (xs.getD i 0)) := by
  have ho := Kd.own_of_R h
  obtain ⟨g, cap, hv, hb, hlt⟩ := ho.form h0
  refine ⟨g, cap, hv, hlt, hb, ?_, fun i hi => ?_⟩
  · subst hv
    exact (Kd.R_reads' h).2.1
  · have := ho.cells (g := g) (by rw [hv]; rfl) i (Value.int .u8 (xs.getD i 0)) (by simp [encs, hi, List.getD_eq_getElem?_getD, List.getElem?_eq_getElem hi])
    rw [add_plain] at this
    exact this

theorem pw_cell {B : Nat} {w w' : World} (hb : Below B w w') {g i : Nat} {v : Value} (hc : w.cell? ⟨g, i, none⟩ = some v) (hg : g < B) : w'.cell? ⟨g, i, none⟩ = some v := (hb.cell (p := ⟨g, i, none⟩) hg).trans hc
theorem or8 (p q : Int) (h0 : 0 ≤ p) (h1 : p < 36028797018963968) (h2 : 0 ≤ q) (h3 : q < 256) : bits .or .i64 (p * 256) q = p * 256 + q :=
  bits_join .i64 63 (by decide) (fun n a b => IntWalk.i64_in n (by omega)) 8 (p * 256) q (by omega) (by omega) (by omega) h2 (by omega) (by omega)

theorem results_row {fn : Func} {p u : Tmp} {ty : TypeId} (h : fn.results = #[.cell p ty, .tmp u]) (tmps : Array Value) (w : World) {g te : Nat} {k : IntKind} {cur : List Int} (hb : HA w g te k cur) (hr : Row ty cur.length) (hp : tmps.getD p undef = .pointer (some ⟨g, 0, none⟩)) :
    (results fn tmps).run Try.prog w = .ok (.tuple #[.agg (nums k cur).toArray, tmps.getD u undef]) w := by
  obtain ⟨d, hu, hd⟩ := hr.kind
  exact results_ct h tmps w g te _ (0, 0) d hp hb hu (by cases d <;> simp_all) (by rw [hr.size, nums_size])

theorem grown_cell {w w' : World} {row : Option Nat} (hg : w.grownBy w' row) {g i : Nat} {v : Value} (hc : w.cell? ⟨g, i, none⟩ = some v) (hne : some g ≠ row) : w'.cell? ⟨g, i, none⟩ = some v :=
  (hg.cell_far ⟨g, i, none⟩ (World.block_lt_of_cell? w _ hc) hne).trans hc
theorem grown_drew {w w' : World} {row : Option Nat} (hg : w.grownBy w' row) : w.grownBy w'.drew row := ⟨hg.os, hg.tape, hg.output, hg.size, hg.block⟩
theorem grown_below {w w1 w2 : World} {row : Option Nat} (hg : w.grownBy w1 row) (hb : Below w1.heap.size w1 w2) : w.grownBy w2 row := hg.trans (grown_of_below hb row)

/-! ### deep equality -/
theorem eqAgg (t m : Nat) (hk : Try.prog.keyTypeAt m t = true) (hm : m ≤ 10000) (hw : (match Try.prog.underlying t with | some (.array _ _) | some (.struct _) => true | _ => false) = true) (W : World) (xs ys : List Int) {lx ly : List Lit}
    (fx : (Value.agg (nums .i64 xs).toArray).formed Try.prog t = true) (fy : (Value.agg (nums .i64 ys).toArray).formed Try.prog t = true) {D D' : Nat}
    (hx : Try.prog.keyLits D t (nums .i64 xs) = some lx) (hy : Try.prog.keyLits D' t (nums .i64 ys) = some ly) (hxy : lx = ly ↔ xs = ys) :
    (Op.equal t (.agg (nums .i64 xs).toArray) (.agg (nums .i64 ys).toArray)).run Try.prog W = .ok (xs == ys) W := by
  obtain ⟨r, hr, hiff⟩ := run_equalIn_deep (P := Try.prog) (10000 - m) m t hk W D D' _ _ lx ly fx fy (by simpa [Value.cells] using hx) (by simpa [Value.cells] using hy)
  rw [show 10000 - m + m = 10000 by omega] at hr
  unfold Op.equal Op.maxDepth
  rw [hr]
  congr 1
  rw [Bool.eq_iff_iff, hiff, hxy, beq_iff_eq]
section
variable {ops : Array Oper} {rest : List Oper} {o : Oper} {a : Act} {Q : Exit → Act → World → Prop}
/-- A store into a row of bytes of the call's own. -/
theorem store_own_event {w0 W : World} (hgd : o.guard = none) (hd : o.dst = none) (p : Tmp) (v : Operand) (ho : o.op = .store 5 (.tmp p) v) {g n cap base : Nat} {ok : Nat → Prop} {xs : List Int} (hR : Kd.R (Kd.int .u8) 5 W base ok (.slice (some ⟨g, 0, none⟩) n cap) xs) (i : Nat) (hi : i < n) (x : Int)
    (hp : a.eval (.tmp p) = .pointer (some ⟨g, i, none⟩)) (hv : a.eval v = .int .u8 x) (hg : w0.heap.size ≤ g) (HB : Below w0.heap.size w0 W)
    (h : ∀ w1, Kd.R (Kd.int .u8) 5 w1 base ok (.slice (some ⟨g, 0, none⟩) n cap) (xs.set i x) → W.grownBy w1 (some g) → Below w0.heap.size w0 w1 → wpList Try.prog ops Q rest a w1) : wpList Try.prog ops Q (o :: rest) a W := by
  obtain ⟨hc, hf⟩ := Kd.R_celln (enc := Value.int .u8) (h1 := fun _ => rfl) (0 : Int) hR (i : Int) (by omega) (by omega)
  have hP := Kd.R_putg (enc := Value.int .u8) (h1 := fun _ => rfl) hR (i : Int) x
  rw [Int.toNat_natCast] at hc hf hP
  refine store_event hgd ho hd (w1 := W.setCell ⟨g, i, none⟩ (.int .u8 x)) ?_ (fun w' e => e ▸ h _ hP.1 hP.2 (HB.setCell hg _))
  unfold execOp
  simp only [ho]
  simp only [hp, hv]
  simp [go_sem, stored, hc, hf]
end
/-- A type of n numbers whose values are compared number by number. -/
structure EqRow (t n : Nat) : Prop where
  eq : ∀ (W : World) (xs ys : List Int), xs.length = n → ys.length = n → (Op.equal t (.agg (nums .i64 xs).toArray) (.agg (nums .i64 ys).toArray)).run Try.prog W = .ok (xs == ys) W
  guard : Try.prog.eqGuardType Try.prog.depth t = false
theorem eqrow49 : EqRow 49 12 := by
  obtain ⟨i0, hi, _, _, _⟩ := info_parts info3
  exact ⟨fun W xs ys h1 h2 => equal_arr W 49 3 .i64 12 i0 Try.underlying49 hi (by kernel_rfl) Try.underlying3 xs ys h1 h2, by kernel_rfl⟩
theorem eqrow71 : EqRow 71 6 := by
  obtain ⟨i0, hi, _, _, _⟩ := info_parts info3
  exact ⟨fun W xs ys h1 h2 => equal_arr W 71 3 .i64 6 i0 Try.underlying71 hi (by kernel_rfl) Try.underlying3 xs ys h1 h2, by kernel_rfl⟩
theorem eq_row_exec {W : World} {ev : Operand → Value} {o : Oper} {t rt : TypeId} {x y : Operand} {n : Nat} (ho : o.op = .binOp .eql t x y rt) (he : EqRow t n) (xs ys : List Int) (h1 : xs.length = n) (h2 : ys.length = n) (r : Bool) (hr : (xs == ys) = r) (hx : ev x = .agg (nums .i64 xs).toArray) (hy : ev y = .agg (nums .i64 ys).toArray) :
    (execOp ev o).run Try.prog W = .ok (.value (.bool r)) W := by
  subst hr
  have := he.eq W xs ys h1 h2
  have hg := run_eqGuard_agg (P := Try.prog) W .eql t x y (nums .i64 xs).toArray (nums .i64 ys).toArray he.guard
  simp [execOp, ho, hx, hy, binOp, this, hg, Result.andThen]
section
variable {ops : Array Oper} {rest : List Oper} {o : Oper} {a : Act} {Q : Exit → Act → World → Prop}
theorem eq_row_event {W : World} (hgd : o.guard = none) {t rt : TypeId} {n : Nat} (x y : Operand) (ho : o.op = .binOp .eql t x y rt) (he : EqRow t n) (xs ys : List Int) (h1 : xs.length = n) (h2 : ys.length = n) (r : Bool) (hr : (xs == ys) = r) (hx : a.eval x = .agg (nums .i64 xs).toArray) (hy : a.eval y = .agg (nums .i64 ys).toArray)
    (h : wpList Try.prog ops Q rest (a.put o.dst (.bool r)) W) : wpList Try.prog ops Q (o :: rest) a W :=
  Kd.event_run hgd (eq_row_exec ho he xs ys h1 h2 r hr hx hy) h
end
end Go.Proofs.Ytnhpmmmkcemnmaa.Pc
