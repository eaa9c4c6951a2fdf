/- Small lemmas on rows of bytes that are known whole: read, owned, made, copied into. -/
import Derived.Test.YtnhpmmmkcemnmaaPcx0
import Derived.Lib.SliceRun
import Derived.Laws.CopyOwn
import Derived.Lib.SlBytesConst
namespace Go.Proofs.Ytnhpmmmkcemnmaa.Pc
open Go.RowKit Go.Proofs.YtnhpmmmkcemnmaaW.PrintWords Go.Proofs.YtnhpmmmkcemnmaaW.PrintLast Go.Proofs.YtnhpmmmkcemnmaaW.PrintMore
set_option linter.unusedVariables false
set_option linter.unusedSimpArgs false

/-- A block of bytes that is known whole. -/
def HB8 (w : World) (g : Nat) (cur : List Int) : Prop := w.heap[g]? = some (.cells (nums .u8 cur).toArray 5 (0, 0))

theorem HB8.lt {w : World} {g : Nat} {cur : List Int} (h : HB8 w g cur) : g < w.heap.size := blk_lt h
theorem HB8.below {w w1 : World} {g : Nat} {cur : List Int} (h : HB8 w g cur) (hb : Below w.heap.size w w1) : HB8 w1 g cur := (hb.block g h.lt).trans h
theorem HB8.grown {w w1 : World} {g : Nat} {cur : List Int} {row : Option Nat} (h : HB8 w g cur) (hg : w.grownBy w1 row) (hne : some g ≠ row) : HB8 w1 g cur := blk_grown h hg hne
theorem HB8.kept {w w1 : World} {g : Nat} {cur : List Int} {S : Nat → Prop} (h : HB8 w g cur) (hk : Kept w w1 S) (hne : ¬ S g) : HB8 w1 g cur := (hk.2 g h.lt hne).trans h
theorem HB8.drewN {w : World} {g : Nat} {cur : List Int} (h : HB8 w g cur) (n : Nat) : HB8 (w.drewN n) g cur := h
theorem HB8.cell {w : World} {g : Nat} {cur : List Int} (h : HB8 w g cur) (i : Nat) (hi : i < cur.length) : w.cell? ⟨g, i, none⟩ = some (.int .u8 (cur.getD i 0)) := by
  rw [blk_cell h i]
  simp [nums, hi, List.getD_eq_getElem?_getD]
theorem HB8.frozen {w : World} {g : Nat} {cur : List Int} (h : HB8 w g cur) (i : Nat) : w.frozen? ⟨g, i, none⟩ = false := blk_frozen h i
theorem HB8.set_ {w : World} {g : Nat} {cur : List Int} (h : HB8 w g cur) (i : Nat) (x : Int) : HB8 (w.setCell ⟨g, i, none⟩ (.int .u8 x)) g (cur.set i x) := by
  have := blk_set h i (.int .u8 x)
  unfold HB8
  rw [this]
  simp [nums, List.map_set]
/-- A part of it is read. -/
theorem HB8.reads {w : World} {g : Nat} {cur : List Int} (h : HB8 w g cur) (lo n : Nat) (hn : lo + n ≤ cur.length) (hm : n ≤ 9223372036854775807) : Kd.C (Kd.int .u8) w (some ⟨g, lo, none⟩) n ((cur.drop lo).take n) := by
  refine Kd.C_of_reads (d := 0) ⟨by simp; omega, hm, fun _ => ⟨_, rfl, fun j hj => ?_⟩⟩
  have h1 : (⟨g, lo, none⟩ : Addr).add j = ⟨g, lo + j, none⟩ := by unfold Addr.add; split <;> simp_all
  rw [h1, h.cell (lo + j) (by omega)]
  simp [List.getD_eq_getElem?_getD, List.getElem?_drop, hj]
/-- Its front, with the rest as spare room, is a row of the call's own. -/
theorem HB8.owned {w : World} {g : Nat} {cur : List Int} (h : HB8 w g cur) (n : Nat) (hn : n ≤ cur.length) (hm : cur.length ≤ 9223372036854775807) {base : Nat} {ok : Nat → Prop} (hb : base ≤ g) (hok : ok g) :
    Kd.R (Kd.int .u8) 5 w base ok (.slice (some ⟨g, 0, none⟩) n cur.length) (cur.take n) := by
  have hl : (cur.take n).length = n := by simp; omega
  refine Kd.R_of_own (enc := Value.int .u8) (h1 := fun _ => rfl) ?_ (fun k hk => ?_)
  · rw [hl]
    refine ⟨by simp [encs]; omega, .inr ⟨g, cur.length, _, rfl, hb, h, hn, by simpa [maxLen] using hm, by simp [nums], ?_⟩⟩
    simp [nums, encs, List.map_take]
  · have : g = k := by simpa [Value.ownBlock] using hk
    subst this
    exact hok
theorem make_bytes (n c : Nat) (hnc : n ≤ c) (hc : c ≤ 281474976710656) (W : World) :
    (Instr.makeSlice 22 (.int .i64 (n : Int)) (.int .i64 (c : Int))).run Try.prog W = .ok (.slice (some ⟨W.heap.size, 0, none⟩) n c) (W.alloc (.cells (nums .u8 (List.replicate c 0)).toArray 5)) := by
  obtain ⟨i0, hi, hz0, hz1, hz2⟩ := info_parts info5
  have hr := run_make (P := Try.prog) W 22 5 i0 (.int .u8 0) Try.underlying22 hi hz0 .i64 .i64 (n : Int) (c : Int) (by omega) (by omega) (by rw [hz2]; omega) (by omega)
  rw [hr, hz1]
  simp only [Int.toNat_natCast, Nat.mul_one]
  have : madeCells (Value.int .u8 0).cells c = (nums .u8 (List.replicate c 0)).toArray := by
    apply Array.toList_inj.1
    rw [show (Value.int .u8 0).cells = #[Value.int .u8 0] from rfl, toList_madeCells_one]
    simp [nums]
  rw [this]
theorem HB8.new_ (W : World) (cur : List Int) : HB8 (W.alloc (.cells (nums .u8 cur).toArray 5)) W.heap.size cur := heap_alloc_new W _
/-- A cut xs[lo:hi] at literals: where it lies, and that it reads. -/
theorem cut_bytes (A : Option Addr) (c : Nat) (xs : List Int) (lo hi : Nat) (h1 : lo ≤ hi) (h2 : hi ≤ xs.length) (hc : xs.length ≤ c) :
    ∃ A' : Option Addr, (∀ W : World, (Instr.slice 22 (.slice A xs.length c) (some (.int .i64 (lo : Int))) (some (.int .i64 (hi : Int))) none).run Try.prog W = .ok (.slice A' (hi - lo) (c - lo)) W) ∧
      ∀ w : World, Kd.C (Kd.int .u8) w A xs.length xs → Kd.C (Kd.int .u8) w A' (hi - lo) ((xs.take hi).drop lo) := by
  obtain ⟨i0, hi0, _, hsz, _⟩ := info_parts info5
  obtain ⟨A', hcut, hA, hC⟩ := print_mid_of (P := Try.prog) (Value.int .u8) 0 22 5 .i64 .i64 Try.underlying22 hi0 hsz A c xs (lo : Int) (hi : Int) (by omega) (by omega) (by omega) hc
  simp only [Int.toNat_natCast] at hcut hA
  have hl : ((xs.take hi).drop lo).length = hi - lo := by simp; omega
  refine ⟨A', fun W => ?_, fun w h => ?_⟩
  · rw [hcut W, hl]
  · have := Kd.C_of_reads (h1 := fun _ => rfl) (hA w (Kd.reads_of_C h))
    rw [← hl]
    exact this
section
variable {ops : Array Oper} {rest : List Oper} {o : Oper} {a : Act} {Q : Exit → Act → World → Prop}
/-- make([]byte, n, c), as an event. -/
theorem make_bytes_event {w0 W : World} (hgd : o.guard = none) {N : Tmp} (hd : o.dst = some N) (x y : Operand) (ho : o.op = .makeSlice 22 x y) (n c : Nat) (hx : a.eval x = .int .i64 (n : Int)) (hy : a.eval y = .int .i64 (c : Int))
    (hnc : n ≤ c) (hc : c ≤ 281474976710656) (HB : Below w0.heap.size w0 W)
    (h : ∀ g w1, W.heap.size = g → HB8 w1 g (List.replicate c 0) → Below W.heap.size W w1 → Below w0.heap.size w0 w1 → wpList Try.prog ops Q rest (a.put o.dst (.slice (some ⟨g, 0, none⟩) n c)) w1) : wpList Try.prog ops Q (o :: rest) a W := by
  refine Kd.event_run hgd (w1 := W.alloc (.cells (nums .u8 (List.replicate c 0)).toArray 5)) ?_ (h _ _ rfl (HB8.new_ W _) (below_alloc (Below.refl _ _) _) (below_alloc HB _))
  simp [execOp, ho, hx, hy, make_bytes n c hnc hc W]
/-- A store into a block known whole, as an event. -/
theorem store_bytes_event {w0 W : World} (hgd : o.guard = none) (hd : o.dst = none) (p : Tmp) (v : Operand) (ho : o.op = .store 5 (.tmp p) v) {g : Nat} {cur : List Int} (hb : HB8 W g cur) (i : Nat) (hi : i < cur.length) (x : Int)
    (hp : a.eval (.tmp p) = .pointer (some ⟨g, i, none⟩)) (hv : a.eval v = .int .u8 x) (hg : w0.heap.size ≤ g) (HB : Below w0.heap.size w0 W)
    (h : ∀ w1, HB8 w1 g (cur.set i x) → W.grownBy w1 (some g) → Below w0.heap.size w0 w1 → wpList Try.prog ops Q rest a w1) : wpList Try.prog ops Q (o :: rest) a W := by
  have hc := hb.cell i hi
  have hf := hb.frozen i
  refine store_event hgd ho hd (w1 := W.setCell ⟨g, i, none⟩ (.int .u8 x)) ?_ (fun w' e => e ▸ h _ (hb.set_ i x) ?_ (HB.setCell hg _))
  · unfold execOp
    simp only [ho]
    simp only [hp, hv]
    simp [go_sem, stored, hc, hf]
  · exact ⟨rfl, rfl, rfl, by simp [World.setCell], fun k hk hne => Below.heap_setCell W _ _ k (fun e => hne (by rw [e]))⟩
/-- copy(dst, src) into a block known whole. -/
theorem copy_bytes_event {w0 W : World} (hgd : o.guard = none) (d s : Operand) (ho : o.op = .call { callee := .builtin .copy, args := #[d, s], argTypes := #[22, 22] })
    (dp sp : Option Addr) (dLen dCap sLen sCap : Nat) (hd : a.eval d = .slice dp dLen dCap) (hs : a.eval s = .slice sp sLen sCap) (g off : Nat) (cur ys : List Int) (hb : HB8 W g cur)
    (hdp : 0 < min sLen dLen → dp = some ⟨g, off, none⟩) (hr : Kd.C (Kd.int .u8) W sp sLen ys) (hfit : off + min sLen dLen ≤ cur.length) (hg : w0.heap.size ≤ g) (HB : Below w0.heap.size w0 W)
    (h : ∀ w1, HB8 w1 g (cur.take off ++ (ys.take (min sLen dLen) ++ cur.drop (off + min sLen dLen))) → Below w0.heap.size w0 w1 → wpList Try.prog ops Q rest (a.put o.dst (goInt ((min sLen dLen : Nat) : Int))) w1) : wpList Try.prog ops Q (o :: rest) a W := by
  have hR := Kd.reads_of_C (d := 0) hr
  have hm : ys.length = sLen := hR.1
  have hlen : (nums .u8 (ys.take (min sLen dLen))).length = min sLen dLen := by simp [nums]; omega
  refine wpList_copy_splice hgd d s 22 22 ho 5 Try.underlying22 (by
      obtain ⟨i0, hi, hz0, hz1, hz2⟩ := info_parts info5
      rw [hi, Option.map_some, hz1]) dp sp dLen dCap sLen sCap hd hs g off (nums .u8 cur) 5 hb (nums .u8 (ys.take (min sLen dLen))) hlen (fun hp => ?_) (by rw [hlen]; simpa [nums] using hfit) ?_ w0.heap.size w0 HB hg (fun w' hw hB => ?_)
  · rw [hlen] at hp
    refine ⟨hdp hp, ?_⟩
    obtain ⟨ad, hA, hc⟩ := hR.2.2 (by omega)
    refine ⟨ad, hA, fun j u hu => ?_⟩
    have hj : j < min sLen dLen := by
      have := (List.getElem?_eq_some_iff.1 hu).1
      rwa [hlen] at this
    rw [hc j (by omega), ← hu]
    simp [nums, hj, List.getElem?_take, List.getElem?_eq_getElem (show j < ys.length by omega), List.getD_eq_getElem?_getD]
  · intro u hu
    simp only [nums, List.mem_map] at hu
    obtain ⟨q, _, rfl⟩ := hu
    rfl
  · rw [hlen]
    refine h w' ?_ hB
    have := hw.out
    unfold HB8
    rw [this]
    simp [splice, nums, List.map_take, List.map_drop, hlen]
    omega
end
end Go.Proofs.Ytnhpmmmkcemnmaa.Pc
