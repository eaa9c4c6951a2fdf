/- inode.number: its walk, by hand. -/
import Derived.Test.YtnhpmmmkcemnmaaHn
namespace Go.Proofs.Ytnhpmmmkcemnmaa.Pc
open Go.RowKit Go.Proofs.YtnhpmmmkcemnmaaW.PrintWords Go.Proofs.YtnhpmmmkcemnmaaW.PrintLast Go.Proofs.YtnhpmmmkcemnmaaW.PrintMore
set_option linter.unusedVariables false
set_option linter.unusedSimpArgs false

/-- A variable that holds a slice. -/
def HS (w : World) (g : Nat) (v : Value) : Prop := w.heap[g]? = some (.cells #[v] 22 (0, 0))
theorem HS.lt {w : World} {g : Nat} {v : Value} (h : HS w g v) : g < w.heap.size := blk_lt h
theorem HS.below {w w1 : World} {g : Nat} {v : Value} (h : HS w g v) (hb : Below w.heap.size w w1) : HS w1 g v := (hb.block g h.lt).trans h
theorem HS.grown {w w1 : World} {g : Nat} {v : Value} {row : Option Nat} (h : HS w g v) (hg : w.grownBy w1 row) (hne : some g ≠ row) : HS w1 g v := blk_grown h hg hne
theorem HS.cell {w : World} {g : Nat} {v : Value} (h : HS w g v) : w.cell? ⟨g, 0, none⟩ = some v := (blk_cell h 0).trans rfl
theorem HS.frozen {w : World} {g : Nat} {v : Value} (h : HS w g v) : w.frozen? ⟨g, 0, none⟩ = false := blk_frozen h 0
theorem HS.set_ {w : World} {g : Nat} {v : Value} (h : HS w g v) (u : Value) : HS (w.setCell ⟨g, 0, none⟩ u) g u := blk_set h 0 u
section
variable {ops : Array Oper} {rest : List Oper} {o : Oper} {a : Act} {Q : Exit → Act → World → Prop}
theorem store_slice_event {w0 W : World} (hgd : o.guard = none) (hd : o.dst = none) (p : Tmp) (v : Operand) (ho : o.op = .store 22 (.tmp p) v) {g : Nat} {u : Value} (hb : HS W g u) (A : Option Addr) (n c : Nat) (hp : a.eval (.tmp p) = .pointer (some ⟨g, 0, none⟩)) (hv : a.eval v = .slice A n c)
    (hg : w0.heap.size ≤ g) (HB : Below w0.heap.size w0 W) (h : ∀ w1, HS w1 g (.slice A n c) → W.grownBy w1 (some g) → Below w0.heap.size w0 w1 → wpList Try.prog ops Q rest a w1) : wpList Try.prog ops Q (o :: rest) a W := by
  have hc := hb.cell
  have hf := hb.frozen
  refine store_event hgd ho hd (w1 := W.setCell ⟨g, 0, none⟩ (.slice A n c)) ?_ (fun w' e => e ▸ h _ (hb.set_ _) ⟨rfl, rfl, rfl, by simp [World.setCell], fun k hk hne => Below.heap_setCell W _ _ k (fun e => hne (by rw [e]))⟩ (HB.setCell hg _))
  unfold execOp
  simp only [ho]
  simp only [hp, hv]
  simp [go_sem, stored, hc, hf]
end
def numZ (x : List Int) (off m : Nat) : Int := (List.range m).foldl (fun a j => a * 256 + x.getD (off + j) 0) 0
theorem numZ_succ (x : List Int) (off m : Nat) : numZ x off (m + 1) = numZ x off m * 256 + x.getD (off + m) 0 := by
  unfold numZ
  rw [List.range_succ, List.foldl_append]
  rfl
theorem numZ_range {x : List Int} (hx : By x) (off : Nat) : ∀ m, m ≤ 4 → 0 ≤ numZ x off m ∧ numZ x off m < 4294967296 ∧ (m ≤ 3 → numZ x off m < 16777216) ∧ (m ≤ 2 → numZ x off m < 65536) ∧ (m ≤ 1 → numZ x off m < 256) := by
  have h0 := hx.getD (off + 0)
  have h1 := hx.getD (off + 1)
  have h2 := hx.getD (off + 2)
  have h3 := hx.getD (off + 3)
  have z : numZ x off 0 = 0 := rfl
  have e1 : numZ x off 1 = numZ x off 0 * 256 + x.getD (off + 0) 0 := numZ_succ x off 0
  have e2 : numZ x off 2 = numZ x off 1 * 256 + x.getD (off + 1) 0 := numZ_succ x off 1
  have e3 : numZ x off 3 = numZ x off 2 * 256 + x.getD (off + 2) 0 := numZ_succ x off 2
  have e4 : numZ x off 4 = numZ x off 3 * 256 + x.getD (off + 3) 0 := numZ_succ x off 3
  intro m hm
  have : m = 0 ∨ m = 1 ∨ m = 2 ∨ m = 3 ∨ m = 4 := by omega
  rcases this with rfl | rfl | rfl | rfl | rfl <;> omega

set_option maxHeartbeats 3200000 in
set_option maxRecDepth 100000 in
theorem inode_number.calls (x : List Int) (g gx off n c m : Nat) (w0 w : World) (hv : HS w g (.slice (some ⟨gx, off, none⟩) n c)) (hcell : ∀ j, j < n → w.cell? ⟨gx, off + j, none⟩ = some (.int .u8 (x.getD (off + j) 0))) (hx : By x) (hm : 0 < m ∧ m ≤ 4) (hmn : m ≤ n) (hmc : m < c) (hnc : n ≤ c) (hc0 : n ≤ 1000) (hne : g ≠ gx)
    (hg : w0.heap.size ≤ g) (hB : Below w0.heap.size w0 w) :
    Calls Try.prog 81 #[.pointer (some ⟨g, 0, none⟩), .int .i64 (m : Int)] w fun e w' => e = .returned (.int .i64 (numZ x off m)) ∧ HS w' g (.slice (some ⟨gx, off + m, none⟩) (n - m) (c - m)) ∧ w.grownBy w' (some g) ∧ Below w0.heap.size w0 w' := by
  obtain ⟨i0, hi0, _, hsz0, _⟩ := info_parts info5
  have hcut1 := cut_to (P := Try.prog) 22 5 .i64 Try.underlying22 hi0 (some ⟨gx, off, none⟩) n c (m : Int) (by omega) (by omega) hnc
  have hcut2 := cut_from (P := Try.prog) 22 5 .i64 Try.underlying22 hi0 1 hsz0 (some ⟨gx, off, none⟩) n c (m : Int) (by omega) (by omega)
  rw [Int.toNat_natCast] at hcut1 hcut2
  have hne1 : ¬ c = m := by omega
  have hadd : (⟨gx, off, none⟩ : Addr).add (m * 1) = ⟨gx, off + m, none⟩ := by rw [Addr.add_mid, Nat.mul_one]
  rw [if_neg hne1, Option.map_some, hadd] at hcut2
  have HV := Aside0.mk hv
  have HCELL := Aside0.mk hcell
  have HX := Aside0.mk hx
  have HM := Aside0.mk hm
  have HMN := Aside0.mk hmn
  have HNE := Aside0.mk hne
  have HG := Aside0.mk hg
  have HB := Aside0.mk hB
  have d0 : (m : Int) ≤ 4 := by omega
  have d1 : (0 : Int) ≤ (m : Int) := by omega
  have hc := hv.cell
  clear hv hcell hx hm hmn hne hg hB hmc hnc hc0 hne1 hadd hi0 hsz0
  go_enter Try.func81, Try.ntmps81
  go_wp2
  go_loopg [5, 14] m (fun gk v5 v14 w' => ∃ k : Nat, v14 = .int .i64 (k : Int) ∧ v5 = .int .i64 (numZ x off k) ∧ Aside0 (k + gk = m) ∧ w' = w)
  case atStart => exact ⟨0, rfl, rfl, ⟨by omega⟩, rfl⟩
  case round =>
    obtain ⟨k, rfl, rfl, HK, rfl⟩ := hrel
    have hk := HK.out
    cases gk with
    | zero =>
      obtain rfl : k = m := by omega
      have d2 : decide ((k : Int) < (k : Int)) = false := decide_eq_false (by omega)
      have d3 : decide (k < k) = false := decide_eq_false (by omega)
      clear hk
      go_wp2_with (first | ((with_reducible refine gate_store (t := 22) (p := 30) rfl ?_); refine store_slice_event (w0 := w0) rfl rfl 30 _ rfl HV.out (some ⟨gx, off + k, none⟩) (n - k) (c - k) rfl rfl HG.out HB.out ?_; intro w1 hs hgr hb; have HS1 := Aside0.mk hs; have GR1 := Aside0.mk hgr; have B1 := Aside0.mk hb; clear hs hgr hb))
      go_ret
      exact ⟨rfl, HS1.out, GR1.out, B1.out⟩
    | succ j =>
      have hkm : k < m := by omega
      have d2 : decide ((k : Int) < (m : Int)) = true := decide_eq_true (by omega)
      have d3 : decide (k < m) = true := decide_eq_true hkm
      have d4 : (0 : Int) ≤ (k : Int) := by omega
      have d5 : (k : Int) < (m : Int) := by omega
      have hmm := HM.out
      have hcl := HCELL.out k (by have := HMN.out; omega)
      obtain ⟨hr0, _, hr3, _, _⟩ := numZ_range HX.out off k (by omega)
      have hr3 := hr3 (by omega)
      have hq := HX.out.getD (off + k)
      have hns := Aside0.mk (numZ_succ x off k)
      have HNS := hns
      obtain ⟨p, hp⟩ : ∃ p, p = numZ x off k := ⟨_, rfl⟩
      obtain ⟨q, hqq⟩ : ∃ q, q = x.getD (off + k) 0 := ⟨_, rfl⟩
      rw [← hp] at hr0 hr3
      rw [← hqq] at hq hcl
      rw [← hp, ← hqq] at HNS
      rw [← hp]
      have e1 : bits .or .i64 (p * 256) q = p * 256 + q := or8 p q hr0 (by omega) hq.1 hq.2
      have e2 : wrap64 (p * 256) = p * 256 := by unfold wrap64; omega
      have e3 : p * 256 ≤ 4294967296 := by omega
      obtain ⟨q0, q1⟩ := hq
      clear hp hqq hk hmm hns
      go_wp2
      go_roundg j
      case measure => have := HK.out; omega
      case rel => exact ⟨k + 1, by first | rfl | go_num, by rw [HNS.out], ⟨by have := HK.out; omega⟩, rfl⟩
end Go.Proofs.Ytnhpmmmkcemnmaa.Pc
