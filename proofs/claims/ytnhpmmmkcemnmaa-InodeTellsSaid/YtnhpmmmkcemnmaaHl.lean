/- What is lent: a block with three bytes of spare room, and whether they were kept. -/
import Derived.Test.YtnhpmmmkcemnmaaPcx5
import Derived.Test.YtnhpmmmkcemnmaaHw
namespace Go.Proofs.Ytnhpmmmkcemnmaa.Pc
open Go.RowKit Go.Proofs.YtnhpmmmkcemnmaaW.PrintWords Go.Proofs.YtnhpmmmkcemnmaaW.PrintLast Go.Proofs.YtnhpmmmkcemnmaaW.PrintMore
set_option linter.unusedVariables false
set_option linter.unusedSimpArgs false

theorem append_bytes (W : World) {g n : Nat} {cur ys : List Int} (hb : HB8 W g cur) (sp : Option Addr) (sc : Nat) (hr : Kd.C (Kd.int .u8) W sp ys.length ys) (hfit : n + ys.length ≤ cur.length) (ty : TypeId) :
    ∃ w1, (Builtin.append_ #[22, 22] ty #[.slice (some ⟨g, 0, none⟩) n cur.length, .slice sp ys.length sc]).run Try.prog W = .ok (.slice (some ⟨g, 0, none⟩) (n + ys.length) cur.length) w1 ∧
      HB8 w1 g (cur.take n ++ (ys ++ cur.drop (n + ys.length))) ∧ ∀ B w0, B ≤ g → Below B w0 W → Below B w0 w1 := by
  obtain ⟨i0, hi, hz0, hz1, hz2⟩ := info_parts info5
  have hR := Kd.reads_of_C (d := 0) hr
  cases sp with
  | none =>
    have hy : ys = [] := by
      by_cases h : 0 < ys.length
      · obtain ⟨ad, hA, _⟩ := hR.2.2 h
        simp at hA
      · exact List.eq_nil_of_length_eq_zero (by omega)
    subst hy
    refine ⟨W, ?_, ?_, fun B w0 _ h => h⟩
    · have hn : n ≤ cur.length := by simpa using hfit
      simp [Builtin.append_, run_underlying Try.underlying22, sizeOf, typeInfo, hi, Builtin.lenOf, Builtin.firstCells, hn, storeCells]
    · simpa using hb
  | some ad =>
    have hlen : (nums .u8 ys).length = ys.length := by simp [nums]
    have h := run_append_room (P := Try.prog) W 22 ty 5 i0 Try.underlying22 hi g n cur.length (nums .u8 cur).toArray hb ad ys.length sc (nums .u8 ys) (by rw [hlen, hz1, Nat.mul_one])
      (fun j u hu => by
        have hj : j < ys.length := by
          have := (List.getElem?_eq_some_iff.1 hu).1
          rwa [hlen] at this
        obtain ⟨ad', hA, hc⟩ := hR.2.2 (by omega)
        obtain rfl := Option.some.inj hA
        rw [hc j hj, ← hu]
        simp [nums, List.getElem?_eq_getElem hj, List.getD_eq_getElem?_getD])
      (fun u hu => by
        simp only [nums, List.mem_map] at hu
        obtain ⟨q, _, rfl⟩ := hu
        rfl) hfit (by rw [hlen, hz1]; simpa [nums] using hfit)
    refine ⟨_, h, ?_, fun B w0 hB h0 => below_setRow h0 hB _⟩
    have := setRow_heap W g (nums .u8 cur).toArray ((nums .u8 cur).toArray.toList.take (n * i0.size) ++ nums .u8 ys ++ (nums .u8 cur).toArray.toList.drop (n * i0.size + (nums .u8 ys).length)).toArray 5 (0, 0) hb
    unfold HB8
    rw [this]
    simp [nums, hz1, List.map_take, List.map_drop]
theorem cut_spare (W : World) (g n c : Nat) (hc : n + 3 ≤ c) (hm : c ≤ 1000000) :
    (Instr.slice 22 (.slice (some ⟨g, 0, none⟩) n c) (some (.int .i64 (n : Int))) (some (.int .i64 ((n + 3 : Nat) : Int))) none).run Try.prog W = .ok (.slice (some ⟨g, n, none⟩) 3 (c - n)) W := by
  obtain ⟨i0, hi, hz0, hz1, hz2⟩ := info_parts info5
  have hel : Try.prog.elem 22 = 5 := by simp [Program.elem, Try.underlying22]
  have hu : Try.prog.underlying 22 = some (.slice (Try.prog.elem 22)) := by rw [hel]; exact Try.underlying22
  have ha : (⟨g, 0, none⟩ : Addr).add n = ⟨g, n, none⟩ := by unfold Addr.add; simp; intro h; exact h.symm
  rw [run_slice_lh W 22 (some ⟨g, 0, none⟩) n c hu .i64 .i64 (n : Int) ((n + 3 : Nat) : Int) (by omega) (by omega) (by omega), hel]
  simp [sizeOf, typeInfo, hi, hz1, sliced, Result.andThen, ha]
  omega
section
variable {ops : Array Oper} {rest : List Oper} {o : Oper} {a : Act} {Q : Exit → Act → World → Prop}
theorem append_bytes_event {w0 W : World} (hgd : o.guard = none) (s x : Operand) (ho : o.op = .call { callee := .builtin .append, args := #[s, x], argTypes := #[22, 22] }) {g n : Nat} {cur ys : List Int} (hb : HB8 W g cur) (sp : Option Addr) (sc sl : Nat)
    (hs : a.eval s = .slice (some ⟨g, 0, none⟩) n cur.length) (hx : a.eval x = .slice sp ys.length sc) (hr : Kd.C (Kd.int .u8) W sp ys.length ys) (hfit : n + ys.length ≤ cur.length) (hg : w0.heap.size ≤ g) (HB : Below w0.heap.size w0 W)
    (h : ∀ w1, HB8 w1 g (cur.take n ++ (ys ++ cur.drop (n + ys.length))) → Below w0.heap.size w0 w1 → wpList Try.prog ops Q rest (a.put o.dst (.slice (some ⟨g, 0, none⟩) (n + ys.length) cur.length)) w1) : wpList Try.prog ops Q (o :: rest) a W := by
  obtain ⟨w1, h1, h2, h3⟩ := append_bytes W hb sp sc hr hfit o.type
  refine wpList_plain hgd fun K hK' => ?_
  unfold Oper.wp
  simp [execOp, ho, resolve, invoke, builtin, hs, hx, h1, Result.andThen]
  exact hK' _ _ (h w1 h2 (h3 _ _ hg HB))
end
theorem lent_front (l : List Int) (n c : Nat) (hn : n = l.length) (hc : c = n + 3) : (List.replicate c (0 : Int)).take 0 ++ (l ++ (List.replicate c 0).drop (0 + l.length)) = l ++ [0, 0, 0] := by
  subst hc
  subst hn
  rw [List.take_zero, List.nil_append, List.drop_replicate, show l.length + 3 - (0 + l.length) = 3 by omega]
  rfl
def spare (i : Nat) : List Int := [if 0 < i then 119 else 0, if 1 < i then 119 else 0, if 2 < i then 119 else 0]
theorem spare_set (l : List Int) (i : Nat) (hi : i < 3) : (l ++ spare i).set (l.length + i) 119 = l ++ spare (i + 1) := by
  rw [List.set_append_right _ _ (by omega), show l.length + i - l.length = i by omega]
  congr 1
  have : i = 0 ∨ i = 1 ∨ i = 2 := by omega
  rcases this with rfl | rfl | rfl <;> rfl
set_option maxHeartbeats 1600000 in
set_option maxRecDepth 100000 in
theorem lend_calls (A1 : Option Addr) (c1 : Nat) (l1 : List Int) (w : World) (hr1 : Kd.C (Kd.int .u8) w A1 l1.length l1) (hm : l1.length ≤ 1000) :
    Calls Try.prog 24 #[.slice A1 l1.length c1] w fun e w' => ∃ g, e = .returned (.slice (some ⟨g, 0, none⟩) l1.length (l1.length + 3)) ∧ w.heap.size ≤ g ∧ HB8 w' g (l1 ++ [119, 119, 119]) ∧ Below w.heap.size w w' := by
  have HM := Aside0.mk hm
  have HR := Aside0.mk hr1
  have HB := Aside0.mk (Below.refl w.heap.size w)
  have W3 := Aside0.mk (show wrap64 ((l1.length : Int) + 3) = ((l1.length + 3 : Nat) : Int) from by unfold wrap64; omega)
  clear hr1 hm
  go_enter Try.func24, Try.ntmps24
  go_wp2_with (first | ((with_reducible refine gate_dst (N := 9) rfl ?_); refine make_bytes_event (w0 := w) rfl (N := 9) rfl _ _ rfl 0 (l1.length + 3) rfl (congrArg (Value.int .i64) W3.out) (by omega) (by have := HM.out; omega) HB.out ?_; intro g w1 hg0 hb0 _hb1 hb2; have HG := Aside0.mk (show w.heap.size ≤ g from by omega); obtain ⟨Z, hZ⟩ : ∃ Z : List Int, Z = List.replicate (l1.length + 3) 0 := ⟨_, rfl⟩; rw [← hZ] at hb0; have HZ := Aside0.mk hZ; have HZL := Aside0.mk (show Z.length = l1.length + 3 by rw [hZ]; simp); have B0 := Aside0.mk hb0; have HB1 := Aside0.mk hb2; clear hg0 hb0 _hb1 hb2 hZ HB) | ((with_reducible refine gate_builtin (b := .append) (xs := #[.tmp 10, .tmp 11]) rfl ?_); refine append_bytes_event (w0 := w) rfl (.tmp 10) (.tmp 11) rfl (n := 0) B0.out A1 c1 0 (by rw [HZL.out]; rfl) rfl (Kd.C_below HR.out HB1.out) (by rw [HZL.out]; omega) HG.out HB1.out ?_; intro w2 hb0 hb2; have B1 := Aside0.mk (show HB8 w2 g (l1 ++ [0, 0, 0]) from by have e := lent_front l1 l1.length (l1.length + 3) rfl rfl; rw [← HZ.out] at e; rw [e] at hb0; exact hb0); have HB2 := Aside0.mk hb2; rw [show 0 + l1.length = l1.length from Nat.zero_add _, HZL.out]; clear hb0 hb2 B0 HB1; have hcut : ∀ W : World, (Instr.slice 22 (.slice (some ⟨g, 0, none⟩) l1.length (l1.length + 3)) (some (.int .i64 (l1.length : Int))) (some (.int .i64 (wrap64 ((l1.length : Int) + 3)))) none).run Try.prog W = .ok (.slice (some ⟨g, l1.length, none⟩) 3 3) W := (fun W => by rw [W3.out, cut_spare W g l1.length (l1.length + 3) (by omega) (by have := HM.out; omega), show l1.length + 3 - l1.length = 3 from by omega])))
  go_loopg [5] 3 (fun gk v5 w' => ∃ i : Nat, v5 = .int .i64 (i : Int) ∧ Aside0 (i + gk = 3) ∧ Aside0 (HB8 w' g (l1 ++ spare i)) ∧ Aside0 (Below w.heap.size w w'))
  case atStart => exact ⟨0, rfl, ⟨rfl⟩, B1, HB2⟩
  case round =>
    clear B1 HB2
    obtain ⟨i, rfl, HI, B1, HB2⟩ := hrel
    have hi := HI.out
    cases gk with
    | zero =>
      obtain rfl : i = 3 := by omega
      clear hi
      go_wp2
      go_ret
      exact ⟨g, rfl, HG.out, B1.out, HB2.out⟩
    | succ m =>
      have e0 : (i : Int) < 3 := by omega
      have e1 : decide ((i : Int) < 3) = true := decide_eq_true e0
      have e2 : (0 : Int) ≤ (i : Int) := by omega
      have E3 := Aside0.mk (show wrap64 ((i : Int) + 1) = ((i + 1 : Nat) : Int) by unfold wrap64; omega)
      clear hi
      go_wp2_with (first | ((with_reducible refine gate_store (t := 5) (p := 26) rfl ?_); refine store_bytes_event (w0 := w) rfl rfl 26 _ rfl B1.out (l1.length + i) (by have := HI.out; simp [spare]; omega) 119 rfl rfl HG.out HB2.out ?_; intro w2 hb0 _hg hb2; have B2 := Aside0.mk (show HB8 w2 g (l1 ++ spare (i + 1)) from by rw [spare_set l1 i (by omega)] at hb0; exact hb0); have HB3 := Aside0.mk hb2; clear hb0 _hg hb2 B1 HB2))
      go_roundg m
      case measure => have := HI.out; omega
      case rel => exact ⟨i + 1, congrArg (Value.int .i64) (by omega), ⟨by have := HI.out; omega⟩, B2, HB3⟩
set_option maxHeartbeats 1600000 in
set_option maxRecDepth 100000 in
theorem kept_calls (g : Nat) (l1 : List Int) (A1 : Option Addr) (c1 : Nat) (w : World) (hb1 : HB8 w g (l1 ++ [119, 119, 119])) (hr1 : Kd.C (Kd.int .u8) w A1 l1.length l1) (hc1 : l1.length ≤ c1) (hm : l1.length ≤ 1000) (k : Nat) (hs : purlinlaw0_SameBytes.f k l1 l1 = some true) :
    Calls Try.prog 35 #[.slice (some ⟨g, 0, none⟩) l1.length (l1.length + 3), .slice A1 l1.length c1] w fun e w' => e = .returned (.bool true) ∧ Below w.heap.size w w' := by
  have HM := Aside0.mk hm
  have HR := Aside0.mk hr1
  have HB := Aside0.mk hb1
  have HC := Aside0.mk hc1
  have HS := Aside0.mk hs
  have hcut : ∀ W : World, (Instr.slice 22 (.slice (some ⟨g, 0, none⟩) l1.length (l1.length + 3)) (some (.int .i64 (l1.length : Int))) (some (.int .i64 (wrap64 ((l1.length : Int) + 3)))) none).run Try.prog W = .ok (.slice (some ⟨g, l1.length, none⟩) 3 3) W := (fun W => by rw [show wrap64 ((l1.length : Int) + 3) = ((l1.length + 3 : Nat) : Int) by unfold wrap64; omega, cut_spare W g l1.length (l1.length + 3) (by omega) (by omega), show l1.length + 3 - l1.length = 3 from by omega])
  clear hr1 hm hb1 hs hc1
  go_enter Try.func35, Try.ntmps35
  go_wp2
  go_loopg [6] 3 (fun gk v6 w' => ∃ i : Nat, v6 = .int .i64 (i : Int) ∧ Aside0 (i + gk = 3) ∧ Aside0 (Drawn0 w w'))
  case atStart => exact ⟨0, rfl, ⟨rfl⟩, ⟨by repeat (first | exact Drawn0.refl _ | apply Drawn0.step)⟩⟩
  case round =>
    obtain ⟨i, rfl, HI, HD⟩ := hrel
    have hi := HI.out
    obtain ⟨nd, rfl⟩ := HD.out
    cases gk with
    | zero =>
      obtain rfl : i = 3 := by omega
      clear hi
      go_wp2_with fail
      refine (purlinlaw0_SameBytes.calls k _ _ l1 _ _ l1 true _ ?side1 (by omega) ?side2 HC.out HS.out).mono ?_
      case side1 =>
        have h2 := (HB.out.drewN nd).reads 0 l1.length (by simp) (by have := HM.out; omega)
        rw [List.drop_zero, List.take_left] at h2
        exact h2
      case side2 => exact Kd.C_drewN HR.out nd
      rintro e w2 ⟨rfl, ⟨nd2, rfl⟩⟩
      go_wp2
      go_ret
      exact ⟨rfl, pw_below_drewN (Below.refl _ _) _⟩
    | succ m =>
      have e0 : (i : Int) < 3 := by omega
      have e1 : decide ((i : Int) < 3) = true := decide_eq_true e0
      have e2 : (0 : Int) ≤ (i : Int) := by omega
      have hx : w.cell? ⟨g, l1.length + i, none⟩ = some (.int .u8 119) := by
        have h2 := HB.out.cell (l1.length + i) (by simp; omega)
        rw [h2, List.getD_eq_getElem?_getD, List.getElem?_append_right (by omega), show l1.length + i - l1.length = i by omega]
        have : i = 0 ∨ i = 1 ∨ i = 2 := by omega
        rcases this with rfl | rfl | rfl <;> rfl
      have hx2 : (w.drewN nd).cell? ⟨g, l1.length + i, none⟩ = some (.int .u8 119) := hx
      clear hi
      go_wp2
      go_roundg m
      case measure => have := HI.out; omega
      case rel => exact ⟨i + 1, congrArg (Value.int .i64) (by omega), ⟨by have := HI.out; omega⟩, HD⟩

end Go.Proofs.Ytnhpmmmkcemnmaa.Pc
