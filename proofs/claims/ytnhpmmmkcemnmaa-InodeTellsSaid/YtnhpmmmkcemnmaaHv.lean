/- The document's Lay of inodes: its walk, by hand. -/
import Derived.Test.YtnhpmmmkcemnmaaHu
import Derived.Test.YtnhpmmmkcemnmaaHn
import Derived.Test.YtnhpmmmkcemnmaaQr
import Derived.Deep.RegionHeld3
namespace Go.Proofs.Ytnhpmmmkcemnmaa.Pc
open Go.RowKit Go.Proofs.YtnhpmmmkcemnmaaW.PrintWords Go.Proofs.YtnhpmmmkcemnmaaW.PrintLast Go.Proofs.YtnhpmmmkcemnmaaW.PrintMore
set_option linter.unusedVariables false
set_option linter.unusedSimpArgs false

theorem HA.kept {w w1 : World} {g te : Nat} {k : IntKind} {cur : List Int} {S : Nat → Prop} (h : HA w g te k cur) (hk : Kept w w1 S) (hne : ¬ S g) : HA w1 g te k cur := (hk.2 g h.lt hne).trans h
theorem HA.alloc {w : World} {g te : Nat} {k : IntKind} {cur : List Int} (h : HA w g te k cur) (o : Obj) : HA (w.alloc o) g te k cur := blk_alloc h o
theorem below_alloc2 {w W : World} (h : Below w.heap.size w W) (o : Obj) : Below w.heap.size w (W.alloc o) := below_alloc h o
theorem two_is (l : List Int) (a : Int) (h : l.length ≤ 1000) : purlinref7_two.f l a = some (l ++ twoZ a) := by
  unfold purlinref7_two.f
  rw [Option.bind_some, if_pos (by simp; omega)]
  rfl
theorem and16 (x : Int) (h0 : 0 ≤ x) (h1 : x < 9223372036854775808) : bits .and .i64 x 65535 = x % 65536 := bits_mask .i64 63 (by decide) (fun n a b => IntWalk.i64_in n (by omega)) 16 (by decide) x h0 (by omega)
theorem may_size {i : List Int} (h : mayZ i = true) : 0 ≤ i.getD 2 0 ∧ i.getD 2 0 ≤ 20736 := by
  rcases mayZ_cases h with rfl | ⟨_, _, _, _, _, h4, h5⟩
  · decide
  · exact ⟨h4, h5⟩
theorem head_two {c : List Int} {a0 a1 a2 : Int} (h0 : a0 = c.getD 0 0) (h1 : a1 = c.getD 1 0) (h2 : a2 = c.getD 2 0) (l : List Int) : l ++ [a0 % 256] ++ twoZ a1 ++ twoZ (a2 / 65536) ++ twoZ (a2 % 65536) = l ++ headZ c := by
  unfold headZ
  rw [← h0, ← h1, ← h2]
  simp only [twoZ, List.append_assoc, List.cons_append, List.nil_append]
  rw [show a2 / 65536 / 256 % 256 = a2 / 16777216 % 256 by omega, show a2 % 65536 / 256 % 256 = a2 / 256 % 256 by omega, show a2 % 65536 % 256 = a2 % 256 by omega]
theorem all_two {c : List Int} (hl : c.length = 11) {a9 a10 : Int} (h9 : a9 = c.getD 9 0) (h10 : a10 = c.getD 10 0) (l : List Int) : l ++ (headZ c ++ ((c.drop 3).take 6).flatMap twoZ) ++ twoZ a9 ++ twoZ a10 = l ++ laidZ c := by
  rw [← laid_all hl, h9, h10]
  simp only [List.append_assoc, List.getD_eq_getElem?_getD]

set_option maxHeartbeats 12800000 in
set_option maxRecDepth 100000 in
theorem purlinref7_Lay.calls (is : List Int) (hl : is.length = 44) (w : World) :
    Calls Try.prog 64 #[.agg (nums .i64 is).toArray] w fun e w' => ∃ v : Value, e = .returned (.tuple #[v, .int .i64 (layIZ is).2]) ∧ Kd.R (Kd.int .u8) 5 w' w.heap.size (fun _ => True) v (layIZ is).1 ∧ Below w.heap.size w w' := by
  have HL := Aside0.mk hl
  have HB := Aside0.mk (Below.refl w.heap.size w)
  obtain ⟨X, e, hX⟩ : ∃ X e, layIZ is = (X, e) := ⟨_, _, rfl⟩
  rw [hX]
  have HX := Aside0.mk hX
  clear hl hX
  go_enter Try.func64, Try.ntmps64
  go_wp2_with (first | ((with_reducible refine gate_dst (N := 1) rfl ?_); refine box_event ?hg1 (N := 1) ?hd1 (cs := (nums .i64 is).toArray) (t := 74) ?hr1 ?_; (case hd1 => rfl); (case hg1 => rfl); (case hr1 => first | (go_simp; done) | (go_simp; rfl)); intro g0 hg w0 hbox hb; have B0 := Aside0.mk (below_step HB.out hb); have K0 := Aside0.mk (show HA w0 g0 74 .i64 is from hbox); have SW := Aside0.mk hb.size; clear hg hbox hb))
  go_loopg [4, 5] 4 (fun gk v4 v5 w' => ∃ k : Nat, v5 = .int .i64 (k : Int) ∧ Aside0 (k + gk = 4) ∧ Aside0 (okTo is k = true) ∧ Aside0 (Kd.R (Kd.int .u8) 5 w' w0.heap.size (fun _ => True) v4 (bodyTo is k)) ∧ Aside0 (Below w0.heap.size w0 w'))
  case atStart => exact ⟨0, rfl, ⟨rfl⟩, ⟨rfl⟩, ⟨Kd.R_nil _ _ _ _ _⟩, ⟨Below.refl _ _⟩⟩
  case round =>
    obtain ⟨k, rfl, HK, HOK, HR, HB⟩ := hrel
    have hk := HK.out
    cases gk with
    | zero =>
      obtain rfl : k = 4 := by omega
      have d1 : decide (((4 : Nat) : Int) < 4) = false := by decide
      clear hk
      have HY := Aside0.mk (show X = sealZ 73 (bodyTo is 4) ∧ e = 0 from by
        have h := HX.out
        rw [layIZ, if_pos HOK.out] at h
        exact ⟨(Prod.mk.inj h).1.symm, (Prod.mk.inj h).2.symm⟩)
      obtain ⟨A, cc, rfl⟩ := Kd.R_slice HR.out
      have F := Aside0.mk (show purlinref2_Seal.f 400 73 (bodyTo is 4) = some (sealZ 73 (bodyTo is 4), 0) by
        rw [ref2_Seal.is 73 (bodyTo is 4) (by omega) (by omega) (bodyTo_by is 4) 400 (by omega), if_neg (by rw [bodyTo_len HL.out 4 (Nat.le_refl _)]; omega)])
      have hR := Kd.R_reads' HR.out
      have HC := Aside0.mk hR.2.2
      have HC2 := Aside0.mk hR.2.1
      clear hR
      go_wp2_with fail
      refine (purlinref2_Seal.calls 400 73 _ _ (bodyTo is 4) _ 0 _ HC.out HC2.out F.out).mono ?_
      rintro e1 w1 ⟨vx, rfl, hx, hB⟩
      have HX1 := Aside0.mk (Kd.R_lower (Kd.R_lower hx HB.out.size) SW.out)
      have B1 := Aside0.mk (below_step B0.out (below_step HB.out hB))
      clear hx hB
      obtain ⟨hy1, hy2⟩ := HY.out
      subst hy1
      subst hy2
      go_wp2
      go_ret2
      exact ⟨_, rfl, HX1.out, B1.out⟩
    | succ m =>
      have d1 : decide ((k : Int) < 4) = true := decide_eq_true (by omega)
      have d6 : (k : Int) < 4 := by omega
      have d7 : (0 : Int) ≤ (k : Int) := by omega
      have HK4 := Aside0.mk (show k < 4 from by omega)
      obtain ⟨c, hc⟩ : ∃ c, c = chunk is k := ⟨_, rfl⟩
      have HC := Aside0.mk hc
      have HC' := Aside0.mk (show (is.drop (k * 11)).take 11 = c from by rw [hc, Nat.mul_comm]; rfl)
      have HCL := Aside0.mk (show c.length = 11 from by rw [hc]; exact chunk_len HL.out k HK4.out)
      have HRb := Aside0.mk (Kd.R_bound HR.out)
      have K0r := Aside0.mk (K0.out.below0 HB.out K0.out.lt)
      clear hc hk HR
      go_wp2_with (first | ((with_reducible refine gate_dst (N := 14) rfl ?_); refine Kd.event_run rfl (w1 := wr) (load_mid_exec (lo := k * 11) (n := 11) rfl K0r.out rfl row73 (by rw [HL.out]; have := HK4.out; omega)) ?_; rw [HC'.out]) | ((with_reducible refine gate_dst (N := 6) rfl ?_); refine box_event ?hg6 (N := 6) ?hd6 (cs := (nums .i64 zero11).toArray) (t := 73) ?hr6 ?_; (case hd6 => rfl); (case hg6 => rfl); (case hr6 => first | (go_simp; done) | (go_simp; rfl)); intro g6 hg w1 hbox hb; have G6 := Aside0.mk (show wr.heap.size ≤ g6 from by omega); have B1 := Aside0.mk (below_step HB.out hb); have K6 := Aside0.mk (show HA w1 g6 73 .i64 zero11 from hbox); have HR1 := Aside0.mk (Kd.R_below HRb.out hb); clear hg hbox hb) | ((with_reducible refine gate_store (t := 73) (p := 6) rfl ?_); refine store_row_event (w0 := w0) rfl rfl 6 _ rfl (new := c) K6.out rfl rfl (by rw [HCL.out]; exact row73) HCL.out.symm (by have := G6.out; have := HB.out.size; omega) B1.out ?_; intro w2 hk hgr hb; have K62 := Aside0.mk (show HA w2 g6 73 .i64 c from hk); have B2a := Aside0.mk hb; have HR2a := Aside0.mk (Kd.R_grown HR1.out hgr (fun k hk e => by cases e; have := hk.2.2.1; have := G6.out; omega)); clear hk hgr hb HR1) | ((with_reducible refine gate_dst (N := 15) rfl ?_); (try (refine gate_guard (by rfl) ?_; dsimp only)); refine load_row_event rfl _ rfl K62.out rfl (by rw [HCL.out]; exact row73) ?_))
      refine (purlinref7_May.calls c HCL.out w2).mono ?_
      rintro e3 w3 ⟨rfl, hB⟩
      have B2 := Aside0.mk (below_step B2a.out hB)
      have K63 := Aside0.mk (K62.out.below hB)
      have HR2 := Aside0.mk (show Kd.R (Kd.int .u8) 5 w3 w0.heap.size (fun k => k ≠ g6) u4 (bodyTo is k) from Kd.R_mono (Kd.R_below HR2a.out hB) (fun k hk => by have := hk.2.2.1; have := G6.out; omega))
      clear hB HR2a
      cases hm : mayZ c with
      | false =>
        have HY := Aside0.mk (show layIZ is = ([], 2) from by
          rw [layIZ, if_neg]
          rw [okTo_no HK4.out (by rw [← HC.out]; exact hm)]
          exact Bool.false_ne_true)
        obtain ⟨rfl, rfl⟩ := Prod.mk.inj (HX.out.symm.trans HY.out)
        clear hm
        go_wp2
        go_ret2
        exact ⟨_, rfl, Kd.R_nil _ _ _ _ _, below_step B0.out B2.out⟩
      | true =>
        have HQ := Aside0.mk (show okTo is (k + 1) = true from by rw [okTo_succ, HOK.out, ← HC.out, hm]; rfl)
        obtain ⟨s0, s1⟩ := may_size hm
        obtain ⟨a0, ha0⟩ : ∃ a, a = c.getD 0 0 := ⟨_, rfl⟩
        obtain ⟨a1, ha1⟩ : ∃ a, a = c.getD 1 0 := ⟨_, rfl⟩
        obtain ⟨a2, ha2⟩ : ∃ a, a = c.getD 2 0 := ⟨_, rfl⟩
        obtain ⟨a9, ha9⟩ : ∃ a, a = c.getD 9 0 := ⟨_, rfl⟩
        obtain ⟨a10, ha10⟩ : ∃ a, a = c.getD 10 0 := ⟨_, rfl⟩
        rw [← ha2] at s0 s1
        have HA0 := Aside0.mk ha0
        have HA1 := Aside0.mk ha1
        have HA2 := Aside0.mk ha2
        have HA9 := Aside0.mk ha9
        have HA10 := Aside0.mk ha10
        have S01 := Aside0.mk (And.intro s0 s1)
        clear hm ha0 ha1 ha2 ha9 ha10 s0 s1
        go_wp2
        have hw0 : IntKind.u8.wrap a0 = a0 % 256 := rfl
        refine wp_region_noPanic ?_
        refine wp_region_held_drew (S := (fun w' => Below w0.heap.size w0 w' ∧ HA w' g6 73 .i64 c)) (by kernel_rfl) ?_ (fun hHeld => ?_)
        · (try dsimp only); exact ⟨below_drew B2.out, HA.drew K63.out⟩
        refine wpAnyH_take (i := 0) (v := ?_) (by simp only [List.getElem?_toArray, List.getElem?_cons_succ, List.getElem?_cons_zero]; rfl) (by kernel_rfl) (by kernel_rfl) (by kernel_rfl) (fun _ _ _ h => h) (Or.inl ⟨by rfl, ?_⟩) (by assumption) ?_
        rotate_left
        · (intro wS hSw; (try dsimp only at hSw); go_simp; try with_reducible rfl)
        try simp only [Act.put, List.setIfInBounds_toArray, List.set_cons_zero, List.set_cons_succ]
        refine wpAnyH_take (i := 1) (v := ?_) (by simp only [List.getElem?_toArray, List.getElem?_cons_succ, List.getElem?_cons_zero]; rfl) (by kernel_rfl) (by kernel_rfl) (by kernel_rfl) (fun _ _ _ h => h) (Or.inl ⟨by rfl, ?_⟩) (by assumption) ?_
        rotate_left
        · (intro wS hSw; (try dsimp only at hSw); go_simp; try with_reducible rfl)
        try simp only [Act.put, List.setIfInBounds_toArray, List.set_cons_zero, List.set_cons_succ]
        refine wpAnyH_take (i := 2) (v := ?_) (by simp only [List.getElem?_toArray, List.getElem?_cons_succ, List.getElem?_cons_zero]; rfl) (by kernel_rfl) (by kernel_rfl) (by kernel_rfl) (fun _ _ _ h => h) (Or.inl ⟨by rfl, ?_⟩) (by assumption) ?_
        rotate_left
        · (intro wS hSw; (try dsimp only at hSw); obtain ⟨_, hk_⟩ := hSw; have hc := hk_.cell 0 (by rw [HCL.out]; omega); rw [← HA0.out] at hc; go_simp; try with_reducible rfl)
        try simp only [Act.put, List.setIfInBounds_toArray, List.set_cons_zero, List.set_cons_succ]
        refine wpAnyH_take (i := 3) (v := ?_) (by simp only [List.getElem?_toArray, List.getElem?_cons_succ, List.getElem?_cons_zero]; rfl) (by kernel_rfl) (by kernel_rfl) (by kernel_rfl) (fun _ _ _ h => h) (Or.inl ⟨by rfl, ?_⟩) (by assumption) ?_
        rotate_left
        · (intro wS hSw; (try dsimp only at hSw); go_simp; try with_reducible rfl)
        try simp only [Act.put, List.setIfInBounds_toArray, List.set_cons_zero, List.set_cons_succ]
        refine wpAnyH_take (i := 6) (v := ?_) (by simp only [List.getElem?_toArray, List.getElem?_cons_succ, List.getElem?_cons_zero]; rfl) (by kernel_rfl) (by kernel_rfl) (by kernel_rfl) (fun _ _ _ h => h) (Or.inl ⟨by rfl, ?_⟩) (by assumption) ?_
        rotate_left
        · (intro wS hSw; (try dsimp only at hSw); go_simp; try with_reducible rfl)
        try simp only [Act.put, List.setIfInBounds_toArray, List.set_cons_zero, List.set_cons_succ]
        refine wpAnyH_take (i := 7) (v := ?_) (by simp only [List.getElem?_toArray, List.getElem?_cons_succ, List.getElem?_cons_zero]; rfl) (by kernel_rfl) (by kernel_rfl) (by kernel_rfl) (fun _ _ _ h => h) (Or.inl ⟨by rfl, ?_⟩) (by assumption) ?_
        rotate_left
        · (intro wS hSw; (try dsimp only at hSw); obtain ⟨_, hk_⟩ := hSw; have hc := hk_.cell 1 (by rw [HCL.out]; omega); rw [← HA1.out] at hc; go_simp; try with_reducible rfl)
        try simp only [Act.put, List.setIfInBounds_toArray, List.set_cons_zero, List.set_cons_succ]
        refine wpAnyH_ready (rs := [4]) (by kernel_rfl) (by simp) ?_
        refine AllReadyH.cons (by simp only [List.getElem?_toArray, List.getElem?_cons_succ, List.getElem?_cons_zero]; rfl) (fun K hK => ?_) AllReadyH.nil
        go_simp
        refine hK.out _ _ ?_ (fun hHeld => ?_)
        · (try dsimp only); exact ⟨below_alloc2 hHeld.1 _, HA.alloc hHeld.2 _⟩
        clear hK K
        try simp only [Act.put, List.setIfInBounds_toArray, List.set_cons_zero, List.set_cons_succ]
        refine wpAnyH_ready (rs := [5]) (by kernel_rfl) (by simp) ?_
        refine AllReadyH.cons (by simp only [List.getElem?_toArray, List.getElem?_cons_succ, List.getElem?_cons_zero]; rfl) (fun K hK => ?_) AllReadyH.nil
        refine append_lit_step (w0 := w0) (by rfl) (.tmp 18) (.tmp 22) (by rfl) u4 (bodyTo is k) [a0 % 256] (by rfl) (by rfl) (Kd.R_drew (Kd.R_mono HR2.out (fun _ _ => trivial))) (below_drew B2.out) (by rw [bodyTo_len HL.out k (by have := HK4.out; omega)]; have := HK4.out; simp; omega) ?_
        intro v5 w5 hr hb hg ha
        have HR5 := Aside0.mk (show Kd.R (Kd.int .u8) 5 w5 w0.heap.size (fun k => k ≠ g6) v5 (bodyTo is k ++ [a0 % 256]) from Kd.R_of_own (Kd.own_of_R hr) (fun q hq => by rcases ha with e | ⟨b, e, h2⟩; exact HR2.out.1 q (by rw [← e]; exact hq); rw [e] at hq; injection hq with hq; have h3 := K63.out.lt; have h4 : w3.heap.size ≤ b := h2; omega))
        have HB5 := Aside0.mk hb
        have K65 := Aside0.mk (show HA w5 g6 73 .i64 c from (hHeld.2).grown hg (fun e => HR2.out.1 g6 e.symm rfl))
        clear hr hb hg ha
        refine hK.out _ _ ?_ (fun hHeld => ?_)
        · (try dsimp only); exact ⟨HB5.out, K65.out⟩
        clear hK K
        try simp only [Act.put, List.setIfInBounds_toArray, List.set_cons_zero, List.set_cons_succ]
        refine wpAnyH_ready (rs := [8]) (by kernel_rfl) (by simp) ?_
        refine AllReadyH.cons (by simp only [List.getElem?_toArray, List.getElem?_cons_succ, List.getElem?_cons_zero]; rfl) (fun K hK => ?_) AllReadyH.nil
        go_simp
        refine (purlinref7_two.calls (fun k => k ≠ g6) v5 (bodyTo is k ++ [a0 % 256]) a1 _ w0 _ hHeld.1 HR5.out (two_is _ _ (by rw [List.length_append, bodyTo_len HL.out k (by have := HK4.out; omega)]; have := HK4.out; simp; omega))).mono ?_
        rintro e6 w6 ⟨v6, rfl, hr, hB, hK⟩
        have HR6 := Aside0.mk (show Kd.R (Kd.int .u8) 5 w6 w0.heap.size (fun k => k ≠ g6) v6 ((bodyTo is k ++ [a0 % 256]) ++ twoZ a1) from Kd.R_mono hr (fun k hk => by rcases hk with hk | hk; exact hk; have := K65.out.lt; omega))
        have HBw6 := Aside0.mk hB
        have K6w6 := Aside0.mk (HA.kept K65.out hK (fun h => h rfl))
        clear hr hB hK
        go_wp2_with fail
        refine hK.out _ _ ?_ (fun hHeld => ?_)
        · (try dsimp only); exact ⟨HBw6.out, K6w6.out⟩
        clear hK K
        try simp only [Act.put, List.setIfInBounds_toArray, List.set_cons_zero, List.set_cons_succ]
        refine wpAnyH_take (i := 9) (v := ?_) (by simp only [List.getElem?_toArray, List.getElem?_cons_succ, List.getElem?_cons_zero]; rfl) (by kernel_rfl) (by kernel_rfl) (by kernel_rfl) (fun _ _ _ h => h) (Or.inl ⟨by rfl, ?_⟩) (by assumption) ?_
        rotate_left
        · (intro wS hSw; (try dsimp only at hSw); go_simp; try with_reducible rfl)
        try simp only [Act.put, List.setIfInBounds_toArray, List.set_cons_zero, List.set_cons_succ]
        refine wpAnyH_done (by kernel_rfl) ?_ _
        refine NoPanic.normal ?_
        clear hw0 hHeld
        go_wp2
        have hs2 : bits .and .i64 a2 65535 = a2 % 65536 := and16 a2 S01.out.1 (by have := S01.out.2; omega)
        refine wp_region_noPanic ?_
        refine wp_region_held_drew (S := (fun w' => Below w0.heap.size w0 w' ∧ HA w' g6 73 .i64 c)) (by kernel_rfl) ?_ (fun hHeld => ?_)
        · (try dsimp only); exact ⟨below_drew HBw6.out, HA.drew K6w6.out⟩
        refine wpAnyH_take (i := 0) (v := ?_) (by simp only [List.getElem?_toArray, List.getElem?_cons_succ, List.getElem?_cons_zero]; rfl) (by kernel_rfl) (by kernel_rfl) (by kernel_rfl) (fun _ _ _ h => h) (Or.inl ⟨by rfl, ?_⟩) (by assumption) ?_
        rotate_left
        · (intro wS hSw; (try dsimp only at hSw); go_simp; try with_reducible rfl)
        try simp only [Act.put, List.setIfInBounds_toArray, List.set_cons_zero, List.set_cons_succ]
        refine wpAnyH_take (i := 1) (v := ?_) (by simp only [List.getElem?_toArray, List.getElem?_cons_succ, List.getElem?_cons_zero]; rfl) (by kernel_rfl) (by kernel_rfl) (by kernel_rfl) (fun _ _ _ h => h) (Or.inl ⟨by rfl, ?_⟩) (by assumption) ?_
        rotate_left
        · (intro wS hSw; (try dsimp only at hSw); go_simp; try with_reducible rfl)
        try simp only [Act.put, List.setIfInBounds_toArray, List.set_cons_zero, List.set_cons_succ]
        refine wpAnyH_take (i := 2) (v := ?_) (by simp only [List.getElem?_toArray, List.getElem?_cons_succ, List.getElem?_cons_zero]; rfl) (by kernel_rfl) (by kernel_rfl) (by kernel_rfl) (fun _ _ _ h => h) (Or.inl ⟨by rfl, ?_⟩) (by assumption) ?_
        rotate_left
        · (intro wS hSw; (try dsimp only at hSw); obtain ⟨_, hk_⟩ := hSw; have hc := hk_.cell 2 (by rw [HCL.out]; omega); rw [← HA2.out] at hc; go_simp; try with_reducible rfl)
        try simp only [Act.put, List.setIfInBounds_toArray, List.set_cons_zero, List.set_cons_succ]
        refine wpAnyH_take (i := 3) (v := ?_) (by simp only [List.getElem?_toArray, List.getElem?_cons_succ, List.getElem?_cons_zero]; rfl) (by kernel_rfl) (by kernel_rfl) (by kernel_rfl) (fun _ _ _ h => h) (Or.inl ⟨by rfl, ?_⟩) (by assumption) ?_
        rotate_left
        · (intro wS hSw; (try dsimp only at hSw); go_simp; try with_reducible rfl)
        try simp only [Act.put, List.setIfInBounds_toArray, List.set_cons_zero, List.set_cons_succ]
        refine wpAnyH_take (i := 5) (v := ?_) (by simp only [List.getElem?_toArray, List.getElem?_cons_succ, List.getElem?_cons_zero]; rfl) (by kernel_rfl) (by kernel_rfl) (by kernel_rfl) (fun _ _ _ h => h) (Or.inl ⟨by rfl, ?_⟩) (by assumption) ?_
        rotate_left
        · (intro wS hSw; (try dsimp only at hSw); go_simp; try with_reducible rfl)
        try simp only [Act.put, List.setIfInBounds_toArray, List.set_cons_zero, List.set_cons_succ]
        refine wpAnyH_take (i := 6) (v := ?_) (by simp only [List.getElem?_toArray, List.getElem?_cons_succ, List.getElem?_cons_zero]; rfl) (by kernel_rfl) (by kernel_rfl) (by kernel_rfl) (fun _ _ _ h => h) (Or.inl ⟨by rfl, ?_⟩) (by assumption) ?_
        rotate_left
        · (intro wS hSw; (try dsimp only at hSw); obtain ⟨_, hk_⟩ := hSw; have hc := hk_.cell 2 (by rw [HCL.out]; omega); rw [← HA2.out] at hc; go_simp; try with_reducible rfl)
        try simp only [Act.put, List.setIfInBounds_toArray, List.set_cons_zero, List.set_cons_succ]
        refine wpAnyH_take (i := 7) (v := ?_) (by simp only [List.getElem?_toArray, List.getElem?_cons_succ, List.getElem?_cons_zero]; rfl) (by kernel_rfl) (by kernel_rfl) (by kernel_rfl) (fun _ _ _ h => h) (Or.inl ⟨by rfl, ?_⟩) (by assumption) ?_
        rotate_left
        · (intro wS hSw; (try dsimp only at hSw); go_simp; try with_reducible rfl)
        try simp only [Act.put, List.setIfInBounds_toArray, List.set_cons_zero, List.set_cons_succ]
        refine wpAnyH_ready (rs := [4]) (by kernel_rfl) (by simp) ?_
        refine AllReadyH.cons (by simp only [List.getElem?_toArray, List.getElem?_cons_succ, List.getElem?_cons_zero]; rfl) (fun K hK => ?_) AllReadyH.nil
        go_simp
        refine (purlinref7_two.calls (fun k => k ≠ g6) v6 (bodyTo is k ++ [a0 % 256] ++ twoZ a1) (a2 / 65536) _ w0 _ hHeld.1 (Kd.R_drew HR6.out) (two_is _ _ (by simp only [List.length_append, bodyTo_len HL.out k (by have := HK4.out; omega), twoZ]; have := HK4.out; simp; omega))).mono ?_
        rintro e7 w7 ⟨v7, rfl, hr, hB, hK⟩
        have HR7 := Aside0.mk (show Kd.R (Kd.int .u8) 5 w7 w0.heap.size (fun k => k ≠ g6) v7 ((bodyTo is k ++ [a0 % 256] ++ twoZ a1) ++ twoZ (a2 / 65536)) from Kd.R_mono hr (fun k hk => by rcases hk with hk | hk; exact hk; have := hHeld.2.lt; omega))
        have HBw7 := Aside0.mk hB
        have K6w7 := Aside0.mk (HA.kept hHeld.2 hK (fun h => h rfl))
        clear hr hB hK
        go_wp2_with fail
        refine hK.out _ _ ?_ (fun hHeld => ?_)
        · (try dsimp only); exact ⟨HBw7.out, K6w7.out⟩
        clear hK K
        try simp only [Act.put, List.setIfInBounds_toArray, List.set_cons_zero, List.set_cons_succ]
        refine wpAnyH_ready (rs := [8]) (by kernel_rfl) (by simp) ?_
        refine AllReadyH.cons (by simp only [List.getElem?_toArray, List.getElem?_cons_succ, List.getElem?_cons_zero]; rfl) (fun K hK => ?_) AllReadyH.nil
        go_simp
        refine (purlinref7_two.calls (fun k => k ≠ g6) v7 (bodyTo is k ++ [a0 % 256] ++ twoZ a1 ++ twoZ (a2 / 65536)) (a2 % 65536) _ w0 _ hHeld.1 HR7.out (two_is _ _ (by simp only [List.length_append, bodyTo_len HL.out k (by have := HK4.out; omega), twoZ]; have := HK4.out; simp; omega))).mono ?_
        rintro e8 w8 ⟨v8, rfl, hr, hB, hK⟩
        have HR8 := Aside0.mk (show Kd.R (Kd.int .u8) 5 w8 w0.heap.size (fun k => k ≠ g6) v8 ((bodyTo is k ++ [a0 % 256] ++ twoZ a1 ++ twoZ (a2 / 65536)) ++ twoZ (a2 % 65536)) from Kd.R_mono hr (fun k hk => by rcases hk with hk | hk; exact hk; have := K6w7.out.lt; omega))
        have HBw8 := Aside0.mk hB
        have K6w8 := Aside0.mk (HA.kept K6w7.out hK (fun h => h rfl))
        clear hr hB hK
        go_wp2_with fail
        refine hK.out _ _ ?_ (fun hHeld => ?_)
        · (try dsimp only); exact ⟨HBw8.out, K6w8.out⟩
        clear hK K
        try simp only [Act.put, List.setIfInBounds_toArray, List.set_cons_zero, List.set_cons_succ]
        refine wpAnyH_take (i := 9) (v := ?_) (by simp only [List.getElem?_toArray, List.getElem?_cons_succ, List.getElem?_cons_zero]; rfl) (by kernel_rfl) (by kernel_rfl) (by kernel_rfl) (fun _ _ _ h => h) (Or.inl ⟨by rfl, ?_⟩) (by assumption) ?_
        rotate_left
        · (intro wS hSw; (try dsimp only at hSw); go_simp; try with_reducible rfl)
        try simp only [Act.put, List.setIfInBounds_toArray, List.set_cons_zero, List.set_cons_succ]
        refine wpAnyH_done (by kernel_rfl) ?_ _
        refine NoPanic.normal ?_
        clear hs2 hHeld
        have HR9a := Aside0.mk (by have h := HR8.out; rw [head_two HA0.out HA1.out HA2.out] at h; exact h)
        clear HR6 HR7 HR8 HBw6 HBw7 K6w6 K6w7
        obtain ⟨wo, rfl⟩ : ∃ wo : World, wo = wr := ⟨_, rfl⟩
        go_wp2
        go_loopg [4, 7] 6 (fun gk v4 v7 w' => ∃ j : Nat, v7 = .int .i64 (j : Int) ∧ Aside0 (j + gk = 6) ∧ Aside0 (Kd.R (Kd.int .u8) 5 w' w0.heap.size (fun k => k ≠ g6) v4 (bodyTo is k ++ (headZ c ++ ((c.drop 3).take j).flatMap twoZ))) ∧ Aside0 (HA w' g6 73 .i64 c) ∧ Aside0 (Below w0.heap.size w0 w'))
        case atStart => exact ⟨0, rfl, ⟨rfl⟩, ⟨by simpa using HR9a.out⟩, K6w8, HBw8⟩
        case round =>
          clear HR9a K6w8 HBw8
          obtain ⟨j, rfl, HJ, HRr, K6r, HBr⟩ := hrel
          have hj := HJ.out
          cases gk with
          | succ m2 =>
            have f1 : decide ((j : Int) < 6) = true := decide_eq_true (by omega)
            have f2 : (0 : Int) ≤ (j : Int) := by omega
            have f3 : (j : Int) < 6 := by omega
            have HJ6 := Aside0.mk (show j < 6 from by omega)
            have HKL := Aside0.mk (show j < (c.drop 3).length from by rw [List.length_drop, HCL.out]; omega)
            have hc := K6r.out.cell (3 + j) (by rw [HCL.out]; omega)
            obtain ⟨p, hp⟩ : ∃ p, p = c.getD (3 + j) 0 := ⟨_, rfl⟩
            rw [← hp] at hc
            have HP := Aside0.mk (show p = (c.drop 3).getD j 0 from by rw [hp, List.getD_eq_getElem?_getD, List.getD_eq_getElem?_getD, List.getElem?_drop])
            clear hj hp
            go_wp2_with fail
            refine (purlinref7_two.calls (fun k => k ≠ g6) u4 (bodyTo is k ++ (headZ c ++ ((c.drop 3).take j).flatMap twoZ)) p _ w0 _ HBr.out HRr.out (two_is _ _ (by simp only [List.length_append, bodyTo_len HL.out k (by have := HK4.out; omega), head_len, flat_len, List.length_take]; have := HK4.out; have := HJ6.out; omega))).mono ?_
            rintro e9 w9 ⟨v9, rfl, hr, hB, hK⟩
            have HR9 := Aside0.mk (show Kd.R (Kd.int .u8) 5 w9 w0.heap.size (fun k => k ≠ g6) v9 (bodyTo is k ++ (headZ c ++ ((c.drop 3).take (j + 1)).flatMap twoZ)) from by
              have h := Kd.R_mono hr (fun k (hk : k ≠ g6 ∨ _) => show k ≠ g6 from by rcases hk with hk | hk; exact hk; have := K6r.out.lt; omega)
              rw [flat_take HKL.out, ← HP.out]
              simpa only [List.append_assoc] using h)
            have HB9 := Aside0.mk hB
            have K69 := Aside0.mk (HA.kept K6r.out hK (fun h => h rfl))
            clear hr hB hK hc
            go_wp2
            go_roundg m2
            case measure => have := HJ.out; omega
            case rel => exact ⟨j + 1, by first | rfl | go_num, ⟨by have := HJ.out; omega⟩, HR9, K69, HB9⟩
          | zero =>
            obtain rfl : j = 6 := by omega
            have f1 : decide (((6 : Nat) : Int) < 6) = false := by decide
            clear hj
            go_wp2
            refine wp_region_noPanic ?_
            refine wp_region_held_drew (S := (fun w' => Below w0.heap.size w0 w' ∧ HA w' g6 73 .i64 c)) (by kernel_rfl) ?_ (fun hHeld => ?_)
            · (try dsimp only); exact ⟨below_drew HBr.out, HA.drew K6r.out⟩
            refine wpAnyH_take (i := 0) (v := ?_) (by simp only [List.getElem?_toArray, List.getElem?_cons_succ, List.getElem?_cons_zero]; rfl) (by kernel_rfl) (by kernel_rfl) (by kernel_rfl) (fun _ _ _ h => h) (Or.inl ⟨by rfl, ?_⟩) (by assumption) ?_
            rotate_left
            · (intro wS hSw; (try dsimp only at hSw); go_simp; try with_reducible rfl)
            try simp only [Act.put, List.setIfInBounds_toArray, List.set_cons_zero, List.set_cons_succ]
            refine wpAnyH_take (i := 1) (v := ?_) (by simp only [List.getElem?_toArray, List.getElem?_cons_succ, List.getElem?_cons_zero]; rfl) (by kernel_rfl) (by kernel_rfl) (by kernel_rfl) (fun _ _ _ h => h) (Or.inl ⟨by rfl, ?_⟩) (by assumption) ?_
            rotate_left
            · (intro wS hSw; (try dsimp only at hSw); go_simp; try with_reducible rfl)
            try simp only [Act.put, List.setIfInBounds_toArray, List.set_cons_zero, List.set_cons_succ]
            refine wpAnyH_take (i := 2) (v := ?_) (by simp only [List.getElem?_toArray, List.getElem?_cons_succ, List.getElem?_cons_zero]; rfl) (by kernel_rfl) (by kernel_rfl) (by kernel_rfl) (fun _ _ _ h => h) (Or.inl ⟨by rfl, ?_⟩) (by assumption) ?_
            rotate_left
            · (intro wS hSw; (try dsimp only at hSw); obtain ⟨_, hk_⟩ := hSw; have hc := hk_.cell 9 (by rw [HCL.out]; omega); rw [← HA9.out] at hc; go_simp; try with_reducible rfl)
            try simp only [Act.put, List.setIfInBounds_toArray, List.set_cons_zero, List.set_cons_succ]
            refine wpAnyH_take (i := 4) (v := ?_) (by simp only [List.getElem?_toArray, List.getElem?_cons_succ, List.getElem?_cons_zero]; rfl) (by kernel_rfl) (by kernel_rfl) (by kernel_rfl) (fun _ _ _ h => h) (Or.inl ⟨by rfl, ?_⟩) (by assumption) ?_
            rotate_left
            · (intro wS hSw; (try dsimp only at hSw); go_simp; try with_reducible rfl)
            try simp only [Act.put, List.setIfInBounds_toArray, List.set_cons_zero, List.set_cons_succ]
            refine wpAnyH_take (i := 5) (v := ?_) (by simp only [List.getElem?_toArray, List.getElem?_cons_succ, List.getElem?_cons_zero]; rfl) (by kernel_rfl) (by kernel_rfl) (by kernel_rfl) (fun _ _ _ h => h) (Or.inl ⟨by rfl, ?_⟩) (by assumption) ?_
            rotate_left
            · (intro wS hSw; (try dsimp only at hSw); obtain ⟨_, hk_⟩ := hSw; have hc := hk_.cell 10 (by rw [HCL.out]; omega); rw [← HA10.out] at hc; go_simp; try with_reducible rfl)
            try simp only [Act.put, List.setIfInBounds_toArray, List.set_cons_zero, List.set_cons_succ]
            refine wpAnyH_ready (rs := [3]) (by kernel_rfl) (by simp) ?_
            refine AllReadyH.cons (by simp only [List.getElem?_toArray, List.getElem?_cons_succ, List.getElem?_cons_zero]; rfl) (fun K hK => ?_) AllReadyH.nil
            go_simp
            refine (purlinref7_two.calls (fun k => k ≠ g6) u4 (bodyTo is k ++ (headZ c ++ ((c.drop 3).take 6).flatMap twoZ)) a9 _ w0 _ hHeld.1 (Kd.R_drew HRr.out) (two_is _ _ (by simp only [List.length_append, bodyTo_len HL.out k (by have := HK4.out; omega), head_len, flat_len, List.length_take, twoZ]; have := HK4.out; simp; omega))).mono ?_
            rintro e9 w9 ⟨v9, rfl, hr, hB, hK⟩
            have HR9 := Aside0.mk (show Kd.R (Kd.int .u8) 5 w9 w0.heap.size (fun k => k ≠ g6) v9 ((bodyTo is k ++ (headZ c ++ ((c.drop 3).take 6).flatMap twoZ)) ++ twoZ a9) from Kd.R_mono hr (fun k hk => by rcases hk with hk | hk; exact hk; have := hHeld.2.lt; omega))
            have HBw9 := Aside0.mk hB
            have K6w9 := Aside0.mk (HA.kept hHeld.2 hK (fun h => h rfl))
            clear hr hB hK
            go_wp2_with fail
            refine hK.out _ _ ?_ (fun hHeld => ?_)
            · (try dsimp only); exact ⟨HBw9.out, K6w9.out⟩
            clear hK K
            try simp only [Act.put, List.setIfInBounds_toArray, List.set_cons_zero, List.set_cons_succ]
            refine wpAnyH_ready (rs := [6]) (by kernel_rfl) (by simp) ?_
            refine AllReadyH.cons (by simp only [List.getElem?_toArray, List.getElem?_cons_succ, List.getElem?_cons_zero]; rfl) (fun K hK => ?_) AllReadyH.nil
            go_simp
            refine (purlinref7_two.calls (fun k => k ≠ g6) v9 (bodyTo is k ++ (headZ c ++ ((c.drop 3).take 6).flatMap twoZ) ++ twoZ a9) a10 _ w0 _ hHeld.1 HR9.out (two_is _ _ (by simp only [List.length_append, bodyTo_len HL.out k (by have := HK4.out; omega), head_len, flat_len, List.length_take, twoZ]; have := HK4.out; simp; omega))).mono ?_
            rintro e10 w10 ⟨v10, rfl, hr, hB, hK⟩
            have HR10 := Aside0.mk (show Kd.R (Kd.int .u8) 5 w10 w0.heap.size (fun k => k ≠ g6) v10 ((bodyTo is k ++ (headZ c ++ ((c.drop 3).take 6).flatMap twoZ) ++ twoZ a9) ++ twoZ a10) from Kd.R_mono hr (fun k hk => by rcases hk with hk | hk; exact hk; have := K6w9.out.lt; omega))
            have HBw10 := Aside0.mk hB
            have K6w10 := Aside0.mk (HA.kept K6w9.out hK (fun h => h rfl))
            clear hr hB hK
            go_wp2_with fail
            refine hK.out _ _ ?_ (fun hHeld => ?_)
            · (try dsimp only); exact ⟨HBw10.out, K6w10.out⟩
            clear hK K
            try simp only [Act.put, List.setIfInBounds_toArray, List.set_cons_zero, List.set_cons_succ]
            refine wpAnyH_take (i := 7) (v := ?_) (by simp only [List.getElem?_toArray, List.getElem?_cons_succ, List.getElem?_cons_zero]; rfl) (by kernel_rfl) (by kernel_rfl) (by kernel_rfl) (fun _ _ _ h => h) (Or.inl ⟨by rfl, ?_⟩) (by assumption) ?_
            rotate_left
            · (intro wS hSw; (try dsimp only at hSw); go_simp; try with_reducible rfl)
            try simp only [Act.put, List.setIfInBounds_toArray, List.set_cons_zero, List.set_cons_succ]
            refine wpAnyH_done (by kernel_rfl) ?_ _
            refine NoPanic.normal ?_
            clear hHeld
            have HRf := Aside0.mk (show Kd.R (Kd.int .u8) 5 w10 w0.heap.size (fun _ => True) v10 (bodyTo is (k + 1)) from by
              have h := HR10.out
              rw [all_two HCL.out HA9.out HA10.out] at h
              rw [bodyTo_succ, ← HC.out]
              exact Kd.R_mono h (fun _ _ => trivial))
            go_wp2
            go_roundg m
            case measure => have := HK.out; omega
            case rel => exact ⟨k + 1, by first | rfl | go_num, ⟨by have := HK.out; omega⟩, HQ, HRf, HBw10⟩
end Go.Proofs.Ytnhpmmmkcemnmaa.Pc
