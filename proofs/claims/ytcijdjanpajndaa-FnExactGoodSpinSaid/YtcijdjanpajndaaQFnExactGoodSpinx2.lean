/- The walk of GoodSpin, of its helper that builds an array, and of the law's function: each by its contract. -/
import Derived.Test.YtcijdjanpajndaaPFnExactGoodSpinx1
import Derived.Test.YtcijdjanpajndaaG
namespace Go.Proofs.Ytcijdjanpajndaa.PFnExactGoodSpin
open Go.RowKit Go.Proofs.YtcijdjanpajndaaW.PrintWords Go.Proofs.YtcijdjanpajndaaW.PrintLast Go.Proofs.YtcijdjanpajndaaW.PrintMore
set_option linter.unusedVariables false
set_option linter.unusedSimpArgs false
set_option maxRecDepth 100000
theorem parts_calls (a b c d : Int) (w : World) : Calls Try.prog 55 #[.agg #[.int .i64 a, .int .i64 b, .int .i64 c, .int .i64 d]] w fun e w' => e = .returned (.agg #[.int .i64 a, .int .i64 b, .int .i64 c, .int .i64 d]) ∧ Below w.heap.size w w' := by
  have hu32 := Try.underlying32
  have hu82 := Try.underlying82
  go_enter Try.func55, Try.ntmps55
  go_wp2
  refine bodyPost_ret (v := .agg #[.int .i64 a, .int .i64 b, .int .i64 c, .int .i64 d]) ?_ rfl ⟨rfl, ?_⟩
  · simp [results, Try.results55, go_sem]
  · exact ((Below.refl _ _).alloc (Nat.le_refl _) _).alloc (by simp) _
theorem ix0 (a b c d : Int) (w : World) : (Instr.index 82 (.agg #[.int .i64 a, .int .i64 b, .int .i64 c, .int .i64 d]) (.int .i64 0)).run Try.prog w = .ok (.int .i64 a) w := by kernel_rfl
theorem ix1 (a b c d : Int) (w : World) : (Instr.index 82 (.agg #[.int .i64 a, .int .i64 b, .int .i64 c, .int .i64 d]) (.int .i64 1)).run Try.prog w = .ok (.int .i64 b) w := by kernel_rfl
theorem ix2 (a b c d : Int) (w : World) : (Instr.index 82 (.agg #[.int .i64 a, .int .i64 b, .int .i64 c, .int .i64 d]) (.int .i64 2)).run Try.prog w = .ok (.int .i64 c) w := by kernel_rfl
theorem ix3 (a b c d : Int) (w : World) : (Instr.index 82 (.agg #[.int .i64 a, .int .i64 b, .int .i64 c, .int .i64 d]) (.int .i64 3)).run Try.prog w = .ok (.int .i64 d) w := by kernel_rfl
def okp (n : Int) : Prop := -1000000 ≤ n ∧ n ≤ 1000000
instance (n : Int) : Decidable (okp n) := by unfold okp; infer_instance
def impl_GoodSpin.f (a b c d : Int) : Option Bool := some (decide (okp a ∧ okp b ∧ okp c ∧ okp d ∧ (a ≠ 0 ∨ b ≠ 0 ∨ c ≠ 0 ∨ d ≠ 0)))
set_option maxHeartbeats 4000000 in
theorem impl_GoodSpin.calls (a b c d : Int) (r : Bool) (w : World) (h : impl_GoodSpin.f a b c d = some r) : Calls Try.prog 20 #[.agg #[.int .i64 a, .int .i64 b, .int .i64 c, .int .i64 d]] w fun e w' => e = .returned (.bool r) ∧ Below w.heap.size w w' := by
  have hu32 := Try.underlying32
  have hu82 := Try.underlying82
  go_enter Try.func20, Try.ntmps20
  go_wp2_with (go_at_call 55; refine (parts_calls a b c d _).mono ?_; rintro e w1 ⟨rfl, hb⟩)
  have hB : Aside0 (Below w.heap.size w w1) := ⟨((Below.refl w.heap.size w).alloc (Nat.le_refl _) _).trans (hb.mono (by simp))⟩
  clear hb
  have H := Aside0.mk (Option.some.inj h)
  clear h
  go_loop [3, 8] (fun s i => ∃ k : Int, 0 ≤ k ∧ k ≤ 4 ∧ i = .int .i64 k ∧ Aside0 (∀ x ∈ [a, b, c, d].take k.toNat, okp x) ∧ ∃ sb : Bool, s = .bool sb ∧ Aside0 (sb = ([a, b, c, d].take k.toNat).any (· != 0))) (fun _ i => 4 - (intOf i).toNat)
  case atStart => exact ⟨0, by omega, by omega, rfl, ⟨by simp⟩, _, rfl, ⟨rfl⟩⟩
  case round =>
    obtain ⟨k, hk0, hk, rfl, HK, sb, rfl, HS⟩ := hrel
    have hcases : k = 0 ∨ k = 1 ∨ k = 2 ∨ k = 3 ∨ k = 4 := by omega
    rcases hcases with rfl | rfl | rfl | rfl | rfl
    · have kx := fun w => ix0 a b c d w
      by_cases h1 : a < -1000000
      · have h1b : decide (a < -1000000) = true := decide_eq_true h1
        go_wp2
        go_ret
        exact ⟨by rw [← H.out, decide_eq_false (by unfold okp; omega)]; rfl, hB.out⟩
      · have h1b : decide (a < -1000000) = false := decide_eq_false h1
        by_cases h2 : a > 1000000
        · have h2b : decide (1000000 < a) = true := decide_eq_true h2
          go_wp2
          go_ret
          exact ⟨by rw [← H.out, decide_eq_false (by unfold okp; omega)]; rfl, hB.out⟩
        · have h2b : decide (1000000 < a) = false := decide_eq_false h2
          by_cases h3 : a = 0
          · have h3b : (a != 0) = false := by simp [h3]
            replace h3 := Aside0.mk h3
            cases sb
            all_goals go_wp2
            all_goals
              go_round
              case rel => exact ⟨1, by omega, by omega, rfl, ⟨by have := HK.out; simp [okp] at this ⊢; omega⟩, _, rfl, ⟨by have h4 := HS.out; have h3' := h3.out; clear h1b h2b h3b h1 h2; first | (simp [h3'] at h4 ⊢; done) | (simp at h4 ⊢; simp [h3', h4]; done) | (simp at h4 ⊢; omega) | (simp_all; done)⟩⟩
              case measure => simp [intOf]
          · have h3b : (a != 0) = true := by simp [h3]
            replace h3 := Aside0.mk h3
            cases sb
            all_goals go_wp2
            all_goals
              go_round
              case rel => exact ⟨1, by omega, by omega, rfl, ⟨by have := HK.out; simp [okp] at this ⊢; omega⟩, _, rfl, ⟨by have h4 := HS.out; have h3' := h3.out; clear h1b h2b h3b h1 h2; first | (simp [h3'] at h4 ⊢; done) | (simp at h4 ⊢; simp [h3', h4]; done) | (simp at h4 ⊢; omega) | (simp_all; done)⟩⟩
              case measure => simp [intOf]
    · have kx := fun w => ix1 a b c d w
      by_cases h1 : b < -1000000
      · have h1b : decide (b < -1000000) = true := decide_eq_true h1
        go_wp2
        go_ret
        exact ⟨by rw [← H.out, decide_eq_false (by unfold okp; omega)]; rfl, hB.out⟩
      · have h1b : decide (b < -1000000) = false := decide_eq_false h1
        by_cases h2 : b > 1000000
        · have h2b : decide (1000000 < b) = true := decide_eq_true h2
          go_wp2
          go_ret
          exact ⟨by rw [← H.out, decide_eq_false (by unfold okp; omega)]; rfl, hB.out⟩
        · have h2b : decide (1000000 < b) = false := decide_eq_false h2
          by_cases h3 : b = 0
          · have h3b : (b != 0) = false := by simp [h3]
            replace h3 := Aside0.mk h3
            cases sb
            all_goals go_wp2
            all_goals
              go_round
              case rel => exact ⟨2, by omega, by omega, rfl, ⟨by have := HK.out; simp [okp] at this ⊢; omega⟩, _, rfl, ⟨by have h4 := HS.out; have h3' := h3.out; clear h1b h2b h3b h1 h2; first | (simp [h3'] at h4 ⊢; done) | (simp at h4 ⊢; simp [h3', h4]; done) | (simp at h4 ⊢; omega) | (simp_all; done)⟩⟩
              case measure => simp [intOf]
          · have h3b : (b != 0) = true := by simp [h3]
            replace h3 := Aside0.mk h3
            cases sb
            all_goals go_wp2
            all_goals
              go_round
              case rel => exact ⟨2, by omega, by omega, rfl, ⟨by have := HK.out; simp [okp] at this ⊢; omega⟩, _, rfl, ⟨by have h4 := HS.out; have h3' := h3.out; clear h1b h2b h3b h1 h2; first | (simp [h3'] at h4 ⊢; done) | (simp at h4 ⊢; simp [h3', h4]; done) | (simp at h4 ⊢; omega) | (simp_all; done)⟩⟩
              case measure => simp [intOf]
    · have kx := fun w => ix2 a b c d w
      by_cases h1 : c < -1000000
      · have h1b : decide (c < -1000000) = true := decide_eq_true h1
        go_wp2
        go_ret
        exact ⟨by rw [← H.out, decide_eq_false (by unfold okp; omega)]; rfl, hB.out⟩
      · have h1b : decide (c < -1000000) = false := decide_eq_false h1
        by_cases h2 : c > 1000000
        · have h2b : decide (1000000 < c) = true := decide_eq_true h2
          go_wp2
          go_ret
          exact ⟨by rw [← H.out, decide_eq_false (by unfold okp; omega)]; rfl, hB.out⟩
        · have h2b : decide (1000000 < c) = false := decide_eq_false h2
          by_cases h3 : c = 0
          · have h3b : (c != 0) = false := by simp [h3]
            replace h3 := Aside0.mk h3
            cases sb
            all_goals go_wp2
            all_goals
              go_round
              case rel => exact ⟨3, by omega, by omega, rfl, ⟨by have := HK.out; simp [okp] at this ⊢; omega⟩, _, rfl, ⟨by have h4 := HS.out; have h3' := h3.out; clear h1b h2b h3b h1 h2; first | (simp [h3'] at h4 ⊢; done) | (simp at h4 ⊢; simp [h3', h4]; done) | (simp at h4 ⊢; omega) | (simp_all; done)⟩⟩
              case measure => simp [intOf]
          · have h3b : (c != 0) = true := by simp [h3]
            replace h3 := Aside0.mk h3
            cases sb
            all_goals go_wp2
            all_goals
              go_round
              case rel => exact ⟨3, by omega, by omega, rfl, ⟨by have := HK.out; simp [okp] at this ⊢; omega⟩, _, rfl, ⟨by have h4 := HS.out; have h3' := h3.out; clear h1b h2b h3b h1 h2; first | (simp [h3'] at h4 ⊢; done) | (simp at h4 ⊢; simp [h3', h4]; done) | (simp at h4 ⊢; omega) | (simp_all; done)⟩⟩
              case measure => simp [intOf]
    · have kx := fun w => ix3 a b c d w
      by_cases h1 : d < -1000000
      · have h1b : decide (d < -1000000) = true := decide_eq_true h1
        go_wp2
        go_ret
        exact ⟨by rw [← H.out, decide_eq_false (by unfold okp; omega)]; rfl, hB.out⟩
      · have h1b : decide (d < -1000000) = false := decide_eq_false h1
        by_cases h2 : d > 1000000
        · have h2b : decide (1000000 < d) = true := decide_eq_true h2
          go_wp2
          go_ret
          exact ⟨by rw [← H.out, decide_eq_false (by unfold okp; omega)]; rfl, hB.out⟩
        · have h2b : decide (1000000 < d) = false := decide_eq_false h2
          by_cases h3 : d = 0
          · have h3b : (d != 0) = false := by simp [h3]
            replace h3 := Aside0.mk h3
            cases sb
            all_goals go_wp2
            all_goals
              go_round
              case rel => exact ⟨4, by omega, by omega, rfl, ⟨by have := HK.out; simp [okp] at this ⊢; omega⟩, _, rfl, ⟨by have h4 := HS.out; have h3' := h3.out; clear h1b h2b h3b h1 h2; first | (simp [h3'] at h4 ⊢; done) | (simp at h4 ⊢; simp [h3', h4]; done) | (simp at h4 ⊢; omega) | (simp_all; done)⟩⟩
              case measure => simp [intOf]
          · have h3b : (d != 0) = true := by simp [h3]
            replace h3 := Aside0.mk h3
            cases sb
            all_goals go_wp2
            all_goals
              go_round
              case rel => exact ⟨4, by omega, by omega, rfl, ⟨by have := HK.out; simp [okp] at this ⊢; omega⟩, _, rfl, ⟨by have h4 := HS.out; have h3' := h3.out; clear h1b h2b h3b h1 h2; first | (simp [h3'] at h4 ⊢; done) | (simp at h4 ⊢; simp [h3', h4]; done) | (simp at h4 ⊢; omega) | (simp_all; done)⟩⟩
              case measure => simp [intOf]
    · go_wp2
      go_ret
      refine ⟨?_, hB.out⟩
      rw [← H.out]
      have h1 := HK.out
      have h2 := HS.out
      simp at h1 h2
      rw [h2]
      congr 1
      simp [h1, bne]
      rfl
def laws_FnExactGoodSpin.f (a b c d : Int) : Option Bool := (spec_GoodSpin.f a b c d).bind fun t => (impl_GoodSpin.f a b c d).bind fun u => if u = t then some true else some false
set_option maxHeartbeats 4000000 in
theorem laws_FnExactGoodSpin.calls (a0_0 a0_1 a0_2 a0_3 : Int) (w : World) (h : laws_FnExactGoodSpin.f a0_0 a0_1 a0_2 a0_3 = some true) :
    Calls Try.prog 5 #[.agg #[.int .i64 a0_0, .int .i64 a0_1, .int .i64 a0_2, .int .i64 a0_3]] w fun e w' => e = .returned (.bool true) ∧ Below w.heap.size w w' := by
  have hu30 := Try.underlying30
  have hu32 := Try.underlying32
  obtain ⟨t, ht, h⟩ := Option.bind_eq_some_iff.1 h
  obtain ⟨u, hu, h⟩ := Option.bind_eq_some_iff.1 h
  have e : u = t := by
    by_cases e : u = t
    · exact e
    · rw [if_neg e] at h; cases h
  subst e
  clear h
  have HT := Aside0.mk ht
  have HU := Aside0.mk hu
  clear ht hu
  go_enter Try.func5, Try.ntmps5
  go_wp2_with fail
  refine (laws_toSpin.calls a0_0 a0_1 a0_2 a0_3 a0_0 a0_1 a0_2 a0_3 _ rfl).mono ?_
  rintro e w1 ⟨rfl, hb1⟩
  have HB1 : Aside0 (Below w.heap.size w w1) := ⟨((Below.refl w.heap.size w).alloc (Nat.le_refl _) _).trans (hb1.mono (by simp))⟩
  have BK1 : Aside0 (w1.heap[w.heap.size]? = some (.cells #[.int .i64 a0_0, .int .i64 a0_1, .int .i64 a0_2, .int .i64 a0_3] 30 (0, 0))) := ⟨blk_below (MapKept.heap_alloc w _).1 hb1⟩
  clear hb1
  go_wp2_with fail
  refine (spec_GoodSpin.calls a0_0 a0_1 a0_2 a0_3 u _ HT.out).mono ?_
  rintro e w2 ⟨rfl, hb2⟩
  have HB2 : Aside0 (Below w.heap.size w w2) := ⟨HB1.out.trans (hb2.mono HB1.out.size)⟩
  have BK2 : Aside0 (w2.heap[w.heap.size]? = some (.cells #[.int .i64 a0_0, .int .i64 a0_1, .int .i64 a0_2, .int .i64 a0_3] 30 (0, 0))) := ⟨(hb2.block _ (blk_lt BK1.out)).trans BK1.out⟩
  clear hb2 HB1 BK1
  have c0 := blk_cell BK2.out 0
  have c1 := blk_cell BK2.out 1
  have c2 := blk_cell BK2.out 2
  have c3 := blk_cell BK2.out 3
  simp at c0 c1 c2 c3
  go_wp2_with fail
  refine (laws_toSpin.calls a0_0 a0_1 a0_2 a0_3 a0_0 a0_1 a0_2 a0_3 _ rfl).mono ?_
  rintro e w3 ⟨rfl, hb3⟩
  have HB3 : Aside0 (Below w.heap.size w w3) := ⟨HB2.out.trans (hb3.mono HB2.out.size)⟩
  clear hb3 c0 c1 c2 c3
  go_wp2_with fail
  refine (impl_GoodSpin.calls a0_0 a0_1 a0_2 a0_3 u _ HU.out).mono ?_
  rintro e w4 ⟨rfl, hb4⟩
  have HB4 : Aside0 (Below w.heap.size w w4) := ⟨HB3.out.trans (hb4.mono HB3.out.size)⟩
  clear hb4
  have hu : (u != u) = false := by simp
  go_wp2
  go_ret
  exact ⟨rfl, HB4.out⟩
end Go.Proofs.Ytcijdjanpajndaa.PFnExactGoodSpin
