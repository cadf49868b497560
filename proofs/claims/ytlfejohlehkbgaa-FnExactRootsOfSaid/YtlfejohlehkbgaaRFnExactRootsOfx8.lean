-- Written by a program of this session out of the loaded functions' print; helper lemmas as print.sh lays them.
import Derived.Test.YtlfejohlehkbgaaUp2
import Derived.Test.YtlfejohlehkbgaaUp
import Derived.Test.YtlfejohlehkbgaaRel
import Derived.Test.YtlfejohlehkbgaaRFnExactRootsOfx0
import Derived.Test.YtlfejohlehkbgaaRFnExactRootsOfx7
namespace Go.Proofs.Ytlfejohlehkbgaa.PFnExactRootsOf
open Go.RowKit Go.Proofs.YtlfejohlehkbgaaW.PrintWords Go.Proofs.YtlfejohlehkbgaaW.PrintLast Go.Proofs.YtlfejohlehkbgaaW.PrintMore
attribute [local go_sem] max2_int min2_int max_two min_two max_three min_three max_four min_four go_fstore go_fneg go_fadd go_fsub go_fmul go_fquo go_fmax go_fmin go_fconv go_bits go_frombits  -- for this text's walks alone
set_option linter.unusedVariables false
set_option linter.unusedSimpArgs false

/-! ### impl_reals_at: function 23 -/
def impl_reals_at.T6 : Bool × List (List Nat × List Nat) := (true, [([], []), ([], []), ([1], [1]), ([], []), ([], []), ([3, 4], [3, 4]), ([5], [5]), ([0, 2, 6], [0, 2, 6]), ([0, 1, 2, 3, 4, 5, 6, 7], []), ([8, 7, 7, 0, 1, 2, 3, 4, 5, 6, 7], [7, 8])])
def impl_reals_at.B6 : List Nat := [0, 0, 2, 0, 0, 24, 56, 127, 255, 511]
theorem impl_reals_at.tab6 : rtab .any (opsOf Try.f23 6) = impl_reals_at.T6 := by kernel_rfl
theorem impl_reals_at.bits6 : waitsOk impl_reals_at.T6.2 impl_reals_at.B6 = true := by kernel_rfl
section
open Go.Proofs.Ytlfejohlehkbgaa.Flo (Rt Rp Rq Rd Sp Vt mRe mIm dRe dIm den denBad al toldS)
attribute [local go_sem] go_tadd go_tsub go_tmul go_tquo
set_option maxHeartbeats 8000000 in
set_option maxRecDepth 100000 in
theorem impl_reals_at.rel (k : Nat) (g : Nat) (s0_0 : Bool) (A1 : Option Addr) (c1 : Nat) (l1 : List Nat) (a2_0 : Nat) (a2_1 : Nat) (X : Option Nat) (Y : Option Nat) (w0 w : World) (hI : IsS47 w0 w g s0_0) (hB : Below w0.heap.size w0 w) (hr1 : Kd.C Kd.flt w A1 l1.length l1) (hc1 : l1.length ≤ c1) (hf1 : ∀ ad, A1 = some ad → 0 < l1.length → ad.block ≠ g) (h : (Flo.hornS k l1 (wrap64 ((l1.length : Int) - 1)) (Flo.al a2_0) (Flo.al a2_1) (some 0) (some 0)) = some (X, Y)) :
  Calls Try.prog 23 #[.pointer (some ⟨g, 0, none⟩), .slice A1 l1.length c1, .agg #[.float .f64 a2_0, .float .f64 a2_1]] w fun e w' => ∃ r1 r2 r3, Rp X Y s0_0 r1 r2 r3 ∧ e = .returned (.agg #[.float .f64 r1, .float .f64 r2]) ∧ IsS47 w0 w' g r3 ∧ Below w0.heap.size w0 w' ∧ KeepBut w w' g none := by
 have hu42 := Try.underlying42
 have HR1 := Aside0.mk hr1
 have HC1 := Aside0.mk hc1
 clear hr1 hc1
 have HI0 := Aside0.mk hI
 have HK := a_ (KeepBut.refl w g none)
 have HL := Aside0.mk hB.size
 clear hI
 have HW0 := Aside0.mk hB.size
 have HB := Aside0.mk hB
 clear hB
 have H : (Flo.hornS k l1 (wrap64 ((l1.length : Int) - 1)) (Flo.al a2_0) (Flo.al a2_1) (some 0) (some 0)) = some (X, Y) := h
 clear h
 have H' := Aside0.mk H
 clear H
 go_enter Try.func23, Try.ntmps23
 go_wp2_with (first | ((with_reducible refine gate_dst (N := 5) rfl ?_); refine box_event ?hg (N := 5) ?hd (cs := #[.float .f64 a2_0, .float .f64 a2_1]) (t := 42) ?hr ?_; (case hd => rfl); (case hg => rfl); (case hr => first | (go_simp; done) | (go_simp; rfl)); intro gb224 hg w4 hbox hb; replace HB := a_ (below_step (by repeat (first | (with_reducible first | exact HB.out | apply below_alloc | apply pw_below_drewN | apply below_drew1 | refine below_set ?_ (IsS47.ge HI0.out)) | exact HB.out)) hb); have BK224 := a_ (hbox); have GW224 := a_ (by rw [hg]; exact (keep_size (w := w) (g := g) (row := none) (by repeat (first | (with_reducible first | exact HK.out | apply KeepBut.set_ | apply keep_drewN | apply keep_drew | apply keep_alloc) | exact HK.out))) : w.heap.size ≤ gb224); have GE224 := a_ (Nat.le_trans HW0.out (by rw [hg]; exact (keep_size (w := w) (g := g) (row := none) (by repeat (first | (with_reducible first | exact HK.out | apply KeepBut.set_ | apply keep_drewN | apply keep_drew | apply keep_alloc) | exact HK.out))) : w.heap.size ≤ gb224) : w0.heap.size ≤ gb224); replace HK := a_ (KeepBut.trans (by repeat (first | (with_reducible first | exact HK.out | apply KeepBut.set_ | apply keep_drewN | apply keep_drew | apply keep_alloc) | exact HK.out)) (KeepBut.of_below hb g none) (.inl rfl)); have NB0_224 := a_ (by rw [hg]; exact Nat.ne_of_lt (IsS47.lt (show IsS47 w0 _ g s0_0 from by repeat (first | (with_reducible first | exact HI0.out | apply IsS47.alloc | apply IsS47.drewN | apply IsS47.drew | apply IsS47.set_0) | exact HI0.out))) : g ≠ gb224); have NB224_0 := a_ (by rw [hg]; exact Nat.ne_of_gt (IsS47.lt (show IsS47 w0 _ g s0_0 from by repeat (first | (with_reducible first | exact HI0.out | apply IsS47.alloc | apply IsS47.drewN | apply IsS47.drew | apply IsS47.set_0) | exact HI0.out))) : gb224 ≠ g); replace HI0 := a_ (IsS47.below (by repeat (first | (with_reducible first | exact HI0.out | apply IsS47.alloc | apply IsS47.drewN | apply IsS47.drew | apply IsS47.set_0) | exact HI0.out)) hb); clear hb hbox hg) | ((with_reducible refine gate_dst (N := 6) rfl ?_); refine box_event ?hg (N := 6) ?hd (cs := #[.float .f64 (0 : Nat), .float .f64 (0 : Nat)]) (t := 42) ?hr ?_; (case hd => rfl); (case hg => rfl); (case hr => first | (go_simp; done) | (go_simp; rfl)); intro gb225 hg w5 hbox hb; replace HB := a_ (below_step (by repeat (first | (with_reducible first | exact HB.out | apply below_alloc | apply pw_below_drewN | apply below_drew1 | refine below_set ?_ (IsS47.ge HI0.out) | refine below_set ?_ GE224.out) | exact HB.out)) hb); have BK225 := a_ (hbox); have GW225 := a_ (by rw [hg]; exact (keep_size (w := w) (g := g) (row := none) (by repeat (first | (with_reducible first | exact HK.out | apply KeepBut.set_ | apply keep_drewN | apply keep_drew | apply keep_alloc | refine keep_far ?_ GW224.out _) | exact HK.out))) : w.heap.size ≤ gb225); have GE225 := a_ (Nat.le_trans HW0.out (by rw [hg]; exact (keep_size (w := w) (g := g) (row := none) (by repeat (first | (with_reducible first | exact HK.out | apply KeepBut.set_ | apply keep_drewN | apply keep_drew | apply keep_alloc | refine keep_far ?_ GW224.out _) | exact HK.out))) : w.heap.size ≤ gb225) : w0.heap.size ≤ gb225); replace HK := a_ (KeepBut.trans (by repeat (first | (with_reducible first | exact HK.out | apply KeepBut.set_ | apply keep_drewN | apply keep_drew | apply keep_alloc | refine keep_far ?_ GW224.out _) | exact HK.out)) (KeepBut.of_below hb g none) (.inl rfl)); have NB224_225 := a_ (nel hg BK224.out); have NB225_224 := a_ (nle hg BK224.out); replace BK224 := a_ (blk_below (pk BK224.out) hb); have NB0_225 := a_ (by rw [hg]; exact Nat.ne_of_lt (IsS47.lt (show IsS47 w0 _ g s0_0 from by repeat (first | (with_reducible first | exact HI0.out | apply IsS47.alloc | apply IsS47.drewN | apply IsS47.drew | apply IsS47.set_0 | refine IsS47.far ?_ NB0_224.out _) | exact HI0.out))) : g ≠ gb225); have NB225_0 := a_ (by rw [hg]; exact Nat.ne_of_gt (IsS47.lt (show IsS47 w0 _ g s0_0 from by repeat (first | (with_reducible first | exact HI0.out | apply IsS47.alloc | apply IsS47.drewN | apply IsS47.drew | apply IsS47.set_0 | refine IsS47.far ?_ NB0_224.out _) | exact HI0.out))) : gb225 ≠ g); replace HI0 := a_ (IsS47.below (by repeat (first | (with_reducible first | exact HI0.out | apply IsS47.alloc | apply IsS47.drewN | apply IsS47.drew | apply IsS47.set_0 | refine IsS47.far ?_ NB0_224.out _) | exact HI0.out)) hb); clear hb hbox hg) | ((with_reducible refine gate_dst (N := 7) rfl ?_); refine box_event ?hg (N := 7) ?hd (cs := #[.float .f64 (0 : Nat), .float .f64 (0 : Nat)]) (t := 42) ?hr ?_; (case hd => rfl); (case hg => rfl); (case hr => first | (go_simp; done) | (go_simp; rfl)); intro gb226 hg w6 hbox hb; replace HB := a_ (below_step (by repeat (first | (with_reducible first | exact HB.out | apply below_alloc | apply pw_below_drewN | apply below_drew1 | refine below_set ?_ (IsS47.ge HI0.out) | refine below_set ?_ GE224.out | refine below_set ?_ GE225.out) | exact HB.out)) hb); have BK226 := a_ (hbox); have GW226 := a_ (by rw [hg]; exact (keep_size (w := w) (g := g) (row := none) (by repeat (first | (with_reducible first | exact HK.out | apply KeepBut.set_ | apply keep_drewN | apply keep_drew | apply keep_alloc | refine keep_far ?_ GW224.out _ | refine keep_far ?_ GW225.out _) | exact HK.out))) : w.heap.size ≤ gb226); have GE226 := a_ (Nat.le_trans HW0.out (by rw [hg]; exact (keep_size (w := w) (g := g) (row := none) (by repeat (first | (with_reducible first | exact HK.out | apply KeepBut.set_ | apply keep_drewN | apply keep_drew | apply keep_alloc | refine keep_far ?_ GW224.out _ | refine keep_far ?_ GW225.out _) | exact HK.out))) : w.heap.size ≤ gb226) : w0.heap.size ≤ gb226); replace HK := a_ (KeepBut.trans (by repeat (first | (with_reducible first | exact HK.out | apply KeepBut.set_ | apply keep_drewN | apply keep_drew | apply keep_alloc | refine keep_far ?_ GW224.out _ | refine keep_far ?_ GW225.out _) | exact HK.out)) (KeepBut.of_below hb g none) (.inl rfl)); have NB224_226 := a_ (nel hg BK224.out); have NB226_224 := a_ (nle hg BK224.out); replace BK224 := a_ (blk_below (pk BK224.out) hb); have NB225_226 := a_ (nel hg BK225.out); have NB226_225 := a_ (nle hg BK225.out); replace BK225 := a_ (blk_below (pk BK225.out) hb); have NB0_226 := a_ (by rw [hg]; exact Nat.ne_of_lt (IsS47.lt (show IsS47 w0 _ g s0_0 from by repeat (first | (with_reducible first | exact HI0.out | apply IsS47.alloc | apply IsS47.drewN | apply IsS47.drew | apply IsS47.set_0 | refine IsS47.far ?_ NB0_224.out _ | refine IsS47.far ?_ NB0_225.out _) | exact HI0.out))) : g ≠ gb226); have NB226_0 := a_ (by rw [hg]; exact Nat.ne_of_gt (IsS47.lt (show IsS47 w0 _ g s0_0 from by repeat (first | (with_reducible first | exact HI0.out | apply IsS47.alloc | apply IsS47.drewN | apply IsS47.drew | apply IsS47.set_0 | refine IsS47.far ?_ NB0_224.out _ | refine IsS47.far ?_ NB0_225.out _) | exact HI0.out))) : gb226 ≠ g); replace HI0 := a_ (IsS47.below (by repeat (first | (with_reducible first | exact HI0.out | apply IsS47.alloc | apply IsS47.drewN | apply IsS47.drew | apply IsS47.set_0 | refine IsS47.far ?_ NB0_224.out _ | refine IsS47.far ?_ NB0_225.out _) | exact HI0.out)) hb); clear hb hbox hg; have hnb7 := NB226_224.out; have hnc7 := NB224_226.out; have hnb8 := NB226_225.out; have hnc8 := NB225_226.out; have hnb9 := NB226_0.out; have hnc9 := NB0_226.out; have hcz10_0 : _ = some (Value.float .f64 (0 : Nat)) := (blk_cell BK226.out 0).trans rfl; have hcz10_1 : _ = some (Value.float .f64 (0 : Nat)) := (blk_cell BK226.out 1).trans rfl; have hfz10_0 := blk_frozen BK226.out 0; have hfz10_1 := blk_frozen BK226.out 1))
 go_loopg [8] k (fun kq v8 w' => ∃ (x8_1 : Int) (x1000_1 : Bool) (x227000_1 : Nat) (x227001_1 : Nat) (W0 : Option Nat) (W1 : Option Nat), v8 = .int .i64 x8_1 ∧ Aside0 (Flo.hornS kq l1 x8_1 (al a2_0) (al a2_1) W0 W1 = some (X, Y)) ∧ Aside0 (Rp W0 W1 s0_0 x227000_1 x227001_1 x1000_1) ∧ Aside0 (kq ≤ k) ∧ Aside0 (w'.heap[gb224]? = some (.cells #[.float .f64 a2_0, .float .f64 a2_1] 42 (0, 0))) ∧ Aside0 (w'.heap[gb225]? = some (.cells #[.float .f64 (0 : Nat), .float .f64 (0 : Nat)] 42 (0, 0))) ∧ Aside0 (w'.heap[gb226]? = some (.cells #[.float .f64 x227000_1, .float .f64 x227001_1] 42 (0, 0))) ∧ Aside0 (IsS47 w0 w' g x1000_1) ∧ Aside0 (KeepBut w w' g none) ∧ Aside0 (Below w0.heap.size w0 w'))
 case atStart => exact ⟨(wrap64 ((l1.length : Int) - 1)), (s0_0), ((0 : Nat)), ((0 : Nat)), some 0, some 0, (by first | rfl | (simp; done) | (simp [*]; done)), H', ⟨Flo.rp_zero s0_0⟩, ⟨Nat.le_refl _⟩, ⟨by refine pk ?_; refine blk_far ?_ NB224_226.out _; refine pk ?_; refine blk_far ?_ NB224_226.out _; refine pk ?_; exact BK224.out⟩, ⟨by refine pk ?_; refine blk_far ?_ NB225_226.out _; refine pk ?_; refine blk_far ?_ NB225_226.out _; refine pk ?_; exact BK225.out⟩, ⟨by refine pk ?_; refine blk_put (cs := #[.float .f64 (0 : Nat), .float .f64 (0 : Nat)]) ?_ 1 _ rfl; refine pk ?_; refine blk_put (cs := #[.float .f64 (0 : Nat), .float .f64 (0 : Nat)]) ?_ 0 _ rfl; refine pk ?_; exact BK226.out⟩, ⟨by repeat (first | (with_reducible first | exact HI0.out | apply IsS47.alloc | apply IsS47.drewN | apply IsS47.drew | apply IsS47.set_0 | refine IsS47.far ?_ NB0_224.out _ | refine IsS47.far ?_ NB0_225.out _ | refine IsS47.far ?_ NB0_226.out _) | exact HI0.out)⟩, ⟨by repeat (first | (with_reducible first | exact HK.out | apply KeepBut.set_ | apply keep_drewN | apply keep_drew | apply keep_alloc | refine keep_far ?_ GW224.out _ | refine keep_far ?_ GW225.out _ | refine keep_far ?_ GW226.out _) | exact HK.out)⟩, ⟨by repeat (first | (with_reducible first | exact HB.out | apply below_alloc | apply pw_below_drewN | apply below_drew1 | refine below_set ?_ (IsS47.ge HI0.out) | refine below_set ?_ GE224.out | refine below_set ?_ GE225.out | refine below_set ?_ GE226.out) | exact HB.out)⟩⟩
 case round =>
  clear H'
  try clear c1; try clear c2; try clear p2; try clear p6; try clear c7; try clear c8; try clear c9; try clear hcz10_0; try clear hcz10_1; try clear hfz10_0; try clear hfz10_1
  obtain ⟨x8_1, x1000_1, x227000_1, x227001_1, W0, W1, rfl, HA, HS_, HK1, BK224, BK225, BK226, HI0, HK, HB⟩ := hrel
  cases gk with
  | zero => exact absurd HA.out (by simp [Flo.hornS])
  | succ k1 =>
   have H := HA.out
   clear HA
   simp only [Flo.hornS] at H
   by_cases c11 : x8_1 ≥ 0
   ·rw [if_pos c11] at H
    have c11b0 : decide (0 ≤ x8_1) = true := decide_eq_true c11
    clear c11
    by_cases c13 : 0 ≤ x8_1
    ·rw [if_pos c13] at H
     have c13b0 : decide (0 ≤ x8_1) = true := decide_eq_true c13
     clear c13
     by_cases c14 : x8_1 < (l1.length : Int)
     ·rw [if_pos c14] at H
      have c14b0 : decide (x8_1 < (l1.length : Int)) = true := decide_eq_true c14
      clear c14
      have H' := Aside0.mk H
      clear H
      have hnb16 := NB226_224.out
      have hnc16 := NB224_226.out
      have hnb17 := NB226_225.out
      have hnc17 := NB225_226.out
      have hnb18 := NB226_0.out
      have hnc18 := NB0_226.out
      have hcz19_0 : wr.cell? ⟨gb226, 0, none⟩ = some (.float .f64 x227000_1) := (blk_cell BK226.out 0).trans rfl
      have hcz19_1 : wr.cell? ⟨gb226, 1, none⟩ = some (.float .f64 x227001_1) := (blk_cell BK226.out 1).trans rfl
      have hfz19_0 := blk_frozen BK226.out 0
      have hfz19_1 := blk_frozen BK226.out 1
      have hnb20 := NB224_225.out
      have hnc20 := NB225_224.out
      have hnb21 := NB224_0.out
      have hnc21 := NB0_224.out
      have hcz22_0 : wr.cell? ⟨gb224, 0, none⟩ = some (.float .f64 a2_0) := (blk_cell BK224.out 0).trans rfl
      have hcz22_1 : wr.cell? ⟨gb224, 1, none⟩ = some (.float .f64 a2_1) := (blk_cell BK224.out 1).trans rfl
      have hfz22_0 := blk_frozen BK224.out 0
      have hfz22_1 := blk_frozen BK224.out 1
      try go_wp2_with (first | ((with_reducible refine gate_callee (f := 39) rfl ?_); refine goesL_ (some 20) rfl rfl Try.func39 (by kernel_rfl) rfl #[.pointer (some ⟨g, 0, none⟩), .agg #[.float .f64 x227000_1, .float .f64 x227001_1], .agg #[.float .f64 a2_0, .float .f64 a2_1]] rfl (by (try simp only [lA, lB, lC]); first | done | rfl | (simp only [lD, lE]; rfl)) ?_; (with_reducible refine (impl_reals_times.rel g x1000_1 x227000_1 x227001_1 a2_0 a2_1 w0 _ ?side1 ?side2).mono ?_); (case side1 => repeat (first | (with_reducible first | exact HI0.out | apply IsS47.alloc | apply IsS47.drewN | apply IsS47.drew | apply IsS47.set_0 | refine IsS47.far ?_ NB0_224.out _ | refine IsS47.far ?_ NB0_225.out _ | refine IsS47.far ?_ NB0_226.out _) | exact HI0.out)); (case side2 => repeat (first | (with_reducible first | exact HB.out | apply below_alloc | apply pw_below_drewN | apply below_drew1 | refine below_set ?_ (IsS47.ge HI0.out) | refine below_set ?_ GE224.out | refine below_set ?_ GE225.out | refine below_set ?_ GE226.out) | exact HB.out)); rintro e w23 ⟨t227, t228, t229, A12, rfl, hi, hb, hk⟩; refine ⟨_, rfl, ?_⟩; replace BK224 := a_ (KeepBut.blk hk (g' := gb224) (o := .cells #[.float .f64 a2_0, .float .f64 a2_1] 42 (0, 0)) (pk BK224.out) NB224_0.out (by simp)); replace BK225 := a_ (KeepBut.blk hk (g' := gb225) (o := .cells #[.float .f64 (0 : Nat), .float .f64 (0 : Nat)] 42 (0, 0)) (pk BK225.out) NB225_0.out (by simp)); replace BK226 := a_ (KeepBut.blk hk (g' := gb226) (o := .cells #[.float .f64 x227000_1, .float .f64 x227001_1] 42 (0, 0)) (pk BK226.out) NB226_0.out (by simp)); replace HK := a_ (KeepBut.trans (by repeat (first | (with_reducible first | exact HK.out | apply KeepBut.set_ | apply keep_drewN | apply keep_drew | apply keep_alloc | refine keep_far ?_ GW224.out _ | refine keep_far ?_ GW225.out _ | refine keep_far ?_ GW226.out _) | exact HK.out)) hk (.inl rfl)); replace HB := a_ (hb); replace HI0 := a_ (hi); clear hb hk hi; have hcz24_0 : _ = some (Value.float .f64 x227000_1) := (blk_cell BK226.out 0).trans rfl; have hcz24_1 : _ = some (Value.float .f64 x227001_1) := (blk_cell BK226.out 1).trans rfl; have hfz24_0 := blk_frozen BK226.out 0; have hfz24_1 := blk_frozen BK226.out 1))
      have n0_ : Aside0 (((w23.setCell ⟨gb226, 0, none⟩ (.float .f64 t227)).setCell ⟨gb226, 1, none⟩ (.float .f64 t228)).heap[gb224]? = some (.cells #[.float .f64 a2_0, .float .f64 a2_1] 42 (0, 0))) := ⟨by refine pk ?_; refine blk_far ?_ NB224_226.out _; refine pk ?_; refine blk_far ?_ NB224_226.out _; refine pk ?_; exact BK224.out⟩
      have n1_ : Aside0 (((w23.setCell ⟨gb226, 0, none⟩ (.float .f64 t227)).setCell ⟨gb226, 1, none⟩ (.float .f64 t228)).heap[gb225]? = some (.cells #[.float .f64 (0 : Nat), .float .f64 (0 : Nat)] 42 (0, 0))) := ⟨by refine pk ?_; refine blk_far ?_ NB225_226.out _; refine pk ?_; refine blk_far ?_ NB225_226.out _; refine pk ?_; exact BK225.out⟩
      have n2_ : Aside0 (((w23.setCell ⟨gb226, 0, none⟩ (.float .f64 t227)).setCell ⟨gb226, 1, none⟩ (.float .f64 t228)).heap[gb226]? = some (.cells #[.float .f64 t227, .float .f64 t228] 42 (0, 0))) := ⟨by refine pk ?_; refine blk_put (cs := #[.float .f64 t227, .float .f64 x227001_1]) ?_ 1 _ rfl; refine pk ?_; refine blk_put (cs := #[.float .f64 x227000_1, .float .f64 x227001_1]) ?_ 0 _ rfl; refine pk ?_; exact BK226.out⟩
      have n3_ : Aside0 (IsS47 w0 ((w23.setCell ⟨gb226, 0, none⟩ (.float .f64 t227)).setCell ⟨gb226, 1, none⟩ (.float .f64 t228)) g t229) := ⟨by repeat (first | (with_reducible first | exact HI0.out | apply IsS47.alloc | apply IsS47.drewN | apply IsS47.drew | apply IsS47.set_0 | refine IsS47.far ?_ NB0_224.out _ | refine IsS47.far ?_ NB0_225.out _ | refine IsS47.far ?_ NB0_226.out _) | exact HI0.out)⟩
      have n4_ : Aside0 (KeepBut w ((w23.setCell ⟨gb226, 0, none⟩ (.float .f64 t227)).setCell ⟨gb226, 1, none⟩ (.float .f64 t228)) g none) := ⟨by repeat (first | (with_reducible first | exact HK.out | apply KeepBut.set_ | apply keep_drewN | apply keep_drew | apply keep_alloc | refine keep_far ?_ GW224.out _ | refine keep_far ?_ GW225.out _ | refine keep_far ?_ GW226.out _) | exact HK.out)⟩
      have n5_ : Aside0 (Below w0.heap.size w0 ((w23.setCell ⟨gb226, 0, none⟩ (.float .f64 t227)).setCell ⟨gb226, 1, none⟩ (.float .f64 t228))) := ⟨by repeat (first | (with_reducible first | exact HB.out | apply below_alloc | apply pw_below_drewN | apply below_drew1 | refine below_set ?_ (IsS47.ge HI0.out) | refine below_set ?_ GE224.out | refine below_set ?_ GE225.out | refine below_set ?_ GE226.out) | exact HB.out)⟩
      (try clear BK224)
      (try clear BK225)
      (try clear BK226)
      (try clear HI0)
      (try clear HK)
      (try clear HB)
      generalize ((w23.setCell ⟨gb226, 0, none⟩ (.float .f64 t227)).setCell ⟨gb226, 1, none⟩ (.float .f64 t228)) = w25 at n0_ n1_ n2_ n3_ n4_ n5_ ⊢
      have BK224 := n0_
      have BK225 := n1_
      have BK226 := n2_
      have HI0 := n3_
      have HK := n4_
      have HB := n5_
      clear n0_ n1_ n2_ n3_ n4_ n5_
      replace BK224 := a_ (blk_drew BK224.out)
      replace BK225 := a_ (blk_drew BK225.out)
      replace BK226 := a_ (blk_drew BK226.out)
      replace HI0 := a_ (IsS47.drew HI0.out)
      replace HK := a_ (keep_drew HK.out)
      replace HB := a_ (below_drew1 HB.out)
      have p230 : 0 ≤ (x8_1 : Int) := of_decide_eq_true (by first | (with_reducible assumption) | assumption)
      have q230 : x8_1 < (l1.length : Int) := of_decide_eq_true (by first | (with_reducible assumption) | assumption)
      obtain ⟨ad230, e230, hx230_0⟩ := Kd.at_flt HR1.out x8_1 p230 q230
      have hw230_0 := hx230_0
      cases e230
      have hne230_0 := (show ((ad230.add (x8_1).toNat) : Addr).block ≠ g from by first | (rw [add_block]; exact hf1 ad230 rfl (by omega)) | (show (Addr.add _ _).block ≠ _; rw [add_block]; exact hf1 ad230 rfl (by omega)) | exact hf1 ad230 rfl (by omega))
      replace hx230_0 := keep_cell HK.out hx230_0 (by first | (rw [add_block]; exact hf1 _ rfl (by omega)) | exact hf1 _ rfl (by omega) | exact hf1 ad230 rfl (by omega))
      replace p230 := eq_true p230
      replace q230 := eq_true q230
      refine start_ (n := 10) (S := fun w' => w'.cell? ⟨gb226, 0, none⟩ = some (.float .f64 t227) ∧ w'.cell? ⟨gb226, 1, none⟩ = some (.float .f64 t228) ∧ w'.cell? (ad230.add (x8_1).toNat) = some (.float .f64 (rdOf (0 : Nat) l1 x8_1))) (ds := [9]) #[false, false, false, false, false, false, false, false, false, false] (by kernel_rfl) rfl rfl ⟨(blk_cell BK226.out 0).trans rfl, (blk_cell BK226.out 1).trans rfl, (keep_cell HK.out hw230_0 hne230_0)⟩ (fun hHeld => ?_); refine with_tabW impl_reals_at.tab6 impl_reals_at.bits6 (fun HT_ HW_ => ?_)
      generalize w25.drew = w26 at BK224 BK225 BK226 HI0 HK HB hx230_0 hHeld ⊢
      refine pure_ (i := 0) (N := some 21) (v := ?_) (a' := ?_) #[true, false, false, false, false, false, false, false, false, false] rfl rfl (any_of HT_.out (by kernel_rfl)) (fun _ _ _ h => h) (Or.inl ⟨by rfl, ?_⟩) ?_ ?_
      rotate_left
      ·intro w'
       go_simp
       with_reducible rfl
      rotate_left
      ·simp only [Act.put, sB, sC, sD, i64_w, i32_w]
       rfl
      refine pure_ (i := 1) (N := some 22) (v := ?_) (a' := ?_) #[true, true, false, false, false, false, false, false, false, false] rfl rfl (any_of HT_.out (by kernel_rfl)) (fun _ _ _ h => h) (Or.inl ⟨by rfl, ?_⟩) ?_ ?_
      rotate_left
      ·intro w'
       go_simp
       with_reducible rfl
      rotate_left
      ·simp only [Act.put, sB, sC, sD, i64_w, i32_w]
       rfl
      refine pure_ (i := 3) (N := some 24) (v := ?_) (a' := ?_) #[true, true, false, true, false, false, false, false, false, false] rfl rfl (any_of HT_.out (by kernel_rfl)) (fun _ _ _ h => h) (Or.inl ⟨by rfl, ?_⟩) ?_ ?_
      rotate_left
      ·intro w'
       go_simp
       with_reducible rfl
      rotate_left
      ·simp only [Act.put, sB, sC, sD, i64_w, i32_w]
       rfl
      refine pure_ (i := 4) (N := some 25) (v := ?_) (a' := ?_) #[true, true, false, true, true, false, false, false, false, false] rfl rfl (any_of HT_.out (by kernel_rfl)) (fun _ _ _ h => h) (Or.inl ⟨by rfl, ?_⟩) ?_ ?_
      rotate_left
      ·intro w'
       go_simp
       with_reducible rfl
      rotate_left
      ·simp only [Act.put, sB, sC, sD, i64_w, i32_w]
       rfl
      refine pure_ (i := 5) (N := some 26) (v := ?_) (a' := ?_) #[true, true, false, true, true, true, false, false, false, false] rfl rfl (any_of HT_.out (by kernel_rfl)) (fun _ _ _ h => h) (Or.inl ⟨by rfl, ?_⟩) ?_ ?_
      rotate_left
      ·intro w'
       go_simp
       with_reducible rfl
      rotate_left
      ·simp only [Act.put, sB, sC, sD, i64_w, i32_w]
       rfl
      refine take_ (i := 2) (N := some 23) (v := ?_) (a' := ?_) #[true, true, true, true, true, true, false, false, false, false] rfl rfl (take_ofW HT_.out HW_.out (by kernel_rfl)) (fun _ _ _ h => h) (Or.inl ⟨by rfl, ?_⟩) hHeld ?_ ?_
      rotate_left
      ·rintro w' ⟨s0, s1, s2⟩
       go_simp
       with_reducible rfl
      rotate_left
      ·simp only [Act.put, sB, sC, sD, i64_w, i32_w]
       rfl
      refine take_ (i := 6) (N := some 27) (v := ?_) (a' := ?_) #[true, true, true, true, true, true, true, false, false, false] rfl rfl (take_ofW HT_.out HW_.out (by kernel_rfl)) (fun _ _ _ h => h) (Or.inl ⟨by rfl, ?_⟩) hHeld ?_ ?_
      rotate_left
      ·rintro w' ⟨s0, s1, s2⟩
       go_simp
       with_reducible rfl
      rotate_left
      ·simp only [Act.put, sB, sC, sD, i64_w, i32_w]
       rfl
      refine one_ (i := 7) (N := some 28) #[true, true, true, true, true, true, true, true, false, false] rfl rfl (one_of HT_.out (by kernel_rfl)) (by decide) (fun K hK => ?_)
      refine goes_ Try.func40 (by kernel_rfl) rfl #[.pointer (some ⟨g, 0, none⟩), .float .f64 t227, .float .f64 (rdOf (0 : Nat) l1 x8_1)] (by rfl) rfl rfl (by (try simp only [lA, lB, lC]); first | done | rfl | (simp only [lD, lE]; rfl)) ?_
      with_reducible refine (impl_reals_add.rel g t229 t227 (rdOf (0 : Nat) l1 x8_1) w0 _ ?side1 ?side2).mono ?_
      (case side1 => repeat (first | (with_reducible first | exact HI0.out | apply IsS47.alloc | apply IsS47.drewN | apply IsS47.drew | apply IsS47.set_0 | refine IsS47.far ?_ NB0_224.out _ | refine IsS47.far ?_ NB0_225.out _ | refine IsS47.far ?_ NB0_226.out _) | exact HI0.out))
      (case side2 => repeat (first | (with_reducible first | exact HB.out | apply below_alloc | apply pw_below_drewN | apply below_drew1 | refine below_set ?_ (IsS47.ge HI0.out) | refine below_set ?_ GE224.out | refine below_set ?_ GE225.out | refine below_set ?_ GE226.out) | exact HB.out))
      rintro e w27 ⟨t231, t232, A15, rfl, hi, hb, hk⟩
      refine ⟨_, rfl, ?_⟩
      replace BK224 := a_ (KeepBut.blk hk (g' := gb224) (o := .cells #[.float .f64 a2_0, .float .f64 a2_1] 42 (0, 0)) (pk BK224.out) NB224_0.out (by simp))
      replace BK225 := a_ (KeepBut.blk hk (g' := gb225) (o := .cells #[.float .f64 (0 : Nat), .float .f64 (0 : Nat)] 42 (0, 0)) (pk BK225.out) NB225_0.out (by simp))
      replace BK226 := a_ (KeepBut.blk hk (g' := gb226) (o := .cells #[.float .f64 t227, .float .f64 t228] 42 (0, 0)) (pk BK226.out) NB226_0.out (by simp))
      replace HK := a_ (KeepBut.trans (by repeat (first | (with_reducible first | exact HK.out | apply KeepBut.set_ | apply keep_drewN | apply keep_drew | apply keep_alloc | refine keep_far ?_ GW224.out _ | refine keep_far ?_ GW225.out _ | refine keep_far ?_ GW226.out _) | exact HK.out)) hk (.inl rfl))
      replace HB := a_ (hb)
      replace HI0 := a_ (hi)
      (try clear hb)
      (try clear hb2)
      (try clear hk)
      (try clear hi)
      refine hK.out _ _ ⟨(blk_cell BK226.out 0).trans rfl, (blk_cell BK226.out 1).trans rfl, (keep_cell HK.out hw230_0 hne230_0)⟩ (fun hHeld => ?_)
      clear hK K
      refine norm_ (a' := ?_) ?_ ?_
      rotate_left
      ·show Act.put _ (some 28) _ = _
       simp only [Act.put, sB, sC, sD, i64_w, i32_w]
       rfl
      refine pure_ (i := 8) (N := some 29) (v := ?_) (a' := ?_) #[true, true, true, true, true, true, true, true, true, false] rfl rfl (any_of HT_.out (by kernel_rfl)) (fun _ _ _ h => h) (Or.inl ⟨by rfl, ?_⟩) ?_ ?_
      rotate_left
      ·intro w'
       go_simp
       with_reducible rfl
      rotate_left
      ·simp only [Act.put, sB, sC, sD, i64_w, i32_w]
       rfl
      refine last_ (i := 9) (N := none) #[true, true, true, true, true, true, true, true, true, true] rfl rfl (one_of HT_.out (by kernel_rfl)) (by decide) (fun K hK => ?_)
      have hs28 : w27.cell? ⟨gb226, 0, none⟩ = some (.float .f64 t227) := (blk_cell BK226.out 0).trans rfl
      have hfs28 := blk_frozen BK226.out 0
      have hns28_0 := NB224_226.out
      have hns28_1 := NB225_226.out
      have hms28_0 := NB226_224.out
      have hms28_1 := NB226_225.out
      refine skip_ (w1 := ?_) ?_ ?_ ?_ ?_
      rotate_left
      ·rfl
      ·rfl
      ·go_simp
       rfl
      refine hK.out _ _ ?_
      clear hK K
      refine done_ (done_of HT_.out (by kernel_rfl)) ?_
      try go_wp2
      go_roundg k1
      case measure => have := HK1.out; omega
      case rel => exact ⟨(wrap64 (x8_1 - 1)), (t232), (t231), (t228), _, _, (by first | rfl | (simp; done) | (simp [*]; done)), H', ⟨Flo.rp_step HS_.out A12 A15⟩, ⟨by have := HK1.out; omega⟩, ⟨by refine pk ?_; refine blk_far ?_ NB224_226.out _; refine pk ?_; exact BK224.out⟩, ⟨by refine pk ?_; refine blk_far ?_ NB225_226.out _; refine pk ?_; exact BK225.out⟩, ⟨by refine pk ?_; refine blk_put (cs := #[.float .f64 t227, .float .f64 t228]) ?_ 0 _ rfl; refine pk ?_; exact BK226.out⟩, ⟨by repeat (first | (with_reducible first | exact HI0.out | apply IsS47.alloc | apply IsS47.drewN | apply IsS47.drew | apply IsS47.set_0 | refine IsS47.far ?_ NB0_224.out _ | refine IsS47.far ?_ NB0_225.out _ | refine IsS47.far ?_ NB0_226.out _) | exact HI0.out)⟩, ⟨by repeat (first | (with_reducible first | exact HK.out | apply KeepBut.set_ | apply keep_drewN | apply keep_drew | apply keep_alloc | refine keep_far ?_ GW224.out _ | refine keep_far ?_ GW225.out _ | refine keep_far ?_ GW226.out _) | exact HK.out)⟩, ⟨by repeat (first | (with_reducible first | exact HB.out | apply below_alloc | apply pw_below_drewN | apply below_drew1 | refine below_set ?_ (IsS47.ge HI0.out) | refine below_set ?_ GE224.out | refine below_set ?_ GE225.out | refine below_set ?_ GE226.out) | exact HB.out)⟩⟩
     ·rw [if_neg c14] at H
      exact absurd H (by simp)
    ·rw [if_neg c13] at H
     exact absurd H (by simp)
   ·rw [if_neg c11] at H
    have c11b0 : decide (0 ≤ x8_1) = false := decide_eq_false c11
    clear c11
    simp only [Option.some.injEq, Prod.mk.injEq] at H
    obtain ⟨rfl, rfl, rfl⟩ := H
    have hnb29 := NB226_224.out
    have hnc29 := NB224_226.out
    have hnb30 := NB226_225.out
    have hnc30 := NB225_226.out
    have hnb31 := NB226_0.out
    have hnc31 := NB0_226.out
    have hcz32_0 : wr.cell? ⟨gb226, 0, none⟩ = some (.float .f64 x227000_1) := (blk_cell BK226.out 0).trans rfl
    have hcz32_1 : wr.cell? ⟨gb226, 1, none⟩ = some (.float .f64 x227001_1) := (blk_cell BK226.out 1).trans rfl
    have hfz32_0 := blk_frozen BK226.out 0
    have hfz32_1 := blk_frozen BK226.out 1
    have hnb33 := NB225_224.out
    have hnc33 := NB224_225.out
    have hnb34 := NB225_0.out
    have hnc34 := NB0_225.out
    have hcz35_0 : wr.cell? ⟨gb225, 0, none⟩ = some (.float .f64 (0 : Nat)) := (blk_cell BK225.out 0).trans rfl
    have hcz35_1 : wr.cell? ⟨gb225, 1, none⟩ = some (.float .f64 (0 : Nat)) := (blk_cell BK225.out 1).trans rfl
    have hfz35_0 := blk_frozen BK225.out 0
    have hfz35_1 := blk_frozen BK225.out 1
    go_wp2
    refine bodyPost_ret (results_cell_row rfl _ _ gb225 42 #[.float .f64 x227000_1, .float .f64 x227001_1] (0, 0) _ rfl (by refine pk ?_; refine blk_put (cs := #[.float .f64 x227000_1, .float .f64 (0 : Nat)]) ?_ 1 _ rfl; refine pk ?_; refine blk_put (cs := #[.float .f64 (0 : Nat), .float .f64 (0 : Nat)]) ?_ 0 _ rfl; refine pk ?_; exact BK225.out) Try.underlying42 rfl (by kernel_rfl)) rfl ?_
    exact ⟨_, _, _, HS_.out, by first | rfl | (simp [errW_none, errW_some] <;> rfl) | (simp [*, errW_none, errW_some] <;> rfl), by repeat (first | (with_reducible first | exact HI0.out | apply IsS47.alloc | apply IsS47.drewN | apply IsS47.drew | apply IsS47.set_0 | refine IsS47.far ?_ NB0_224.out _ | refine IsS47.far ?_ NB0_225.out _ | refine IsS47.far ?_ NB0_226.out _) | exact HI0.out), by repeat (first | (with_reducible first | exact HB.out | apply below_alloc | apply pw_below_drewN | apply below_drew1 | refine below_set ?_ (IsS47.ge HI0.out) | refine below_set ?_ GE224.out | refine below_set ?_ GE225.out | refine below_set ?_ GE226.out) | exact HB.out), by repeat (first | (with_reducible first | exact HK.out | apply KeepBut.set_ | apply keep_drewN | apply keep_drew | apply keep_alloc | refine keep_far ?_ GW224.out _ | refine keep_far ?_ GW225.out _ | refine keep_far ?_ GW226.out _) | exact HK.out)⟩
end

/-! ### impl_reals_div: function 42 -/
section
open Go.Proofs.Ytlfejohlehkbgaa.Flo (Rt Rp Rq Rd Sp Vt mRe mIm dRe dIm den denBad al toldS)
attribute [local go_sem] go_tadd go_tsub go_tmul go_tquo
set_option maxHeartbeats 8000000 in
set_option maxRecDepth 100000 in
theorem impl_reals_div.rel (g : Nat) (s0_0 : Bool) (a1 : Nat) (a2 : Nat) (w0 w : World) (hI : IsS47 w0 w g s0_0) (hB : Below w0.heap.size w0 w) :
  Calls Try.prog 42 #[.pointer (some ⟨g, 0, none⟩), .float .f64 a1, .float .f64 a2] w fun e w' => ∃ r1 r2, Rd a1 a2 s0_0 r1 r2 ∧ e = .returned (.float .f64 r1) ∧ IsS47 w0 w' g r2 ∧ Below w0.heap.size w0 w' ∧ KeepBut w w' g none := by
 have HI0 := Aside0.mk hI
 have HK := a_ (KeepBut.refl w g none)
 have HL := Aside0.mk hB.size
 clear hI
 have HW0 := Aside0.mk hB.size
 have HB := Aside0.mk hB
 clear hB

 go_enter Try.func42, Try.ntmps42
 go_wp2_with (first | ((with_reducible refine gate_callee (f := 53) rfl ?_); refine goesL_ (some 11) rfl rfl Try.func53 (by kernel_rfl) rfl #[.pointer (some ⟨g, 0, none⟩), .float .f64 (flw .quo a1 a2 w)] rfl (by (try simp only [lA, lB, lC]); first | done | rfl | (simp only [lD, lE]; rfl)) ?_; (with_reducible refine (impl_reals_put.calls g s0_0 (flw .quo a1 a2 w) (Flo.plus (flw .quo a1 a2 w)) (s0_0 || !Flo.fin (flw .quo a1 a2 w)) w0 _ ?side1 ?side2 (R_put s0_0 (flw .quo a1 a2 w) (Flo.flw_lt (by simp) _ _ _))).mono ?_); (case side1 => repeat (first | (with_reducible first | exact HI0.out | apply IsS47.alloc | apply IsS47.drewN | apply IsS47.drew | apply IsS47.set_0) | exact HI0.out)); (case side2 => repeat (first | (with_reducible first | exact HB.out | apply below_alloc | apply pw_below_drewN | apply below_drew1 | refine below_set ?_ (IsS47.ge HI0.out)) | exact HB.out)); rintro e w6 ⟨rfl, hi, hb, hk⟩; refine ⟨_, rfl, ?_⟩; replace HK := a_ (KeepBut.trans (by repeat (first | (with_reducible first | exact HK.out | apply KeepBut.set_ | apply keep_drewN | apply keep_drew | apply keep_alloc) | exact HK.out)) hk (.inl rfl)); replace HB := a_ (hb); replace HI0 := a_ (hi); clear hb hk hi))
 go_ret
 exact ⟨_, _, Flo.rd_of s0_0 a1 a2 w, by first | rfl | (simp [errW_none, errW_some] <;> rfl) | (simp [*, errW_none, errW_some] <;> rfl), by repeat (first | (with_reducible first | exact HI0.out | apply IsS47.alloc | apply IsS47.drewN | apply IsS47.drew | apply IsS47.set_0) | exact HI0.out), by repeat (first | (with_reducible first | exact HB.out | apply below_alloc | apply pw_below_drewN | apply below_drew1 | refine below_set ?_ (IsS47.ge HI0.out)) | exact HB.out), by repeat (first | (with_reducible first | exact HK.out | apply KeepBut.set_ | apply keep_drewN | apply keep_drew | apply keep_alloc) | exact HK.out)⟩
end

end Go.Proofs.Ytlfejohlehkbgaa.PFnExactRootsOf
