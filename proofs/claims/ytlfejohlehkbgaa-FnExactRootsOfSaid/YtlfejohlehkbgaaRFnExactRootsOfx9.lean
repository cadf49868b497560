-- Written by a program of this session out of the loaded functions' print; helper lemmas as print.sh lays them.
import Derived.Test.YtlfejohlehkbgaaUp2
import Derived.Test.YtlfejohlehkbgaaUp
import Derived.Test.YtlfejohlehkbgaaRel
import Derived.Test.YtlfejohlehkbgaaRFnExactRootsOfx0
import Derived.Test.YtlfejohlehkbgaaRFnExactRootsOfx7
import Derived.Test.YtlfejohlehkbgaaRFnExactRootsOfx8
namespace Go.Proofs.Ytlfejohlehkbgaa.PFnExactRootsOf
open Go.RowKit Go.Proofs.YtlfejohlehkbgaaW.PrintWords Go.Proofs.YtlfejohlehkbgaaW.PrintLast Go.Proofs.YtlfejohlehkbgaaW.PrintMore
attribute [local go_sem] max2_int min2_int max_two min_two max_three min_three max_four min_four go_fstore go_fneg go_fadd go_fsub go_fmul go_fquo go_fmax go_fmin go_fconv go_bits go_frombits  -- for this text's walks alone
set_option linter.unusedVariables false
set_option linter.unusedSimpArgs false

/-! ### impl_reals_over: function 24 -/
def impl_reals_over.T1 : Bool × List (List Nat × List Nat) := (true, [([], []), ([], []), ([], []), ([2], [2]), ([], []), ([4], [4]), ([1, 3, 5], [1, 3, 5]), ([], []), ([], []), ([8], [8]), ([], []), ([10], [10]), ([7, 9, 11, 6], [7, 9, 11]), ([0, 6, 12, 12], [0, 6, 12]), ([13, 13, 0, 1, 2, 3, 4, 5, 6, 7, 8, 9, 10, 11, 12, 13], [13])])
def impl_reals_over.B1 : List Nat := [0, 0, 0, 4, 0, 16, 62, 0, 0, 256, 0, 1024, 4094, 8191, 16383]
theorem impl_reals_over.tab1 : rtab .any (opsOf Try.f24 1) = impl_reals_over.T1 := by kernel_rfl
theorem impl_reals_over.bits1 : waitsOk impl_reals_over.T1.2 impl_reals_over.B1 = true := by kernel_rfl
def impl_reals_over.T5 : Bool × List (List Nat × List Nat) := (true, [([], []), ([], []), ([], []), ([], []), ([3], [3]), ([], []), ([5], [5]), ([2, 4, 6], [2, 4, 6]), ([], []), ([], []), ([9], [9]), ([], []), ([11], [11]), ([8, 10, 12, 7], [8, 10, 12]), ([1, 7, 13, 13], [1, 7, 13]), ([], []), ([0, 14, 15, 14], [0, 14, 15]), ([], []), ([], []), ([], []), ([], []), ([20], [20]), ([], []), ([22], [22]), ([19, 21, 23, 16], [19, 21, 23]), ([], []), ([], []), ([26], [26]), ([], []), ([28], [28]), ([25, 27, 29, 24], [25, 27, 29]), ([18, 24, 30, 30], [18, 24, 30]), ([], []), ([17, 31, 32, 31], [17, 31, 32]), ([16, 33], [16, 33]), ([34, 33, 0, 1, 2, 3, 4, 5, 6, 7, 8, 9, 10, 11, 12, 13, 14, 15, 16, 17, 18, 19, 20, 21, 22, 23, 24, 25, 26, 27, 28, 29, 30, 31, 32, 33, 34], [34])])
def impl_reals_over.B5 : List Nat := [0, 0, 0, 0, 8, 0, 32, 124, 0, 0, 512, 0, 2048, 8188, 16382, 0, 65535, 0, 0, 0, 0, 1048576, 0, 4194304, 16383999, 0, 0, 67108864, 0, 268435456, 1073348607, 2147352575, 0, 8589934591, 17179869183, 34359738367]
theorem impl_reals_over.tab5 : rtab .any (opsOf Try.f24 5) = impl_reals_over.T5 := by kernel_rfl
theorem impl_reals_over.bits5 : waitsOk impl_reals_over.T5.2 impl_reals_over.B5 = true := by kernel_rfl
section
open Go.Proofs.Ytlfejohlehkbgaa.Flo (Rt Rp Rq Rd Sp Vt mRe mIm dRe dIm den denBad al toldS)
attribute [local go_sem] go_tadd go_tsub go_tmul go_tquo
set_option maxHeartbeats 8000000 in
set_option maxRecDepth 100000 in
theorem impl_reals_over.rel (g : Nat) (s0_0 : Bool) (a1_0 : Nat) (a1_1 : Nat) (a2_0 : Nat) (a2_1 : Nat) (w0 w : World) (hI : IsS47 w0 w g s0_0) (hB : Below w0.heap.size w0 w) :
  Calls Try.prog 24 #[.pointer (some ⟨g, 0, none⟩), .agg #[.float .f64 a1_0, .float .f64 a1_1], .agg #[.float .f64 a2_0, .float .f64 a2_1]] w fun e w' => ∃ r1 r2 r3, Rq (dRe (al a1_0) (al a1_1) (al a2_0) (al a2_1)) (dIm (al a1_0) (al a1_1) (al a2_0) (al a2_1)) s0_0 r1 r2 r3 ∧ e = .returned (.agg #[.float .f64 r1, .float .f64 r2]) ∧ IsS47 w0 w' g r3 ∧ Below w0.heap.size w0 w' ∧ KeepBut w w' g none := by
 have hu42 := Try.underlying42
 have HI0 := Aside0.mk hI
 have HK := a_ (KeepBut.refl w g none)
 have HL := Aside0.mk hB.size
 clear hI
 have HW0 := Aside0.mk hB.size
 have HB := Aside0.mk hB
 clear hB
 go_enter Try.func24, Try.ntmps24
 try go_wp2_with (first | ((with_reducible refine gate_dst (N := 4) rfl ?_); refine box_event ?hg (N := 4) ?hd (cs := #[.float .f64 a1_0, .float .f64 a1_1]) (t := 42) ?hr ?_; (case hd => rfl); (case hg => rfl); (case hr => first | (go_simp; done) | (go_simp; rfl)); intro gb235 hg w28 hbox hb; replace HB := a_ (below_step (by repeat (first | (with_reducible first | exact HB.out | apply below_alloc | apply pw_below_drewN | apply below_drew1 | refine below_set ?_ (IsS47.ge HI0.out)) | exact HB.out)) hb); have BK235 := a_ (hbox); have GW235 := a_ (by rw [hg]; exact (keep_size (w := w) (g := g) (row := none) (by repeat (first | (with_reducible first | exact HK.out | apply KeepBut.set_ | apply keep_drewN | apply keep_drew | apply keep_alloc) | exact HK.out))) : w.heap.size ≤ gb235); have GE235 := a_ (Nat.le_trans HW0.out (by rw [hg]; exact (keep_size (w := w) (g := g) (row := none) (by repeat (first | (with_reducible first | exact HK.out | apply KeepBut.set_ | apply keep_drewN | apply keep_drew | apply keep_alloc) | exact HK.out))) : w.heap.size ≤ gb235) : w0.heap.size ≤ gb235); replace HK := a_ (KeepBut.trans (by repeat (first | (with_reducible first | exact HK.out | apply KeepBut.set_ | apply keep_drewN | apply keep_drew | apply keep_alloc) | exact HK.out)) (KeepBut.of_below hb g none) (.inl rfl)); have NB0_235 := a_ (by rw [hg]; exact Nat.ne_of_lt (IsS47.lt (show IsS47 w0 _ g s0_0 from by repeat (first | (with_reducible first | exact HI0.out | apply IsS47.alloc | apply IsS47.drewN | apply IsS47.drew | apply IsS47.set_0) | exact HI0.out))) : g ≠ gb235); have NB235_0 := a_ (by rw [hg]; exact Nat.ne_of_gt (IsS47.lt (show IsS47 w0 _ g s0_0 from by repeat (first | (with_reducible first | exact HI0.out | apply IsS47.alloc | apply IsS47.drewN | apply IsS47.drew | apply IsS47.set_0) | exact HI0.out))) : gb235 ≠ g); replace HI0 := a_ (IsS47.below (by repeat (first | (with_reducible first | exact HI0.out | apply IsS47.alloc | apply IsS47.drewN | apply IsS47.drew | apply IsS47.set_0) | exact HI0.out)) hb); clear hb hbox hg) | ((with_reducible refine gate_dst (N := 5) rfl ?_); refine box_event ?hg (N := 5) ?hd (cs := #[.float .f64 a2_0, .float .f64 a2_1]) (t := 42) ?hr ?_; (case hd => rfl); (case hg => rfl); (case hr => first | (go_simp; done) | (go_simp; rfl)); intro gb236 hg w29 hbox hb; replace HB := a_ (below_step (by repeat (first | (with_reducible first | exact HB.out | apply below_alloc | apply pw_below_drewN | apply below_drew1 | refine below_set ?_ (IsS47.ge HI0.out) | refine below_set ?_ GE235.out) | exact HB.out)) hb); have BK236 := a_ (hbox); have GW236 := a_ (by rw [hg]; exact (keep_size (w := w) (g := g) (row := none) (by repeat (first | (with_reducible first | exact HK.out | apply KeepBut.set_ | apply keep_drewN | apply keep_drew | apply keep_alloc | refine keep_far ?_ GW235.out _) | exact HK.out))) : w.heap.size ≤ gb236); have GE236 := a_ (Nat.le_trans HW0.out (by rw [hg]; exact (keep_size (w := w) (g := g) (row := none) (by repeat (first | (with_reducible first | exact HK.out | apply KeepBut.set_ | apply keep_drewN | apply keep_drew | apply keep_alloc | refine keep_far ?_ GW235.out _) | exact HK.out))) : w.heap.size ≤ gb236) : w0.heap.size ≤ gb236); replace HK := a_ (KeepBut.trans (by repeat (first | (with_reducible first | exact HK.out | apply KeepBut.set_ | apply keep_drewN | apply keep_drew | apply keep_alloc | refine keep_far ?_ GW235.out _) | exact HK.out)) (KeepBut.of_below hb g none) (.inl rfl)); have NB235_236 := a_ (nel hg BK235.out); have NB236_235 := a_ (nle hg BK235.out); replace BK235 := a_ (blk_below (pk BK235.out) hb); have NB0_236 := a_ (by rw [hg]; exact Nat.ne_of_lt (IsS47.lt (show IsS47 w0 _ g s0_0 from by repeat (first | (with_reducible first | exact HI0.out | apply IsS47.alloc | apply IsS47.drewN | apply IsS47.drew | apply IsS47.set_0 | refine IsS47.far ?_ NB0_235.out _) | exact HI0.out))) : g ≠ gb236); have NB236_0 := a_ (by rw [hg]; exact Nat.ne_of_gt (IsS47.lt (show IsS47 w0 _ g s0_0 from by repeat (first | (with_reducible first | exact HI0.out | apply IsS47.alloc | apply IsS47.drewN | apply IsS47.drew | apply IsS47.set_0 | refine IsS47.far ?_ NB0_235.out _) | exact HI0.out))) : gb236 ≠ g); replace HI0 := a_ (IsS47.below (by repeat (first | (with_reducible first | exact HI0.out | apply IsS47.alloc | apply IsS47.drewN | apply IsS47.drew | apply IsS47.set_0 | refine IsS47.far ?_ NB0_235.out _) | exact HI0.out)) hb); clear hb hbox hg) | ((with_reducible refine gate_dst (N := 6) rfl ?_); refine box_event ?hg (N := 6) ?hd (cs := #[.float .f64 (0 : Nat), .float .f64 (0 : Nat)]) (t := 42) ?hr ?_; (case hd => rfl); (case hg => rfl); (case hr => first | (go_simp; done) | (go_simp; rfl)); intro gb237 hg w30 hbox hb; replace HB := a_ (below_step (by repeat (first | (with_reducible first | exact HB.out | apply below_alloc | apply pw_below_drewN | apply below_drew1 | refine below_set ?_ (IsS47.ge HI0.out) | refine below_set ?_ GE235.out | refine below_set ?_ GE236.out) | exact HB.out)) hb); have BK237 := a_ (hbox); have GW237 := a_ (by rw [hg]; exact (keep_size (w := w) (g := g) (row := none) (by repeat (first | (with_reducible first | exact HK.out | apply KeepBut.set_ | apply keep_drewN | apply keep_drew | apply keep_alloc | refine keep_far ?_ GW235.out _ | refine keep_far ?_ GW236.out _) | exact HK.out))) : w.heap.size ≤ gb237); have GE237 := a_ (Nat.le_trans HW0.out (by rw [hg]; exact (keep_size (w := w) (g := g) (row := none) (by repeat (first | (with_reducible first | exact HK.out | apply KeepBut.set_ | apply keep_drewN | apply keep_drew | apply keep_alloc | refine keep_far ?_ GW235.out _ | refine keep_far ?_ GW236.out _) | exact HK.out))) : w.heap.size ≤ gb237) : w0.heap.size ≤ gb237); replace HK := a_ (KeepBut.trans (by repeat (first | (with_reducible first | exact HK.out | apply KeepBut.set_ | apply keep_drewN | apply keep_drew | apply keep_alloc | refine keep_far ?_ GW235.out _ | refine keep_far ?_ GW236.out _) | exact HK.out)) (KeepBut.of_below hb g none) (.inl rfl)); have NB235_237 := a_ (nel hg BK235.out); have NB237_235 := a_ (nle hg BK235.out); replace BK235 := a_ (blk_below (pk BK235.out) hb); have NB236_237 := a_ (nel hg BK236.out); have NB237_236 := a_ (nle hg BK236.out); replace BK236 := a_ (blk_below (pk BK236.out) hb); have NB0_237 := a_ (by rw [hg]; exact Nat.ne_of_lt (IsS47.lt (show IsS47 w0 _ g s0_0 from by repeat (first | (with_reducible first | exact HI0.out | apply IsS47.alloc | apply IsS47.drewN | apply IsS47.drew | apply IsS47.set_0 | refine IsS47.far ?_ NB0_235.out _ | refine IsS47.far ?_ NB0_236.out _) | exact HI0.out))) : g ≠ gb237); have NB237_0 := a_ (by rw [hg]; exact Nat.ne_of_gt (IsS47.lt (show IsS47 w0 _ g s0_0 from by repeat (first | (with_reducible first | exact HI0.out | apply IsS47.alloc | apply IsS47.drewN | apply IsS47.drew | apply IsS47.set_0 | refine IsS47.far ?_ NB0_235.out _ | refine IsS47.far ?_ NB0_236.out _) | exact HI0.out))) : gb237 ≠ g); replace HI0 := a_ (IsS47.below (by repeat (first | (with_reducible first | exact HI0.out | apply IsS47.alloc | apply IsS47.drewN | apply IsS47.drew | apply IsS47.set_0 | refine IsS47.far ?_ NB0_235.out _ | refine IsS47.far ?_ NB0_236.out _) | exact HI0.out)) hb); clear hb hbox hg))
 replace BK235 := a_ (blk_drew BK235.out)
 replace BK236 := a_ (blk_drew BK236.out)
 replace BK237 := a_ (blk_drew BK237.out)
 replace HI0 := a_ (IsS47.drew HI0.out)
 replace HK := a_ (keep_drew HK.out)
 replace HB := a_ (below_drew1 HB.out)
 refine start_ (n := 15) (S := fun w' => w'.cell? ⟨gb236, 0, none⟩ = some (.float .f64 a2_0) ∧ w'.cell? ⟨gb236, 1, none⟩ = some (.float .f64 a2_1)) (ds := []) #[false, false, false, false, false, false, false, false, false, false, false, false, false, false, false] (by kernel_rfl) rfl rfl ⟨(blk_cell BK236.out 0).trans rfl, (blk_cell BK236.out 1).trans rfl⟩ (fun hHeld => ?_); refine with_tabW impl_reals_over.tab1 impl_reals_over.bits1 (fun HT_ HW_ => ?_)
 generalize w30.drew = w31 at BK235 BK236 BK237 HI0 HK HB hHeld ⊢
 refine pure_ (i := 0) (N := some 8) (v := ?_) (a' := ?_) #[true, false, false, false, false, false, false, false, false, false, false, false, false, false, false] rfl rfl (any_of HT_.out (by kernel_rfl)) (fun _ _ _ h => h) (Or.inl ⟨by rfl, ?_⟩) ?_ ?_
 rotate_left
 ·intro w'
  go_simp
  with_reducible rfl
 rotate_left
 ·simp only [Act.put, sB, sC, sD, i64_w, i32_w]
  rfl
 refine pure_ (i := 1) (N := some 9) (v := ?_) (a' := ?_) #[true, true, false, false, false, false, false, false, false, false, false, false, false, false, false] rfl rfl (any_of HT_.out (by kernel_rfl)) (fun _ _ _ h => h) (Or.inl ⟨by rfl, ?_⟩) ?_ ?_
 rotate_left
 ·intro w'
  go_simp
  with_reducible rfl
 rotate_left
 ·simp only [Act.put, sB, sC, sD, i64_w, i32_w]
  rfl
 refine pure_ (i := 2) (N := some 10) (v := ?_) (a' := ?_) #[true, true, true, false, false, false, false, false, false, false, false, false, false, false, false] rfl rfl (any_of HT_.out (by kernel_rfl)) (fun _ _ _ h => h) (Or.inl ⟨by rfl, ?_⟩) ?_ ?_
 rotate_left
 ·intro w'
  go_simp
  with_reducible rfl
 rotate_left
 ·simp only [Act.put, sB, sC, sD, i64_w, i32_w]
  rfl
 refine pure_ (i := 4) (N := some 12) (v := ?_) (a' := ?_) #[true, true, true, false, true, false, false, false, false, false, false, false, false, false, false] rfl rfl (any_of HT_.out (by kernel_rfl)) (fun _ _ _ h => h) (Or.inl ⟨by rfl, ?_⟩) ?_ ?_
 rotate_left
 ·intro w'
  go_simp
  with_reducible rfl
 rotate_left
 ·simp only [Act.put, sB, sC, sD, i64_w, i32_w]
  rfl
 refine pure_ (i := 7) (N := some 15) (v := ?_) (a' := ?_) #[true, true, true, false, true, false, false, true, false, false, false, false, false, false, false] rfl rfl (any_of HT_.out (by kernel_rfl)) (fun _ _ _ h => h) (Or.inl ⟨by rfl, ?_⟩) ?_ ?_
 rotate_left
 ·intro w'
  go_simp
  with_reducible rfl
 rotate_left
 ·simp only [Act.put, sB, sC, sD, i64_w, i32_w]
  rfl
 refine pure_ (i := 8) (N := some 16) (v := ?_) (a' := ?_) #[true, true, true, false, true, false, false, true, true, false, false, false, false, false, false] rfl rfl (any_of HT_.out (by kernel_rfl)) (fun _ _ _ h => h) (Or.inl ⟨by rfl, ?_⟩) ?_ ?_
 rotate_left
 ·intro w'
  go_simp
  with_reducible rfl
 rotate_left
 ·simp only [Act.put, sB, sC, sD, i64_w, i32_w]
  rfl
 refine pure_ (i := 10) (N := some 18) (v := ?_) (a' := ?_) #[true, true, true, false, true, false, false, true, true, false, true, false, false, false, false] rfl rfl (any_of HT_.out (by kernel_rfl)) (fun _ _ _ h => h) (Or.inl ⟨by rfl, ?_⟩) ?_ ?_
 rotate_left
 ·intro w'
  go_simp
  with_reducible rfl
 rotate_left
 ·simp only [Act.put, sB, sC, sD, i64_w, i32_w]
  rfl
 refine take_ (i := 3) (N := some 11) (v := ?_) (a' := ?_) #[true, true, true, true, true, false, false, true, true, false, true, false, false, false, false] rfl rfl (take_ofW HT_.out HW_.out (by kernel_rfl)) (fun _ _ _ h => h) (Or.inl ⟨by rfl, ?_⟩) hHeld ?_ ?_
 rotate_left
 ·rintro w' ⟨s0, s1⟩
  go_simp
  with_reducible rfl
 rotate_left
 ·simp only [Act.put, sB, sC, sD, i64_w, i32_w]
  rfl
 refine take_ (i := 5) (N := some 13) (v := ?_) (a' := ?_) #[true, true, true, true, true, true, false, true, true, false, true, false, false, false, false] rfl rfl (take_ofW HT_.out HW_.out (by kernel_rfl)) (fun _ _ _ h => h) (Or.inl ⟨by rfl, ?_⟩) hHeld ?_ ?_
 rotate_left
 ·rintro w' ⟨s0, s1⟩
  go_simp
  with_reducible rfl
 rotate_left
 ·simp only [Act.put, sB, sC, sD, i64_w, i32_w]
  rfl
 refine take_ (i := 9) (N := some 17) (v := ?_) (a' := ?_) #[true, true, true, true, true, true, false, true, true, true, true, false, false, false, false] rfl rfl (take_ofW HT_.out HW_.out (by kernel_rfl)) (fun _ _ _ h => h) (Or.inl ⟨by rfl, ?_⟩) hHeld ?_ ?_
 rotate_left
 ·rintro w' ⟨s0, s1⟩
  go_simp
  with_reducible rfl
 rotate_left
 ·simp only [Act.put, sB, sC, sD, i64_w, i32_w]
  rfl
 refine take_ (i := 11) (N := some 19) (v := ?_) (a' := ?_) #[true, true, true, true, true, true, false, true, true, true, true, true, false, false, false] rfl rfl (take_ofW HT_.out HW_.out (by kernel_rfl)) (fun _ _ _ h => h) (Or.inl ⟨by rfl, ?_⟩) hHeld ?_ ?_
 rotate_left
 ·rintro w' ⟨s0, s1⟩
  go_simp
  with_reducible rfl
 rotate_left
 ·simp only [Act.put, sB, sC, sD, i64_w, i32_w]
  rfl
 refine one_ (i := 6) (N := some 14) #[true, true, true, true, true, true, true, true, true, true, true, true, false, false, false] rfl rfl (one_of HT_.out (by kernel_rfl)) (by decide) (fun K hK => ?_)
 refine goes_ Try.func41 (by kernel_rfl) rfl #[.pointer (some ⟨g, 0, none⟩), .float .f64 a2_0, .float .f64 a2_0] (by rfl) rfl rfl (by (try simp only [lA, lB, lC]); first | done | rfl | (simp only [lD, lE]; rfl)) ?_
 with_reducible refine (impl_reals_mul.rel g s0_0 a2_0 a2_0 w0 _ ?side1 ?side2).mono ?_
 (case side1 => repeat (first | (with_reducible first | exact HI0.out | apply IsS47.alloc | apply IsS47.drewN | apply IsS47.drew | apply IsS47.set_0 | refine IsS47.far ?_ NB0_235.out _ | refine IsS47.far ?_ NB0_236.out _ | refine IsS47.far ?_ NB0_237.out _) | exact HI0.out))
 (case side2 => repeat (first | (with_reducible first | exact HB.out | apply below_alloc | apply pw_below_drewN | apply below_drew1 | refine below_set ?_ (IsS47.ge HI0.out) | refine below_set ?_ GE235.out | refine below_set ?_ GE236.out | refine below_set ?_ GE237.out) | exact HB.out))
 rintro e w32 ⟨t238, t239, A4, rfl, hi, hb, hk⟩
 refine ⟨_, rfl, ?_⟩
 replace BK235 := a_ (KeepBut.blk hk (g' := gb235) (o := .cells #[.float .f64 a1_0, .float .f64 a1_1] 42 (0, 0)) (pk BK235.out) NB235_0.out (by simp))
 replace BK236 := a_ (KeepBut.blk hk (g' := gb236) (o := .cells #[.float .f64 a2_0, .float .f64 a2_1] 42 (0, 0)) (pk BK236.out) NB236_0.out (by simp))
 replace BK237 := a_ (KeepBut.blk hk (g' := gb237) (o := .cells #[.float .f64 (0 : Nat), .float .f64 (0 : Nat)] 42 (0, 0)) (pk BK237.out) NB237_0.out (by simp))
 replace HK := a_ (KeepBut.trans (by repeat (first | (with_reducible first | exact HK.out | apply KeepBut.set_ | apply keep_drewN | apply keep_drew | apply keep_alloc | refine keep_far ?_ GW235.out _ | refine keep_far ?_ GW236.out _ | refine keep_far ?_ GW237.out _) | exact HK.out)) hk (.inl rfl))
 replace HB := a_ (hb)
 replace HI0 := a_ (hi)
 (try clear hb)
 (try clear hb2)
 (try clear hk)
 (try clear hi)
 refine hK.out _ _ ⟨(blk_cell BK236.out 0).trans rfl, (blk_cell BK236.out 1).trans rfl⟩ (fun hHeld => ?_)
 clear hK K
 refine norm_ (a' := ?_) ?_ ?_
 rotate_left
 ·show Act.put _ (some 14) _ = _
  simp only [Act.put, sB, sC, sD, i64_w, i32_w]
  rfl
 refine one_ (i := 12) (N := some 20) #[true, true, true, true, true, true, true, true, true, true, true, true, true, false, false] rfl rfl (one_of HT_.out (by kernel_rfl)) (by decide) (fun K hK => ?_)
 refine goes_ Try.func41 (by kernel_rfl) rfl #[.pointer (some ⟨g, 0, none⟩), .float .f64 a2_1, .float .f64 a2_1] (by rfl) rfl rfl (by (try simp only [lA, lB, lC]); first | done | rfl | (simp only [lD, lE]; rfl)) ?_
 with_reducible refine (impl_reals_mul.rel g t239 a2_1 a2_1 w0 _ ?side1 ?side2).mono ?_
 (case side1 => repeat (first | (with_reducible first | exact HI0.out | apply IsS47.alloc | apply IsS47.drewN | apply IsS47.drew | apply IsS47.set_0 | refine IsS47.far ?_ NB0_235.out _ | refine IsS47.far ?_ NB0_236.out _ | refine IsS47.far ?_ NB0_237.out _) | exact HI0.out))
 (case side2 => repeat (first | (with_reducible first | exact HB.out | apply below_alloc | apply pw_below_drewN | apply below_drew1 | refine below_set ?_ (IsS47.ge HI0.out) | refine below_set ?_ GE235.out | refine below_set ?_ GE236.out | refine below_set ?_ GE237.out) | exact HB.out))
 rintro e w33 ⟨t240, t241, A5, rfl, hi, hb, hk⟩
 refine ⟨_, rfl, ?_⟩
 replace BK235 := a_ (KeepBut.blk hk (g' := gb235) (o := .cells #[.float .f64 a1_0, .float .f64 a1_1] 42 (0, 0)) (pk BK235.out) NB235_0.out (by simp))
 replace BK236 := a_ (KeepBut.blk hk (g' := gb236) (o := .cells #[.float .f64 a2_0, .float .f64 a2_1] 42 (0, 0)) (pk BK236.out) NB236_0.out (by simp))
 replace BK237 := a_ (KeepBut.blk hk (g' := gb237) (o := .cells #[.float .f64 (0 : Nat), .float .f64 (0 : Nat)] 42 (0, 0)) (pk BK237.out) NB237_0.out (by simp))
 replace HK := a_ (KeepBut.trans (by repeat (first | (with_reducible first | exact HK.out | apply KeepBut.set_ | apply keep_drewN | apply keep_drew | apply keep_alloc | refine keep_far ?_ GW235.out _ | refine keep_far ?_ GW236.out _ | refine keep_far ?_ GW237.out _) | exact HK.out)) hk (.inl rfl))
 replace HB := a_ (hb)
 replace HI0 := a_ (hi)
 (try clear hb)
 (try clear hb2)
 (try clear hk)
 (try clear hi)
 refine hK.out _ _ ⟨(blk_cell BK236.out 0).trans rfl, (blk_cell BK236.out 1).trans rfl⟩ (fun hHeld => ?_)
 clear hK K
 refine norm_ (a' := ?_) ?_ ?_
 rotate_left
 ·show Act.put _ (some 20) _ = _
  simp only [Act.put, sB, sC, sD, i64_w, i32_w]
  rfl
 refine one_ (i := 13) (N := some 21) #[true, true, true, true, true, true, true, true, true, true, true, true, true, true, false] rfl rfl (one_of HT_.out (by kernel_rfl)) (by decide) (fun K hK => ?_)
 refine goes_ Try.func40 (by kernel_rfl) rfl #[.pointer (some ⟨g, 0, none⟩), .float .f64 t238, .float .f64 t240] (by rfl) rfl rfl (by (try simp only [lA, lB, lC]); first | done | rfl | (simp only [lD, lE]; rfl)) ?_
 with_reducible refine (impl_reals_add.rel g t241 t238 t240 w0 _ ?side1 ?side2).mono ?_
 (case side1 => repeat (first | (with_reducible first | exact HI0.out | apply IsS47.alloc | apply IsS47.drewN | apply IsS47.drew | apply IsS47.set_0 | refine IsS47.far ?_ NB0_235.out _ | refine IsS47.far ?_ NB0_236.out _ | refine IsS47.far ?_ NB0_237.out _) | exact HI0.out))
 (case side2 => repeat (first | (with_reducible first | exact HB.out | apply below_alloc | apply pw_below_drewN | apply below_drew1 | refine below_set ?_ (IsS47.ge HI0.out) | refine below_set ?_ GE235.out | refine below_set ?_ GE236.out | refine below_set ?_ GE237.out) | exact HB.out))
 rintro e w34 ⟨t242, t243, A6, rfl, hi, hb, hk⟩
 refine ⟨_, rfl, ?_⟩
 replace BK235 := a_ (KeepBut.blk hk (g' := gb235) (o := .cells #[.float .f64 a1_0, .float .f64 a1_1] 42 (0, 0)) (pk BK235.out) NB235_0.out (by simp))
 replace BK236 := a_ (KeepBut.blk hk (g' := gb236) (o := .cells #[.float .f64 a2_0, .float .f64 a2_1] 42 (0, 0)) (pk BK236.out) NB236_0.out (by simp))
 replace BK237 := a_ (KeepBut.blk hk (g' := gb237) (o := .cells #[.float .f64 (0 : Nat), .float .f64 (0 : Nat)] 42 (0, 0)) (pk BK237.out) NB237_0.out (by simp))
 replace HK := a_ (KeepBut.trans (by repeat (first | (with_reducible first | exact HK.out | apply KeepBut.set_ | apply keep_drewN | apply keep_drew | apply keep_alloc | refine keep_far ?_ GW235.out _ | refine keep_far ?_ GW236.out _ | refine keep_far ?_ GW237.out _) | exact HK.out)) hk (.inl rfl))
 replace HB := a_ (hb)
 replace HI0 := a_ (hi)
 (try clear hb)
 (try clear hb2)
 (try clear hk)
 (try clear hi)
 refine hK.out _ _ ⟨(blk_cell BK236.out 0).trans rfl, (blk_cell BK236.out 1).trans rfl⟩ (fun hHeld => ?_)
 clear hK K
 refine norm_ (a' := ?_) ?_ ?_
 rotate_left
 ·show Act.put _ (some 21) _ = _
  simp only [Act.put, sB, sC, sD, i64_w, i32_w]
  rfl
 refine pure_ (i := 14) (N := some 7) (v := ?_) (a' := ?_) #[true, true, true, true, true, true, true, true, true, true, true, true, true, true, true] rfl rfl (any_of HT_.out (by kernel_rfl)) (fun _ _ _ h => h) (Or.inl ⟨by rfl, ?_⟩) ?_ ?_
 rotate_left
 ·intro w'
  go_simp
  with_reducible rfl
 rotate_left
 ·simp only [Act.put, sB, sC, sD, i64_w, i32_w]
  rfl
 refine done_ (done_of HT_.out (by kernel_rfl)) ?_
 by_cases c7 : (FloatKind.f64.format.order t242 (0 : Nat) == some Ordering.eq) = true
 ·have c7b0 : (FloatKind.f64.format.order t242 (0 : Nat) == some Ordering.eq) = true := c7
  (try (have c7b1 : decide (FloatKind.f64.format.order t242 (0 : Nat) = some Ordering.eq) = true := by simpa using c7))
  (try (have c7b2 : (FloatKind.f64.format.order t242 (0 : Nat) == some Ordering.eq) = true := by simpa using c7))
  clear c7
  obtain ⟨HGz15, hgz15⟩ := HI0.out
  have hcz15_0 := cellS47_0 HGz15
  have hfz15_0 := blk_frozen HGz15 0
  clear HGz15 hgz15
  have hnb16 := NB237_235.out
  have hnc16 := NB235_237.out
  have hnb17 := NB237_236.out
  have hnc17 := NB236_237.out
  have hnb18 := NB237_0.out
  have hnc18 := NB0_237.out
  have hcz19_0 : _ = some (Value.float .f64 (0 : Nat)) := (blk_cell BK237.out 0).trans rfl
  have hcz19_1 : _ = some (Value.float .f64 (0 : Nat)) := (blk_cell BK237.out 1).trans rfl
  have hfz19_0 := blk_frozen BK237.out 0
  have hfz19_1 := blk_frozen BK237.out 1
  try go_wp2
  refine bodyPost_ret (results_cell_row rfl _ _ gb237 42 #[.float .f64 (0 : Nat), .float .f64 (0 : Nat)] (0, 0) _ rfl (by refine pk ?_; refine blk_put (cs := #[.float .f64 (0 : Nat), .float .f64 (0 : Nat)]) ?_ 1 _ rfl; refine pk ?_; refine blk_put (cs := #[.float .f64 (0 : Nat), .float .f64 (0 : Nat)]) ?_ 0 _ rfl; refine pk ?_; refine blk_far ?_ NB237_0.out _; refine pk ?_; exact BK237.out) Try.underlying42 rfl (by kernel_rfl)) rfl ?_
  exact ⟨_, _, _, Flo.rq_over0 A4 A5 A6 c7b0 _ _, by first | rfl | (simp [errW_none, errW_some] <;> rfl) | (simp [*, errW_none, errW_some] <;> rfl), by repeat (first | (with_reducible first | exact HI0.out | apply IsS47.alloc | apply IsS47.drewN | apply IsS47.drew | apply IsS47.set_0 | refine IsS47.far ?_ NB0_235.out _ | refine IsS47.far ?_ NB0_236.out _ | refine IsS47.far ?_ NB0_237.out _) | exact HI0.out), by repeat (first | (with_reducible first | exact HB.out | apply below_alloc | apply pw_below_drewN | apply below_drew1 | refine below_set ?_ (IsS47.ge HI0.out) | refine below_set ?_ GE235.out | refine below_set ?_ GE236.out | refine below_set ?_ GE237.out) | exact HB.out), by repeat (first | (with_reducible first | exact HK.out | apply KeepBut.set_ | apply keep_drewN | apply keep_drew | apply keep_alloc | refine keep_far ?_ GW235.out _ | refine keep_far ?_ GW236.out _ | refine keep_far ?_ GW237.out _) | exact HK.out)⟩
 ·have c7b0 : (FloatKind.f64.format.order t242 (0 : Nat) == some Ordering.eq) = false := by simpa using c7
  (try (have c7b1 : decide (FloatKind.f64.format.order t242 (0 : Nat) = some Ordering.eq) = false := by simpa using c7))
  (try (have c7b2 : (FloatKind.f64.format.order t242 (0 : Nat) == some Ordering.eq) = false := by simpa using c7))
  (try (have c7b3 : ¬ (FloatKind.f64.format.order t242 (0 : Nat) = some Ordering.eq) := by simpa using c7))
  clear c7
  try go_wp2
  replace BK235 := a_ (blk_drew BK235.out)
  replace BK236 := a_ (blk_drew BK236.out)
  replace BK237 := a_ (blk_drew BK237.out)
  replace HI0 := a_ (IsS47.drew HI0.out)
  replace HK := a_ (keep_drew HK.out)
  replace HB := a_ (below_drew1 HB.out)
  refine start_ (n := 36) (S := fun w' => w'.cell? ⟨gb235, 0, none⟩ = some (.float .f64 a1_0) ∧ w'.cell? ⟨gb235, 1, none⟩ = some (.float .f64 a1_1) ∧ w'.cell? ⟨gb236, 0, none⟩ = some (.float .f64 a2_0) ∧ w'.cell? ⟨gb236, 1, none⟩ = some (.float .f64 a2_1)) (ds := []) #[false, false, false, false, false, false, false, false, false, false, false, false, false, false, false, false, false, false, false, false, false, false, false, false, false, false, false, false, false, false, false, false, false, false, false, false] (by kernel_rfl) rfl rfl ⟨(blk_cell BK235.out 0).trans rfl, (blk_cell BK235.out 1).trans rfl, (blk_cell BK236.out 0).trans rfl, (blk_cell BK236.out 1).trans rfl⟩ (fun hHeld => ?_); refine with_tabW impl_reals_over.tab5 impl_reals_over.bits5 (fun HT_ HW_ => ?_)
  generalize w34.drew = w35 at BK235 BK236 BK237 HI0 HK HB hHeld ⊢
  refine pure_ (i := 0) (N := some 28) (v := ?_) (a' := ?_) #[true, false, false, false, false, false, false, false, false, false, false, false, false, false, false, false, false, false, false, false, false, false, false, false, false, false, false, false, false, false, false, false, false, false, false, false] rfl rfl (any_of HT_.out (by kernel_rfl)) (fun _ _ _ h => h) (Or.inl ⟨by rfl, ?_⟩) ?_ ?_
  rotate_left
  ·intro w'
   go_simp
   with_reducible rfl
  rotate_left
  ·simp only [Act.put, sB, sC, sD, i64_w, i32_w]
   rfl
  refine pure_ (i := 1) (N := some 29) (v := ?_) (a' := ?_) #[true, true, false, false, false, false, false, false, false, false, false, false, false, false, false, false, false, false, false, false, false, false, false, false, false, false, false, false, false, false, false, false, false, false, false, false] rfl rfl (any_of HT_.out (by kernel_rfl)) (fun _ _ _ h => h) (Or.inl ⟨by rfl, ?_⟩) ?_ ?_
  rotate_left
  ·intro w'
   go_simp
   with_reducible rfl
  rotate_left
  ·simp only [Act.put, sB, sC, sD, i64_w, i32_w]
   rfl
  refine pure_ (i := 2) (N := some 30) (v := ?_) (a' := ?_) #[true, true, true, false, false, false, false, false, false, false, false, false, false, false, false, false, false, false, false, false, false, false, false, false, false, false, false, false, false, false, false, false, false, false, false, false] rfl rfl (any_of HT_.out (by kernel_rfl)) (fun _ _ _ h => h) (Or.inl ⟨by rfl, ?_⟩) ?_ ?_
  rotate_left
  ·intro w'
   go_simp
   with_reducible rfl
  rotate_left
  ·simp only [Act.put, sB, sC, sD, i64_w, i32_w]
   rfl
  refine pure_ (i := 3) (N := some 31) (v := ?_) (a' := ?_) #[true, true, true, true, false, false, false, false, false, false, false, false, false, false, false, false, false, false, false, false, false, false, false, false, false, false, false, false, false, false, false, false, false, false, false, false] rfl rfl (any_of HT_.out (by kernel_rfl)) (fun _ _ _ h => h) (Or.inl ⟨by rfl, ?_⟩) ?_ ?_
  rotate_left
  ·intro w'
   go_simp
   with_reducible rfl
  rotate_left
  ·simp only [Act.put, sB, sC, sD, i64_w, i32_w]
   rfl
  refine pure_ (i := 5) (N := some 33) (v := ?_) (a' := ?_) #[true, true, true, true, false, true, false, false, false, false, false, false, false, false, false, false, false, false, false, false, false, false, false, false, false, false, false, false, false, false, false, false, false, false, false, false] rfl rfl (any_of HT_.out (by kernel_rfl)) (fun _ _ _ h => h) (Or.inl ⟨by rfl, ?_⟩) ?_ ?_
  rotate_left
  ·intro w'
   go_simp
   with_reducible rfl
  rotate_left
  ·simp only [Act.put, sB, sC, sD, i64_w, i32_w]
   rfl
  refine pure_ (i := 8) (N := some 36) (v := ?_) (a' := ?_) #[true, true, true, true, false, true, false, false, true, false, false, false, false, false, false, false, false, false, false, false, false, false, false, false, false, false, false, false, false, false, false, false, false, false, false, false] rfl rfl (any_of HT_.out (by kernel_rfl)) (fun _ _ _ h => h) (Or.inl ⟨by rfl, ?_⟩) ?_ ?_
  rotate_left
  ·intro w'
   go_simp
   with_reducible rfl
  rotate_left
  ·simp only [Act.put, sB, sC, sD, i64_w, i32_w]
   rfl
  refine pure_ (i := 9) (N := some 37) (v := ?_) (a' := ?_) #[true, true, true, true, false, true, false, false, true, true, false, false, false, false, false, false, false, false, false, false, false, false, false, false, false, false, false, false, false, false, false, false, false, false, false, false] rfl rfl (any_of HT_.out (by kernel_rfl)) (fun _ _ _ h => h) (Or.inl ⟨by rfl, ?_⟩) ?_ ?_
  rotate_left
  ·intro w'
   go_simp
   with_reducible rfl
  rotate_left
  ·simp only [Act.put, sB, sC, sD, i64_w, i32_w]
   rfl
  refine pure_ (i := 11) (N := some 39) (v := ?_) (a' := ?_) #[true, true, true, true, false, true, false, false, true, true, false, true, false, false, false, false, false, false, false, false, false, false, false, false, false, false, false, false, false, false, false, false, false, false, false, false] rfl rfl (any_of HT_.out (by kernel_rfl)) (fun _ _ _ h => h) (Or.inl ⟨by rfl, ?_⟩) ?_ ?_
  rotate_left
  ·intro w'
   go_simp
   with_reducible rfl
  rotate_left
  ·simp only [Act.put, sB, sC, sD, i64_w, i32_w]
   rfl
  refine pure_ (i := 15) (N := some 43) (v := ?_) (a' := ?_) #[true, true, true, true, false, true, false, false, true, true, false, true, false, false, false, true, false, false, false, false, false, false, false, false, false, false, false, false, false, false, false, false, false, false, false, false] rfl rfl (any_of HT_.out (by kernel_rfl)) (fun _ _ _ h => h) (Or.inl ⟨by rfl, ?_⟩) ?_ ?_
  rotate_left
  ·intro w'
   go_simp
   with_reducible rfl
  rotate_left
  ·simp only [Act.put, sB, sC, sD, i64_w, i32_w]
   rfl
  refine pure_ (i := 17) (N := some 45) (v := ?_) (a' := ?_) #[true, true, true, true, false, true, false, false, true, true, false, true, false, false, false, true, false, true, false, false, false, false, false, false, false, false, false, false, false, false, false, false, false, false, false, false] rfl rfl (any_of HT_.out (by kernel_rfl)) (fun _ _ _ h => h) (Or.inl ⟨by rfl, ?_⟩) ?_ ?_
  rotate_left
  ·intro w'
   go_simp
   with_reducible rfl
  rotate_left
  ·simp only [Act.put, sB, sC, sD, i64_w, i32_w]
   rfl
  refine pure_ (i := 18) (N := some 46) (v := ?_) (a' := ?_) #[true, true, true, true, false, true, false, false, true, true, false, true, false, false, false, true, false, true, true, false, false, false, false, false, false, false, false, false, false, false, false, false, false, false, false, false] rfl rfl (any_of HT_.out (by kernel_rfl)) (fun _ _ _ h => h) (Or.inl ⟨by rfl, ?_⟩) ?_ ?_
  rotate_left
  ·intro w'
   go_simp
   with_reducible rfl
  rotate_left
  ·simp only [Act.put, sB, sC, sD, i64_w, i32_w]
   rfl
  refine pure_ (i := 19) (N := some 47) (v := ?_) (a' := ?_) #[true, true, true, true, false, true, false, false, true, true, false, true, false, false, false, true, false, true, true, true, false, false, false, false, false, false, false, false, false, false, false, false, false, false, false, false] rfl rfl (any_of HT_.out (by kernel_rfl)) (fun _ _ _ h => h) (Or.inl ⟨by rfl, ?_⟩) ?_ ?_
  rotate_left
  ·intro w'
   go_simp
   with_reducible rfl
  rotate_left
  ·simp only [Act.put, sB, sC, sD, i64_w, i32_w]
   rfl
  refine pure_ (i := 20) (N := some 48) (v := ?_) (a' := ?_) #[true, true, true, true, false, true, false, false, true, true, false, true, false, false, false, true, false, true, true, true, true, false, false, false, false, false, false, false, false, false, false, false, false, false, false, false] rfl rfl (any_of HT_.out (by kernel_rfl)) (fun _ _ _ h => h) (Or.inl ⟨by rfl, ?_⟩) ?_ ?_
  rotate_left
  ·intro w'
   go_simp
   with_reducible rfl
  rotate_left
  ·simp only [Act.put, sB, sC, sD, i64_w, i32_w]
   rfl
  refine pure_ (i := 22) (N := some 50) (v := ?_) (a' := ?_) #[true, true, true, true, false, true, false, false, true, true, false, true, false, false, false, true, false, true, true, true, true, false, true, false, false, false, false, false, false, false, false, false, false, false, false, false] rfl rfl (any_of HT_.out (by kernel_rfl)) (fun _ _ _ h => h) (Or.inl ⟨by rfl, ?_⟩) ?_ ?_
  rotate_left
  ·intro w'
   go_simp
   with_reducible rfl
  rotate_left
  ·simp only [Act.put, sB, sC, sD, i64_w, i32_w]
   rfl
  refine pure_ (i := 25) (N := some 53) (v := ?_) (a' := ?_) #[true, true, true, true, false, true, false, false, true, true, false, true, false, false, false, true, false, true, true, true, true, false, true, false, false, true, false, false, false, false, false, false, false, false, false, false] rfl rfl (any_of HT_.out (by kernel_rfl)) (fun _ _ _ h => h) (Or.inl ⟨by rfl, ?_⟩) ?_ ?_
  rotate_left
  ·intro w'
   go_simp
   with_reducible rfl
  rotate_left
  ·simp only [Act.put, sB, sC, sD, i64_w, i32_w]
   rfl
  refine pure_ (i := 26) (N := some 54) (v := ?_) (a' := ?_) #[true, true, true, true, false, true, false, false, true, true, false, true, false, false, false, true, false, true, true, true, true, false, true, false, false, true, true, false, false, false, false, false, false, false, false, false] rfl rfl (any_of HT_.out (by kernel_rfl)) (fun _ _ _ h => h) (Or.inl ⟨by rfl, ?_⟩) ?_ ?_
  rotate_left
  ·intro w'
   go_simp
   with_reducible rfl
  rotate_left
  ·simp only [Act.put, sB, sC, sD, i64_w, i32_w]
   rfl
  refine pure_ (i := 28) (N := some 56) (v := ?_) (a' := ?_) #[true, true, true, true, false, true, false, false, true, true, false, true, false, false, false, true, false, true, true, true, true, false, true, false, false, true, true, false, true, false, false, false, false, false, false, false] rfl rfl (any_of HT_.out (by kernel_rfl)) (fun _ _ _ h => h) (Or.inl ⟨by rfl, ?_⟩) ?_ ?_
  rotate_left
  ·intro w'
   go_simp
   with_reducible rfl
  rotate_left
  ·simp only [Act.put, sB, sC, sD, i64_w, i32_w]
   rfl
  refine pure_ (i := 32) (N := some 60) (v := ?_) (a' := ?_) #[true, true, true, true, false, true, false, false, true, true, false, true, false, false, false, true, false, true, true, true, true, false, true, false, false, true, true, false, true, false, false, false, true, false, false, false] rfl rfl (any_of HT_.out (by kernel_rfl)) (fun _ _ _ h => h) (Or.inl ⟨by rfl, ?_⟩) ?_ ?_
  rotate_left
  ·intro w'
   go_simp
   with_reducible rfl
  rotate_left
  ·simp only [Act.put, sB, sC, sD, i64_w, i32_w]
   rfl
  refine take_ (i := 4) (N := some 32) (v := ?_) (a' := ?_) #[true, true, true, true, true, true, false, false, true, true, false, true, false, false, false, true, false, true, true, true, true, false, true, false, false, true, true, false, true, false, false, false, true, false, false, false] rfl rfl (take_ofW HT_.out HW_.out (by kernel_rfl)) (fun _ _ _ h => h) (Or.inl ⟨by rfl, ?_⟩) hHeld ?_ ?_
  rotate_left
  ·rintro w' ⟨s0, s1, s2, s3⟩
   go_simp
   with_reducible rfl
  rotate_left
  ·simp only [Act.put, sB, sC, sD, i64_w, i32_w]
   rfl
  refine take_ (i := 6) (N := some 34) (v := ?_) (a' := ?_) #[true, true, true, true, true, true, true, false, true, true, false, true, false, false, false, true, false, true, true, true, true, false, true, false, false, true, true, false, true, false, false, false, true, false, false, false] rfl rfl (take_ofW HT_.out HW_.out (by kernel_rfl)) (fun _ _ _ h => h) (Or.inl ⟨by rfl, ?_⟩) hHeld ?_ ?_
  rotate_left
  ·rintro w' ⟨s0, s1, s2, s3⟩
   go_simp
   with_reducible rfl
  rotate_left
  ·simp only [Act.put, sB, sC, sD, i64_w, i32_w]
   rfl
  refine take_ (i := 10) (N := some 38) (v := ?_) (a' := ?_) #[true, true, true, true, true, true, true, false, true, true, true, true, false, false, false, true, false, true, true, true, true, false, true, false, false, true, true, false, true, false, false, false, true, false, false, false] rfl rfl (take_ofW HT_.out HW_.out (by kernel_rfl)) (fun _ _ _ h => h) (Or.inl ⟨by rfl, ?_⟩) hHeld ?_ ?_
  rotate_left
  ·rintro w' ⟨s0, s1, s2, s3⟩
   go_simp
   with_reducible rfl
  rotate_left
  ·simp only [Act.put, sB, sC, sD, i64_w, i32_w]
   rfl
  refine take_ (i := 12) (N := some 40) (v := ?_) (a' := ?_) #[true, true, true, true, true, true, true, false, true, true, true, true, true, false, false, true, false, true, true, true, true, false, true, false, false, true, true, false, true, false, false, false, true, false, false, false] rfl rfl (take_ofW HT_.out HW_.out (by kernel_rfl)) (fun _ _ _ h => h) (Or.inl ⟨by rfl, ?_⟩) hHeld ?_ ?_
  rotate_left
  ·rintro w' ⟨s0, s1, s2, s3⟩
   go_simp
   with_reducible rfl
  rotate_left
  ·simp only [Act.put, sB, sC, sD, i64_w, i32_w]
   rfl
  refine take_ (i := 21) (N := some 49) (v := ?_) (a' := ?_) #[true, true, true, true, true, true, true, false, true, true, true, true, true, false, false, true, false, true, true, true, true, true, true, false, false, true, true, false, true, false, false, false, true, false, false, false] rfl rfl (take_ofW HT_.out HW_.out (by kernel_rfl)) (fun _ _ _ h => h) (Or.inl ⟨by rfl, ?_⟩) hHeld ?_ ?_
  rotate_left
  ·rintro w' ⟨s0, s1, s2, s3⟩
   go_simp
   with_reducible rfl
  rotate_left
  ·simp only [Act.put, sB, sC, sD, i64_w, i32_w]
   rfl
  refine take_ (i := 23) (N := some 51) (v := ?_) (a' := ?_) #[true, true, true, true, true, true, true, false, true, true, true, true, true, false, false, true, false, true, true, true, true, true, true, true, false, true, true, false, true, false, false, false, true, false, false, false] rfl rfl (take_ofW HT_.out HW_.out (by kernel_rfl)) (fun _ _ _ h => h) (Or.inl ⟨by rfl, ?_⟩) hHeld ?_ ?_
  rotate_left
  ·rintro w' ⟨s0, s1, s2, s3⟩
   go_simp
   with_reducible rfl
  rotate_left
  ·simp only [Act.put, sB, sC, sD, i64_w, i32_w]
   rfl
  refine take_ (i := 27) (N := some 55) (v := ?_) (a' := ?_) #[true, true, true, true, true, true, true, false, true, true, true, true, true, false, false, true, false, true, true, true, true, true, true, true, false, true, true, true, true, false, false, false, true, false, false, false] rfl rfl (take_ofW HT_.out HW_.out (by kernel_rfl)) (fun _ _ _ h => h) (Or.inl ⟨by rfl, ?_⟩) hHeld ?_ ?_
  rotate_left
  ·rintro w' ⟨s0, s1, s2, s3⟩
   go_simp
   with_reducible rfl
  rotate_left
  ·simp only [Act.put, sB, sC, sD, i64_w, i32_w]
   rfl
  refine take_ (i := 29) (N := some 57) (v := ?_) (a' := ?_) #[true, true, true, true, true, true, true, false, true, true, true, true, true, false, false, true, false, true, true, true, true, true, true, true, false, true, true, true, true, true, false, false, true, false, false, false] rfl rfl (take_ofW HT_.out HW_.out (by kernel_rfl)) (fun _ _ _ h => h) (Or.inl ⟨by rfl, ?_⟩) hHeld ?_ ?_
  rotate_left
  ·rintro w' ⟨s0, s1, s2, s3⟩
   go_simp
   with_reducible rfl
  rotate_left
  ·simp only [Act.put, sB, sC, sD, i64_w, i32_w]
   rfl
  refine one_ (i := 7) (N := some 35) #[true, true, true, true, true, true, true, true, true, true, true, true, true, false, false, true, false, true, true, true, true, true, true, true, false, true, true, true, true, true, false, false, true, false, false, false] rfl rfl (one_of HT_.out (by kernel_rfl)) (by decide) (fun K hK => ?_)
  refine goes_ Try.func41 (by kernel_rfl) rfl #[.pointer (some ⟨g, 0, none⟩), .float .f64 a1_0, .float .f64 a2_0] (by rfl) rfl rfl (by (try simp only [lA, lB, lC]); first | done | rfl | (simp only [lD, lE]; rfl)) ?_
  with_reducible refine (impl_reals_mul.rel g t243 a1_0 a2_0 w0 _ ?side1 ?side2).mono ?_
  (case side1 => repeat (first | (with_reducible first | exact HI0.out | apply IsS47.alloc | apply IsS47.drewN | apply IsS47.drew | apply IsS47.set_0 | refine IsS47.far ?_ NB0_235.out _ | refine IsS47.far ?_ NB0_236.out _ | refine IsS47.far ?_ NB0_237.out _) | exact HI0.out))
  (case side2 => repeat (first | (with_reducible first | exact HB.out | apply below_alloc | apply pw_below_drewN | apply below_drew1 | refine below_set ?_ (IsS47.ge HI0.out) | refine below_set ?_ GE235.out | refine below_set ?_ GE236.out | refine below_set ?_ GE237.out) | exact HB.out))
  rintro e w36 ⟨t244, t245, A20, rfl, hi, hb, hk⟩
  refine ⟨_, rfl, ?_⟩
  replace BK235 := a_ (KeepBut.blk hk (g' := gb235) (o := .cells #[.float .f64 a1_0, .float .f64 a1_1] 42 (0, 0)) (pk BK235.out) NB235_0.out (by simp))
  replace BK236 := a_ (KeepBut.blk hk (g' := gb236) (o := .cells #[.float .f64 a2_0, .float .f64 a2_1] 42 (0, 0)) (pk BK236.out) NB236_0.out (by simp))
  replace BK237 := a_ (KeepBut.blk hk (g' := gb237) (o := .cells #[.float .f64 (0 : Nat), .float .f64 (0 : Nat)] 42 (0, 0)) (pk BK237.out) NB237_0.out (by simp))
  replace HK := a_ (KeepBut.trans (by repeat (first | (with_reducible first | exact HK.out | apply KeepBut.set_ | apply keep_drewN | apply keep_drew | apply keep_alloc | refine keep_far ?_ GW235.out _ | refine keep_far ?_ GW236.out _ | refine keep_far ?_ GW237.out _) | exact HK.out)) hk (.inl rfl))
  replace HB := a_ (hb)
  replace HI0 := a_ (hi)
  (try clear hb)
  (try clear hb2)
  (try clear hk)
  (try clear hi)
  refine hK.out _ _ ⟨(blk_cell BK235.out 0).trans rfl, (blk_cell BK235.out 1).trans rfl, (blk_cell BK236.out 0).trans rfl, (blk_cell BK236.out 1).trans rfl⟩ (fun hHeld => ?_)
  clear hK K
  refine norm_ (a' := ?_) ?_ ?_
  rotate_left
  ·show Act.put _ (some 35) _ = _
   simp only [Act.put, sB, sC, sD, i64_w, i32_w]
   rfl
  refine one_ (i := 13) (N := some 41) #[true, true, true, true, true, true, true, true, true, true, true, true, true, true, false, true, false, true, true, true, true, true, true, true, false, true, true, true, true, true, false, false, true, false, false, false] rfl rfl (one_of HT_.out (by kernel_rfl)) (by decide) (fun K hK => ?_)
  refine goes_ Try.func41 (by kernel_rfl) rfl #[.pointer (some ⟨g, 0, none⟩), .float .f64 a1_1, .float .f64 a2_1] (by rfl) rfl rfl (by (try simp only [lA, lB, lC]); first | done | rfl | (simp only [lD, lE]; rfl)) ?_
  with_reducible refine (impl_reals_mul.rel g t245 a1_1 a2_1 w0 _ ?side1 ?side2).mono ?_
  (case side1 => repeat (first | (with_reducible first | exact HI0.out | apply IsS47.alloc | apply IsS47.drewN | apply IsS47.drew | apply IsS47.set_0 | refine IsS47.far ?_ NB0_235.out _ | refine IsS47.far ?_ NB0_236.out _ | refine IsS47.far ?_ NB0_237.out _) | exact HI0.out))
  (case side2 => repeat (first | (with_reducible first | exact HB.out | apply below_alloc | apply pw_below_drewN | apply below_drew1 | refine below_set ?_ (IsS47.ge HI0.out) | refine below_set ?_ GE235.out | refine below_set ?_ GE236.out | refine below_set ?_ GE237.out) | exact HB.out))
  rintro e w37 ⟨t246, t247, A21, rfl, hi, hb, hk⟩
  refine ⟨_, rfl, ?_⟩
  replace BK235 := a_ (KeepBut.blk hk (g' := gb235) (o := .cells #[.float .f64 a1_0, .float .f64 a1_1] 42 (0, 0)) (pk BK235.out) NB235_0.out (by simp))
  replace BK236 := a_ (KeepBut.blk hk (g' := gb236) (o := .cells #[.float .f64 a2_0, .float .f64 a2_1] 42 (0, 0)) (pk BK236.out) NB236_0.out (by simp))
  replace BK237 := a_ (KeepBut.blk hk (g' := gb237) (o := .cells #[.float .f64 (0 : Nat), .float .f64 (0 : Nat)] 42 (0, 0)) (pk BK237.out) NB237_0.out (by simp))
  replace HK := a_ (KeepBut.trans (by repeat (first | (with_reducible first | exact HK.out | apply KeepBut.set_ | apply keep_drewN | apply keep_drew | apply keep_alloc | refine keep_far ?_ GW235.out _ | refine keep_far ?_ GW236.out _ | refine keep_far ?_ GW237.out _) | exact HK.out)) hk (.inl rfl))
  replace HB := a_ (hb)
  replace HI0 := a_ (hi)
  (try clear hb)
  (try clear hb2)
  (try clear hk)
  (try clear hi)
  refine hK.out _ _ ⟨(blk_cell BK235.out 0).trans rfl, (blk_cell BK235.out 1).trans rfl, (blk_cell BK236.out 0).trans rfl, (blk_cell BK236.out 1).trans rfl⟩ (fun hHeld => ?_)
  clear hK K
  refine norm_ (a' := ?_) ?_ ?_
  rotate_left
  ·show Act.put _ (some 41) _ = _
   simp only [Act.put, sB, sC, sD, i64_w, i32_w]
   rfl
  refine one_ (i := 14) (N := some 42) #[true, true, true, true, true, true, true, true, true, true, true, true, true, true, true, true, false, true, true, true, true, true, true, true, false, true, true, true, true, true, false, false, true, false, false, false] rfl rfl (one_of HT_.out (by kernel_rfl)) (by decide) (fun K hK => ?_)
  refine goes_ Try.func40 (by kernel_rfl) rfl #[.pointer (some ⟨g, 0, none⟩), .float .f64 t244, .float .f64 t246] (by rfl) rfl rfl (by (try simp only [lA, lB, lC]); first | done | rfl | (simp only [lD, lE]; rfl)) ?_
  with_reducible refine (impl_reals_add.rel g t247 t244 t246 w0 _ ?side1 ?side2).mono ?_
  (case side1 => repeat (first | (with_reducible first | exact HI0.out | apply IsS47.alloc | apply IsS47.drewN | apply IsS47.drew | apply IsS47.set_0 | refine IsS47.far ?_ NB0_235.out _ | refine IsS47.far ?_ NB0_236.out _ | refine IsS47.far ?_ NB0_237.out _) | exact HI0.out))
  (case side2 => repeat (first | (with_reducible first | exact HB.out | apply below_alloc | apply pw_below_drewN | apply below_drew1 | refine below_set ?_ (IsS47.ge HI0.out) | refine below_set ?_ GE235.out | refine below_set ?_ GE236.out | refine below_set ?_ GE237.out) | exact HB.out))
  rintro e w38 ⟨t248, t249, A22, rfl, hi, hb, hk⟩
  refine ⟨_, rfl, ?_⟩
  replace BK235 := a_ (KeepBut.blk hk (g' := gb235) (o := .cells #[.float .f64 a1_0, .float .f64 a1_1] 42 (0, 0)) (pk BK235.out) NB235_0.out (by simp))
  replace BK236 := a_ (KeepBut.blk hk (g' := gb236) (o := .cells #[.float .f64 a2_0, .float .f64 a2_1] 42 (0, 0)) (pk BK236.out) NB236_0.out (by simp))
  replace BK237 := a_ (KeepBut.blk hk (g' := gb237) (o := .cells #[.float .f64 (0 : Nat), .float .f64 (0 : Nat)] 42 (0, 0)) (pk BK237.out) NB237_0.out (by simp))
  replace HK := a_ (KeepBut.trans (by repeat (first | (with_reducible first | exact HK.out | apply KeepBut.set_ | apply keep_drewN | apply keep_drew | apply keep_alloc | refine keep_far ?_ GW235.out _ | refine keep_far ?_ GW236.out _ | refine keep_far ?_ GW237.out _) | exact HK.out)) hk (.inl rfl))
  replace HB := a_ (hb)
  replace HI0 := a_ (hi)
  (try clear hb)
  (try clear hb2)
  (try clear hk)
  (try clear hi)
  refine hK.out _ _ ⟨(blk_cell BK235.out 0).trans rfl, (blk_cell BK235.out 1).trans rfl, (blk_cell BK236.out 0).trans rfl, (blk_cell BK236.out 1).trans rfl⟩ (fun hHeld => ?_)
  clear hK K
  refine norm_ (a' := ?_) ?_ ?_
  rotate_left
  ·show Act.put _ (some 42) _ = _
   simp only [Act.put, sB, sC, sD, i64_w, i32_w]
   rfl
  refine one_ (i := 16) (N := some 44) #[true, true, true, true, true, true, true, true, true, true, true, true, true, true, true, true, true, true, true, true, true, true, true, true, false, true, true, true, true, true, false, false, true, false, false, false] rfl rfl (one_of HT_.out (by kernel_rfl)) (by decide) (fun K hK => ?_)
  refine goes_ Try.func42 (by kernel_rfl) rfl #[.pointer (some ⟨g, 0, none⟩), .float .f64 t248, .float .f64 t242] (by rfl) rfl rfl (by (try simp only [lA, lB, lC]); first | done | rfl | (simp only [lD, lE]; rfl)) ?_
  with_reducible refine (impl_reals_div.rel g t249 t248 t242 w0 _ ?side1 ?side2).mono ?_
  (case side1 => repeat (first | (with_reducible first | exact HI0.out | apply IsS47.alloc | apply IsS47.drewN | apply IsS47.drew | apply IsS47.set_0 | refine IsS47.far ?_ NB0_235.out _ | refine IsS47.far ?_ NB0_236.out _ | refine IsS47.far ?_ NB0_237.out _) | exact HI0.out))
  (case side2 => repeat (first | (with_reducible first | exact HB.out | apply below_alloc | apply pw_below_drewN | apply below_drew1 | refine below_set ?_ (IsS47.ge HI0.out) | refine below_set ?_ GE235.out | refine below_set ?_ GE236.out | refine below_set ?_ GE237.out) | exact HB.out))
  rintro e w39 ⟨t250, t251, A23, rfl, hi, hb, hk⟩
  refine ⟨_, rfl, ?_⟩
  replace BK235 := a_ (KeepBut.blk hk (g' := gb235) (o := .cells #[.float .f64 a1_0, .float .f64 a1_1] 42 (0, 0)) (pk BK235.out) NB235_0.out (by simp))
  replace BK236 := a_ (KeepBut.blk hk (g' := gb236) (o := .cells #[.float .f64 a2_0, .float .f64 a2_1] 42 (0, 0)) (pk BK236.out) NB236_0.out (by simp))
  replace BK237 := a_ (KeepBut.blk hk (g' := gb237) (o := .cells #[.float .f64 (0 : Nat), .float .f64 (0 : Nat)] 42 (0, 0)) (pk BK237.out) NB237_0.out (by simp))
  replace HK := a_ (KeepBut.trans (by repeat (first | (with_reducible first | exact HK.out | apply KeepBut.set_ | apply keep_drewN | apply keep_drew | apply keep_alloc | refine keep_far ?_ GW235.out _ | refine keep_far ?_ GW236.out _ | refine keep_far ?_ GW237.out _) | exact HK.out)) hk (.inl rfl))
  replace HB := a_ (hb)
  replace HI0 := a_ (hi)
  (try clear hb)
  (try clear hb2)
  (try clear hk)
  (try clear hi)
  refine hK.out _ _ ⟨(blk_cell BK235.out 0).trans rfl, (blk_cell BK235.out 1).trans rfl, (blk_cell BK236.out 0).trans rfl, (blk_cell BK236.out 1).trans rfl⟩ (fun hHeld => ?_)
  clear hK K
  refine norm_ (a' := ?_) ?_ ?_
  rotate_left
  ·show Act.put _ (some 44) _ = _
   simp only [Act.put, sB, sC, sD, i64_w, i32_w]
   rfl
  refine one_ (i := 24) (N := some 52) #[true, true, true, true, true, true, true, true, true, true, true, true, true, true, true, true, true, true, true, true, true, true, true, true, true, true, true, true, true, true, false, false, true, false, false, false] rfl rfl (one_of HT_.out (by kernel_rfl)) (by decide) (fun K hK => ?_)
  refine goes_ Try.func41 (by kernel_rfl) rfl #[.pointer (some ⟨g, 0, none⟩), .float .f64 a1_1, .float .f64 a2_0] (by rfl) rfl rfl (by (try simp only [lA, lB, lC]); first | done | rfl | (simp only [lD, lE]; rfl)) ?_
  with_reducible refine (impl_reals_mul.rel g t251 a1_1 a2_0 w0 _ ?side1 ?side2).mono ?_
  (case side1 => repeat (first | (with_reducible first | exact HI0.out | apply IsS47.alloc | apply IsS47.drewN | apply IsS47.drew | apply IsS47.set_0 | refine IsS47.far ?_ NB0_235.out _ | refine IsS47.far ?_ NB0_236.out _ | refine IsS47.far ?_ NB0_237.out _) | exact HI0.out))
  (case side2 => repeat (first | (with_reducible first | exact HB.out | apply below_alloc | apply pw_below_drewN | apply below_drew1 | refine below_set ?_ (IsS47.ge HI0.out) | refine below_set ?_ GE235.out | refine below_set ?_ GE236.out | refine below_set ?_ GE237.out) | exact HB.out))
  rintro e w40 ⟨t252, t253, A24, rfl, hi, hb, hk⟩
  refine ⟨_, rfl, ?_⟩
  replace BK235 := a_ (KeepBut.blk hk (g' := gb235) (o := .cells #[.float .f64 a1_0, .float .f64 a1_1] 42 (0, 0)) (pk BK235.out) NB235_0.out (by simp))
  replace BK236 := a_ (KeepBut.blk hk (g' := gb236) (o := .cells #[.float .f64 a2_0, .float .f64 a2_1] 42 (0, 0)) (pk BK236.out) NB236_0.out (by simp))
  replace BK237 := a_ (KeepBut.blk hk (g' := gb237) (o := .cells #[.float .f64 (0 : Nat), .float .f64 (0 : Nat)] 42 (0, 0)) (pk BK237.out) NB237_0.out (by simp))
  replace HK := a_ (KeepBut.trans (by repeat (first | (with_reducible first | exact HK.out | apply KeepBut.set_ | apply keep_drewN | apply keep_drew | apply keep_alloc | refine keep_far ?_ GW235.out _ | refine keep_far ?_ GW236.out _ | refine keep_far ?_ GW237.out _) | exact HK.out)) hk (.inl rfl))
  replace HB := a_ (hb)
  replace HI0 := a_ (hi)
  (try clear hb)
  (try clear hb2)
  (try clear hk)
  (try clear hi)
  refine hK.out _ _ ⟨(blk_cell BK235.out 0).trans rfl, (blk_cell BK235.out 1).trans rfl, (blk_cell BK236.out 0).trans rfl, (blk_cell BK236.out 1).trans rfl⟩ (fun hHeld => ?_)
  clear hK K
  refine norm_ (a' := ?_) ?_ ?_
  rotate_left
  ·show Act.put _ (some 52) _ = _
   simp only [Act.put, sB, sC, sD, i64_w, i32_w]
   rfl
  refine one_ (i := 30) (N := some 58) #[true, true, true, true, true, true, true, true, true, true, true, true, true, true, true, true, true, true, true, true, true, true, true, true, true, true, true, true, true, true, true, false, true, false, false, false] rfl rfl (one_of HT_.out (by kernel_rfl)) (by decide) (fun K hK => ?_)
  refine goes_ Try.func41 (by kernel_rfl) rfl #[.pointer (some ⟨g, 0, none⟩), .float .f64 a1_0, .float .f64 a2_1] (by rfl) rfl rfl (by (try simp only [lA, lB, lC]); first | done | rfl | (simp only [lD, lE]; rfl)) ?_
  with_reducible refine (impl_reals_mul.rel g t253 a1_0 a2_1 w0 _ ?side1 ?side2).mono ?_
  (case side1 => repeat (first | (with_reducible first | exact HI0.out | apply IsS47.alloc | apply IsS47.drewN | apply IsS47.drew | apply IsS47.set_0 | refine IsS47.far ?_ NB0_235.out _ | refine IsS47.far ?_ NB0_236.out _ | refine IsS47.far ?_ NB0_237.out _) | exact HI0.out))
  (case side2 => repeat (first | (with_reducible first | exact HB.out | apply below_alloc | apply pw_below_drewN | apply below_drew1 | refine below_set ?_ (IsS47.ge HI0.out) | refine below_set ?_ GE235.out | refine below_set ?_ GE236.out | refine below_set ?_ GE237.out) | exact HB.out))
  rintro e w41 ⟨t254, t255, A25, rfl, hi, hb, hk⟩
  refine ⟨_, rfl, ?_⟩
  replace BK235 := a_ (KeepBut.blk hk (g' := gb235) (o := .cells #[.float .f64 a1_0, .float .f64 a1_1] 42 (0, 0)) (pk BK235.out) NB235_0.out (by simp))
  replace BK236 := a_ (KeepBut.blk hk (g' := gb236) (o := .cells #[.float .f64 a2_0, .float .f64 a2_1] 42 (0, 0)) (pk BK236.out) NB236_0.out (by simp))
  replace BK237 := a_ (KeepBut.blk hk (g' := gb237) (o := .cells #[.float .f64 (0 : Nat), .float .f64 (0 : Nat)] 42 (0, 0)) (pk BK237.out) NB237_0.out (by simp))
  replace HK := a_ (KeepBut.trans (by repeat (first | (with_reducible first | exact HK.out | apply KeepBut.set_ | apply keep_drewN | apply keep_drew | apply keep_alloc | refine keep_far ?_ GW235.out _ | refine keep_far ?_ GW236.out _ | refine keep_far ?_ GW237.out _) | exact HK.out)) hk (.inl rfl))
  replace HB := a_ (hb)
  replace HI0 := a_ (hi)
  (try clear hb)
  (try clear hb2)
  (try clear hk)
  (try clear hi)
  refine hK.out _ _ ⟨(blk_cell BK235.out 0).trans rfl, (blk_cell BK235.out 1).trans rfl, (blk_cell BK236.out 0).trans rfl, (blk_cell BK236.out 1).trans rfl⟩ (fun hHeld => ?_)
  clear hK K
  refine norm_ (a' := ?_) ?_ ?_
  rotate_left
  ·show Act.put _ (some 58) _ = _
   simp only [Act.put, sB, sC, sD, i64_w, i32_w]
   rfl
  refine one_ (i := 31) (N := some 59) #[true, true, true, true, true, true, true, true, true, true, true, true, true, true, true, true, true, true, true, true, true, true, true, true, true, true, true, true, true, true, true, true, true, false, false, false] rfl rfl (one_of HT_.out (by kernel_rfl)) (by decide) (fun K hK => ?_)
  refine goes_ Try.func43 (by kernel_rfl) rfl #[.pointer (some ⟨g, 0, none⟩), .float .f64 t252, .float .f64 t254] (by rfl) rfl rfl (by (try simp only [lA, lB, lC]); first | done | rfl | (simp only [lD, lE]; rfl)) ?_
  with_reducible refine (impl_reals_sub.rel g t255 t252 t254 w0 _ ?side1 ?side2).mono ?_
  (case side1 => repeat (first | (with_reducible first | exact HI0.out | apply IsS47.alloc | apply IsS47.drewN | apply IsS47.drew | apply IsS47.set_0 | refine IsS47.far ?_ NB0_235.out _ | refine IsS47.far ?_ NB0_236.out _ | refine IsS47.far ?_ NB0_237.out _) | exact HI0.out))
  (case side2 => repeat (first | (with_reducible first | exact HB.out | apply below_alloc | apply pw_below_drewN | apply below_drew1 | refine below_set ?_ (IsS47.ge HI0.out) | refine below_set ?_ GE235.out | refine below_set ?_ GE236.out | refine below_set ?_ GE237.out) | exact HB.out))
  rintro e w42 ⟨t256, t257, A26, rfl, hi, hb, hk⟩
  refine ⟨_, rfl, ?_⟩
  replace BK235 := a_ (KeepBut.blk hk (g' := gb235) (o := .cells #[.float .f64 a1_0, .float .f64 a1_1] 42 (0, 0)) (pk BK235.out) NB235_0.out (by simp))
  replace BK236 := a_ (KeepBut.blk hk (g' := gb236) (o := .cells #[.float .f64 a2_0, .float .f64 a2_1] 42 (0, 0)) (pk BK236.out) NB236_0.out (by simp))
  replace BK237 := a_ (KeepBut.blk hk (g' := gb237) (o := .cells #[.float .f64 (0 : Nat), .float .f64 (0 : Nat)] 42 (0, 0)) (pk BK237.out) NB237_0.out (by simp))
  replace HK := a_ (KeepBut.trans (by repeat (first | (with_reducible first | exact HK.out | apply KeepBut.set_ | apply keep_drewN | apply keep_drew | apply keep_alloc | refine keep_far ?_ GW235.out _ | refine keep_far ?_ GW236.out _ | refine keep_far ?_ GW237.out _) | exact HK.out)) hk (.inl rfl))
  replace HB := a_ (hb)
  replace HI0 := a_ (hi)
  (try clear hb)
  (try clear hb2)
  (try clear hk)
  (try clear hi)
  refine hK.out _ _ ⟨(blk_cell BK235.out 0).trans rfl, (blk_cell BK235.out 1).trans rfl, (blk_cell BK236.out 0).trans rfl, (blk_cell BK236.out 1).trans rfl⟩ (fun hHeld => ?_)
  clear hK K
  refine norm_ (a' := ?_) ?_ ?_
  rotate_left
  ·show Act.put _ (some 59) _ = _
   simp only [Act.put, sB, sC, sD, i64_w, i32_w]
   rfl
  refine one_ (i := 33) (N := some 61) #[true, true, true, true, true, true, true, true, true, true, true, true, true, true, true, true, true, true, true, true, true, true, true, true, true, true, true, true, true, true, true, true, true, true, false, false] rfl rfl (one_of HT_.out (by kernel_rfl)) (by decide) (fun K hK => ?_)
  refine goes_ Try.func42 (by kernel_rfl) rfl #[.pointer (some ⟨g, 0, none⟩), .float .f64 t256, .float .f64 t242] (by rfl) rfl rfl (by (try simp only [lA, lB, lC]); first | done | rfl | (simp only [lD, lE]; rfl)) ?_
  with_reducible refine (impl_reals_div.rel g t257 t256 t242 w0 _ ?side1 ?side2).mono ?_
  (case side1 => repeat (first | (with_reducible first | exact HI0.out | apply IsS47.alloc | apply IsS47.drewN | apply IsS47.drew | apply IsS47.set_0 | refine IsS47.far ?_ NB0_235.out _ | refine IsS47.far ?_ NB0_236.out _ | refine IsS47.far ?_ NB0_237.out _) | exact HI0.out))
  (case side2 => repeat (first | (with_reducible first | exact HB.out | apply below_alloc | apply pw_below_drewN | apply below_drew1 | refine below_set ?_ (IsS47.ge HI0.out) | refine below_set ?_ GE235.out | refine below_set ?_ GE236.out | refine below_set ?_ GE237.out) | exact HB.out))
  rintro e w43 ⟨t258, t259, A27, rfl, hi, hb, hk⟩
  refine ⟨_, rfl, ?_⟩
  replace BK235 := a_ (KeepBut.blk hk (g' := gb235) (o := .cells #[.float .f64 a1_0, .float .f64 a1_1] 42 (0, 0)) (pk BK235.out) NB235_0.out (by simp))
  replace BK236 := a_ (KeepBut.blk hk (g' := gb236) (o := .cells #[.float .f64 a2_0, .float .f64 a2_1] 42 (0, 0)) (pk BK236.out) NB236_0.out (by simp))
  replace BK237 := a_ (KeepBut.blk hk (g' := gb237) (o := .cells #[.float .f64 (0 : Nat), .float .f64 (0 : Nat)] 42 (0, 0)) (pk BK237.out) NB237_0.out (by simp))
  replace HK := a_ (KeepBut.trans (by repeat (first | (with_reducible first | exact HK.out | apply KeepBut.set_ | apply keep_drewN | apply keep_drew | apply keep_alloc | refine keep_far ?_ GW235.out _ | refine keep_far ?_ GW236.out _ | refine keep_far ?_ GW237.out _) | exact HK.out)) hk (.inl rfl))
  replace HB := a_ (hb)
  replace HI0 := a_ (hi)
  (try clear hb)
  (try clear hb2)
  (try clear hk)
  (try clear hi)
  refine hK.out _ _ ⟨(blk_cell BK235.out 0).trans rfl, (blk_cell BK235.out 1).trans rfl, (blk_cell BK236.out 0).trans rfl, (blk_cell BK236.out 1).trans rfl⟩ (fun hHeld => ?_)
  clear hK K
  refine norm_ (a' := ?_) ?_ ?_
  rotate_left
  ·show Act.put _ (some 61) _ = _
   simp only [Act.put, sB, sC, sD, i64_w, i32_w]
   rfl
  refine pure_ (i := 34) (N := some 62) (v := ?_) (a' := ?_) #[true, true, true, true, true, true, true, true, true, true, true, true, true, true, true, true, true, true, true, true, true, true, true, true, true, true, true, true, true, true, true, true, true, true, true, false] rfl rfl (any_of HT_.out (by kernel_rfl)) (fun _ _ _ h => h) (Or.inl ⟨by rfl, ?_⟩) ?_ ?_
  rotate_left
  ·intro w'
   go_simp
   with_reducible rfl
  rotate_left
  ·simp only [Act.put, sB, sC, sD, i64_w, i32_w]
   rfl
  refine one_ (i := 35) (N := none) #[true, true, true, true, true, true, true, true, true, true, true, true, true, true, true, true, true, true, true, true, true, true, true, true, true, true, true, true, true, true, true, true, true, true, true, true] rfl rfl (one_of HT_.out (by kernel_rfl)) (by decide) (fun K hK => ?_)
  have hs44 : w43.cell? ⟨gb237, 0, none⟩ = some (.float .f64 (0 : Nat)) := (blk_cell BK237.out 0).trans rfl
  have hfs44 := blk_frozen BK237.out 0
  have hns44_0 := NB235_237.out
  have hns44_1 := NB236_237.out
  have hms44_0 := NB237_235.out
  have hms44_1 := NB237_236.out
  have hs45 : w43.cell? ⟨gb237, 1, none⟩ = some (.float .f64 (0 : Nat)) := (blk_cell BK237.out 1).trans rfl
  have hfs45 := blk_frozen BK237.out 1
  have hns45_0 := NB235_237.out
  have hns45_1 := NB236_237.out
  have hms45_0 := NB237_235.out
  have hms45_1 := NB237_236.out
  refine skip_ (w1 := ?_) ?_ ?_ ?_ ?_
  rotate_left
  ·rfl
  ·rfl
  ·go_simp
   rfl
  refine hK.out _ _ ⟨((cell_far (p := ⟨gb237, _, none⟩) NB235_237.out _).trans (((cell_far (p := ⟨gb237, _, none⟩) NB235_237.out _).trans (hHeld.1)))), ((cell_far (p := ⟨gb237, _, none⟩) NB235_237.out _).trans (((cell_far (p := ⟨gb237, _, none⟩) NB235_237.out _).trans (hHeld.2.1)))), ((cell_far (p := ⟨gb237, _, none⟩) NB236_237.out _).trans (((cell_far (p := ⟨gb237, _, none⟩) NB236_237.out _).trans (hHeld.2.2.1)))), ((cell_far (p := ⟨gb237, _, none⟩) NB236_237.out _).trans (((cell_far (p := ⟨gb237, _, none⟩) NB236_237.out _).trans (hHeld.2.2.2))))⟩ (fun hHeld => ?_)
  clear hK K
  refine done_ (done_of HT_.out (by kernel_rfl)) ?_
  try go_wp2
  refine bodyPost_ret (results_cell_row rfl _ _ gb237 42 #[.float .f64 t250, .float .f64 t258] (0, 0) _ rfl (by refine pk ?_; refine blk_put (cs := #[.float .f64 t250, .float .f64 (0 : Nat)]) ?_ 1 _ rfl; refine pk ?_; refine blk_put (cs := #[.float .f64 (0 : Nat), .float .f64 (0 : Nat)]) ?_ 0 _ rfl; refine pk ?_; exact BK237.out) Try.underlying42 rfl (by kernel_rfl)) rfl ?_
  exact ⟨_, _, _, Flo.rq_over A4 A5 A6 c7b0 A20 A21 A22 A23 A24 A25 A26 A27, by first | rfl | (simp [errW_none, errW_some] <;> rfl) | (simp [*, errW_none, errW_some] <;> rfl), by repeat (first | (with_reducible first | exact HI0.out | apply IsS47.alloc | apply IsS47.drewN | apply IsS47.drew | apply IsS47.set_0 | refine IsS47.far ?_ NB0_235.out _ | refine IsS47.far ?_ NB0_236.out _ | refine IsS47.far ?_ NB0_237.out _) | exact HI0.out), by repeat (first | (with_reducible first | exact HB.out | apply below_alloc | apply pw_below_drewN | apply below_drew1 | refine below_set ?_ (IsS47.ge HI0.out) | refine below_set ?_ GE235.out | refine below_set ?_ GE236.out | refine below_set ?_ GE237.out) | exact HB.out), by repeat (first | (with_reducible first | exact HK.out | apply KeepBut.set_ | apply keep_drewN | apply keep_drew | apply keep_alloc | refine keep_far ?_ GW235.out _ | refine keep_far ?_ GW236.out _ | refine keep_far ?_ GW237.out _) | exact HK.out)⟩
end

end Go.Proofs.Ytlfejohlehkbgaa.PFnExactRootsOf
