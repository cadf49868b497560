-- Written by a program of this session out of the loaded functions' print; helper lemmas as print.sh lays them.
import Derived.Test.YtlfejohlehkbgaaUp2
import Derived.Test.YtlfejohlehkbgaaUp
import Derived.Test.YtlfejohlehkbgaaRel
import Derived.Test.YtlfejohlehkbgaaRFnExactRootsOfx0
import Derived.Test.YtlfejohlehkbgaaRFnExactRootsOfx7
namespace Go.Proofs.Ytlfejohlehkbgaa.PFnExactRootsOf
open Go.RowKit Go.Proofs.YtlfejohlehkbgaaW.PrintWords Go.Proofs.YtlfejohlehkbgaaW.PrintLast Go.Proofs.YtlfejohlehkbgaaW.PrintMore
attribute [local go_sem] max2_int min2_int max_two min_two max_three min_three max_four min_four go_fstore go_fneg go_fadd go_fsub go_fmul go_fquo go_fmax go_fmin go_fconv go_bits go_frombits  -- for this text's walks alone
set_option linter.unusedVariables false
set_option linter.unusedSimpArgs false

/-! ### impl_reals_less: function 25 -/
def impl_reals_less.T1 : Bool × List (List Nat × List Nat) := (true, [([], []), ([], []), ([1], [1]), ([], []), ([3], [3]), ([0, 2, 4], [0, 2, 4]), ([], []), ([], []), ([7], [7]), ([], []), ([9], [9]), ([6, 8, 10, 5], [6, 8, 10]), ([5, 11], [5, 11]), ([12, 11, 0, 1, 2, 3, 4, 5, 6, 7, 8, 9, 10, 11, 12], [12])])
def impl_reals_less.B1 : List Nat := [0, 0, 2, 0, 8, 31, 0, 0, 128, 0, 512, 2047, 4095, 8191]
theorem impl_reals_less.tab1 : rtab .any (opsOf Try.f25 1) = impl_reals_less.T1 := by kernel_rfl
theorem impl_reals_less.bits1 : waitsOk impl_reals_less.T1.2 impl_reals_less.B1 = true := by kernel_rfl
section
open Go.Proofs.Ytlfejohlehkbgaa.Flo (Rt Rp Rq Rd Sp Vt mRe mIm dRe dIm den denBad al toldS)
attribute [local go_sem] go_tadd go_tsub go_tmul go_tquo
set_option maxHeartbeats 8000000 in
set_option maxRecDepth 100000 in
theorem impl_reals_less.rel (g : Nat) (s0_0 : Bool) (a1_0 : Nat) (a1_1 : Nat) (a2_0 : Nat) (a2_1 : Nat) (w0 w : World) (hI : IsS47 w0 w g s0_0) (hB : Below w0.heap.size w0 w) :
  Calls Try.prog 25 #[.pointer (some ⟨g, 0, none⟩), .agg #[.float .f64 a1_0, .float .f64 a1_1], .agg #[.float .f64 a2_0, .float .f64 a2_1]] w fun e w' => ∃ r1 r2 r3, Rp (Flo.opS .sub (al a1_0) (al a2_0)) (Flo.opS .sub (al a1_1) (al a2_1)) s0_0 r1 r2 r3 ∧ e = .returned (.agg #[.float .f64 r1, .float .f64 r2]) ∧ IsS47 w0 w' g r3 ∧ Below w0.heap.size w0 w' ∧ KeepBut w w' g none := by
 have hu42 := Try.underlying42
 have HI0 := Aside0.mk hI
 have HK := a_ (KeepBut.refl w g none)
 have HL := Aside0.mk hB.size
 clear hI
 have HW0 := Aside0.mk hB.size
 have HB := Aside0.mk hB
 clear hB
 go_enter Try.func25, Try.ntmps25
 try go_wp2_with (first | ((with_reducible refine gate_dst (N := 4) rfl ?_); refine box_event ?hg (N := 4) ?hd (cs := #[.float .f64 a1_0, .float .f64 a1_1]) (t := 42) ?hr ?_; (case hd => rfl); (case hg => rfl); (case hr => first | (go_simp; done) | (go_simp; rfl)); intro gb260 hg w6 hbox hb; replace HB := a_ (below_step (by repeat (first | (with_reducible first | exact HB.out | apply below_alloc | apply pw_below_drewN | apply below_drew1 | refine below_set ?_ (IsS47.ge HI0.out)) | exact HB.out)) hb); have BK260 := a_ (hbox); have GW260 := a_ (by rw [hg]; exact (keep_size (w := w) (g := g) (row := none) (by repeat (first | (with_reducible first | exact HK.out | apply KeepBut.set_ | apply keep_drewN | apply keep_drew | apply keep_alloc) | exact HK.out))) : w.heap.size ≤ gb260); have GE260 := a_ (Nat.le_trans HW0.out (by rw [hg]; exact (keep_size (w := w) (g := g) (row := none) (by repeat (first | (with_reducible first | exact HK.out | apply KeepBut.set_ | apply keep_drewN | apply keep_drew | apply keep_alloc) | exact HK.out))) : w.heap.size ≤ gb260) : w0.heap.size ≤ gb260); replace HK := a_ (KeepBut.trans (by repeat (first | (with_reducible first | exact HK.out | apply KeepBut.set_ | apply keep_drewN | apply keep_drew | apply keep_alloc) | exact HK.out)) (KeepBut.of_below hb g none) (.inl rfl)); have NB0_260 := a_ (by rw [hg]; exact Nat.ne_of_lt (IsS47.lt (show IsS47 w0 _ g s0_0 from by repeat (first | (with_reducible first | exact HI0.out | apply IsS47.alloc | apply IsS47.drewN | apply IsS47.drew | apply IsS47.set_0) | exact HI0.out))) : g ≠ gb260); have NB260_0 := a_ (by rw [hg]; exact Nat.ne_of_gt (IsS47.lt (show IsS47 w0 _ g s0_0 from by repeat (first | (with_reducible first | exact HI0.out | apply IsS47.alloc | apply IsS47.drewN | apply IsS47.drew | apply IsS47.set_0) | exact HI0.out))) : gb260 ≠ g); replace HI0 := a_ (IsS47.below (by repeat (first | (with_reducible first | exact HI0.out | apply IsS47.alloc | apply IsS47.drewN | apply IsS47.drew | apply IsS47.set_0) | exact HI0.out)) hb); clear hb hbox hg) | ((with_reducible refine gate_dst (N := 5) rfl ?_); refine box_event ?hg (N := 5) ?hd (cs := #[.float .f64 a2_0, .float .f64 a2_1]) (t := 42) ?hr ?_; (case hd => rfl); (case hg => rfl); (case hr => first | (go_simp; done) | (go_simp; rfl)); intro gb261 hg w7 hbox hb; replace HB := a_ (below_step (by repeat (first | (with_reducible first | exact HB.out | apply below_alloc | apply pw_below_drewN | apply below_drew1 | refine below_set ?_ (IsS47.ge HI0.out) | refine below_set ?_ GE260.out) | exact HB.out)) hb); have BK261 := a_ (hbox); have GW261 := a_ (by rw [hg]; exact (keep_size (w := w) (g := g) (row := none) (by repeat (first | (with_reducible first | exact HK.out | apply KeepBut.set_ | apply keep_drewN | apply keep_drew | apply keep_alloc | refine keep_far ?_ GW260.out _) | exact HK.out))) : w.heap.size ≤ gb261); have GE261 := a_ (Nat.le_trans HW0.out (by rw [hg]; exact (keep_size (w := w) (g := g) (row := none) (by repeat (first | (with_reducible first | exact HK.out | apply KeepBut.set_ | apply keep_drewN | apply keep_drew | apply keep_alloc | refine keep_far ?_ GW260.out _) | exact HK.out))) : w.heap.size ≤ gb261) : w0.heap.size ≤ gb261); replace HK := a_ (KeepBut.trans (by repeat (first | (with_reducible first | exact HK.out | apply KeepBut.set_ | apply keep_drewN | apply keep_drew | apply keep_alloc | refine keep_far ?_ GW260.out _) | exact HK.out)) (KeepBut.of_below hb g none) (.inl rfl)); have NB260_261 := a_ (nel hg BK260.out); have NB261_260 := a_ (nle hg BK260.out); replace BK260 := a_ (blk_below (pk BK260.out) hb); have NB0_261 := a_ (by rw [hg]; exact Nat.ne_of_lt (IsS47.lt (show IsS47 w0 _ g s0_0 from by repeat (first | (with_reducible first | exact HI0.out | apply IsS47.alloc | apply IsS47.drewN | apply IsS47.drew | apply IsS47.set_0 | refine IsS47.far ?_ NB0_260.out _) | exact HI0.out))) : g ≠ gb261); have NB261_0 := a_ (by rw [hg]; exact Nat.ne_of_gt (IsS47.lt (show IsS47 w0 _ g s0_0 from by repeat (first | (with_reducible first | exact HI0.out | apply IsS47.alloc | apply IsS47.drewN | apply IsS47.drew | apply IsS47.set_0 | refine IsS47.far ?_ NB0_260.out _) | exact HI0.out))) : gb261 ≠ g); replace HI0 := a_ (IsS47.below (by repeat (first | (with_reducible first | exact HI0.out | apply IsS47.alloc | apply IsS47.drewN | apply IsS47.drew | apply IsS47.set_0 | refine IsS47.far ?_ NB0_260.out _) | exact HI0.out)) hb); clear hb hbox hg) | ((with_reducible refine gate_dst (N := 6) rfl ?_); refine box_event ?hg (N := 6) ?hd (cs := #[.float .f64 (0 : Nat), .float .f64 (0 : Nat)]) (t := 42) ?hr ?_; (case hd => rfl); (case hg => rfl); (case hr => first | (go_simp; done) | (go_simp; rfl)); intro gb262 hg w8 hbox hb; replace HB := a_ (below_step (by repeat (first | (with_reducible first | exact HB.out | apply below_alloc | apply pw_below_drewN | apply below_drew1 | refine below_set ?_ (IsS47.ge HI0.out) | refine below_set ?_ GE260.out | refine below_set ?_ GE261.out) | exact HB.out)) hb); have BK262 := a_ (hbox); have GW262 := a_ (by rw [hg]; exact (keep_size (w := w) (g := g) (row := none) (by repeat (first | (with_reducible first | exact HK.out | apply KeepBut.set_ | apply keep_drewN | apply keep_drew | apply keep_alloc | refine keep_far ?_ GW260.out _ | refine keep_far ?_ GW261.out _) | exact HK.out))) : w.heap.size ≤ gb262); have GE262 := a_ (Nat.le_trans HW0.out (by rw [hg]; exact (keep_size (w := w) (g := g) (row := none) (by repeat (first | (with_reducible first | exact HK.out | apply KeepBut.set_ | apply keep_drewN | apply keep_drew | apply keep_alloc | refine keep_far ?_ GW260.out _ | refine keep_far ?_ GW261.out _) | exact HK.out))) : w.heap.size ≤ gb262) : w0.heap.size ≤ gb262); replace HK := a_ (KeepBut.trans (by repeat (first | (with_reducible first | exact HK.out | apply KeepBut.set_ | apply keep_drewN | apply keep_drew | apply keep_alloc | refine keep_far ?_ GW260.out _ | refine keep_far ?_ GW261.out _) | exact HK.out)) (KeepBut.of_below hb g none) (.inl rfl)); have NB260_262 := a_ (nel hg BK260.out); have NB262_260 := a_ (nle hg BK260.out); replace BK260 := a_ (blk_below (pk BK260.out) hb); have NB261_262 := a_ (nel hg BK261.out); have NB262_261 := a_ (nle hg BK261.out); replace BK261 := a_ (blk_below (pk BK261.out) hb); have NB0_262 := a_ (by rw [hg]; exact Nat.ne_of_lt (IsS47.lt (show IsS47 w0 _ g s0_0 from by repeat (first | (with_reducible first | exact HI0.out | apply IsS47.alloc | apply IsS47.drewN | apply IsS47.drew | apply IsS47.set_0 | refine IsS47.far ?_ NB0_260.out _ | refine IsS47.far ?_ NB0_261.out _) | exact HI0.out))) : g ≠ gb262); have NB262_0 := a_ (by rw [hg]; exact Nat.ne_of_gt (IsS47.lt (show IsS47 w0 _ g s0_0 from by repeat (first | (with_reducible first | exact HI0.out | apply IsS47.alloc | apply IsS47.drewN | apply IsS47.drew | apply IsS47.set_0 | refine IsS47.far ?_ NB0_260.out _ | refine IsS47.far ?_ NB0_261.out _) | exact HI0.out))) : gb262 ≠ g); replace HI0 := a_ (IsS47.below (by repeat (first | (with_reducible first | exact HI0.out | apply IsS47.alloc | apply IsS47.drewN | apply IsS47.drew | apply IsS47.set_0 | refine IsS47.far ?_ NB0_260.out _ | refine IsS47.far ?_ NB0_261.out _) | exact HI0.out)) hb); clear hb hbox hg))
 replace BK260 := a_ (blk_drew BK260.out)
 replace BK261 := a_ (blk_drew BK261.out)
 replace BK262 := a_ (blk_drew BK262.out)
 replace HI0 := a_ (IsS47.drew HI0.out)
 replace HK := a_ (keep_drew HK.out)
 replace HB := a_ (below_drew1 HB.out)
 refine start_ (n := 14) (S := fun w' => w'.cell? ⟨gb260, 0, none⟩ = some (.float .f64 a1_0) ∧ w'.cell? ⟨gb260, 1, none⟩ = some (.float .f64 a1_1) ∧ w'.cell? ⟨gb261, 0, none⟩ = some (.float .f64 a2_0) ∧ w'.cell? ⟨gb261, 1, none⟩ = some (.float .f64 a2_1)) (ds := []) #[false, false, false, false, false, false, false, false, false, false, false, false, false, false] (by kernel_rfl) rfl rfl ⟨(blk_cell BK260.out 0).trans rfl, (blk_cell BK260.out 1).trans rfl, (blk_cell BK261.out 0).trans rfl, (blk_cell BK261.out 1).trans rfl⟩ (fun hHeld => ?_); refine with_tabW impl_reals_less.tab1 impl_reals_less.bits1 (fun HT_ HW_ => ?_)
 generalize w8.drew = w9 at BK260 BK261 BK262 HI0 HK HB hHeld ⊢
 refine pure_ (i := 0) (N := some 7) (v := ?_) (a' := ?_) #[true, false, false, false, false, false, false, false, false, false, false, false, false, false] rfl rfl (any_of HT_.out (by kernel_rfl)) (fun _ _ _ h => h) (Or.inl ⟨by rfl, ?_⟩) ?_ ?_
 rotate_left
 ·intro w'
  go_simp
  with_reducible rfl
 rotate_left
 ·simp only [Act.put, sB, sC, sD, i64_w, i32_w]
  rfl
 refine pure_ (i := 1) (N := some 8) (v := ?_) (a' := ?_) #[true, true, false, false, false, false, false, false, false, false, false, false, false, false] rfl rfl (any_of HT_.out (by kernel_rfl)) (fun _ _ _ h => h) (Or.inl ⟨by rfl, ?_⟩) ?_ ?_
 rotate_left
 ·intro w'
  go_simp
  with_reducible rfl
 rotate_left
 ·simp only [Act.put, sB, sC, sD, i64_w, i32_w]
  rfl
 refine pure_ (i := 3) (N := some 10) (v := ?_) (a' := ?_) #[true, true, false, true, false, false, false, false, false, false, false, false, false, false] rfl rfl (any_of HT_.out (by kernel_rfl)) (fun _ _ _ h => h) (Or.inl ⟨by rfl, ?_⟩) ?_ ?_
 rotate_left
 ·intro w'
  go_simp
  with_reducible rfl
 rotate_left
 ·simp only [Act.put, sB, sC, sD, i64_w, i32_w]
  rfl
 refine pure_ (i := 6) (N := some 13) (v := ?_) (a' := ?_) #[true, true, false, true, false, false, true, false, false, false, false, false, false, false] rfl rfl (any_of HT_.out (by kernel_rfl)) (fun _ _ _ h => h) (Or.inl ⟨by rfl, ?_⟩) ?_ ?_
 rotate_left
 ·intro w'
  go_simp
  with_reducible rfl
 rotate_left
 ·simp only [Act.put, sB, sC, sD, i64_w, i32_w]
  rfl
 refine pure_ (i := 7) (N := some 14) (v := ?_) (a' := ?_) #[true, true, false, true, false, false, true, true, false, false, false, false, false, false] rfl rfl (any_of HT_.out (by kernel_rfl)) (fun _ _ _ h => h) (Or.inl ⟨by rfl, ?_⟩) ?_ ?_
 rotate_left
 ·intro w'
  go_simp
  with_reducible rfl
 rotate_left
 ·simp only [Act.put, sB, sC, sD, i64_w, i32_w]
  rfl
 refine pure_ (i := 9) (N := some 16) (v := ?_) (a' := ?_) #[true, true, false, true, false, false, true, true, false, true, false, false, false, false] rfl rfl (any_of HT_.out (by kernel_rfl)) (fun _ _ _ h => h) (Or.inl ⟨by rfl, ?_⟩) ?_ ?_
 rotate_left
 ·intro w'
  go_simp
  with_reducible rfl
 rotate_left
 ·simp only [Act.put, sB, sC, sD, i64_w, i32_w]
  rfl
 refine take_ (i := 2) (N := some 9) (v := ?_) (a' := ?_) #[true, true, true, true, false, false, true, true, false, true, false, false, false, false] rfl rfl (take_ofW HT_.out HW_.out (by kernel_rfl)) (fun _ _ _ h => h) (Or.inl ⟨by rfl, ?_⟩) hHeld ?_ ?_
 rotate_left
 ·rintro w' ⟨s0, s1, s2, s3⟩
  go_simp
  with_reducible rfl
 rotate_left
 ·simp only [Act.put, sB, sC, sD, i64_w, i32_w]
  rfl
 refine take_ (i := 4) (N := some 11) (v := ?_) (a' := ?_) #[true, true, true, true, true, false, true, true, false, true, false, false, false, false] rfl rfl (take_ofW HT_.out HW_.out (by kernel_rfl)) (fun _ _ _ h => h) (Or.inl ⟨by rfl, ?_⟩) hHeld ?_ ?_
 rotate_left
 ·rintro w' ⟨s0, s1, s2, s3⟩
  go_simp
  with_reducible rfl
 rotate_left
 ·simp only [Act.put, sB, sC, sD, i64_w, i32_w]
  rfl
 refine take_ (i := 8) (N := some 15) (v := ?_) (a' := ?_) #[true, true, true, true, true, false, true, true, true, true, false, false, false, false] rfl rfl (take_ofW HT_.out HW_.out (by kernel_rfl)) (fun _ _ _ h => h) (Or.inl ⟨by rfl, ?_⟩) hHeld ?_ ?_
 rotate_left
 ·rintro w' ⟨s0, s1, s2, s3⟩
  go_simp
  with_reducible rfl
 rotate_left
 ·simp only [Act.put, sB, sC, sD, i64_w, i32_w]
  rfl
 refine take_ (i := 10) (N := some 17) (v := ?_) (a' := ?_) #[true, true, true, true, true, false, true, true, true, true, true, false, false, false] rfl rfl (take_ofW HT_.out HW_.out (by kernel_rfl)) (fun _ _ _ h => h) (Or.inl ⟨by rfl, ?_⟩) hHeld ?_ ?_
 rotate_left
 ·rintro w' ⟨s0, s1, s2, s3⟩
  go_simp
  with_reducible rfl
 rotate_left
 ·simp only [Act.put, sB, sC, sD, i64_w, i32_w]
  rfl
 refine one_ (i := 5) (N := some 12) #[true, true, true, true, true, true, true, true, true, true, true, false, false, false] rfl rfl (one_of HT_.out (by kernel_rfl)) (by decide) (fun K hK => ?_)
 refine goes_ Try.func43 (by kernel_rfl) rfl #[.pointer (some ⟨g, 0, none⟩), .float .f64 a1_0, .float .f64 a2_0] (by rfl) rfl rfl (by (try simp only [lA, lB, lC]); first | done | rfl | (simp only [lD, lE]; rfl)) ?_
 with_reducible refine (impl_reals_sub.rel g s0_0 a1_0 a2_0 w0 _ ?side1 ?side2).mono ?_
 (case side1 => repeat (first | (with_reducible first | exact HI0.out | apply IsS47.alloc | apply IsS47.drewN | apply IsS47.drew | apply IsS47.set_0 | refine IsS47.far ?_ NB0_260.out _ | refine IsS47.far ?_ NB0_261.out _ | refine IsS47.far ?_ NB0_262.out _) | exact HI0.out))
 (case side2 => repeat (first | (with_reducible first | exact HB.out | apply below_alloc | apply pw_below_drewN | apply below_drew1 | refine below_set ?_ (IsS47.ge HI0.out) | refine below_set ?_ GE260.out | refine below_set ?_ GE261.out | refine below_set ?_ GE262.out) | exact HB.out))
 rintro e w10 ⟨t263, t264, A4, rfl, hi, hb, hk⟩
 refine ⟨_, rfl, ?_⟩
 replace BK260 := a_ (KeepBut.blk hk (g' := gb260) (o := .cells #[.float .f64 a1_0, .float .f64 a1_1] 42 (0, 0)) (pk BK260.out) NB260_0.out (by simp))
 replace BK261 := a_ (KeepBut.blk hk (g' := gb261) (o := .cells #[.float .f64 a2_0, .float .f64 a2_1] 42 (0, 0)) (pk BK261.out) NB261_0.out (by simp))
 replace BK262 := a_ (KeepBut.blk hk (g' := gb262) (o := .cells #[.float .f64 (0 : Nat), .float .f64 (0 : Nat)] 42 (0, 0)) (pk BK262.out) NB262_0.out (by simp))
 replace HK := a_ (KeepBut.trans (by repeat (first | (with_reducible first | exact HK.out | apply KeepBut.set_ | apply keep_drewN | apply keep_drew | apply keep_alloc | refine keep_far ?_ GW260.out _ | refine keep_far ?_ GW261.out _ | refine keep_far ?_ GW262.out _) | exact HK.out)) hk (.inl rfl))
 replace HB := a_ (hb)
 replace HI0 := a_ (hi)
 (try clear hb)
 (try clear hb2)
 (try clear hk)
 (try clear hi)
 refine hK.out _ _ ⟨(blk_cell BK260.out 0).trans rfl, (blk_cell BK260.out 1).trans rfl, (blk_cell BK261.out 0).trans rfl, (blk_cell BK261.out 1).trans rfl⟩ (fun hHeld => ?_)
 clear hK K
 refine norm_ (a' := ?_) ?_ ?_
 rotate_left
 ·show Act.put _ (some 12) _ = _
  simp only [Act.put, sB, sC, sD, i64_w, i32_w]
  rfl
 refine one_ (i := 11) (N := some 18) #[true, true, true, true, true, true, true, true, true, true, true, true, false, false] rfl rfl (one_of HT_.out (by kernel_rfl)) (by decide) (fun K hK => ?_)
 refine goes_ Try.func43 (by kernel_rfl) rfl #[.pointer (some ⟨g, 0, none⟩), .float .f64 a1_1, .float .f64 a2_1] (by rfl) rfl rfl (by (try simp only [lA, lB, lC]); first | done | rfl | (simp only [lD, lE]; rfl)) ?_
 with_reducible refine (impl_reals_sub.rel g t264 a1_1 a2_1 w0 _ ?side1 ?side2).mono ?_
 (case side1 => repeat (first | (with_reducible first | exact HI0.out | apply IsS47.alloc | apply IsS47.drewN | apply IsS47.drew | apply IsS47.set_0 | refine IsS47.far ?_ NB0_260.out _ | refine IsS47.far ?_ NB0_261.out _ | refine IsS47.far ?_ NB0_262.out _) | exact HI0.out))
 (case side2 => repeat (first | (with_reducible first | exact HB.out | apply below_alloc | apply pw_below_drewN | apply below_drew1 | refine below_set ?_ (IsS47.ge HI0.out) | refine below_set ?_ GE260.out | refine below_set ?_ GE261.out | refine below_set ?_ GE262.out) | exact HB.out))
 rintro e w11 ⟨t265, t266, A5, rfl, hi, hb, hk⟩
 refine ⟨_, rfl, ?_⟩
 replace BK260 := a_ (KeepBut.blk hk (g' := gb260) (o := .cells #[.float .f64 a1_0, .float .f64 a1_1] 42 (0, 0)) (pk BK260.out) NB260_0.out (by simp))
 replace BK261 := a_ (KeepBut.blk hk (g' := gb261) (o := .cells #[.float .f64 a2_0, .float .f64 a2_1] 42 (0, 0)) (pk BK261.out) NB261_0.out (by simp))
 replace BK262 := a_ (KeepBut.blk hk (g' := gb262) (o := .cells #[.float .f64 (0 : Nat), .float .f64 (0 : Nat)] 42 (0, 0)) (pk BK262.out) NB262_0.out (by simp))
 replace HK := a_ (KeepBut.trans (by repeat (first | (with_reducible first | exact HK.out | apply KeepBut.set_ | apply keep_drewN | apply keep_drew | apply keep_alloc | refine keep_far ?_ GW260.out _ | refine keep_far ?_ GW261.out _ | refine keep_far ?_ GW262.out _) | exact HK.out)) hk (.inl rfl))
 replace HB := a_ (hb)
 replace HI0 := a_ (hi)
 (try clear hb)
 (try clear hb2)
 (try clear hk)
 (try clear hi)
 refine hK.out _ _ ⟨(blk_cell BK260.out 0).trans rfl, (blk_cell BK260.out 1).trans rfl, (blk_cell BK261.out 0).trans rfl, (blk_cell BK261.out 1).trans rfl⟩ (fun hHeld => ?_)
 clear hK K
 refine norm_ (a' := ?_) ?_ ?_
 rotate_left
 ·show Act.put _ (some 18) _ = _
  simp only [Act.put, sB, sC, sD, i64_w, i32_w]
  rfl
 refine pure_ (i := 12) (N := some 19) (v := ?_) (a' := ?_) #[true, true, true, true, true, true, true, true, true, true, true, true, true, false] rfl rfl (any_of HT_.out (by kernel_rfl)) (fun _ _ _ h => h) (Or.inl ⟨by rfl, ?_⟩) ?_ ?_
 rotate_left
 ·intro w'
  go_simp
  with_reducible rfl
 rotate_left
 ·simp only [Act.put, sB, sC, sD, i64_w, i32_w]
  rfl
 refine one_ (i := 13) (N := none) #[true, true, true, true, true, true, true, true, true, true, true, true, true, true] rfl rfl (one_of HT_.out (by kernel_rfl)) (by decide) (fun K hK => ?_)
 have hs12 : w11.cell? ⟨gb262, 0, none⟩ = some (.float .f64 (0 : Nat)) := (blk_cell BK262.out 0).trans rfl
 have hfs12 := blk_frozen BK262.out 0
 have hns12_0 := NB260_262.out
 have hns12_1 := NB261_262.out
 have hms12_0 := NB262_260.out
 have hms12_1 := NB262_261.out
 have hs13 : w11.cell? ⟨gb262, 1, none⟩ = some (.float .f64 (0 : Nat)) := (blk_cell BK262.out 1).trans rfl
 have hfs13 := blk_frozen BK262.out 1
 have hns13_0 := NB260_262.out
 have hns13_1 := NB261_262.out
 have hms13_0 := NB262_260.out
 have hms13_1 := NB262_261.out
 refine skip_ (w1 := ?_) ?_ ?_ ?_ ?_
 rotate_left
 ·rfl
 ·rfl
 ·go_simp
  rfl
 refine hK.out _ _ ⟨((cell_far (p := ⟨gb262, _, none⟩) NB260_262.out _).trans (((cell_far (p := ⟨gb262, _, none⟩) NB260_262.out _).trans (hHeld.1)))), ((cell_far (p := ⟨gb262, _, none⟩) NB260_262.out _).trans (((cell_far (p := ⟨gb262, _, none⟩) NB260_262.out _).trans (hHeld.2.1)))), ((cell_far (p := ⟨gb262, _, none⟩) NB261_262.out _).trans (((cell_far (p := ⟨gb262, _, none⟩) NB261_262.out _).trans (hHeld.2.2.1)))), ((cell_far (p := ⟨gb262, _, none⟩) NB261_262.out _).trans (((cell_far (p := ⟨gb262, _, none⟩) NB261_262.out _).trans (hHeld.2.2.2))))⟩ (fun hHeld => ?_)
 clear hK K
 refine done_ (done_of HT_.out (by kernel_rfl)) ?_
 try go_wp2
 refine bodyPost_ret (results_cell_row rfl _ _ gb262 42 #[.float .f64 t263, .float .f64 t265] (0, 0) _ rfl (by refine pk ?_; refine blk_put (cs := #[.float .f64 t263, .float .f64 (0 : Nat)]) ?_ 1 _ rfl; refine pk ?_; refine blk_put (cs := #[.float .f64 (0 : Nat), .float .f64 (0 : Nat)]) ?_ 0 _ rfl; refine pk ?_; exact BK262.out) Try.underlying42 rfl (by kernel_rfl)) rfl ?_
 exact ⟨_, _, _, Flo.rp_less A4 A5, by first | rfl | (simp [errW_none, errW_some] <;> rfl) | (simp [*, errW_none, errW_some] <;> rfl), by repeat (first | (with_reducible first | exact HI0.out | apply IsS47.alloc | apply IsS47.drewN | apply IsS47.drew | apply IsS47.set_0 | refine IsS47.far ?_ NB0_260.out _ | refine IsS47.far ?_ NB0_261.out _ | refine IsS47.far ?_ NB0_262.out _) | exact HI0.out), by repeat (first | (with_reducible first | exact HB.out | apply below_alloc | apply pw_below_drewN | apply below_drew1 | refine below_set ?_ (IsS47.ge HI0.out) | refine below_set ?_ GE260.out | refine below_set ?_ GE261.out | refine below_set ?_ GE262.out) | exact HB.out), by repeat (first | (with_reducible first | exact HK.out | apply KeepBut.set_ | apply keep_drewN | apply keep_drew | apply keep_alloc | refine keep_far ?_ GW260.out _ | refine keep_far ?_ GW261.out _ | refine keep_far ?_ GW262.out _) | exact HK.out)⟩
end

end Go.Proofs.Ytlfejohlehkbgaa.PFnExactRootsOf
