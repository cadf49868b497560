-- Written by a program of this session out of the loaded functions' print; helper lemmas as print.sh lays them.
import Derived.Test.YtgkjnocjdonjdaaUp2
import Derived.Test.YtgkjnocjdonjdaaUp
import Derived.Test.YtgkjnocjdonjdaaRFnCountsx0
import Derived.Test.YtgkjnocjdonjdaaRFnCountsx7
namespace Go.Proofs.Ytgkjnocjdonjdaa.PFnCounts
open Go.RowKit Go.Proofs.YtgkjnocjdonjdaaW.PrintWords Go.Proofs.YtgkjnocjdonjdaaW.PrintLast Go.Proofs.YtgkjnocjdonjdaaW.PrintMore
attribute [local go_sem] max2_int min2_int max_two min_two max_three min_three max_four min_four  -- for this text's walks alone
set_option linter.unusedVariables false
set_option linter.unusedSimpArgs false

/-! ### spec_l1Cur_counts: function 34 -/
def spec_l1Cur_counts.l0 : Nat → Int → Int → List Int → Int → Int → Int → List Int → List Int → Option (Int × List Int × List Int × Int × Int)
 | 0, _, _, _, _, _, _, _, _ => none
 | k + 1, x17, x18, x1000, x1001, x1002, x256000, x256001, x256002 => if x18 < x17 then ((spec_l1Cur_pick.f x1000 x1001 x1002 4).bind fun bt256 => (if 0 ≤ x18 then (if x18 < (x256001.length : Int) then ((some (x256001.set (x18 : Int).toNat bt256.1 : List Int)).bind fun y259 => ((spec_l1Cur_pick.f x1000 bt256.2.1 bt256.2.2 4).bind fun bt260 => (if x18 < (x256002.length : Int) then ((some (x256002.set (x18 : Int).toNat bt260.1 : List Int)).bind fun y263 => ((spec_l1Cur_one.f x1000 bt260.2.1 bt260.2.2 60).bind fun bt264 => (if bt264.1 = true then ((spec_l1Cur_among.f x1000 bt264.2.1 bt264.2.2 (([1000000, 999999, 1000001] : List Int))).bind fun bt270 => (spec_l1Cur_counts.l0 k x17 (wrap64 (x18 + 1)) x1000 bt270.2.1 bt270.2.2 x256000 y259 (y263.set (x18 : Int).toNat bt270.1))) else (spec_l1Cur_counts.l0 k x17 (wrap64 (x18 + 1)) x1000 bt264.2.1 bt264.2.2 x256000 y259 y263)))) else (none)))) else (none)) else (none))) else ((spec_l1Cur_pick.f x1000 x1001 x1002 24).bind fun bt274 => (if bt274.1 = 0 then (some (wrap64 (x256000 + 1), x256001, x256002, bt274.2.1, bt274.2.2)) else (if bt274.1 = 1 then (if x256002.length < 17592186044416 then (some (x256000, x256001, (x256002 ++ [0]), bt274.2.1, bt274.2.2)) else (none)) else (some (x256000, x256001, x256002, bt274.2.1, bt274.2.2)))))
def spec_l1Cur_counts.f (k : Nat) (s0_0 : List Int) (s0_1 : Int) (s0_2 : Int) : Option (Int × List Int × List Int × Int × Int) := (spec_l1Cur_extent.f s0_0 s0_1 s0_2).bind fun bt244 => ((spec_NewCounts.f bt244.1 bt244.2.1).bind fun bt248 => (spec_l1Cur_counts.l0 k (bt248.2.1.length : Int) 0 s0_0 bt244.2.2.1 bt244.2.2.2 bt248.1 bt248.2.1 bt248.2.2))
theorem spec_l1Cur_counts.mono_l : ∀ k, (∀ y0 y1 y2 y3 y4 y5 y6 y7, LeO (spec_l1Cur_counts.l0 k y0 y1 y2 y3 y4 y5 y6 y7) (spec_l1Cur_counts.l0 (k + 1) y0 y1 y2 y3 y4 y5 y6 y7))
 | 0 => fun _ _ _ _ _ _ _ _ r h => by simp [spec_l1Cur_counts.l0] at h
 | k + 1 => by
  have ih0 := spec_l1Cur_counts.mono_l k
  ·intro y0 y1 y2 y3 y4 y5 y6 y7
   unfold spec_l1Cur_counts.l0
   repeat' first
   | (with_reducible exact ih0 _ _ _ _ _ _ _ _)
   | (with_reducible exact LeO.refl _)
   | (with_reducible exact LeO.none _)
   | (with_reducible refine LeO.ite ?_ ?_)
   | (with_reducible refine LeO.bind ?_ (fun _ => ?_))
   | exact ih0 _ _ _ _ _ _ _ _
   | exact LeO.none _
   | refine LeO.ite ?_ ?_
   | refine LeO.bind ?_ (fun _ => ?_)
theorem spec_l1Cur_counts.mono : ∀ a0 a1 a2 k, LeO (spec_l1Cur_counts.f k a0 a1 a2) (spec_l1Cur_counts.f (k + 1) a0 a1 a2) := by
 intro a0 a1 a2 k
 have ih0 := spec_l1Cur_counts.mono_l k
 unfold spec_l1Cur_counts.f
 repeat' first
   | (with_reducible exact ih0 _ _ _ _ _ _ _ _)
   | (with_reducible exact LeO.refl _)
   | (with_reducible exact LeO.none _)
   | (with_reducible refine LeO.ite ?_ ?_)
   | (with_reducible refine LeO.bind ?_ (fun _ => ?_))
   | exact ih0 _ _ _ _ _ _ _ _
   | exact LeO.none _
   | refine LeO.ite ?_ ?_
   | refine LeO.bind ?_ (fun _ => ?_)
def spec_l1Cur_counts.T9 : Bool × List (List Nat × List Nat) := (true, [([], []), ([0], [0]), ([], []), ([], []), ([], []), ([3, 4], [3, 4]), ([1, 2, 0, 1, 2, 3, 4, 5], [1, 2]), ([6, 5, 5, 0, 1, 2, 3, 4, 5], [5, 6])])
def spec_l1Cur_counts.B9 : List Nat := [0, 1, 0, 0, 0, 24, 63, 127]
theorem spec_l1Cur_counts.tab9 : rtab .any (opsOf Try.f34 9) = spec_l1Cur_counts.T9 := by kernel_rfl
theorem spec_l1Cur_counts.bits9 : waitsOk spec_l1Cur_counts.T9.2 spec_l1Cur_counts.B9 = true := by kernel_rfl
set_option maxHeartbeats 8000000 in
set_option maxRecDepth 100000 in
theorem spec_l1Cur_counts.calls (k : Nat) (g : Nat) (s0_0 : List Int) (s0_1 : Int) (s0_2 : Int) (r1 : Int) (r2 : List Int) (r3 : List Int) (r4 : Int) (r5 : Int) (w0 w : World) (hI : IsS55 w0 w g s0_0 s0_1 s0_2) (hB : Below w0.heap.size w0 w) (h : spec_l1Cur_counts.f k s0_0 s0_1 s0_2 = some (r1, r2, r3, r4, r5)) :
  Calls Try.prog 34 #[.pointer (some ⟨g, 0, none⟩)] w fun e w' => ∃ v1_ v2_ : Value, e = .returned (.agg #[.int .i64 r1, v1_, v2_]) ∧ Kd.R (Kd.int .i64) 3 w' w.heap.size (fun k_ => N_ v2_ k_) v1_ r2 ∧ Kd.R (Kd.int .i64) 3 w' w.heap.size (fun k_ => N_ v1_ k_) v2_ r3 ∧ IsS55 w0 w' g s0_0 r4 r5 ∧ Below w0.heap.size w0 w' ∧ KeepBut w w' g none := by
 have hu31 := Try.underlying31
 have HI0 := Aside0.mk hI
 have HK := a_ (KeepBut.refl w g none)
 have HL := Aside0.mk hB.size
 clear hI
 have HW0 := Aside0.mk hB.size
 have HB := Aside0.mk hB
 clear hB
 have H : ((spec_l1Cur_extent.f s0_0 s0_1 s0_2).bind fun bt244 => ((spec_NewCounts.f bt244.1 bt244.2.1).bind fun bt248 => (spec_l1Cur_counts.l0 k (bt248.2.1.length : Int) 0 s0_0 bt244.2.2.1 bt244.2.2.2 bt248.1 bt248.2.1 bt248.2.2))) = some (r1, r2, r3, r4, r5) := h
 clear h
 replace H := Option.bind_eq_some_iff.mp H
 obtain ⟨⟨t244, t245, t246, t247⟩, A20, H⟩ := H
 replace H : ((spec_NewCounts.f t244 t245).bind fun bt248 => (spec_l1Cur_counts.l0 k (bt248.2.1.length : Int) 0 s0_0 t246 t247 bt248.1 bt248.2.1 bt248.2.2)) = some (r1, r2, r3, r4, r5) := H
 have A2 := Aside0.mk A20
 clear A20
 replace H := Option.bind_eq_some_iff.mp H
 obtain ⟨⟨t248, t249, t252⟩, A30, H⟩ := H
 replace H : (spec_l1Cur_counts.l0 k (t249.length : Int) 0 s0_0 t246 t247 t248 t249 t252) = some (r1, r2, r3, r4, r5) := H
 have A3 := Aside0.mk A30
 clear A30
 have H' := Aside0.mk H
 clear H
 go_enter Try.func34, Try.ntmps34
 go_wp2_with (first | ((with_reducible refine gate_dst (N := 2) rfl ?_); refine box_event ?hg (N := 2) ?hd (cs := #[.int .i64 0, .slice none 0 0, .slice none 0 0]) (t := 31) ?hr ?_; (case hd => rfl); (case hg => rfl); (case hr => first | (go_simp; done) | (go_simp; rfl)); intro gb243 hg w4 hbox hb; replace HB := a_ (below_step (by repeat (first | (with_reducible first | exact HB.out | apply below_alloc | apply pw_below_drewN | apply below_drew1 | refine below_set ?_ (IsS55.ge HI0.out)) | exact HB.out)) hb); have BK243 := a_ (hbox); have GW243 := a_ (by rw [hg]; exact (keep_size (w := w) (g := g) (row := none) (by repeat (first | (with_reducible first | exact HK.out | apply KeepBut.set_ | apply keep_drewN | apply keep_drew | apply keep_alloc) | exact HK.out))) : w.heap.size ≤ gb243); have GE243 := a_ (Nat.le_trans HW0.out (by rw [hg]; exact (keep_size (w := w) (g := g) (row := none) (by repeat (first | (with_reducible first | exact HK.out | apply KeepBut.set_ | apply keep_drewN | apply keep_drew | apply keep_alloc) | exact HK.out))) : w.heap.size ≤ gb243) : w0.heap.size ≤ gb243); replace HK := a_ (KeepBut.trans (by repeat (first | (with_reducible first | exact HK.out | apply KeepBut.set_ | apply keep_drewN | apply keep_drew | apply keep_alloc) | exact HK.out)) (KeepBut.of_below hb g none) (.inl rfl)); have NB0_243 := a_ (by rw [hg]; exact Nat.ne_of_lt (IsS55.lt (show IsS55 w0 _ g s0_0 s0_1 s0_2 from by repeat (first | (with_reducible first | exact HI0.out | apply IsS55.alloc | apply IsS55.drewN | apply IsS55.drew | apply IsS55.set_1 | apply IsS55.set_2) | exact HI0.out))) : g ≠ gb243); have NB243_0 := a_ (by rw [hg]; exact Nat.ne_of_gt (IsS55.lt (show IsS55 w0 _ g s0_0 s0_1 s0_2 from by repeat (first | (with_reducible first | exact HI0.out | apply IsS55.alloc | apply IsS55.drewN | apply IsS55.drew | apply IsS55.set_1 | apply IsS55.set_2) | exact HI0.out))) : gb243 ≠ g); replace HI0 := a_ (IsS55.below (by repeat (first | (with_reducible first | exact HI0.out | apply IsS55.alloc | apply IsS55.drewN | apply IsS55.drew | apply IsS55.set_1 | apply IsS55.set_2) | exact HI0.out)) hb); clear hb hbox hg) | ((with_reducible refine gate_callee (f := 39) rfl ?_); refine goesL_ (some 9) rfl rfl Try.func39 (by kernel_rfl) rfl #[.pointer (some ⟨g, 0, none⟩)] rfl (by (try simp only [lA, lB, lC]); first | done | rfl | (simp only [lD, lE]; rfl)) ?_; (with_reducible refine (spec_l1Cur_extent.calls g s0_0 s0_1 s0_2 t244 t245 t246 t247 w0 _ ?side1 ?side2 A2.out).mono ?_); (case side1 => repeat (first | (with_reducible first | exact HI0.out | apply IsS55.alloc | apply IsS55.drewN | apply IsS55.drew | apply IsS55.set_1 | apply IsS55.set_2 | refine IsS55.far ?_ NB0_243.out _) | exact HI0.out)); (case side2 => repeat (first | (with_reducible first | exact HB.out | apply below_alloc | apply pw_below_drewN | apply below_drew1 | refine below_set ?_ (IsS55.ge HI0.out) | refine below_set ?_ GE243.out) | exact HB.out)); rintro e w5 ⟨rfl, hi, hb, hk⟩; refine ⟨_, rfl, ?_⟩; replace BK243 := a_ (KeepBut.blk hk (g' := gb243) (o := .cells #[.int .i64 0, .slice none 0 0, .slice none 0 0] 31 (0, 0)) (pk BK243.out) NB243_0.out (by simp)); replace HK := a_ (KeepBut.trans (by repeat (first | (with_reducible first | exact HK.out | apply KeepBut.set_ | apply keep_drewN | apply keep_drew | apply keep_alloc | refine keep_far ?_ GW243.out _) | exact HK.out)) hk (.inl rfl)); replace HB := a_ (hb); replace HI0 := a_ (hi); clear hb hk hi) | ((with_reducible refine gate_callee (f := 40) rfl ?_); refine goesL_ (some 14) rfl rfl Try.func40 (by kernel_rfl) rfl #[.int .i64 t244, .int .i64 t245] rfl (by (try simp only [lA, lB, lC]); first | done | rfl | (simp only [lD, lE]; rfl)) ?_; (with_reducible refine (spec_NewCounts.calls t244 t245 t248 t249 t252 _ A3.out).mono ?_); rintro e w6 ⟨v250, v253, rfl, ho0, ho1, hb⟩; refine ⟨_, rfl, ?_⟩; have HO251 := a_ (Kd.R_lower ho0 (keep_size (w := w) (g := g) (row := none) (by repeat (first | (with_reducible first | exact HK.out | apply KeepBut.set_ | apply keep_drewN | apply keep_drew | apply keep_alloc | refine keep_far ?_ GW243.out _) | exact HK.out)))); have HO254 := a_ (Kd.R_lower ho1 (keep_size (w := w) (g := g) (row := none) (by repeat (first | (with_reducible first | exact HK.out | apply KeepBut.set_ | apply keep_drewN | apply keep_drew | apply keep_alloc | refine keep_far ?_ GW243.out _) | exact HK.out)))); replace BK243 := a_ (blk_below (pk BK243.out) hb); replace HK := a_ (KeepBut.trans (by repeat (first | (with_reducible first | exact HK.out | apply KeepBut.set_ | apply keep_drewN | apply keep_drew | apply keep_alloc | refine keep_far ?_ GW243.out _) | exact HK.out)) (KeepBut.of_below hb g none) (.inl rfl)); replace HB := a_ (below_step (by repeat (first | (with_reducible first | exact HB.out | apply below_alloc | apply pw_below_drewN | apply below_drew1 | refine below_set ?_ (IsS55.ge HI0.out) | refine below_set ?_ GE243.out) | exact HB.out)) hb); replace HI0 := a_ (IsS55.below (by repeat (first | (with_reducible first | exact HI0.out | apply IsS55.alloc | apply IsS55.drewN | apply IsS55.drew | apply IsS55.set_1 | apply IsS55.set_2 | refine IsS55.far ?_ NB0_243.out _) | exact HI0.out)) hb); clear hb ho0 ho1) | ((with_reducible refine gate_dst (N := 5) rfl ?_); refine box_event ?hg (N := 5) ?hd (cs := #[.int .i64 0, .slice none 0 0, .slice none 0 0]) (t := 31) ?hr ?_; (case hd => rfl); (case hg => rfl); (case hr => first | (go_simp; done) | (go_simp; rfl)); intro gb255 hg w7 hbox hb; replace HO251 := a_ (Kd.R_below (rk HO251.out) hb); replace HO254 := a_ (Kd.R_below (rk HO254.out) hb); replace HB := a_ (below_step (by repeat (first | (with_reducible first | exact HB.out | apply below_alloc | apply pw_below_drewN | apply below_drew1 | refine below_set ?_ (IsS55.ge HI0.out) | refine below_set ?_ GE243.out) | exact HB.out)) hb); have BK255 := a_ (hbox); have GW255 := a_ (by rw [hg]; exact (keep_size (w := w) (g := g) (row := none) (by repeat (first | (with_reducible first | exact HK.out | apply KeepBut.set_ | apply keep_drewN | apply keep_drew | apply keep_alloc | refine keep_far ?_ GW243.out _) | exact HK.out))) : w.heap.size ≤ gb255); have GE255 := a_ (Nat.le_trans HW0.out (by rw [hg]; exact (keep_size (w := w) (g := g) (row := none) (by repeat (first | (with_reducible first | exact HK.out | apply KeepBut.set_ | apply keep_drewN | apply keep_drew | apply keep_alloc | refine keep_far ?_ GW243.out _) | exact HK.out))) : w.heap.size ≤ gb255) : w0.heap.size ≤ gb255); replace HK := a_ (KeepBut.trans (by repeat (first | (with_reducible first | exact HK.out | apply KeepBut.set_ | apply keep_drewN | apply keep_drew | apply keep_alloc | refine keep_far ?_ GW243.out _) | exact HK.out)) (KeepBut.of_below hb g none) (.inl rfl)); have NB243_255 := a_ (nel hg BK243.out); have NB255_243 := a_ (nle hg BK243.out); replace BK243 := a_ (blk_below (pk BK243.out) hb); have NB0_255 := a_ (by rw [hg]; exact Nat.ne_of_lt (IsS55.lt (show IsS55 w0 _ g s0_0 t246 t247 from by repeat (first | (with_reducible first | exact HI0.out | apply IsS55.alloc | apply IsS55.drewN | apply IsS55.drew | apply IsS55.set_1 | apply IsS55.set_2 | refine IsS55.far ?_ NB0_243.out _) | exact HI0.out))) : g ≠ gb255); have NB255_0 := a_ (by rw [hg]; exact Nat.ne_of_gt (IsS55.lt (show IsS55 w0 _ g s0_0 t246 t247 from by repeat (first | (with_reducible first | exact HI0.out | apply IsS55.alloc | apply IsS55.drewN | apply IsS55.drew | apply IsS55.set_1 | apply IsS55.set_2 | refine IsS55.far ?_ NB0_243.out _) | exact HI0.out))) : gb255 ≠ g); replace HI0 := a_ (IsS55.below (by repeat (first | (with_reducible first | exact HI0.out | apply IsS55.alloc | apply IsS55.drewN | apply IsS55.drew | apply IsS55.set_1 | apply IsS55.set_2 | refine IsS55.far ?_ NB0_243.out _) | exact HI0.out)) hb); clear hb hbox hg; have hnb8 := NB255_243.out; have hnc8 := NB243_255.out; have hnb9 := NB255_0.out; have hnc9 := NB0_255.out; have hcz10_0 : _ = some (Value.int .i64 0) := (blk_cell BK255.out 0).trans rfl; have hcz10_1 : _ = some (Value.slice none 0 0) := (blk_cell BK255.out 1).trans rfl; have hcz10_2 : _ = some (Value.slice none 0 0) := (blk_cell BK255.out 2).trans rfl; have hfz10_0 := blk_frozen BK255.out 0; have hfz10_1 := blk_frozen BK255.out 1; have hfz10_2 := blk_frozen BK255.out 2; obtain ⟨Ao11, co11, eo11⟩ := Kd.R_slice HO251.out; subst eo11; obtain ⟨Ao12, co12, eo12⟩ := Kd.R_slice HO254.out; subst eo12))
 go_loopg [18] k (fun kq v18 w' => ∃ (x18_1 : Int) (x1001_1 : Int) (x1002_1 : Int) (x256001_1 : List Int) (x256002_1 : List Int) (u256001 : Value) (u256002 : Value), v18 = .int .i64 x18_1 ∧ Aside0 (spec_l1Cur_counts.l0 kq (t249.length : Int) x18_1 s0_0 x1001_1 x1002_1 t248 x256001_1 x256002_1 = some (r1, r2, r3, r4, r5)) ∧ Aside0 (kq ≤ k) ∧ Aside0 (Kd.R (Kd.int .i64) 3 w' w.heap.size (fun k_ => some k_ ≠ (u256002 : Value).ownBlock) u256001 x256001_1) ∧ Aside0 (Kd.R (Kd.int .i64) 3 w' w.heap.size (fun k_ => some k_ ≠ (u256001 : Value).ownBlock) u256002 x256002_1) ∧ Aside0 (w'.heap[gb243]? = some (.cells #[.int .i64 0, (.slice none 0 0), (.slice none 0 0)] 31 (0, 0))) ∧ Aside0 (w'.heap[gb255]? = some (.cells #[.int .i64 t248, u256001, u256002] 31 (0, 0))) ∧ Aside0 (IsS55 w0 w' g s0_0 x1001_1 x1002_1) ∧ Aside0 (KeepBut w w' g none) ∧ Aside0 (Below w0.heap.size w0 w'))
 case atStart => exact ⟨(0), (t246), (t247), (t249), (t252), (.slice Ao11 t249.length co11), (.slice Ao12 t252.length co12), (by first | rfl | (simp; done) | (simp [*]; done)), H', ⟨Nat.le_refl _⟩, ⟨rk (Kd.R_mono (fr3 HO251.out BK255.out (by decide) 0 (.int .i64 t248) 1 (.slice Ao11 t249.length co11) 2 (.slice Ao12 t252.length co12)) (fun _ hk => hk.1))⟩, ⟨rk (Kd.R_mono (fr3 HO254.out BK255.out (by decide) 0 (.int .i64 t248) 1 (.slice Ao11 t249.length co11) 2 (.slice Ao12 t252.length co12)) (fun _ hk => hk.1))⟩, ⟨by refine pk ?_; refine blk_far ?_ NB243_255.out _; refine pk ?_; refine blk_far ?_ NB243_255.out _; refine pk ?_; refine blk_far ?_ NB243_255.out _; refine pk ?_; exact BK243.out⟩, ⟨by refine pk ?_; refine blk_put (cs := #[.int .i64 t248, .slice Ao11 t249.length co11, .slice none 0 0]) ?_ 2 _ rfl; refine pk ?_; refine blk_put (cs := #[.int .i64 t248, .slice none 0 0, .slice none 0 0]) ?_ 1 _ rfl; refine pk ?_; refine blk_put (cs := #[.int .i64 0, .slice none 0 0, .slice none 0 0]) ?_ 0 _ rfl; refine pk ?_; exact BK255.out⟩, ⟨by repeat (first | (with_reducible first | exact HI0.out | apply IsS55.alloc | apply IsS55.drewN | apply IsS55.drew | apply IsS55.set_1 | apply IsS55.set_2 | refine IsS55.far ?_ NB0_243.out _ | refine IsS55.far ?_ NB0_255.out _) | exact HI0.out)⟩, ⟨by repeat (first | (with_reducible first | exact HK.out | apply KeepBut.set_ | apply keep_drewN | apply keep_drew | apply keep_alloc | refine keep_far ?_ GW243.out _ | refine keep_far ?_ GW255.out _) | exact HK.out)⟩, ⟨by repeat (first | (with_reducible first | exact HB.out | apply below_alloc | apply pw_below_drewN | apply below_drew1 | refine below_set ?_ (IsS55.ge HI0.out) | refine below_set ?_ GE243.out | refine below_set ?_ GE255.out) | exact HB.out)⟩⟩
 case round =>
  clear H'
  try clear p2; try clear c3; try clear c4; try clear c8; try clear c9; try clear hcz10_0; try clear hcz10_1; try clear hcz10_2; try clear hfz10_0; try clear hfz10_1; try clear hfz10_2
  obtain ⟨x18_1, x1001_1, x1002_1, x256001_1, x256002_1, u256001, u256002, rfl, HA, HK1, HO_256001, HO_256002, BK243, BK255, HI0, HK, HB⟩ := hrel
  cases gk with
  | zero => exact absurd HA.out (by simp [spec_l1Cur_counts.l0])
  | succ k1 =>
   have H := HA.out
   clear HA
   simp only [spec_l1Cur_counts.l0] at H
   by_cases c13 : x18_1 < (t249.length : Int)
   ·rw [if_pos c13] at H
    have c13b0 : decide (x18_1 < (t249.length : Int)) = true := decide_eq_true c13
    clear c13
    replace H := Option.bind_eq_some_iff.mp H
    obtain ⟨⟨t256, t257, t258⟩, A140, H⟩ := H
    replace H : (if 0 ≤ x18_1 then (if x18_1 < (x256001_1.length : Int) then ((some (x256001_1.set (x18_1 : Int).toNat t256 : List Int)).bind fun y259 => ((spec_l1Cur_pick.f s0_0 t257 t258 4).bind fun bt260 => (if x18_1 < (x256002_1.length : Int) then ((some (x256002_1.set (x18_1 : Int).toNat bt260.1 : List Int)).bind fun y263 => ((spec_l1Cur_one.f s0_0 bt260.2.1 bt260.2.2 60).bind fun bt264 => (if bt264.1 = true then ((spec_l1Cur_among.f s0_0 bt264.2.1 bt264.2.2 ([1000000, 999999, 1000001] : List Int)).bind fun bt270 => (spec_l1Cur_counts.l0 k1 (t249.length : Int) (wrap64 (x18_1 + 1)) s0_0 bt270.2.1 bt270.2.2 t248 y259 (y263.set (x18_1 : Int).toNat bt270.1))) else (spec_l1Cur_counts.l0 k1 (t249.length : Int) (wrap64 (x18_1 + 1)) s0_0 bt264.2.1 bt264.2.2 t248 y259 y263)))) else (none)))) else (none)) else (none)) = some (r1, r2, r3, r4, r5) := H
    have A14 := Aside0.mk A140
    clear A140
    by_cases c15 : 0 ≤ x18_1
    ·rw [if_pos c15] at H
     have c15b0 : decide (0 ≤ x18_1) = true := decide_eq_true c15
     clear c15
     by_cases c16 : x18_1 < (x256001_1.length : Int)
     ·rw [if_pos c16] at H
      have c16b0 : decide (x18_1 < (x256001_1.length : Int)) = true := decide_eq_true c16
      clear c16
      obtain ⟨y259, hy259⟩ : ∃ y_ : List Int, y_ = (x256001_1.set (x18_1 : Int).toNat t256) := ⟨_, rfl⟩
      replace H : ((spec_l1Cur_pick.f s0_0 t257 t258 4).bind fun bt260 => (if x18_1 < (x256002_1.length : Int) then ((some (x256002_1.set (x18_1 : Int).toNat bt260.1 : List Int)).bind fun y263 => ((spec_l1Cur_one.f s0_0 bt260.2.1 bt260.2.2 60).bind fun bt264 => (if bt264.1 = true then ((spec_l1Cur_among.f s0_0 bt264.2.1 bt264.2.2 ([1000000, 999999, 1000001] : List Int)).bind fun bt270 => (spec_l1Cur_counts.l0 k1 (t249.length : Int) (wrap64 (x18_1 + 1)) s0_0 bt270.2.1 bt270.2.2 t248 y259 (y263.set (x18_1 : Int).toNat bt270.1))) else (spec_l1Cur_counts.l0 k1 (t249.length : Int) (wrap64 (x18_1 + 1)) s0_0 bt264.2.1 bt264.2.2 t248 y259 y263)))) else (none))) = some (r1, r2, r3, r4, r5) := by first | (rw [hy259]; with_reducible exact H) | (have H2_ := (Option.bind_some _ _).symm.trans H; rw [hy259]; with_reducible exact H2_) | (have H2_ := (Option.bind_some _ _).symm.trans H; with_reducible exact H2_) | with_reducible exact H | (rw [hy259]; exact H) | exact H
      have Ny259 := Aside0.mk hy259
      clear hy259
      replace H := Option.bind_eq_some_iff.mp H
      obtain ⟨⟨t260, t261, t262⟩, A180, H⟩ := H
      replace H : (if x18_1 < (x256002_1.length : Int) then ((some (x256002_1.set (x18_1 : Int).toNat t260 : List Int)).bind fun y263 => ((spec_l1Cur_one.f s0_0 t261 t262 60).bind fun bt264 => (if bt264.1 = true then ((spec_l1Cur_among.f s0_0 bt264.2.1 bt264.2.2 ([1000000, 999999, 1000001] : List Int)).bind fun bt270 => (spec_l1Cur_counts.l0 k1 (t249.length : Int) (wrap64 (x18_1 + 1)) s0_0 bt270.2.1 bt270.2.2 t248 y259 (y263.set (x18_1 : Int).toNat bt270.1))) else (spec_l1Cur_counts.l0 k1 (t249.length : Int) (wrap64 (x18_1 + 1)) s0_0 bt264.2.1 bt264.2.2 t248 y259 y263)))) else (none)) = some (r1, r2, r3, r4, r5) := H
      have A18 := Aside0.mk A180
      clear A180
      by_cases c19 : x18_1 < (x256002_1.length : Int)
      ·rw [if_pos c19] at H
       have c19b0 : decide (x18_1 < (x256002_1.length : Int)) = true := decide_eq_true c19
       clear c19
       obtain ⟨y263, hy263⟩ : ∃ y_ : List Int, y_ = (x256002_1.set (x18_1 : Int).toNat t260) := ⟨_, rfl⟩
       replace H : ((spec_l1Cur_one.f s0_0 t261 t262 60).bind fun bt264 => (if bt264.1 = true then ((spec_l1Cur_among.f s0_0 bt264.2.1 bt264.2.2 ([1000000, 999999, 1000001] : List Int)).bind fun bt270 => (spec_l1Cur_counts.l0 k1 (t249.length : Int) (wrap64 (x18_1 + 1)) s0_0 bt270.2.1 bt270.2.2 t248 y259 (y263.set (x18_1 : Int).toNat bt270.1))) else (spec_l1Cur_counts.l0 k1 (t249.length : Int) (wrap64 (x18_1 + 1)) s0_0 bt264.2.1 bt264.2.2 t248 y259 y263))) = some (r1, r2, r3, r4, r5) := by first | (rw [hy263]; with_reducible exact H) | (have H2_ := (Option.bind_some _ _).symm.trans H; rw [hy263]; with_reducible exact H2_) | (have H2_ := (Option.bind_some _ _).symm.trans H; with_reducible exact H2_) | with_reducible exact H | (rw [hy263]; exact H) | exact H
       have Ny263 := Aside0.mk hy263
       clear hy263
       replace H := Option.bind_eq_some_iff.mp H
       obtain ⟨⟨t264, t265, t266⟩, A210, H⟩ := H
       replace H : (if t264 = true then ((spec_l1Cur_among.f s0_0 t265 t266 ([1000000, 999999, 1000001] : List Int)).bind fun bt270 => (spec_l1Cur_counts.l0 k1 (t249.length : Int) (wrap64 (x18_1 + 1)) s0_0 bt270.2.1 bt270.2.2 t248 y259 (y263.set (x18_1 : Int).toNat bt270.1))) else (spec_l1Cur_counts.l0 k1 (t249.length : Int) (wrap64 (x18_1 + 1)) s0_0 t265 t266 t248 y259 y263)) = some (r1, r2, r3, r4, r5) := H
       have A21 := Aside0.mk A210
       clear A210
       by_cases c22 : t264 = true
       ·subst c22
        have H1 : ((spec_l1Cur_among.f s0_0 t265 t266 ([1000000, 999999, 1000001] : List Int)).bind fun bt270 => (spec_l1Cur_counts.l0 k1 (t249.length : Int) (wrap64 (x18_1 + 1)) s0_0 bt270.2.1 bt270.2.2 t248 y259 (y263.set (x18_1 : Int).toNat bt270.1))) = some (r1, r2, r3, r4, r5) := by rw [if_pos rfl] at H; exact H
        clear H
        have H := H1
        clear H1
        obtain ⟨y267, hy267⟩ : ∃ y_ : List Int, y_ = ([1000000, 999999, 1000001] : List Int) := ⟨_, rfl⟩
        replace H : ((spec_l1Cur_among.f s0_0 t265 t266 y267).bind fun bt270 => (spec_l1Cur_counts.l0 k1 (t249.length : Int) (wrap64 (x18_1 + 1)) s0_0 bt270.2.1 bt270.2.2 t248 y259 (y263.set (x18_1 : Int).toNat bt270.1))) = some (r1, r2, r3, r4, r5) := by first | (rw [hy267]; with_reducible exact H) | (have H2_ := (Option.bind_some _ _).symm.trans H; rw [hy267]; with_reducible exact H2_) | (have H2_ := (Option.bind_some _ _).symm.trans H; with_reducible exact H2_) | with_reducible exact H | (rw [hy267]; exact H) | exact H
        have Ny267 := Aside0.mk hy267
        clear hy267
        replace H := Option.bind_eq_some_iff.mp H
        obtain ⟨⟨t270, t271, t272⟩, A230, H⟩ := H
        replace H : (spec_l1Cur_counts.l0 k1 (t249.length : Int) (wrap64 (x18_1 + 1)) s0_0 t271 t272 t248 y259 (y263.set (x18_1 : Int).toNat t270)) = some (r1, r2, r3, r4, r5) := H
        have A23 := Aside0.mk A230
        clear A230
        obtain ⟨y273, hy273⟩ : ∃ y_ : List Int, y_ = (y263.set (x18_1 : Int).toNat t270) := ⟨_, rfl⟩
        replace H : (spec_l1Cur_counts.l0 k1 (t249.length : Int) (wrap64 (x18_1 + 1)) s0_0 t271 t272 t248 y259 y273) = some (r1, r2, r3, r4, r5) := by first | (rw [hy273]; with_reducible exact H) | (have H2_ := (Option.bind_some _ _).symm.trans H; rw [hy273]; with_reducible exact H2_) | (have H2_ := (Option.bind_some _ _).symm.trans H; with_reducible exact H2_) | with_reducible exact H | (rw [hy273]; exact H) | exact H
        have Ny273 := Aside0.mk hy273
        clear hy273
        have H' := Aside0.mk H
        clear H
        try go_wp2
        replace HO_256001 := a_ (Kd.R_drew HO_256001.out)
        replace HO_256002 := a_ (Kd.R_drew HO_256002.out)
        replace BK243 := a_ (blk_drew BK243.out)
        replace BK255 := a_ (blk_drew BK255.out)
        replace HI0 := a_ (IsS55.drew HI0.out)
        replace HK := a_ (keep_drew HK.out)
        replace HB := a_ (below_drew1 HB.out)
        refine start_ (n := 7) (S := fun w' => w'.cell? ⟨gb255, 0, none⟩ = some (.int .i64 t248) ∧ w'.cell? ⟨gb255, 1, none⟩ = some (u256001) ∧ w'.cell? ⟨gb255, 2, none⟩ = some (u256002)) (ds := [6]) #[false, false, false, false, false, false, false] (by kernel_rfl) rfl rfl ⟨(blk_cell BK255.out 0).trans rfl, (blk_cell BK255.out 1).trans rfl, (blk_cell BK255.out 2).trans rfl⟩ (fun hHeld => ?_)
        generalize wr.drew = w25 at HO_256001 HO_256002 BK243 BK255 HI0 HK HB hHeld ⊢
        refine pure_ (i := 0) (N := some 21) (v := ?_) (a' := ?_) #[true, false, false, false, false, false, false] rfl rfl (by kernel_rfl) (fun _ _ _ h => h) (Or.inl ⟨by rfl, ?_⟩) ?_ ?_
        rotate_left
        ·intro w'
         go_simp
         with_reducible rfl
        rotate_left
        ·simp only [Act.put, sB, sC, sD, i64_w, i32_w]
         rfl
        refine pure_ (i := 2) (N := some 23) (v := ?_) (a' := ?_) #[true, false, true, false, false, false, false] rfl rfl (by kernel_rfl) (fun _ _ _ h => h) (Or.inl ⟨by rfl, ?_⟩) ?_ ?_
        rotate_left
        ·intro w'
         go_simp
         with_reducible rfl
        rotate_left
        ·simp only [Act.put, sB, sC, sD, i64_w, i32_w]
         rfl
        refine pure_ (i := 3) (N := some 24) (v := ?_) (a' := ?_) #[true, false, true, true, false, false, false] rfl rfl (by kernel_rfl) (fun _ _ _ h => h) (Or.inl ⟨by rfl, ?_⟩) ?_ ?_
        rotate_left
        ·intro w'
         go_simp
         with_reducible rfl
        rotate_left
        ·simp only [Act.put, sB, sC, sD, i64_w, i32_w]
         rfl
        refine take_ (i := 1) (N := some 22) (v := ?_) (a' := ?_) #[true, true, true, true, false, false, false] rfl rfl (by kernel_rfl) (fun _ _ _ h => h) (Or.inl ⟨by rfl, ?_⟩) hHeld ?_ ?_
        rotate_left
        ·rintro w' ⟨s0, s1, s2⟩
         go_simp
         with_reducible rfl
        rotate_left
        ·simp only [Act.put, sB, sC, sD, i64_w, i32_w]
         rfl
        refine one_ (i := 4) (N := some 25) #[true, true, true, true, true, false, false] rfl rfl (by kernel_rfl) (by decide) (fun K hK => ?_)
        refine goes_ Try.func36 (by kernel_rfl) rfl #[.pointer (some ⟨g, 0, none⟩), .int .i64 4] (by rfl) rfl rfl (by (try simp only [lA, lB, lC]); first | done | rfl | (simp only [lD, lE]; rfl)) ?_
        with_reducible refine (spec_l1Cur_pick.calls g s0_0 x1001_1 x1002_1 4 t256 t257 t258 w0 _ ?side1 ?side2 A14.out).mono ?_
        (case side1 => repeat (first | (with_reducible first | exact HI0.out | apply IsS55.alloc | apply IsS55.drewN | apply IsS55.drew | apply IsS55.set_1 | apply IsS55.set_2 | refine IsS55.far ?_ NB0_243.out _ | refine IsS55.far ?_ NB0_255.out _) | exact HI0.out))
        (case side2 => repeat (first | (with_reducible first | exact HB.out | apply below_alloc | apply pw_below_drewN | apply below_drew1 | refine below_set ?_ (IsS55.ge HI0.out) | refine below_set ?_ GE243.out | refine below_set ?_ GE255.out) | exact HB.out))
        rintro e w26 ⟨rfl, hi, hb, hk⟩
        refine ⟨_, rfl, ?_⟩
        replace HO_256001 := a_ (Kd.R_mono (Kd.R_keep (IsS55.apart (show IsS55 w0 _ g s0_0 x1001_1 x1002_1 from by repeat (first | (with_reducible first | exact HI0.out | apply IsS55.alloc | apply IsS55.drewN | apply IsS55.drew | apply IsS55.set_1 | apply IsS55.set_2 | refine IsS55.far ?_ NB0_243.out _ | refine IsS55.far ?_ NB0_255.out _) | exact HI0.out)) (rk HO_256001.out) (by decide)) hk (fun _ h => h.2)) (fun _ h => h.1))
        replace HO_256002 := a_ (Kd.R_mono (Kd.R_keep (IsS55.apart (show IsS55 w0 _ g s0_0 x1001_1 x1002_1 from by repeat (first | (with_reducible first | exact HI0.out | apply IsS55.alloc | apply IsS55.drewN | apply IsS55.drew | apply IsS55.set_1 | apply IsS55.set_2 | refine IsS55.far ?_ NB0_243.out _ | refine IsS55.far ?_ NB0_255.out _) | exact HI0.out)) (rk HO_256002.out) (by decide)) hk (fun _ h => h.2)) (fun _ h => h.1))
        replace BK243 := a_ (KeepBut.blk hk (g' := gb243) (o := .cells #[.int .i64 0, .slice none 0 0, .slice none 0 0] 31 (0, 0)) (pk BK243.out) NB243_0.out (by simp))
        replace BK255 := a_ (KeepBut.blk hk (g' := gb255) (o := .cells #[.int .i64 t248, u256001, u256002] 31 (0, 0)) (pk BK255.out) NB255_0.out (by simp))
        replace HK := a_ (KeepBut.trans (by repeat (first | (with_reducible first | exact HK.out | apply KeepBut.set_ | apply keep_drewN | apply keep_drew | apply keep_alloc | refine keep_far ?_ GW243.out _ | refine keep_far ?_ GW255.out _) | exact HK.out)) hk (.inl rfl))
        replace HB := a_ (hb)
        replace HI0 := a_ (hi)
        (try clear hb)
        (try clear hb2)
        (try clear hk)
        (try clear hi)
        have p17 : 0 ≤ (x18_1 : Int) := of_decide_eq_true (by first | (with_reducible assumption) | assumption)
        have q17 : (x18_1 : Int) < ((x256001_1.length : Int) : Int) := of_decide_eq_true (by first | (with_reducible assumption) | assumption)
        obtain ⟨go17, co17, eo17, gb17, gl17, cl17, HG17⟩ := Kd.R_form HO_256001.out (by omega)
        (first | cases eo17 | (injection eo17 with ea_ en_ ec_; (first | subst ea_ | (injection ea_ with ea_; subst ea_)); subst ec_; clear en_))
        have GB17 := Aside0.mk gb17
        have GG17 := Aside0.mk HG17
        clear gb17 gl17 HG17
        obtain ⟨hx17_0, hf17_0⟩ := Kd.R_celln 0 HO_256001.out (x18_1 : Int) p17 q17
        replace p17 := eq_true p17
        replace q17 := eq_true q17
        have HN0_go17 := a_ (show g ≠ go17 from by have h_ := IsS55.own_ne HI0.out HO_256001.out (by decide); intro e_; exact h_ (by rw [e_]; rfl))
        have HP27 := Kd.R_putn HO_256001.out (x18_1 : Int) t256
        rw [← Ny259.out] at HP27
        have HQ27 := Aside0.mk HP27
        clear HP27
        refine hK.out _ _ ⟨(blk_cell BK255.out 0).trans rfl, (blk_cell BK255.out 1).trans rfl, (blk_cell BK255.out 2).trans rfl⟩ (fun hHeld => ?_)
        clear hK K
        refine norm_ (a' := ?_) ?_ ?_
        rotate_left
        ·show Act.put _ (some 25) _ = _
         simp only [Act.put, sB, sC, sD, i64_w, i32_w]
         rfl
        refine pure_ (i := 5) (N := some 26) (v := ?_) (a' := ?_) #[true, true, true, true, true, true, false] rfl rfl (by kernel_rfl) (fun _ _ _ h => h) (Or.inl ⟨by rfl, ?_⟩) ?_ ?_
        rotate_left
        ·intro w'
         go_simp
         with_reducible rfl
        rotate_left
        ·simp only [Act.put, sB, sC, sD, i64_w, i32_w]
         rfl
        refine last_ (i := 6) (N := none) #[true, true, true, true, true, true, true] rfl rfl (by kernel_rfl) (by decide) (fun K hK => ?_)
        refine skip_ (w1 := ?_) ?_ ?_ ?_ ?_
        rotate_left
        ·rfl
        ·rfl
        ·go_simp
         rfl
        refine hK.out _ _ ?_
        clear hK K
        refine done_ (by kernel_rfl) ?_
        try go_wp2
        have n0_ : Aside0 (Kd.R (Kd.int .i64) 3 (w26.setCell ⟨go17, (x18_1 : Int).toNat, none⟩ (.int .i64 t256)) w.heap.size (fun k_ => some k_ ≠ (u256002 : Value).ownBlock) (.slice (some ⟨go17, 0, none⟩) x256001_1.length co17) y259) := ⟨by refine rk ?_; exact HQ27.out⟩
        have n1_ : Aside0 (Kd.R (Kd.int .i64) 3 (w26.setCell ⟨go17, (x18_1 : Int).toNat, none⟩ (.int .i64 t256)) w.heap.size (fun k_ => some k_ ≠ (.slice (some ⟨go17, 0, none⟩) x256001_1.length co17 : Value).ownBlock) u256002 x256002_1) := ⟨rk (Kd.R_mono (Kd.R_far (p := ⟨go17, (x18_1 : Int).toNat, none⟩) (Kd.R_mono HO_256002.out (fun k_ hk => (⟨hk, fun e_ => hk (by rw [e_]; rfl)⟩ : _ ∧ k_ ≠ go17))) (fun _ hk => hk.2) (.int .i64 t256)) (fun _ hk => hk.1))⟩
        have n2_ : Aside0 ((w26.setCell ⟨go17, (x18_1 : Int).toNat, none⟩ (.int .i64 t256)).heap[gb243]? = some (.cells #[.int .i64 0, .slice none 0 0, .slice none 0 0] 31 (0, 0))) := ⟨by refine pk ?_; refine blk_far ?_ (by have h_ := Kd.R_ne HO_256001.out BK243.out (by decide); intro e_; exact h_ (by rw [e_]; rfl)) _; refine pk ?_; exact BK243.out⟩
        have n3_ : Aside0 ((w26.setCell ⟨go17, (x18_1 : Int).toNat, none⟩ (.int .i64 t256)).heap[gb255]? = some (.cells #[.int .i64 t248, .slice (some ⟨go17, 0, none⟩) x256001_1.length co17, u256002] 31 (0, 0))) := ⟨by refine pk ?_; refine blk_far ?_ (by have h_ := Kd.R_ne HO_256001.out BK255.out (by decide); intro e_; exact h_ (by rw [e_]; rfl)) _; refine pk ?_; exact BK255.out⟩
        have n4_ : Aside0 (IsS55 w0 (w26.setCell ⟨go17, (x18_1 : Int).toNat, none⟩ (.int .i64 t256)) g s0_0 t257 t258) := ⟨by repeat (first | (with_reducible first | exact HI0.out | apply IsS55.alloc | apply IsS55.drewN | apply IsS55.drew | apply IsS55.set_1 | apply IsS55.set_2 | refine IsS55.far ?_ HN0_go17.out _ | refine IsS55.far ?_ NB0_243.out _ | refine IsS55.far ?_ NB0_255.out _) | exact HI0.out)⟩
        have n5_ : Aside0 (KeepBut w (w26.setCell ⟨go17, (x18_1 : Int).toNat, none⟩ (.int .i64 t256)) g none) := ⟨by repeat (first | (with_reducible first | exact HK.out | apply KeepBut.set_ | apply keep_drewN | apply keep_drew | apply keep_alloc | refine keep_far ?_ GB17.out _ | refine keep_far ?_ GW243.out _ | refine keep_far ?_ GW255.out _) | exact HK.out)⟩
        have n6_ : Aside0 (Below w0.heap.size w0 (w26.setCell ⟨go17, (x18_1 : Int).toNat, none⟩ (.int .i64 t256))) := ⟨by repeat (first | (with_reducible first | exact HB.out | apply below_alloc | apply pw_below_drewN | apply below_drew1 | refine below_set ?_ (Nat.le_trans HL.out GB17.out) | refine below_set ?_ (IsS55.ge HI0.out) | refine below_set ?_ GE243.out | refine below_set ?_ GE255.out) | exact HB.out)⟩
        (try clear HO_256001)
        (try clear HO_256002)
        (try clear BK243)
        (try clear BK255)
        (try clear HI0)
        (try clear HK)
        (try clear HB)
        generalize (w26.setCell ⟨go17, (x18_1 : Int).toNat, none⟩ (.int .i64 t256)) = w28 at n0_ n1_ n2_ n3_ n4_ n5_ n6_ ⊢
        have HO_256001 := n0_
        have HO_256002 := n1_
        have BK243 := n2_
        have BK255 := n3_
        have HI0 := n4_
        have HK := n5_
        have HB := n6_
        clear n0_ n1_ n2_ n3_ n4_ n5_ n6_
        replace HO_256001 := a_ (Kd.R_drew HO_256001.out)
        replace HO_256002 := a_ (Kd.R_drew HO_256002.out)
        replace BK243 := a_ (blk_drew BK243.out)
        replace BK255 := a_ (blk_drew BK255.out)
        replace HI0 := a_ (IsS55.drew HI0.out)
        replace HK := a_ (keep_drew HK.out)
        replace HB := a_ (below_drew1 HB.out)
        refine start_ (n := 7) (S := fun w' => w'.cell? ⟨gb255, 0, none⟩ = some (.int .i64 t248) ∧ w'.cell? ⟨gb255, 1, none⟩ = some (.slice (some ⟨go17, 0, none⟩) x256001_1.length co17) ∧ w'.cell? ⟨gb255, 2, none⟩ = some (u256002)) (ds := [6]) #[false, false, false, false, false, false, false] (by kernel_rfl) rfl rfl ⟨(blk_cell BK255.out 0).trans rfl, (blk_cell BK255.out 1).trans rfl, (blk_cell BK255.out 2).trans rfl⟩ (fun hHeld => ?_)
        generalize w28.drew = w29 at HO_256001 HO_256002 BK243 BK255 HI0 HK HB HQ27 hHeld ⊢
        refine pure_ (i := 0) (N := some 27) (v := ?_) (a' := ?_) #[true, false, false, false, false, false, false] rfl rfl (by kernel_rfl) (fun _ _ _ h => h) (Or.inl ⟨by rfl, ?_⟩) ?_ ?_
        rotate_left
        ·intro w'
         go_simp
         with_reducible rfl
        rotate_left
        ·simp only [Act.put, sB, sC, sD, i64_w, i32_w]
         rfl
        refine pure_ (i := 2) (N := some 29) (v := ?_) (a' := ?_) #[true, false, true, false, false, false, false] rfl rfl (by kernel_rfl) (fun _ _ _ h => h) (Or.inl ⟨by rfl, ?_⟩) ?_ ?_
        rotate_left
        ·intro w'
         go_simp
         with_reducible rfl
        rotate_left
        ·simp only [Act.put, sB, sC, sD, i64_w, i32_w]
         rfl
        refine pure_ (i := 3) (N := some 30) (v := ?_) (a' := ?_) #[true, false, true, true, false, false, false] rfl rfl (by kernel_rfl) (fun _ _ _ h => h) (Or.inl ⟨by rfl, ?_⟩) ?_ ?_
        rotate_left
        ·intro w'
         go_simp
         with_reducible rfl
        rotate_left
        ·simp only [Act.put, sB, sC, sD, i64_w, i32_w]
         rfl
        refine take_ (i := 1) (N := some 28) (v := ?_) (a' := ?_) #[true, true, true, true, false, false, false] rfl rfl (by kernel_rfl) (fun _ _ _ h => h) (Or.inl ⟨by rfl, ?_⟩) hHeld ?_ ?_
        rotate_left
        ·rintro w' ⟨s0, s1, s2⟩
         go_simp
         with_reducible rfl
        rotate_left
        ·simp only [Act.put, sB, sC, sD, i64_w, i32_w]
         rfl
        refine one_ (i := 4) (N := some 31) #[true, true, true, true, true, false, false] rfl rfl (by kernel_rfl) (by decide) (fun K hK => ?_)
        refine goes_ Try.func36 (by kernel_rfl) rfl #[.pointer (some ⟨g, 0, none⟩), .int .i64 4] (by rfl) rfl rfl (by (try simp only [lA, lB, lC]); first | done | rfl | (simp only [lD, lE]; rfl)) ?_
        with_reducible refine (spec_l1Cur_pick.calls g s0_0 t257 t258 4 t260 t261 t262 w0 _ ?side1 ?side2 A18.out).mono ?_
        (case side1 => repeat (first | (with_reducible first | exact HI0.out | apply IsS55.alloc | apply IsS55.drewN | apply IsS55.drew | apply IsS55.set_1 | apply IsS55.set_2 | refine IsS55.far ?_ NB0_243.out _ | refine IsS55.far ?_ NB0_255.out _) | exact HI0.out))
        (case side2 => repeat (first | (with_reducible first | exact HB.out | apply below_alloc | apply pw_below_drewN | apply below_drew1 | refine below_set ?_ (IsS55.ge HI0.out) | refine below_set ?_ GE243.out | refine below_set ?_ GE255.out) | exact HB.out))
        rintro e w30 ⟨rfl, hi, hb, hk⟩
        refine ⟨_, rfl, ?_⟩
        replace HO_256001 := a_ (Kd.R_mono (Kd.R_keep (IsS55.apart (show IsS55 w0 _ g s0_0 t257 t258 from by repeat (first | (with_reducible first | exact HI0.out | apply IsS55.alloc | apply IsS55.drewN | apply IsS55.drew | apply IsS55.set_1 | apply IsS55.set_2 | refine IsS55.far ?_ NB0_243.out _ | refine IsS55.far ?_ NB0_255.out _) | exact HI0.out)) (rk HO_256001.out) (by decide)) hk (fun _ h => h.2)) (fun _ h => h.1))
        replace HO_256002 := a_ (Kd.R_mono (Kd.R_keep (IsS55.apart (show IsS55 w0 _ g s0_0 t257 t258 from by repeat (first | (with_reducible first | exact HI0.out | apply IsS55.alloc | apply IsS55.drewN | apply IsS55.drew | apply IsS55.set_1 | apply IsS55.set_2 | refine IsS55.far ?_ NB0_243.out _ | refine IsS55.far ?_ NB0_255.out _) | exact HI0.out)) (rk HO_256002.out) (by decide)) hk (fun _ h => h.2)) (fun _ h => h.1))
        replace BK243 := a_ (KeepBut.blk hk (g' := gb243) (o := .cells #[.int .i64 0, .slice none 0 0, .slice none 0 0] 31 (0, 0)) (pk BK243.out) NB243_0.out (by simp))
        replace BK255 := a_ (KeepBut.blk hk (g' := gb255) (o := .cells #[.int .i64 t248, .slice (some ⟨go17, 0, none⟩) x256001_1.length co17, u256002] 31 (0, 0)) (pk BK255.out) NB255_0.out (by simp))
        replace HK := a_ (KeepBut.trans (by repeat (first | (with_reducible first | exact HK.out | apply KeepBut.set_ | apply keep_drewN | apply keep_drew | apply keep_alloc | refine keep_far ?_ GW243.out _ | refine keep_far ?_ GW255.out _) | exact HK.out)) hk (.inl rfl))
        replace HB := a_ (hb)
        replace HI0 := a_ (hi)
        (try clear hb)
        (try clear hb2)
        (try clear hk)
        (try clear hi)
        have p20 : 0 ≤ (x18_1 : Int) := of_decide_eq_true (by first | (with_reducible assumption) | assumption)
        have q20 : (x18_1 : Int) < ((x256002_1.length : Int) : Int) := of_decide_eq_true (by first | (with_reducible assumption) | assumption)
        obtain ⟨go20, co20, eo20, gb20, gl20, cl20, HG20⟩ := Kd.R_form HO_256002.out (by omega)
        (first | cases eo20 | (injection eo20 with ea_ en_ ec_; (first | subst ea_ | (injection ea_ with ea_; subst ea_)); subst ec_; clear en_))
        have GB20 := Aside0.mk gb20
        have GG20 := Aside0.mk HG20
        clear gb20 gl20 HG20
        obtain ⟨hx20_0, hf20_0⟩ := Kd.R_celln 0 HO_256002.out (x18_1 : Int) p20 q20
        replace p20 := eq_true p20
        replace q20 := eq_true q20
        have HN0_go20 := a_ (show g ≠ go20 from by have h_ := IsS55.own_ne HI0.out HO_256002.out (by decide); intro e_; exact h_ (by rw [e_]; rfl))
        have HP31 := Kd.R_putn HO_256002.out (x18_1 : Int) t260
        rw [← Ny263.out] at HP31
        have HQ31 := Aside0.mk HP31
        clear HP31
        refine hK.out _ _ ⟨(blk_cell BK255.out 0).trans rfl, (blk_cell BK255.out 1).trans rfl, (blk_cell BK255.out 2).trans rfl⟩ (fun hHeld => ?_)
        clear hK K
        refine norm_ (a' := ?_) ?_ ?_
        rotate_left
        ·show Act.put _ (some 31) _ = _
         simp only [Act.put, sB, sC, sD, i64_w, i32_w]
         rfl
        refine pure_ (i := 5) (N := some 32) (v := ?_) (a' := ?_) #[true, true, true, true, true, true, false] rfl rfl (by kernel_rfl) (fun _ _ _ h => h) (Or.inl ⟨by rfl, ?_⟩) ?_ ?_
        rotate_left
        ·intro w'
         go_simp
         with_reducible rfl
        rotate_left
        ·simp only [Act.put, sB, sC, sD, i64_w, i32_w]
         rfl
        refine last_ (i := 6) (N := none) #[true, true, true, true, true, true, true] rfl rfl (by kernel_rfl) (by decide) (fun K hK => ?_)
        refine skip_ (w1 := ?_) ?_ ?_ ?_ ?_
        rotate_left
        ·rfl
        ·rfl
        ·go_simp
         rfl
        refine hK.out _ _ ?_
        clear hK K
        refine done_ (by kernel_rfl) ?_
        try go_wp2_with (first | ((with_reducible refine gate_callee (f := 35) rfl ?_); refine goesL_ (some 34) rfl rfl Try.func35 (by kernel_rfl) rfl #[.pointer (some ⟨g, 0, none⟩), .int .i64 60] rfl (by (try simp only [lA, lB, lC]); first | done | rfl | (simp only [lD, lE]; rfl)) ?_; (with_reducible refine (spec_l1Cur_one.calls g s0_0 t261 t262 60 true t265 t266 w0 _ ?side1 ?side2 A21.out).mono ?_); (case side1 => repeat (first | (with_reducible first | exact HI0.out | apply IsS55.alloc | apply IsS55.drewN | apply IsS55.drew | apply IsS55.set_1 | apply IsS55.set_2 | refine IsS55.far ?_ HN0_go20.out _ | refine IsS55.far ?_ NB0_243.out _ | refine IsS55.far ?_ NB0_255.out _) | exact HI0.out)); (case side2 => repeat (first | (with_reducible first | exact HB.out | apply below_alloc | apply pw_below_drewN | apply below_drew1 | refine below_set ?_ (Nat.le_trans HL.out GB20.out) | refine below_set ?_ (IsS55.ge HI0.out) | refine below_set ?_ GE243.out | refine below_set ?_ GE255.out) | exact HB.out)); rintro e w32 ⟨rfl, hi, hb, hk⟩; refine ⟨_, rfl, ?_⟩; replace HO_256001 := a_ (Kd.R_mono (Kd.R_keep (IsS55.apart (show IsS55 w0 _ g s0_0 t261 t262 from by repeat (first | (with_reducible first | exact HI0.out | apply IsS55.alloc | apply IsS55.drewN | apply IsS55.drew | apply IsS55.set_1 | apply IsS55.set_2 | refine IsS55.far ?_ HN0_go20.out _ | refine IsS55.far ?_ NB0_243.out _ | refine IsS55.far ?_ NB0_255.out _) | exact HI0.out)) (rk (Kd.R_mono (Kd.R_far (p := ⟨go20, (x18_1 : Int).toNat, none⟩) (Kd.R_mono HO_256001.out (fun k_ hk => (⟨hk, fun e_ => hk (by rw [e_]; rfl)⟩ : _ ∧ k_ ≠ go20))) (fun _ hk => hk.2) (.int .i64 t260)) (fun _ h_ => h_.1))) (by decide)) hk (fun _ h => h.2)) (fun _ h => h.1)); replace BK243 := a_ (KeepBut.blk hk (g' := gb243) (o := .cells #[.int .i64 0, .slice none 0 0, .slice none 0 0] 31 (0, 0)) (by refine pk ?_; refine blk_far ?_ (by have h_ := Kd.R_ne HO_256002.out BK243.out (by decide); intro e_; exact h_ (by rw [e_]; rfl)) _; refine pk ?_; exact BK243.out) NB243_0.out (by simp)); replace BK255 := a_ (KeepBut.blk hk (g' := gb255) (o := .cells #[.int .i64 t248, .slice (some ⟨go17, 0, none⟩) x256001_1.length co17, .slice (some ⟨go20, 0, none⟩) x256002_1.length co20] 31 (0, 0)) (by refine pk ?_; refine blk_far ?_ (by have h_ := Kd.R_ne HO_256002.out BK255.out (by decide); intro e_; exact h_ (by rw [e_]; rfl)) _; refine pk ?_; exact BK255.out) NB255_0.out (by simp)); replace HO_256002 := a_ (Kd.R_mono (Kd.R_keep (IsS55.apart (show IsS55 w0 _ g s0_0 t261 t262 from by repeat (first | (with_reducible first | exact HI0.out | apply IsS55.alloc | apply IsS55.drewN | apply IsS55.drew | apply IsS55.set_1 | apply IsS55.set_2 | refine IsS55.far ?_ HN0_go20.out _ | refine IsS55.far ?_ NB0_243.out _ | refine IsS55.far ?_ NB0_255.out _) | exact HI0.out)) (rk (HQ31.out)) (by decide)) hk (fun _ h => h.2)) (fun _ h => h.1)); replace HK := a_ (KeepBut.trans (by repeat (first | (with_reducible first | exact HK.out | apply KeepBut.set_ | apply keep_drewN | apply keep_drew | apply keep_alloc | refine keep_far ?_ GB20.out _ | refine keep_far ?_ GW243.out _ | refine keep_far ?_ GW255.out _) | exact HK.out)) hk (.inl rfl)); replace HB := a_ (hb); replace HI0 := a_ (hi); clear hb hk hi))
        replace HO_256001 := a_ (Kd.R_drew HO_256001.out)
        replace HO_256002 := a_ (Kd.R_drew HO_256002.out)
        replace BK243 := a_ (blk_drew BK243.out)
        replace BK255 := a_ (blk_drew BK255.out)
        replace HI0 := a_ (IsS55.drew HI0.out)
        replace HK := a_ (keep_drew HK.out)
        replace HB := a_ (below_drew1 HB.out)
        refine start_ (n := 8) (S := fun w' => w'.cell? ⟨gb255, 0, none⟩ = some (.int .i64 t248) ∧ w'.cell? ⟨gb255, 1, none⟩ = some (.slice (some ⟨go17, 0, none⟩) x256001_1.length co17) ∧ w'.cell? ⟨gb255, 2, none⟩ = some (.slice (some ⟨go20, 0, none⟩) x256002_1.length co20)) (ds := [7]) #[false, false, false, false, false, false, false, false] (by kernel_rfl) rfl rfl ⟨(blk_cell BK255.out 0).trans rfl, (blk_cell BK255.out 1).trans rfl, (blk_cell BK255.out 2).trans rfl⟩ (fun hHeld => ?_); refine with_tabW spec_l1Cur_counts.tab9 spec_l1Cur_counts.bits9 (fun HT_ HW_ => ?_)
        generalize w32.drew = w33 at HO_256001 HO_256002 BK243 BK255 HI0 HK HB hHeld ⊢
        refine pure_ (i := 0) (N := some 35) (v := ?_) (a' := ?_) #[true, false, false, false, false, false, false, false] rfl rfl (any_of HT_.out (by kernel_rfl)) (fun _ _ _ h => h) (Or.inl ⟨by rfl, ?_⟩) ?_ ?_
        rotate_left
        ·intro w'
         go_simp
         with_reducible rfl
        rotate_left
        ·simp only [Act.put, sB, sC, sD, i64_w, i32_w]
         rfl
        refine pure_ (i := 2) (N := some 37) (v := ?_) (a' := ?_) #[true, false, true, false, false, false, false, false] rfl rfl (any_of HT_.out (by kernel_rfl)) (fun _ _ _ h => h) (Or.inl ⟨by rfl, ?_⟩) ?_ ?_
        rotate_left
        ·intro w'
         go_simp
         with_reducible rfl
        rotate_left
        ·simp only [Act.put, sB, sC, sD, i64_w, i32_w]
         rfl
        refine pure_ (i := 3) (N := some 38) (v := ?_) (a' := ?_) #[true, false, true, true, false, false, false, false] rfl rfl (any_of HT_.out (by kernel_rfl)) (fun _ _ _ h => h) (Or.inl ⟨by rfl, ?_⟩) ?_ ?_
        rotate_left
        ·intro w'
         go_simp
         with_reducible rfl
        rotate_left
        ·simp only [Act.put, sB, sC, sD, i64_w, i32_w]
         rfl
        refine take_ (i := 1) (N := some 36) (v := ?_) (a' := ?_) #[true, true, true, true, false, false, false, false] rfl rfl (take_ofW HT_.out HW_.out (by kernel_rfl)) (fun _ _ _ h => h) (Or.inl ⟨by rfl, ?_⟩) hHeld ?_ ?_
        rotate_left
        ·rintro w' ⟨s0, s1, s2⟩
         go_simp
         with_reducible rfl
        rotate_left
        ·simp only [Act.put, sB, sC, sD, i64_w, i32_w]
         rfl
        refine one_ (i := 4) (N := some 39) #[true, true, true, true, true, false, false, false] rfl rfl (one_of HT_.out (by kernel_rfl)) (by decide) (fun K hK => ?_)
        refine Kd.R_lit_step (Kd.int .i64) _ 3 ?hg (N := 39) ?hd (xs := ([1000000, 999999, 1000001] : List Int)) (inner := [.int .i64 1000000, .int .i64 999999, .int .i64 1000001]) (ok := fun _ => True) (okp := fun _ => True) ?hr ?hp (fun _ hk => hk) trivial (Below.refl _ _) (Nat.le_refl _) (by simp) ?_; (case hd => rfl); (case hg => rfl); (case hr => first | (go_simp; done) | (go_simp; rfl)); (case hp => exact (Reps.one (show Kd.M (Kd.int .i64) _ _ _ 1000000 [.int .i64 1000000] from rfl) (Reps.one (show Kd.M (Kd.int .i64) _ _ _ 999999 [.int .i64 999999] from rfl) (Reps.one (show Kd.M (Kd.int .i64) _ _ _ 1000001 [.int .i64 1000001] from rfl) (Reps.none _ _)))))
        intro v268 w34 ho35 hb hg_ hnew_
        clear hg_ hnew_
        (first | rw [← Ny267.out] at ho35 | (simp only [Int.reduceToNat] at ho35; rw [← Ny267.out] at ho35))
        have HO269 := a_ (Kd.R_lower (nw (nw ho35 HO_256001.out) HO_256002.out) (keep_size (w := w) (g := g) (row := none) (by repeat (first | (with_reducible first | exact HK.out | apply KeepBut.set_ | apply keep_drewN | apply keep_drew | apply keep_alloc | refine keep_far ?_ GW243.out _ | refine keep_far ?_ GW255.out _) | exact HK.out))))
        replace HO_256001 := a_ (Kd.R_elder' (rk HO_256001.out) (Kd.R_base ho35) hb)
        replace HO_256002 := a_ (Kd.R_elder' (rk HO_256002.out) (Kd.R_base ho35) hb)
        replace BK243 := a_ (blk_below (pk BK243.out) hb)
        replace BK255 := a_ (blk_below (pk BK255.out) hb)
        replace HK := a_ (KeepBut.trans (by repeat (first | (with_reducible first | exact HK.out | apply KeepBut.set_ | apply keep_drewN | apply keep_drew | apply keep_alloc | refine keep_far ?_ GW243.out _ | refine keep_far ?_ GW255.out _) | exact HK.out)) (KeepBut.of_below hb g none) (.inl rfl))
        replace HB := a_ (below_step (by repeat (first | (with_reducible first | exact HB.out | apply below_alloc | apply pw_below_drewN | apply below_drew1 | refine below_set ?_ (IsS55.ge HI0.out) | refine below_set ?_ GE243.out | refine below_set ?_ GE255.out) | exact HB.out)) hb)
        replace HI0 := a_ (IsS55.below (by repeat (first | (with_reducible first | exact HI0.out | apply IsS55.alloc | apply IsS55.drewN | apply IsS55.drew | apply IsS55.set_1 | apply IsS55.set_2 | refine IsS55.far ?_ NB0_243.out _ | refine IsS55.far ?_ NB0_255.out _) | exact HI0.out)) hb)
        clear hb ho35
        obtain ⟨Ao36, co36, eo36⟩ := Kd.R_slice HO269.out
        (first | subst eo36 | (injection eo36 with f1_ f2_ f3_; obtain rfl := f1_.symm; obtain rfl := f3_.symm))
        refine hK.out _ _ ⟨(blk_cell BK255.out 0).trans rfl, (blk_cell BK255.out 1).trans rfl, (blk_cell BK255.out 2).trans rfl⟩ (fun hHeld => ?_)
        clear hK K
        refine norm_ (a' := ?_) ?_ ?_
        rotate_left
        ·show Act.put _ (some 39) _ = _
         simp only [Act.put, sB, sC, sD, i64_w, i32_w]
         rfl
        refine one_ (i := 5) (N := some 40) #[true, true, true, true, true, true, false, false] rfl rfl (one_of HT_.out (by kernel_rfl)) (by decide) (fun K hK => ?_)
        refine goes_ Try.func41 (by kernel_rfl) rfl #[.pointer (some ⟨g, 0, none⟩), .slice Ao36 y267.length co36] (by rfl) rfl rfl (by (try simp only [lA, lB, lC]); first | done | rfl | (simp only [lD, lE]; rfl)) ?_
        with_reducible refine (spec_l1Cur_among.calls g s0_0 t265 t266 _ _ y267 t270 t271 t272 w0 _ ?side1 ?side2 ?side3 ?side4 ?side5 A23.out).mono ?_
        (case side1 => repeat (first | (with_reducible first | exact HI0.out | apply IsS55.alloc | apply IsS55.drewN | apply IsS55.drew | apply IsS55.set_1 | apply IsS55.set_2 | refine IsS55.far ?_ NB0_243.out _ | refine IsS55.far ?_ NB0_255.out _) | exact HI0.out))
        (case side2 => repeat (first | (with_reducible first | exact HB.out | apply below_alloc | apply pw_below_drewN | apply below_drew1 | refine below_set ?_ (IsS55.ge HI0.out) | refine below_set ?_ GE243.out | refine below_set ?_ GE255.out) | exact HB.out))
        (case side3 => exact cu (Kd.R_reads' HO269.out).2.2)
        (case side4 => exact (Kd.R_reads' HO269.out).2.1)
        (case side5 => exact far_slice (IsS55.own_ne HI0.out HO269.out (by decide)))
        rintro e w37 ⟨rfl, hi, hb, hk⟩
        refine ⟨_, rfl, ?_⟩
        replace HO_256001 := a_ (Kd.R_mono (Kd.R_keep (IsS55.apart (show IsS55 w0 _ g s0_0 t265 t266 from by repeat (first | (with_reducible first | exact HI0.out | apply IsS55.alloc | apply IsS55.drewN | apply IsS55.drew | apply IsS55.set_1 | apply IsS55.set_2 | refine IsS55.far ?_ NB0_243.out _ | refine IsS55.far ?_ NB0_255.out _) | exact HI0.out)) (rk HO_256001.out) (by decide)) hk (fun _ h => h.2)) (fun _ h => h.1))
        replace HO_256002 := a_ (Kd.R_mono (Kd.R_keep (IsS55.apart (show IsS55 w0 _ g s0_0 t265 t266 from by repeat (first | (with_reducible first | exact HI0.out | apply IsS55.alloc | apply IsS55.drewN | apply IsS55.drew | apply IsS55.set_1 | apply IsS55.set_2 | refine IsS55.far ?_ NB0_243.out _ | refine IsS55.far ?_ NB0_255.out _) | exact HI0.out)) (rk HO_256002.out) (by decide)) hk (fun _ h => h.2)) (fun _ h => h.1))
        replace BK243 := a_ (KeepBut.blk hk (g' := gb243) (o := .cells #[.int .i64 0, .slice none 0 0, .slice none 0 0] 31 (0, 0)) (pk BK243.out) NB243_0.out (by simp))
        replace BK255 := a_ (KeepBut.blk hk (g' := gb255) (o := .cells #[.int .i64 t248, .slice (some ⟨go17, 0, none⟩) x256001_1.length co17, .slice (some ⟨go20, 0, none⟩) x256002_1.length co20] 31 (0, 0)) (pk BK255.out) NB255_0.out (by simp))
        replace HO269 := a_ (Kd.R_mono (Kd.R_keep (IsS55.apart (show IsS55 w0 _ g s0_0 t265 t266 from by repeat (first | (with_reducible first | exact HI0.out | apply IsS55.alloc | apply IsS55.drewN | apply IsS55.drew | apply IsS55.set_1 | apply IsS55.set_2 | refine IsS55.far ?_ NB0_243.out _ | refine IsS55.far ?_ NB0_255.out _) | exact HI0.out)) (rk HO269.out) (by decide)) hk (fun _ h => h.2)) (fun _ h => h.1))
        replace HK := a_ (KeepBut.trans (by repeat (first | (with_reducible first | exact HK.out | apply KeepBut.set_ | apply keep_drewN | apply keep_drew | apply keep_alloc | refine keep_far ?_ GW243.out _ | refine keep_far ?_ GW255.out _) | exact HK.out)) hk (.inl rfl))
        replace HB := a_ (hb)
        replace HI0 := a_ (hi)
        (try clear hb)
        (try clear hb2)
        (try clear hk)
        (try clear hi)
        have p24 : 0 ≤ (x18_1 : Int) := of_decide_eq_true (by first | (with_reducible assumption) | assumption)
        have q24 : (x18_1 : Int) < ((x256002_1.length : Int) : Int) := of_decide_eq_true (by first | (with_reducible assumption) | assumption)
        obtain ⟨hx24_0, hf24_0⟩ := Kd.R_celln 0 HO_256002.out (x18_1 : Int) p24 q24
        replace p24 := eq_true p24
        replace q24 := eq_true q24
        have HN0_go20 := a_ (show g ≠ go20 from by have h_ := IsS55.own_ne HI0.out HO_256002.out (by decide); intro e_; exact h_ (by rw [e_]; rfl))
        have HP38 := Kd.R_putn HO_256002.out (x18_1 : Int) t270
        rw [← Ny273.out] at HP38
        have HQ38 := Aside0.mk HP38
        clear HP38
        refine hK.out _ _ ⟨(blk_cell BK255.out 0).trans rfl, (blk_cell BK255.out 1).trans rfl, (blk_cell BK255.out 2).trans rfl⟩ (fun hHeld => ?_)
        clear hK K
        refine norm_ (a' := ?_) ?_ ?_
        rotate_left
        ·show Act.put _ (some 40) _ = _
         simp only [Act.put, sB, sC, sD, i64_w, i32_w]
         rfl
        refine pure_ (i := 6) (N := some 41) (v := ?_) (a' := ?_) #[true, true, true, true, true, true, true, false] rfl rfl (any_of HT_.out (by kernel_rfl)) (fun _ _ _ h => h) (Or.inl ⟨by rfl, ?_⟩) ?_ ?_
        rotate_left
        ·intro w'
         go_simp
         with_reducible rfl
        rotate_left
        ·simp only [Act.put, sB, sC, sD, i64_w, i32_w]
         rfl
        refine last_ (i := 7) (N := none) #[true, true, true, true, true, true, true, true] rfl rfl (one_of HT_.out (by kernel_rfl)) (by decide) (fun K hK => ?_)
        refine skip_ (w1 := ?_) ?_ ?_ ?_ ?_
        rotate_left
        ·rfl
        ·rfl
        ·go_simp
         rfl
        refine hK.out _ _ ?_
        clear hK K
        refine done_ (done_of HT_.out (by kernel_rfl)) ?_
        try go_wp2
        go_roundg k1
        case measure => have := HK1.out; omega
        case rel => exact ⟨(wrap64 (x18_1 + 1)), (t271), (t272), (y259), (y273), (.slice (some ⟨go17, 0, none⟩) x256001_1.length co17), (.slice (some ⟨go20, 0, none⟩) x256002_1.length co20), (by first | rfl | (simp; done) | (simp [*]; done)), H', ⟨by have := HK1.out; omega⟩, ⟨rk (Kd.R_mono (Kd.R_far (p := ⟨go20, (x18_1 : Int).toNat, none⟩) (Kd.R_mono HO_256001.out (fun k_ hk => (⟨hk, fun e_ => hk.1 (by rw [e_]; rfl)⟩ : _ ∧ k_ ≠ go20))) (fun _ hk => hk.2) (.int .i64 t270)) (fun _ hk => hk.1.1))⟩, ⟨rk (Kd.R_mono HQ38.out (fun _ hk => hk.1))⟩, ⟨by refine pk ?_; refine blk_far ?_ (by have h_ := Kd.R_ne HO_256002.out BK243.out (by decide); intro e_; exact h_ (by rw [e_]; rfl)) _; refine pk ?_; exact BK243.out⟩, ⟨by refine pk ?_; refine blk_far ?_ (by have h_ := Kd.R_ne HO_256002.out BK255.out (by decide); intro e_; exact h_ (by rw [e_]; rfl)) _; refine pk ?_; exact BK255.out⟩, ⟨by repeat (first | (with_reducible first | exact HI0.out | apply IsS55.alloc | apply IsS55.drewN | apply IsS55.drew | apply IsS55.set_1 | apply IsS55.set_2 | refine IsS55.far ?_ HN0_go20.out _ | refine IsS55.far ?_ NB0_243.out _ | refine IsS55.far ?_ NB0_255.out _) | exact HI0.out)⟩, ⟨by repeat (first | (with_reducible first | exact HK.out | apply KeepBut.set_ | apply keep_drewN | apply keep_drew | apply keep_alloc | refine keep_far ?_ GB20.out _ | refine keep_far ?_ GW243.out _ | refine keep_far ?_ GW255.out _) | exact HK.out)⟩, ⟨by repeat (first | (with_reducible first | exact HB.out | apply below_alloc | apply pw_below_drewN | apply below_drew1 | refine below_set ?_ (Nat.le_trans HL.out GB20.out) | refine below_set ?_ (IsS55.ge HI0.out) | refine below_set ?_ GE243.out | refine below_set ?_ GE255.out) | exact HB.out)⟩⟩
       ·replace c22 := Bool.eq_false_iff.mpr c22
        subst c22
        have H1 : (spec_l1Cur_counts.l0 k1 (t249.length : Int) (wrap64 (x18_1 + 1)) s0_0 t265 t266 t248 y259 y263) = some (r1, r2, r3, r4, r5) := by rw [if_neg (show ¬ (false = true) by decide)] at H; exact H
        clear H
        have H := H1
        clear H1
        have H' := Aside0.mk H
        clear H
        try go_wp2
        replace HO_256001 := a_ (Kd.R_drew HO_256001.out)
        replace HO_256002 := a_ (Kd.R_drew HO_256002.out)
        replace BK243 := a_ (blk_drew BK243.out)
        replace BK255 := a_ (blk_drew BK255.out)
        replace HI0 := a_ (IsS55.drew HI0.out)
        replace HK := a_ (keep_drew HK.out)
        replace HB := a_ (below_drew1 HB.out)
        refine start_ (n := 7) (S := fun w' => w'.cell? ⟨gb255, 0, none⟩ = some (.int .i64 t248) ∧ w'.cell? ⟨gb255, 1, none⟩ = some (u256001) ∧ w'.cell? ⟨gb255, 2, none⟩ = some (u256002)) (ds := [6]) #[false, false, false, false, false, false, false] (by kernel_rfl) rfl rfl ⟨(blk_cell BK255.out 0).trans rfl, (blk_cell BK255.out 1).trans rfl, (blk_cell BK255.out 2).trans rfl⟩ (fun hHeld => ?_)
        generalize wr.drew = w39 at HO_256001 HO_256002 BK243 BK255 HI0 HK HB hHeld ⊢
        refine pure_ (i := 0) (N := some 21) (v := ?_) (a' := ?_) #[true, false, false, false, false, false, false] rfl rfl (by kernel_rfl) (fun _ _ _ h => h) (Or.inl ⟨by rfl, ?_⟩) ?_ ?_
        rotate_left
        ·intro w'
         go_simp
         with_reducible rfl
        rotate_left
        ·simp only [Act.put, sB, sC, sD, i64_w, i32_w]
         rfl
        refine pure_ (i := 2) (N := some 23) (v := ?_) (a' := ?_) #[true, false, true, false, false, false, false] rfl rfl (by kernel_rfl) (fun _ _ _ h => h) (Or.inl ⟨by rfl, ?_⟩) ?_ ?_
        rotate_left
        ·intro w'
         go_simp
         with_reducible rfl
        rotate_left
        ·simp only [Act.put, sB, sC, sD, i64_w, i32_w]
         rfl
        refine pure_ (i := 3) (N := some 24) (v := ?_) (a' := ?_) #[true, false, true, true, false, false, false] rfl rfl (by kernel_rfl) (fun _ _ _ h => h) (Or.inl ⟨by rfl, ?_⟩) ?_ ?_
        rotate_left
        ·intro w'
         go_simp
         with_reducible rfl
        rotate_left
        ·simp only [Act.put, sB, sC, sD, i64_w, i32_w]
         rfl
        refine take_ (i := 1) (N := some 22) (v := ?_) (a' := ?_) #[true, true, true, true, false, false, false] rfl rfl (by kernel_rfl) (fun _ _ _ h => h) (Or.inl ⟨by rfl, ?_⟩) hHeld ?_ ?_
        rotate_left
        ·rintro w' ⟨s0, s1, s2⟩
         go_simp
         with_reducible rfl
        rotate_left
        ·simp only [Act.put, sB, sC, sD, i64_w, i32_w]
         rfl
        refine one_ (i := 4) (N := some 25) #[true, true, true, true, true, false, false] rfl rfl (by kernel_rfl) (by decide) (fun K hK => ?_)
        refine goes_ Try.func36 (by kernel_rfl) rfl #[.pointer (some ⟨g, 0, none⟩), .int .i64 4] (by rfl) rfl rfl (by (try simp only [lA, lB, lC]); first | done | rfl | (simp only [lD, lE]; rfl)) ?_
        with_reducible refine (spec_l1Cur_pick.calls g s0_0 x1001_1 x1002_1 4 t256 t257 t258 w0 _ ?side1 ?side2 A14.out).mono ?_
        (case side1 => repeat (first | (with_reducible first | exact HI0.out | apply IsS55.alloc | apply IsS55.drewN | apply IsS55.drew | apply IsS55.set_1 | apply IsS55.set_2 | refine IsS55.far ?_ NB0_243.out _ | refine IsS55.far ?_ NB0_255.out _) | exact HI0.out))
        (case side2 => repeat (first | (with_reducible first | exact HB.out | apply below_alloc | apply pw_below_drewN | apply below_drew1 | refine below_set ?_ (IsS55.ge HI0.out) | refine below_set ?_ GE243.out | refine below_set ?_ GE255.out) | exact HB.out))
        rintro e w40 ⟨rfl, hi, hb, hk⟩
        refine ⟨_, rfl, ?_⟩
        replace HO_256001 := a_ (Kd.R_mono (Kd.R_keep (IsS55.apart (show IsS55 w0 _ g s0_0 x1001_1 x1002_1 from by repeat (first | (with_reducible first | exact HI0.out | apply IsS55.alloc | apply IsS55.drewN | apply IsS55.drew | apply IsS55.set_1 | apply IsS55.set_2 | refine IsS55.far ?_ NB0_243.out _ | refine IsS55.far ?_ NB0_255.out _) | exact HI0.out)) (rk HO_256001.out) (by decide)) hk (fun _ h => h.2)) (fun _ h => h.1))
        replace HO_256002 := a_ (Kd.R_mono (Kd.R_keep (IsS55.apart (show IsS55 w0 _ g s0_0 x1001_1 x1002_1 from by repeat (first | (with_reducible first | exact HI0.out | apply IsS55.alloc | apply IsS55.drewN | apply IsS55.drew | apply IsS55.set_1 | apply IsS55.set_2 | refine IsS55.far ?_ NB0_243.out _ | refine IsS55.far ?_ NB0_255.out _) | exact HI0.out)) (rk HO_256002.out) (by decide)) hk (fun _ h => h.2)) (fun _ h => h.1))
        replace BK243 := a_ (KeepBut.blk hk (g' := gb243) (o := .cells #[.int .i64 0, .slice none 0 0, .slice none 0 0] 31 (0, 0)) (pk BK243.out) NB243_0.out (by simp))
        replace BK255 := a_ (KeepBut.blk hk (g' := gb255) (o := .cells #[.int .i64 t248, u256001, u256002] 31 (0, 0)) (pk BK255.out) NB255_0.out (by simp))
        replace HK := a_ (KeepBut.trans (by repeat (first | (with_reducible first | exact HK.out | apply KeepBut.set_ | apply keep_drewN | apply keep_drew | apply keep_alloc | refine keep_far ?_ GW243.out _ | refine keep_far ?_ GW255.out _) | exact HK.out)) hk (.inl rfl))
        replace HB := a_ (hb)
        replace HI0 := a_ (hi)
        (try clear hb)
        (try clear hb2)
        (try clear hk)
        (try clear hi)
        have p17 : 0 ≤ (x18_1 : Int) := of_decide_eq_true (by first | (with_reducible assumption) | assumption)
        have q17 : (x18_1 : Int) < ((x256001_1.length : Int) : Int) := of_decide_eq_true (by first | (with_reducible assumption) | assumption)
        obtain ⟨go17, co17, eo17, gb17, gl17, cl17, HG17⟩ := Kd.R_form HO_256001.out (by omega)
        (first | cases eo17 | (injection eo17 with ea_ en_ ec_; (first | subst ea_ | (injection ea_ with ea_; subst ea_)); subst ec_; clear en_))
        have GB17 := Aside0.mk gb17
        have GG17 := Aside0.mk HG17
        clear gb17 gl17 HG17
        obtain ⟨hx17_0, hf17_0⟩ := Kd.R_celln 0 HO_256001.out (x18_1 : Int) p17 q17
        replace p17 := eq_true p17
        replace q17 := eq_true q17
        have HN0_go17 := a_ (show g ≠ go17 from by have h_ := IsS55.own_ne HI0.out HO_256001.out (by decide); intro e_; exact h_ (by rw [e_]; rfl))
        have HP41 := Kd.R_putn HO_256001.out (x18_1 : Int) t256
        rw [← Ny259.out] at HP41
        have HQ41 := Aside0.mk HP41
        clear HP41
        refine hK.out _ _ ⟨(blk_cell BK255.out 0).trans rfl, (blk_cell BK255.out 1).trans rfl, (blk_cell BK255.out 2).trans rfl⟩ (fun hHeld => ?_)
        clear hK K
        refine norm_ (a' := ?_) ?_ ?_
        rotate_left
        ·show Act.put _ (some 25) _ = _
         simp only [Act.put, sB, sC, sD, i64_w, i32_w]
         rfl
        refine pure_ (i := 5) (N := some 26) (v := ?_) (a' := ?_) #[true, true, true, true, true, true, false] rfl rfl (by kernel_rfl) (fun _ _ _ h => h) (Or.inl ⟨by rfl, ?_⟩) ?_ ?_
        rotate_left
        ·intro w'
         go_simp
         with_reducible rfl
        rotate_left
        ·simp only [Act.put, sB, sC, sD, i64_w, i32_w]
         rfl
        refine last_ (i := 6) (N := none) #[true, true, true, true, true, true, true] rfl rfl (by kernel_rfl) (by decide) (fun K hK => ?_)
        refine skip_ (w1 := ?_) ?_ ?_ ?_ ?_
        rotate_left
        ·rfl
        ·rfl
        ·go_simp
         rfl
        refine hK.out _ _ ?_
        clear hK K
        refine done_ (by kernel_rfl) ?_
        try go_wp2
        have n0_ : Aside0 (Kd.R (Kd.int .i64) 3 (w40.setCell ⟨go17, (x18_1 : Int).toNat, none⟩ (.int .i64 t256)) w.heap.size (fun k_ => some k_ ≠ (u256002 : Value).ownBlock) (.slice (some ⟨go17, 0, none⟩) x256001_1.length co17) y259) := ⟨by refine rk ?_; exact HQ41.out⟩
        have n1_ : Aside0 (Kd.R (Kd.int .i64) 3 (w40.setCell ⟨go17, (x18_1 : Int).toNat, none⟩ (.int .i64 t256)) w.heap.size (fun k_ => some k_ ≠ (.slice (some ⟨go17, 0, none⟩) x256001_1.length co17 : Value).ownBlock) u256002 x256002_1) := ⟨rk (Kd.R_mono (Kd.R_far (p := ⟨go17, (x18_1 : Int).toNat, none⟩) (Kd.R_mono HO_256002.out (fun k_ hk => (⟨hk, fun e_ => hk (by rw [e_]; rfl)⟩ : _ ∧ k_ ≠ go17))) (fun _ hk => hk.2) (.int .i64 t256)) (fun _ hk => hk.1))⟩
        have n2_ : Aside0 ((w40.setCell ⟨go17, (x18_1 : Int).toNat, none⟩ (.int .i64 t256)).heap[gb243]? = some (.cells #[.int .i64 0, .slice none 0 0, .slice none 0 0] 31 (0, 0))) := ⟨by refine pk ?_; refine blk_far ?_ (by have h_ := Kd.R_ne HO_256001.out BK243.out (by decide); intro e_; exact h_ (by rw [e_]; rfl)) _; refine pk ?_; exact BK243.out⟩
        have n3_ : Aside0 ((w40.setCell ⟨go17, (x18_1 : Int).toNat, none⟩ (.int .i64 t256)).heap[gb255]? = some (.cells #[.int .i64 t248, .slice (some ⟨go17, 0, none⟩) x256001_1.length co17, u256002] 31 (0, 0))) := ⟨by refine pk ?_; refine blk_far ?_ (by have h_ := Kd.R_ne HO_256001.out BK255.out (by decide); intro e_; exact h_ (by rw [e_]; rfl)) _; refine pk ?_; exact BK255.out⟩
        have n4_ : Aside0 (IsS55 w0 (w40.setCell ⟨go17, (x18_1 : Int).toNat, none⟩ (.int .i64 t256)) g s0_0 t257 t258) := ⟨by repeat (first | (with_reducible first | exact HI0.out | apply IsS55.alloc | apply IsS55.drewN | apply IsS55.drew | apply IsS55.set_1 | apply IsS55.set_2 | refine IsS55.far ?_ HN0_go17.out _ | refine IsS55.far ?_ NB0_243.out _ | refine IsS55.far ?_ NB0_255.out _) | exact HI0.out)⟩
        have n5_ : Aside0 (KeepBut w (w40.setCell ⟨go17, (x18_1 : Int).toNat, none⟩ (.int .i64 t256)) g none) := ⟨by repeat (first | (with_reducible first | exact HK.out | apply KeepBut.set_ | apply keep_drewN | apply keep_drew | apply keep_alloc | refine keep_far ?_ GB17.out _ | refine keep_far ?_ GW243.out _ | refine keep_far ?_ GW255.out _) | exact HK.out)⟩
        have n6_ : Aside0 (Below w0.heap.size w0 (w40.setCell ⟨go17, (x18_1 : Int).toNat, none⟩ (.int .i64 t256))) := ⟨by repeat (first | (with_reducible first | exact HB.out | apply below_alloc | apply pw_below_drewN | apply below_drew1 | refine below_set ?_ (Nat.le_trans HL.out GB17.out) | refine below_set ?_ (IsS55.ge HI0.out) | refine below_set ?_ GE243.out | refine below_set ?_ GE255.out) | exact HB.out)⟩
        (try clear HO_256001)
        (try clear HO_256002)
        (try clear BK243)
        (try clear BK255)
        (try clear HI0)
        (try clear HK)
        (try clear HB)
        generalize (w40.setCell ⟨go17, (x18_1 : Int).toNat, none⟩ (.int .i64 t256)) = w42 at n0_ n1_ n2_ n3_ n4_ n5_ n6_ ⊢
        have HO_256001 := n0_
        have HO_256002 := n1_
        have BK243 := n2_
        have BK255 := n3_
        have HI0 := n4_
        have HK := n5_
        have HB := n6_
        clear n0_ n1_ n2_ n3_ n4_ n5_ n6_
        replace HO_256001 := a_ (Kd.R_drew HO_256001.out)
        replace HO_256002 := a_ (Kd.R_drew HO_256002.out)
        replace BK243 := a_ (blk_drew BK243.out)
        replace BK255 := a_ (blk_drew BK255.out)
        replace HI0 := a_ (IsS55.drew HI0.out)
        replace HK := a_ (keep_drew HK.out)
        replace HB := a_ (below_drew1 HB.out)
        refine start_ (n := 7) (S := fun w' => w'.cell? ⟨gb255, 0, none⟩ = some (.int .i64 t248) ∧ w'.cell? ⟨gb255, 1, none⟩ = some (.slice (some ⟨go17, 0, none⟩) x256001_1.length co17) ∧ w'.cell? ⟨gb255, 2, none⟩ = some (u256002)) (ds := [6]) #[false, false, false, false, false, false, false] (by kernel_rfl) rfl rfl ⟨(blk_cell BK255.out 0).trans rfl, (blk_cell BK255.out 1).trans rfl, (blk_cell BK255.out 2).trans rfl⟩ (fun hHeld => ?_)
        generalize w42.drew = w43 at HO_256001 HO_256002 BK243 BK255 HI0 HK HB HQ41 hHeld ⊢
        refine pure_ (i := 0) (N := some 27) (v := ?_) (a' := ?_) #[true, false, false, false, false, false, false] rfl rfl (by kernel_rfl) (fun _ _ _ h => h) (Or.inl ⟨by rfl, ?_⟩) ?_ ?_
        rotate_left
        ·intro w'
         go_simp
         with_reducible rfl
        rotate_left
        ·simp only [Act.put, sB, sC, sD, i64_w, i32_w]
         rfl
        refine pure_ (i := 2) (N := some 29) (v := ?_) (a' := ?_) #[true, false, true, false, false, false, false] rfl rfl (by kernel_rfl) (fun _ _ _ h => h) (Or.inl ⟨by rfl, ?_⟩) ?_ ?_
        rotate_left
        ·intro w'
         go_simp
         with_reducible rfl
        rotate_left
        ·simp only [Act.put, sB, sC, sD, i64_w, i32_w]
         rfl
        refine pure_ (i := 3) (N := some 30) (v := ?_) (a' := ?_) #[true, false, true, true, false, false, false] rfl rfl (by kernel_rfl) (fun _ _ _ h => h) (Or.inl ⟨by rfl, ?_⟩) ?_ ?_
        rotate_left
        ·intro w'
         go_simp
         with_reducible rfl
        rotate_left
        ·simp only [Act.put, sB, sC, sD, i64_w, i32_w]
         rfl
        refine take_ (i := 1) (N := some 28) (v := ?_) (a' := ?_) #[true, true, true, true, false, false, false] rfl rfl (by kernel_rfl) (fun _ _ _ h => h) (Or.inl ⟨by rfl, ?_⟩) hHeld ?_ ?_
        rotate_left
        ·rintro w' ⟨s0, s1, s2⟩
         go_simp
         with_reducible rfl
        rotate_left
        ·simp only [Act.put, sB, sC, sD, i64_w, i32_w]
         rfl
        refine one_ (i := 4) (N := some 31) #[true, true, true, true, true, false, false] rfl rfl (by kernel_rfl) (by decide) (fun K hK => ?_)
        refine goes_ Try.func36 (by kernel_rfl) rfl #[.pointer (some ⟨g, 0, none⟩), .int .i64 4] (by rfl) rfl rfl (by (try simp only [lA, lB, lC]); first | done | rfl | (simp only [lD, lE]; rfl)) ?_
        with_reducible refine (spec_l1Cur_pick.calls g s0_0 t257 t258 4 t260 t261 t262 w0 _ ?side1 ?side2 A18.out).mono ?_
        (case side1 => repeat (first | (with_reducible first | exact HI0.out | apply IsS55.alloc | apply IsS55.drewN | apply IsS55.drew | apply IsS55.set_1 | apply IsS55.set_2 | refine IsS55.far ?_ NB0_243.out _ | refine IsS55.far ?_ NB0_255.out _) | exact HI0.out))
        (case side2 => repeat (first | (with_reducible first | exact HB.out | apply below_alloc | apply pw_below_drewN | apply below_drew1 | refine below_set ?_ (IsS55.ge HI0.out) | refine below_set ?_ GE243.out | refine below_set ?_ GE255.out) | exact HB.out))
        rintro e w44 ⟨rfl, hi, hb, hk⟩
        refine ⟨_, rfl, ?_⟩
        replace HO_256001 := a_ (Kd.R_mono (Kd.R_keep (IsS55.apart (show IsS55 w0 _ g s0_0 t257 t258 from by repeat (first | (with_reducible first | exact HI0.out | apply IsS55.alloc | apply IsS55.drewN | apply IsS55.drew | apply IsS55.set_1 | apply IsS55.set_2 | refine IsS55.far ?_ NB0_243.out _ | refine IsS55.far ?_ NB0_255.out _) | exact HI0.out)) (rk HO_256001.out) (by decide)) hk (fun _ h => h.2)) (fun _ h => h.1))
        replace HO_256002 := a_ (Kd.R_mono (Kd.R_keep (IsS55.apart (show IsS55 w0 _ g s0_0 t257 t258 from by repeat (first | (with_reducible first | exact HI0.out | apply IsS55.alloc | apply IsS55.drewN | apply IsS55.drew | apply IsS55.set_1 | apply IsS55.set_2 | refine IsS55.far ?_ NB0_243.out _ | refine IsS55.far ?_ NB0_255.out _) | exact HI0.out)) (rk HO_256002.out) (by decide)) hk (fun _ h => h.2)) (fun _ h => h.1))
        replace BK243 := a_ (KeepBut.blk hk (g' := gb243) (o := .cells #[.int .i64 0, .slice none 0 0, .slice none 0 0] 31 (0, 0)) (pk BK243.out) NB243_0.out (by simp))
        replace BK255 := a_ (KeepBut.blk hk (g' := gb255) (o := .cells #[.int .i64 t248, .slice (some ⟨go17, 0, none⟩) x256001_1.length co17, u256002] 31 (0, 0)) (pk BK255.out) NB255_0.out (by simp))
        replace HK := a_ (KeepBut.trans (by repeat (first | (with_reducible first | exact HK.out | apply KeepBut.set_ | apply keep_drewN | apply keep_drew | apply keep_alloc | refine keep_far ?_ GW243.out _ | refine keep_far ?_ GW255.out _) | exact HK.out)) hk (.inl rfl))
        replace HB := a_ (hb)
        replace HI0 := a_ (hi)
        (try clear hb)
        (try clear hb2)
        (try clear hk)
        (try clear hi)
        have p20 : 0 ≤ (x18_1 : Int) := of_decide_eq_true (by first | (with_reducible assumption) | assumption)
        have q20 : (x18_1 : Int) < ((x256002_1.length : Int) : Int) := of_decide_eq_true (by first | (with_reducible assumption) | assumption)
        obtain ⟨go20, co20, eo20, gb20, gl20, cl20, HG20⟩ := Kd.R_form HO_256002.out (by omega)
        (first | cases eo20 | (injection eo20 with ea_ en_ ec_; (first | subst ea_ | (injection ea_ with ea_; subst ea_)); subst ec_; clear en_))
        have GB20 := Aside0.mk gb20
        have GG20 := Aside0.mk HG20
        clear gb20 gl20 HG20
        obtain ⟨hx20_0, hf20_0⟩ := Kd.R_celln 0 HO_256002.out (x18_1 : Int) p20 q20
        replace p20 := eq_true p20
        replace q20 := eq_true q20
        have HN0_go20 := a_ (show g ≠ go20 from by have h_ := IsS55.own_ne HI0.out HO_256002.out (by decide); intro e_; exact h_ (by rw [e_]; rfl))
        have HP45 := Kd.R_putn HO_256002.out (x18_1 : Int) t260
        rw [← Ny263.out] at HP45
        have HQ45 := Aside0.mk HP45
        clear HP45
        refine hK.out _ _ ⟨(blk_cell BK255.out 0).trans rfl, (blk_cell BK255.out 1).trans rfl, (blk_cell BK255.out 2).trans rfl⟩ (fun hHeld => ?_)
        clear hK K
        refine norm_ (a' := ?_) ?_ ?_
        rotate_left
        ·show Act.put _ (some 31) _ = _
         simp only [Act.put, sB, sC, sD, i64_w, i32_w]
         rfl
        refine pure_ (i := 5) (N := some 32) (v := ?_) (a' := ?_) #[true, true, true, true, true, true, false] rfl rfl (by kernel_rfl) (fun _ _ _ h => h) (Or.inl ⟨by rfl, ?_⟩) ?_ ?_
        rotate_left
        ·intro w'
         go_simp
         with_reducible rfl
        rotate_left
        ·simp only [Act.put, sB, sC, sD, i64_w, i32_w]
         rfl
        refine last_ (i := 6) (N := none) #[true, true, true, true, true, true, true] rfl rfl (by kernel_rfl) (by decide) (fun K hK => ?_)
        refine skip_ (w1 := ?_) ?_ ?_ ?_ ?_
        rotate_left
        ·rfl
        ·rfl
        ·go_simp
         rfl
        refine hK.out _ _ ?_
        clear hK K
        refine done_ (by kernel_rfl) ?_
        try go_wp2_with (first | ((with_reducible refine gate_callee (f := 35) rfl ?_); refine goesL_ (some 34) rfl rfl Try.func35 (by kernel_rfl) rfl #[.pointer (some ⟨g, 0, none⟩), .int .i64 60] rfl (by (try simp only [lA, lB, lC]); first | done | rfl | (simp only [lD, lE]; rfl)) ?_; (with_reducible refine (spec_l1Cur_one.calls g s0_0 t261 t262 60 false t265 t266 w0 _ ?side1 ?side2 A21.out).mono ?_); (case side1 => repeat (first | (with_reducible first | exact HI0.out | apply IsS55.alloc | apply IsS55.drewN | apply IsS55.drew | apply IsS55.set_1 | apply IsS55.set_2 | refine IsS55.far ?_ HN0_go20.out _ | refine IsS55.far ?_ NB0_243.out _ | refine IsS55.far ?_ NB0_255.out _) | exact HI0.out)); (case side2 => repeat (first | (with_reducible first | exact HB.out | apply below_alloc | apply pw_below_drewN | apply below_drew1 | refine below_set ?_ (Nat.le_trans HL.out GB20.out) | refine below_set ?_ (IsS55.ge HI0.out) | refine below_set ?_ GE243.out | refine below_set ?_ GE255.out) | exact HB.out)); rintro e w46 ⟨rfl, hi, hb, hk⟩; refine ⟨_, rfl, ?_⟩; replace HO_256001 := a_ (Kd.R_mono (Kd.R_keep (IsS55.apart (show IsS55 w0 _ g s0_0 t261 t262 from by repeat (first | (with_reducible first | exact HI0.out | apply IsS55.alloc | apply IsS55.drewN | apply IsS55.drew | apply IsS55.set_1 | apply IsS55.set_2 | refine IsS55.far ?_ HN0_go20.out _ | refine IsS55.far ?_ NB0_243.out _ | refine IsS55.far ?_ NB0_255.out _) | exact HI0.out)) (rk (Kd.R_mono (Kd.R_far (p := ⟨go20, (x18_1 : Int).toNat, none⟩) (Kd.R_mono HO_256001.out (fun k_ hk => (⟨hk, fun e_ => hk (by rw [e_]; rfl)⟩ : _ ∧ k_ ≠ go20))) (fun _ hk => hk.2) (.int .i64 t260)) (fun _ h_ => h_.1))) (by decide)) hk (fun _ h => h.2)) (fun _ h => h.1)); replace BK243 := a_ (KeepBut.blk hk (g' := gb243) (o := .cells #[.int .i64 0, .slice none 0 0, .slice none 0 0] 31 (0, 0)) (by refine pk ?_; refine blk_far ?_ (by have h_ := Kd.R_ne HO_256002.out BK243.out (by decide); intro e_; exact h_ (by rw [e_]; rfl)) _; refine pk ?_; exact BK243.out) NB243_0.out (by simp)); replace BK255 := a_ (KeepBut.blk hk (g' := gb255) (o := .cells #[.int .i64 t248, .slice (some ⟨go17, 0, none⟩) x256001_1.length co17, .slice (some ⟨go20, 0, none⟩) x256002_1.length co20] 31 (0, 0)) (by refine pk ?_; refine blk_far ?_ (by have h_ := Kd.R_ne HO_256002.out BK255.out (by decide); intro e_; exact h_ (by rw [e_]; rfl)) _; refine pk ?_; exact BK255.out) NB255_0.out (by simp)); replace HO_256002 := a_ (Kd.R_mono (Kd.R_keep (IsS55.apart (show IsS55 w0 _ g s0_0 t261 t262 from by repeat (first | (with_reducible first | exact HI0.out | apply IsS55.alloc | apply IsS55.drewN | apply IsS55.drew | apply IsS55.set_1 | apply IsS55.set_2 | refine IsS55.far ?_ HN0_go20.out _ | refine IsS55.far ?_ NB0_243.out _ | refine IsS55.far ?_ NB0_255.out _) | exact HI0.out)) (rk (HQ45.out)) (by decide)) hk (fun _ h => h.2)) (fun _ h => h.1)); replace HK := a_ (KeepBut.trans (by repeat (first | (with_reducible first | exact HK.out | apply KeepBut.set_ | apply keep_drewN | apply keep_drew | apply keep_alloc | refine keep_far ?_ GB20.out _ | refine keep_far ?_ GW243.out _ | refine keep_far ?_ GW255.out _) | exact HK.out)) hk (.inl rfl)); replace HB := a_ (hb); replace HI0 := a_ (hi); clear hb hk hi))
        go_roundg k1
        case measure => have := HK1.out; omega
        case rel => exact ⟨(wrap64 (x18_1 + 1)), (t265), (t266), (y259), (y263), (.slice (some ⟨go17, 0, none⟩) x256001_1.length co17), (.slice (some ⟨go20, 0, none⟩) x256002_1.length co20), (by first | rfl | (simp; done) | (simp [*]; done)), H', ⟨by have := HK1.out; omega⟩, ⟨rk (HO_256001.out)⟩, ⟨rk (HO_256002.out)⟩, ⟨pk BK243.out⟩, ⟨pk BK255.out⟩, ⟨by repeat (first | (with_reducible first | exact HI0.out | apply IsS55.alloc | apply IsS55.drewN | apply IsS55.drew | apply IsS55.set_1 | apply IsS55.set_2 | refine IsS55.far ?_ NB0_243.out _ | refine IsS55.far ?_ NB0_255.out _) | exact HI0.out)⟩, ⟨by repeat (first | (with_reducible first | exact HK.out | apply KeepBut.set_ | apply keep_drewN | apply keep_drew | apply keep_alloc | refine keep_far ?_ GW243.out _ | refine keep_far ?_ GW255.out _) | exact HK.out)⟩, ⟨by repeat (first | (with_reducible first | exact HB.out | apply below_alloc | apply pw_below_drewN | apply below_drew1 | refine below_set ?_ (IsS55.ge HI0.out) | refine below_set ?_ GE243.out | refine below_set ?_ GE255.out) | exact HB.out)⟩⟩
      ·rw [if_neg c19] at H
       exact absurd H (by simp)
     ·rw [if_neg c16] at H
      exact absurd H (by simp)
    ·rw [if_neg c15] at H
     exact absurd H (by simp)
   ·rw [if_neg c13] at H
    have c13b0 : decide (x18_1 < (t249.length : Int)) = false := decide_eq_false c13
    clear c13
    replace H := Option.bind_eq_some_iff.mp H
    obtain ⟨⟨t274, t275, t276⟩, A470, H⟩ := H
    replace H : (if t274 = 0 then (some (wrap64 (t248 + 1), x256001_1, x256002_1, t275, t276)) else (if t274 = 1 then (if x256002_1.length < 17592186044416 then (some (t248, x256001_1, (x256002_1 ++ [0]), t275, t276)) else (none)) else (some (t248, x256001_1, x256002_1, t275, t276)))) = some (r1, r2, r3, r4, r5) := H
    have A47 := Aside0.mk A470
    clear A470
    by_cases c48 : t274 = 0
    ·rw [if_pos c48] at H
     have c48b0 : (t274 == 0) = true := beq_iff_eq.mpr c48
     have c48b1 : (t274 != 0) = false := bne_eq_false_iff_eq.mpr c48
     clear c48
     simp only [Option.some.injEq, Prod.mk.injEq] at H
     obtain ⟨rfl, rfl, rfl, rfl, rfl⟩ := H
     go_wp2_with (first | ((with_reducible refine gate_callee (f := 36) rfl ?_); refine goesL_ (some 44) rfl rfl Try.func36 (by kernel_rfl) rfl #[.pointer (some ⟨g, 0, none⟩), .int .i64 24] rfl (by (try simp only [lA, lB, lC]); first | done | rfl | (simp only [lD, lE]; rfl)) ?_; (with_reducible refine (spec_l1Cur_pick.calls g s0_0 x1001_1 x1002_1 24 t274 t275 t276 w0 _ ?side1 ?side2 A47.out).mono ?_); (case side1 => repeat (first | (with_reducible first | exact HI0.out | apply IsS55.alloc | apply IsS55.drewN | apply IsS55.drew | apply IsS55.set_1 | apply IsS55.set_2 | refine IsS55.far ?_ NB0_243.out _ | refine IsS55.far ?_ NB0_255.out _) | exact HI0.out)); (case side2 => repeat (first | (with_reducible first | exact HB.out | apply below_alloc | apply pw_below_drewN | apply below_drew1 | refine below_set ?_ (IsS55.ge HI0.out) | refine below_set ?_ GE243.out | refine below_set ?_ GE255.out) | exact HB.out)); rintro e w49 ⟨rfl, hi, hb, hk⟩; refine ⟨_, rfl, ?_⟩; replace HO_256001 := a_ (Kd.R_mono (Kd.R_keep (IsS55.apart (show IsS55 w0 _ g s0_0 x1001_1 x1002_1 from by repeat (first | (with_reducible first | exact HI0.out | apply IsS55.alloc | apply IsS55.drewN | apply IsS55.drew | apply IsS55.set_1 | apply IsS55.set_2 | refine IsS55.far ?_ NB0_243.out _ | refine IsS55.far ?_ NB0_255.out _) | exact HI0.out)) (rk HO_256001.out) (by decide)) hk (fun _ h => h.2)) (fun _ h => h.1)); replace HO_256002 := a_ (Kd.R_mono (Kd.R_keep (IsS55.apart (show IsS55 w0 _ g s0_0 x1001_1 x1002_1 from by repeat (first | (with_reducible first | exact HI0.out | apply IsS55.alloc | apply IsS55.drewN | apply IsS55.drew | apply IsS55.set_1 | apply IsS55.set_2 | refine IsS55.far ?_ NB0_243.out _ | refine IsS55.far ?_ NB0_255.out _) | exact HI0.out)) (rk HO_256002.out) (by decide)) hk (fun _ h => h.2)) (fun _ h => h.1)); replace BK243 := a_ (KeepBut.blk hk (g' := gb243) (o := .cells #[.int .i64 0, .slice none 0 0, .slice none 0 0] 31 (0, 0)) (pk BK243.out) NB243_0.out (by simp)); replace BK255 := a_ (KeepBut.blk hk (g' := gb255) (o := .cells #[.int .i64 t248, u256001, u256002] 31 (0, 0)) (pk BK255.out) NB255_0.out (by simp)); replace HK := a_ (KeepBut.trans (by repeat (first | (with_reducible first | exact HK.out | apply KeepBut.set_ | apply keep_drewN | apply keep_drew | apply keep_alloc | refine keep_far ?_ GW243.out _ | refine keep_far ?_ GW255.out _) | exact HK.out)) hk (.inl rfl)); replace HB := a_ (hb); replace HI0 := a_ (hi); clear hb hk hi; have hnb50 := NB255_243.out; have hnc50 := NB243_255.out; have hnb51 := NB255_0.out; have hnc51 := NB0_255.out; have hcz52_0 : _ = some (Value.int .i64 t248) := (blk_cell BK255.out 0).trans rfl; have hcz52_1 : w49.cell? ⟨gb255, 1, none⟩ = some (u256001) := (blk_cell BK255.out 1).trans rfl; have hcz52_2 : w49.cell? ⟨gb255, 2, none⟩ = some (u256002) := (blk_cell BK255.out 2).trans rfl; have hfz52_0 := blk_frozen BK255.out 0; have hfz52_1 := blk_frozen BK255.out 1; have hfz52_2 := blk_frozen BK255.out 2; have hnb53 := NB243_0.out; have hnc53 := NB0_243.out; have hcz54_0 : _ = some (Value.int .i64 0) := (blk_cell BK243.out 0).trans rfl; have hcz54_1 : _ = some (Value.slice none 0 0) := (blk_cell BK243.out 1).trans rfl; have hcz54_2 : _ = some (Value.slice none 0 0) := (blk_cell BK243.out 2).trans rfl; have hfz54_0 := blk_frozen BK243.out 0; have hfz54_1 := blk_frozen BK243.out 1; have hfz54_2 := blk_frozen BK243.out 2; obtain ⟨Ao55, co55, eo55⟩ := Kd.R_slice HO_256001.out; subst eo55; obtain ⟨Ao56, co56, eo56⟩ := Kd.R_slice HO_256002.out; subst eo56))
     refine bodyPost_ret (results_cell_row rfl _ _ gb243 31 #[.int .i64 (wrap64 (t248 + 1)), .slice Ao55 x256001_1.length co55, .slice Ao56 x256002_1.length co56] (0, 0) _ rfl (by refine pk ?_; refine blk_put (cs := #[.int .i64 (wrap64 (t248 + 1)), .slice Ao55 x256001_1.length co55, .slice none 0 0]) ?_ 2 _ rfl; refine pk ?_; refine blk_put (cs := #[.int .i64 (wrap64 (t248 + 1)), .slice none 0 0, .slice none 0 0]) ?_ 1 _ rfl; refine pk ?_; refine blk_put (cs := #[.int .i64 0, .slice none 0 0, .slice none 0 0]) ?_ 0 _ rfl; refine pk ?_; refine blk_far ?_ NB243_255.out _; refine pk ?_; exact BK243.out) Try.underlying31 rfl (by kernel_rfl)) rfl ?_
     exact ⟨_, _, by first | rfl | (simp [errW_none, errW_some] <;> rfl) | (simp [*, errW_none, errW_some] <;> rfl), by refine rk ?_; exact Kd.R_mono (Kd.R_far (p := ⟨gb243, 2, none⟩) (Kd.R_far (p := ⟨gb243, 1, none⟩) (Kd.R_far (p := ⟨gb243, 0, none⟩) (Kd.R_far (p := ⟨gb255, 0, none⟩) (Kd.R_types (Kd.R_types HO_256001.out BK255.out (by decide)) BK243.out (by decide)) (fun _ hk => hk.1.2) (.int .i64 (wrap64 (t248 + 1)))) (fun _ hk => hk.2) (.int .i64 (wrap64 (t248 + 1)))) (fun _ hk => hk.2) (.slice Ao55 x256001_1.length co55)) (fun _ hk => hk.2) (.slice Ao56 x256002_1.length co56)) (fun _ hk => hk.1.1), by refine rk ?_; exact Kd.R_mono (Kd.R_far (p := ⟨gb243, 2, none⟩) (Kd.R_far (p := ⟨gb243, 1, none⟩) (Kd.R_far (p := ⟨gb243, 0, none⟩) (Kd.R_far (p := ⟨gb255, 0, none⟩) (Kd.R_types (Kd.R_types HO_256002.out BK255.out (by decide)) BK243.out (by decide)) (fun _ hk => hk.1.2) (.int .i64 (wrap64 (t248 + 1)))) (fun _ hk => hk.2) (.int .i64 (wrap64 (t248 + 1)))) (fun _ hk => hk.2) (.slice Ao55 x256001_1.length co55)) (fun _ hk => hk.2) (.slice Ao56 x256002_1.length co56)) (fun _ hk => hk.1.1), by repeat (first | (with_reducible first | exact HI0.out | apply IsS55.alloc | apply IsS55.drewN | apply IsS55.drew | apply IsS55.set_1 | apply IsS55.set_2 | refine IsS55.far ?_ NB0_243.out _ | refine IsS55.far ?_ NB0_255.out _) | exact HI0.out), by repeat (first | (with_reducible first | exact HB.out | apply below_alloc | apply pw_below_drewN | apply below_drew1 | refine below_set ?_ (IsS55.ge HI0.out) | refine below_set ?_ GE243.out | refine below_set ?_ GE255.out) | exact HB.out), by repeat (first | (with_reducible first | exact HK.out | apply KeepBut.set_ | apply keep_drewN | apply keep_drew | apply keep_alloc | refine keep_far ?_ GW243.out _ | refine keep_far ?_ GW255.out _) | exact HK.out)⟩
    ·rw [if_neg c48] at H
     have c48b0 : (t274 == 0) = false := beq_eq_false_iff_ne.mpr c48
     have c48b1 : (t274 != 0) = true := bne_iff_ne.mpr c48
     by_cases c57 : t274 = 1
     ·rw [if_pos c57] at H
      have c57b0 : (t274 == 1) = true := beq_iff_eq.mpr c57
      have c57b1 : (t274 != 1) = false := bne_eq_false_iff_eq.mpr c57
      clear c57
      by_cases c58 : x256002_1.length < 17592186044416
      ·rw [if_pos c58] at H
       have LMc58 := Aside0.mk c58
       clear c58
       obtain ⟨y277, hy277⟩ : ∃ y_ : List Int, y_ = (x256002_1 ++ [0]) := ⟨_, rfl⟩
       replace H : (some (t248, x256001_1, y277, t275, t276)) = some (r1, r2, r3, r4, r5) := by first | (rw [hy277]; with_reducible exact H) | (have H2_ := (Option.bind_some _ _).symm.trans H; rw [hy277]; with_reducible exact H2_) | (have H2_ := (Option.bind_some _ _).symm.trans H; with_reducible exact H2_) | with_reducible exact H | (rw [hy277]; exact H) | exact H
       have Ny277 := Aside0.mk hy277
       clear hy277
       simp only [Option.some.injEq, Prod.mk.injEq] at H
       obtain ⟨rfl, rfl, rfl, rfl, rfl⟩ := H
       go_wp2_with (first | ((with_reducible refine gate_callee (f := 36) rfl ?_); refine goesL_ (some 44) rfl rfl Try.func36 (by kernel_rfl) rfl #[.pointer (some ⟨g, 0, none⟩), .int .i64 24] rfl (by (try simp only [lA, lB, lC]); first | done | rfl | (simp only [lD, lE]; rfl)) ?_; (with_reducible refine (spec_l1Cur_pick.calls g s0_0 x1001_1 x1002_1 24 t274 t275 t276 w0 _ ?side1 ?side2 A47.out).mono ?_); (case side1 => repeat (first | (with_reducible first | exact HI0.out | apply IsS55.alloc | apply IsS55.drewN | apply IsS55.drew | apply IsS55.set_1 | apply IsS55.set_2 | refine IsS55.far ?_ NB0_243.out _ | refine IsS55.far ?_ NB0_255.out _) | exact HI0.out)); (case side2 => repeat (first | (with_reducible first | exact HB.out | apply below_alloc | apply pw_below_drewN | apply below_drew1 | refine below_set ?_ (IsS55.ge HI0.out) | refine below_set ?_ GE243.out | refine below_set ?_ GE255.out) | exact HB.out)); rintro e w59 ⟨rfl, hi, hb, hk⟩; refine ⟨_, rfl, ?_⟩; replace HO_256001 := a_ (Kd.R_mono (Kd.R_keep (IsS55.apart (show IsS55 w0 _ g s0_0 x1001_1 x1002_1 from by repeat (first | (with_reducible first | exact HI0.out | apply IsS55.alloc | apply IsS55.drewN | apply IsS55.drew | apply IsS55.set_1 | apply IsS55.set_2 | refine IsS55.far ?_ NB0_243.out _ | refine IsS55.far ?_ NB0_255.out _) | exact HI0.out)) (rk HO_256001.out) (by decide)) hk (fun _ h => h.2)) (fun _ h => h.1)); replace HO_256002 := a_ (Kd.R_mono (Kd.R_keep (IsS55.apart (show IsS55 w0 _ g s0_0 x1001_1 x1002_1 from by repeat (first | (with_reducible first | exact HI0.out | apply IsS55.alloc | apply IsS55.drewN | apply IsS55.drew | apply IsS55.set_1 | apply IsS55.set_2 | refine IsS55.far ?_ NB0_243.out _ | refine IsS55.far ?_ NB0_255.out _) | exact HI0.out)) (rk HO_256002.out) (by decide)) hk (fun _ h => h.2)) (fun _ h => h.1)); replace BK243 := a_ (KeepBut.blk hk (g' := gb243) (o := .cells #[.int .i64 0, .slice none 0 0, .slice none 0 0] 31 (0, 0)) (pk BK243.out) NB243_0.out (by simp)); replace BK255 := a_ (KeepBut.blk hk (g' := gb255) (o := .cells #[.int .i64 t248, u256001, u256002] 31 (0, 0)) (pk BK255.out) NB255_0.out (by simp)); replace HK := a_ (KeepBut.trans (by repeat (first | (with_reducible first | exact HK.out | apply KeepBut.set_ | apply keep_drewN | apply keep_drew | apply keep_alloc | refine keep_far ?_ GW243.out _ | refine keep_far ?_ GW255.out _) | exact HK.out)) hk (.inl rfl)); replace HB := a_ (hb); replace HI0 := a_ (hi); clear hb hk hi; have hnb60 := NB255_243.out; have hnc60 := NB243_255.out; have hnb61 := NB255_0.out; have hnc61 := NB0_255.out; have hcz62_0 : _ = some (Value.int .i64 t248) := (blk_cell BK255.out 0).trans rfl; have hcz62_1 : w59.cell? ⟨gb255, 1, none⟩ = some (u256001) := (blk_cell BK255.out 1).trans rfl; have hcz62_2 : w59.cell? ⟨gb255, 2, none⟩ = some (u256002) := (blk_cell BK255.out 2).trans rfl; have hfz62_0 := blk_frozen BK255.out 0; have hfz62_1 := blk_frozen BK255.out 1; have hfz62_2 := blk_frozen BK255.out 2) | ((with_reducible refine gate_builtin (b := .append) (xs := #[.tmp 54, .tmp 55]) rfl ?_); at_builtin; refine Kd.R_append (Kd.int .i64) w.heap.size rfl (.tmp 54) (.tmp 55) 27 3 (.int .i64 0) 8 rfl Try.underlying27 info3 rfl (by decide) (by omega) u256002 x256002_1 0 [.int .i64 0] (fun k_ => some k_ ≠ (u256001 : Value).ownBlock) (fun _ => False) rfl rfl ?aP (fun _ hk => hk.elim) ?aF ?aO (Below.refl _ _) ?aS ?aL ?_; (case aP => exact rfl); (case aF => exact (fun k_ hk => Kd.fresh' (Kd.R_lt (rk HO_256001.out)) k_ hk)); (case aO => exact (rk HO_256002.out)); (case aS => exact (keep_size (w := w) (g := g) (row := none) (by repeat (first | (with_reducible first | exact HK.out | apply KeepBut.set_ | apply keep_drewN | apply keep_drew | apply keep_alloc | refine keep_far ?_ GW243.out _ | refine keep_far ?_ GW255.out _) | exact HK.out)))); (case aL => have := LMc58.out; omega); intro v278 w63 ho hb hg hat; rw [← Ny277.out] at ho; replace HO_256001 := a_ (Kd.R_after (ok := (fun _ => True)) (rk (Kd.R_mono HO_256001.out (fun _ hk => ⟨trivial, hk⟩))) hg hat); replace BK243 := a_ (blk_grown (pk BK243.out) hg (Kd.R_ne HO_256002.out BK243.out (by decide))); replace BK255 := a_ (blk_grown (pk BK255.out) hg (Kd.R_ne HO_256002.out BK255.out (by decide))); replace HB := a_ (below_weaken (by repeat (first | (with_reducible first | exact HB.out | apply below_alloc | apply pw_below_drewN | apply below_drew1 | refine below_set ?_ (IsS55.ge HI0.out) | refine below_set ?_ GE243.out | refine below_set ?_ GE255.out) | exact HB.out)) HL.out hb); replace HI0 := a_ (IsS55.grown (show IsS55 w0 _ g s0_0 t275 t276 from by repeat (first | (with_reducible first | exact HI0.out | apply IsS55.alloc | apply IsS55.drewN | apply IsS55.drew | apply IsS55.set_1 | apply IsS55.set_2 | refine IsS55.far ?_ NB0_243.out _ | refine IsS55.far ?_ NB0_255.out _) | exact HI0.out)) hg (IsS55.own_ne HI0.out HO_256002.out (by decide))); replace HK := a_ (KeepBut.trans (by repeat (first | (with_reducible first | exact HK.out | apply KeepBut.set_ | apply keep_drewN | apply keep_drew | apply keep_alloc | refine keep_far ?_ GW243.out _ | refine keep_far ?_ GW255.out _) | exact HK.out)) (KeepBut.of_grown hg g) (Kd.R_base2 HO_256002.out)); have HO279 := a_ (ho); clear HO_256002 ho hb hg hat; obtain ⟨Ao64, co64, eo64⟩ := Kd.R_slice HO279.out; subst eo64; have hcz65_0 : _ = some (Value.int .i64 t248) := (blk_cell BK255.out 0).trans rfl; have hcz65_1 : w63.cell? ⟨gb255, 1, none⟩ = some (u256001) := (blk_cell BK255.out 1).trans rfl; have hcz65_2 : w63.cell? ⟨gb255, 2, none⟩ = some (u256002) := (blk_cell BK255.out 2).trans rfl; have hfz65_0 := blk_frozen BK255.out 0; have hfz65_1 := blk_frozen BK255.out 1; have hfz65_2 := blk_frozen BK255.out 2; have hnb66 := NB243_0.out; have hnc66 := NB0_243.out; have hcz67_0 : _ = some (Value.int .i64 0) := (blk_cell BK243.out 0).trans rfl; have hcz67_1 : _ = some (Value.slice none 0 0) := (blk_cell BK243.out 1).trans rfl; have hcz67_2 : _ = some (Value.slice none 0 0) := (blk_cell BK243.out 2).trans rfl; have hfz67_0 := blk_frozen BK243.out 0; have hfz67_1 := blk_frozen BK243.out 1; have hfz67_2 := blk_frozen BK243.out 2; obtain ⟨Ao68, co68, eo68⟩ := Kd.R_slice HO_256001.out; subst eo68))
       refine bodyPost_ret (results_cell_row rfl _ _ gb243 31 #[.int .i64 t248, .slice Ao68 x256001_1.length co68, .slice Ao64 y277.length co64] (0, 0) _ rfl (by refine pk ?_; refine blk_put (cs := #[.int .i64 t248, .slice Ao68 x256001_1.length co68, .slice none 0 0]) ?_ 2 _ rfl; refine pk ?_; refine blk_put (cs := #[.int .i64 t248, .slice none 0 0, .slice none 0 0]) ?_ 1 _ rfl; refine pk ?_; refine blk_put (cs := #[.int .i64 0, .slice none 0 0, .slice none 0 0]) ?_ 0 _ rfl; refine pk ?_; refine blk_far ?_ NB243_255.out _; refine pk ?_; exact BK243.out) Try.underlying31 rfl (by kernel_rfl)) rfl ?_
       exact ⟨_, _, by first | rfl | (simp [errW_none, errW_some] <;> rfl) | (simp [*, errW_none, errW_some] <;> rfl), by refine rk ?_; exact Kd.R_mono (Kd.R_far (p := ⟨gb243, 2, none⟩) (Kd.R_far (p := ⟨gb243, 1, none⟩) (Kd.R_far (p := ⟨gb243, 0, none⟩) (Kd.R_far (p := ⟨gb255, 2, none⟩) (Kd.R_types (Kd.R_types HO_256001.out BK255.out (by decide)) BK243.out (by decide)) (fun _ hk => hk.1.2) (.slice Ao64 y277.length co64)) (fun _ hk => hk.2) (.int .i64 t248)) (fun _ hk => hk.2) (.slice Ao68 x256001_1.length co68)) (fun _ hk => hk.2) (.slice Ao64 y277.length co64)) (fun _ hk => hk.1.1.2), by refine rk ?_; exact Kd.R_mono (Kd.R_far (p := ⟨gb243, 2, none⟩) (Kd.R_far (p := ⟨gb243, 1, none⟩) (Kd.R_far (p := ⟨gb243, 0, none⟩) (Kd.R_far (p := ⟨gb255, 2, none⟩) (Kd.R_types (Kd.R_types HO279.out BK255.out (by decide)) BK243.out (by decide)) (fun _ hk => hk.1.2) (.slice Ao64 y277.length co64)) (fun _ hk => hk.2) (.int .i64 t248)) (fun _ hk => hk.2) (.slice Ao68 x256001_1.length co68)) (fun _ hk => hk.2) (.slice Ao64 y277.length co64)) (fun _ hk => hk.1.1), by repeat (first | (with_reducible first | exact HI0.out | apply IsS55.alloc | apply IsS55.drewN | apply IsS55.drew | apply IsS55.set_1 | apply IsS55.set_2 | refine IsS55.far ?_ NB0_243.out _ | refine IsS55.far ?_ NB0_255.out _) | exact HI0.out), by repeat (first | (with_reducible first | exact HB.out | apply below_alloc | apply pw_below_drewN | apply below_drew1 | refine below_set ?_ (IsS55.ge HI0.out) | refine below_set ?_ GE243.out | refine below_set ?_ GE255.out) | exact HB.out), by repeat (first | (with_reducible first | exact HK.out | apply KeepBut.set_ | apply keep_drewN | apply keep_drew | apply keep_alloc | refine keep_far ?_ GW243.out _ | refine keep_far ?_ GW255.out _) | exact HK.out)⟩
      ·rw [if_neg c58] at H
       exact absurd H (by simp)
     ·rw [if_neg c57] at H
      have c57b0 : (t274 == 1) = false := beq_eq_false_iff_ne.mpr c57
      have c57b1 : (t274 != 1) = true := bne_iff_ne.mpr c57
      simp only [Option.some.injEq, Prod.mk.injEq] at H
      obtain ⟨rfl, rfl, rfl, rfl, rfl⟩ := H
      go_wp2_with (first | ((with_reducible refine gate_callee (f := 36) rfl ?_); refine goesL_ (some 44) rfl rfl Try.func36 (by kernel_rfl) rfl #[.pointer (some ⟨g, 0, none⟩), .int .i64 24] rfl (by (try simp only [lA, lB, lC]); first | done | rfl | (simp only [lD, lE]; rfl)) ?_; (with_reducible refine (spec_l1Cur_pick.calls g s0_0 x1001_1 x1002_1 24 t274 t275 t276 w0 _ ?side1 ?side2 A47.out).mono ?_); (case side1 => repeat (first | (with_reducible first | exact HI0.out | apply IsS55.alloc | apply IsS55.drewN | apply IsS55.drew | apply IsS55.set_1 | apply IsS55.set_2 | refine IsS55.far ?_ NB0_243.out _ | refine IsS55.far ?_ NB0_255.out _) | exact HI0.out)); (case side2 => repeat (first | (with_reducible first | exact HB.out | apply below_alloc | apply pw_below_drewN | apply below_drew1 | refine below_set ?_ (IsS55.ge HI0.out) | refine below_set ?_ GE243.out | refine below_set ?_ GE255.out) | exact HB.out)); rintro e w69 ⟨rfl, hi, hb, hk⟩; refine ⟨_, rfl, ?_⟩; replace HO_256001 := a_ (Kd.R_mono (Kd.R_keep (IsS55.apart (show IsS55 w0 _ g s0_0 x1001_1 x1002_1 from by repeat (first | (with_reducible first | exact HI0.out | apply IsS55.alloc | apply IsS55.drewN | apply IsS55.drew | apply IsS55.set_1 | apply IsS55.set_2 | refine IsS55.far ?_ NB0_243.out _ | refine IsS55.far ?_ NB0_255.out _) | exact HI0.out)) (rk HO_256001.out) (by decide)) hk (fun _ h => h.2)) (fun _ h => h.1)); replace HO_256002 := a_ (Kd.R_mono (Kd.R_keep (IsS55.apart (show IsS55 w0 _ g s0_0 x1001_1 x1002_1 from by repeat (first | (with_reducible first | exact HI0.out | apply IsS55.alloc | apply IsS55.drewN | apply IsS55.drew | apply IsS55.set_1 | apply IsS55.set_2 | refine IsS55.far ?_ NB0_243.out _ | refine IsS55.far ?_ NB0_255.out _) | exact HI0.out)) (rk HO_256002.out) (by decide)) hk (fun _ h => h.2)) (fun _ h => h.1)); replace BK243 := a_ (KeepBut.blk hk (g' := gb243) (o := .cells #[.int .i64 0, .slice none 0 0, .slice none 0 0] 31 (0, 0)) (pk BK243.out) NB243_0.out (by simp)); replace BK255 := a_ (KeepBut.blk hk (g' := gb255) (o := .cells #[.int .i64 t248, u256001, u256002] 31 (0, 0)) (pk BK255.out) NB255_0.out (by simp)); replace HK := a_ (KeepBut.trans (by repeat (first | (with_reducible first | exact HK.out | apply KeepBut.set_ | apply keep_drewN | apply keep_drew | apply keep_alloc | refine keep_far ?_ GW243.out _ | refine keep_far ?_ GW255.out _) | exact HK.out)) hk (.inl rfl)); replace HB := a_ (hb); replace HI0 := a_ (hi); clear hb hk hi; have hnb70 := NB255_243.out; have hnc70 := NB243_255.out; have hnb71 := NB255_0.out; have hnc71 := NB0_255.out; have hcz72_0 : _ = some (Value.int .i64 t248) := (blk_cell BK255.out 0).trans rfl; have hcz72_1 : w69.cell? ⟨gb255, 1, none⟩ = some (u256001) := (blk_cell BK255.out 1).trans rfl; have hcz72_2 : w69.cell? ⟨gb255, 2, none⟩ = some (u256002) := (blk_cell BK255.out 2).trans rfl; have hfz72_0 := blk_frozen BK255.out 0; have hfz72_1 := blk_frozen BK255.out 1; have hfz72_2 := blk_frozen BK255.out 2; have hnb73 := NB243_0.out; have hnc73 := NB0_243.out; have hcz74_0 : _ = some (Value.int .i64 0) := (blk_cell BK243.out 0).trans rfl; have hcz74_1 : _ = some (Value.slice none 0 0) := (blk_cell BK243.out 1).trans rfl; have hcz74_2 : _ = some (Value.slice none 0 0) := (blk_cell BK243.out 2).trans rfl; have hfz74_0 := blk_frozen BK243.out 0; have hfz74_1 := blk_frozen BK243.out 1; have hfz74_2 := blk_frozen BK243.out 2; obtain ⟨Ao75, co75, eo75⟩ := Kd.R_slice HO_256001.out; subst eo75; obtain ⟨Ao76, co76, eo76⟩ := Kd.R_slice HO_256002.out; subst eo76))
      refine bodyPost_ret (results_cell_row rfl _ _ gb243 31 #[.int .i64 t248, .slice Ao75 x256001_1.length co75, .slice Ao76 x256002_1.length co76] (0, 0) _ rfl (by refine pk ?_; refine blk_put (cs := #[.int .i64 t248, .slice Ao75 x256001_1.length co75, .slice none 0 0]) ?_ 2 _ rfl; refine pk ?_; refine blk_put (cs := #[.int .i64 t248, .slice none 0 0, .slice none 0 0]) ?_ 1 _ rfl; refine pk ?_; refine blk_put (cs := #[.int .i64 0, .slice none 0 0, .slice none 0 0]) ?_ 0 _ rfl; refine pk ?_; exact BK243.out) Try.underlying31 rfl (by kernel_rfl)) rfl ?_
      exact ⟨_, _, by first | rfl | (simp [errW_none, errW_some] <;> rfl) | (simp [*, errW_none, errW_some] <;> rfl), by refine rk ?_; exact Kd.R_mono (fr3 HO_256001.out BK243.out (by decide) 0 (.int .i64 t248) 1 (.slice Ao75 x256001_1.length co75) 2 (.slice Ao76 x256002_1.length co76)) (fun _ hk => hk.1), by refine rk ?_; exact Kd.R_mono (fr3 HO_256002.out BK243.out (by decide) 0 (.int .i64 t248) 1 (.slice Ao75 x256001_1.length co75) 2 (.slice Ao76 x256002_1.length co76)) (fun _ hk => hk.1), by repeat (first | (with_reducible first | exact HI0.out | apply IsS55.alloc | apply IsS55.drewN | apply IsS55.drew | apply IsS55.set_1 | apply IsS55.set_2 | refine IsS55.far ?_ NB0_243.out _ | refine IsS55.far ?_ NB0_255.out _) | exact HI0.out), by repeat (first | (with_reducible first | exact HB.out | apply below_alloc | apply pw_below_drewN | apply below_drew1 | refine below_set ?_ (IsS55.ge HI0.out) | refine below_set ?_ GE243.out | refine below_set ?_ GE255.out) | exact HB.out), by repeat (first | (with_reducible first | exact HK.out | apply KeepBut.set_ | apply keep_drewN | apply keep_drew | apply keep_alloc | refine keep_far ?_ GW243.out _ | refine keep_far ?_ GW255.out _) | exact HK.out)⟩

end Go.Proofs.Ytgkjnocjdonjdaa.PFnCounts
