-- Written by a program of this session out of the loaded functions' print; helper lemmas as print.sh lays them.
import Derived.Test.YtineniimpdjpnaaUp2
import Derived.Test.YtineniimpdjpnaaUp
import Derived.Test.YtineniimpdjpnaaRFnGainsx0
import Derived.Test.YtineniimpdjpnaaRFnGainsx3
namespace Go.Proofs.Ytineniimpdjpnaa.PFnGains
open Go.RowKit Go.Proofs.YtineniimpdjpnaaW.PrintWords Go.Proofs.YtineniimpdjpnaaW.PrintLast Go.Proofs.YtineniimpdjpnaaW.PrintMore
attribute [local go_sem] max2_int min2_int max_two min_two max_three min_three max_four min_four  -- for this text's walks alone
set_option linter.unusedVariables false
set_option linter.unusedSimpArgs false

/-! ### spec_l1Cur_hold: function 31 -/
mutual
def spec_l1Cur_hold.j0 : Nat → List Int → Int → Int → Int → Int → Int → Int → Int → Int → Int → Bool → Int → Int → Int → Option (Bool × Int × Int × Int × Int × Int)
 | 0, _, _, _, _, _, _, _, _, _, _, _, _, _, _ => none
 | k + 1, x1000, x1001, x1002, x225000, x225001, x225002, x225003, x225004, x225005, x225006, x233000, x233001, x233002, x233003 => if x225004 > 0 then ((spec_l1Cur_pick.f x1000 x1001 x1002 (wrap64 ((wrap64 (2 * x225004)) + 1))).bind fun bt236 => (spec_l1Cur_hold.j1 k x1000 bt236.2.1 bt236.2.2 x225000 x225001 x225002 x225003 x225004 x225005 x225006 x233000 x233001 x233002 (wrap64 (bt236.1 - x225004)))) else (spec_l1Cur_hold.j1 k x1000 x1001 x1002 x225000 x225001 x225002 x225003 x225004 x225005 x225006 x233000 x233001 x233002 x233003)
def spec_l1Cur_hold.j1 : Nat → List Int → Int → Int → Int → Int → Int → Int → Int → Int → Int → Bool → Int → Int → Int → Option (Bool × Int × Int × Int × Int × Int)
 | 0, _, _, _, _, _, _, _, _, _, _, _, _, _, _ => none
 | k + 1, x1000, x1001, x1002, x225000, x225001, x225002, x225003, x225004, x225005, x225006, x233000, x233001, x233002, x233003 => (spec_l1Cur_pick.f x1000 x1001 x1002 24).bind fun bt239 => (if bt239.1 = 0 then (some (false, x233001, x233002, x233003, bt239.2.1, bt239.2.2)) else (if bt239.1 = 1 then (some (x233000, wrap64 (x225005 + 1), x233002, x233003, bt239.2.1, bt239.2.2)) else (if bt239.1 = 2 then ((spec_l1Cur_among.f x1000 bt239.2.1 bt239.2.2 (([2000000, 2000001] : List Int))).bind fun bt245 => (some (x233000, x233001, bt245.1, x233003, bt245.2.1, bt245.2.2))) else (some (x233000, x233001, x233002, x233003, bt239.2.1, bt239.2.2)))))
end
def spec_l1Cur_hold.f (k : Nat) (s0_0 : List Int) (s0_1 : Int) (s0_2 : Int) (a1_0 : Int) (a1_1 : Int) (a1_2 : Int) (a1_3 : Int) (a1_4 : Int) (a1_5 : Int) (a1_6 : Int) : Option (Bool × Int × Int × Int × Int × Int) := (spec_l1Cur_one.f s0_0 s0_1 s0_2 3).bind fun bt226 => (if bt226.1 = true then (some (false, 0, 0, 0, bt226.2.1, bt226.2.2)) else ((spec_l1Cur_pick.f s0_0 bt226.2.1 bt226.2.2 41).bind fun bt229 => (if a1_5 > 0 then ((spec_l1Cur_pick.f s0_0 bt229.2.1 bt229.2.2 (wrap64 ((wrap64 (2 * a1_5)) + 1))).bind fun bt233 => (spec_l1Cur_hold.j0 k s0_0 bt233.2.1 bt233.2.2 a1_0 a1_1 a1_2 a1_3 a1_4 a1_5 a1_6 true (wrap64 (bt233.1 - a1_5)) (wrap64 (bt229.1 - 20)) 0)) else (spec_l1Cur_hold.j0 k s0_0 bt229.2.1 bt229.2.2 a1_0 a1_1 a1_2 a1_3 a1_4 a1_5 a1_6 true 0 (wrap64 (bt229.1 - 20)) 0))))
theorem spec_l1Cur_hold.mono_l : ∀ k, (∀ y0 y1 y2 y3 y4 y5 y6 y7 y8 y9 y10 y11 y12 y13, LeO (spec_l1Cur_hold.j0 k y0 y1 y2 y3 y4 y5 y6 y7 y8 y9 y10 y11 y12 y13) (spec_l1Cur_hold.j0 (k + 1) y0 y1 y2 y3 y4 y5 y6 y7 y8 y9 y10 y11 y12 y13)) ∧ (∀ y0 y1 y2 y3 y4 y5 y6 y7 y8 y9 y10 y11 y12 y13, LeO (spec_l1Cur_hold.j1 k y0 y1 y2 y3 y4 y5 y6 y7 y8 y9 y10 y11 y12 y13) (spec_l1Cur_hold.j1 (k + 1) y0 y1 y2 y3 y4 y5 y6 y7 y8 y9 y10 y11 y12 y13))
 | 0 => ⟨fun _ _ _ _ _ _ _ _ _ _ _ _ _ _ r h => by simp [spec_l1Cur_hold.j0] at h, fun _ _ _ _ _ _ _ _ _ _ _ _ _ _ r h => by simp [spec_l1Cur_hold.j1] at h⟩
 | k + 1 => by
  obtain ⟨ih0, ih1⟩ := spec_l1Cur_hold.mono_l k
  refine ⟨?_, ?_⟩
  ·intro y0 y1 y2 y3 y4 y5 y6 y7 y8 y9 y10 y11 y12 y13
   unfold spec_l1Cur_hold.j0
   repeat' first
   | (with_reducible exact ih0 _ _ _ _ _ _ _ _ _ _ _ _ _ _)
   | (with_reducible exact ih1 _ _ _ _ _ _ _ _ _ _ _ _ _ _)
   | (with_reducible exact LeO.refl _)
   | (with_reducible exact LeO.none _)
   | (with_reducible refine LeO.ite ?_ ?_)
   | (with_reducible refine LeO.bind ?_ (fun _ => ?_))
   | exact ih0 _ _ _ _ _ _ _ _ _ _ _ _ _ _
   | exact ih1 _ _ _ _ _ _ _ _ _ _ _ _ _ _
   | exact LeO.none _
   | refine LeO.ite ?_ ?_
   | refine LeO.bind ?_ (fun _ => ?_)
  ·intro y0 y1 y2 y3 y4 y5 y6 y7 y8 y9 y10 y11 y12 y13
   unfold spec_l1Cur_hold.j1
   repeat' first
   | (with_reducible exact ih0 _ _ _ _ _ _ _ _ _ _ _ _ _ _)
   | (with_reducible exact ih1 _ _ _ _ _ _ _ _ _ _ _ _ _ _)
   | (with_reducible exact LeO.refl _)
   | (with_reducible exact LeO.none _)
   | (with_reducible refine LeO.ite ?_ ?_)
   | (with_reducible refine LeO.bind ?_ (fun _ => ?_))
   | exact ih0 _ _ _ _ _ _ _ _ _ _ _ _ _ _
   | exact ih1 _ _ _ _ _ _ _ _ _ _ _ _ _ _
   | exact LeO.none _
   | refine LeO.ite ?_ ?_
   | refine LeO.bind ?_ (fun _ => ?_)
theorem spec_l1Cur_hold.mono : ∀ a0 a1 a2 a3 a4 a5 a6 a7 a8 a9 k, LeO (spec_l1Cur_hold.f k a0 a1 a2 a3 a4 a5 a6 a7 a8 a9) (spec_l1Cur_hold.f (k + 1) a0 a1 a2 a3 a4 a5 a6 a7 a8 a9) := by
 intro a0 a1 a2 a3 a4 a5 a6 a7 a8 a9 k
 obtain ⟨ih0, ih1⟩ := spec_l1Cur_hold.mono_l k
 unfold spec_l1Cur_hold.f
 repeat' first
   | (with_reducible exact ih0 _ _ _ _ _ _ _ _ _ _ _ _ _ _)
   | (with_reducible exact ih1 _ _ _ _ _ _ _ _ _ _ _ _ _ _)
   | (with_reducible exact LeO.refl _)
   | (with_reducible exact LeO.none _)
   | (with_reducible refine LeO.ite ?_ ?_)
   | (with_reducible refine LeO.bind ?_ (fun _ => ?_))
   | exact ih0 _ _ _ _ _ _ _ _ _ _ _ _ _ _
   | exact ih1 _ _ _ _ _ _ _ _ _ _ _ _ _ _
   | exact LeO.none _
   | refine LeO.ite ?_ ?_
   | refine LeO.bind ?_ (fun _ => ?_)
def spec_l1Cur_hold.T5 : Bool × List (List Nat × List Nat) := (true, [([], []), ([], []), ([1], [1]), ([2], [2]), ([3], [3]), ([0, 4], [0, 4]), ([], []), ([6], [6]), ([5, 7], [5, 7]), ([0, 1, 2, 3, 4, 5, 6, 7, 8], []), ([9, 8, 5, 0, 1, 2, 3, 4, 5, 6, 7, 8], [8, 9])])
def spec_l1Cur_hold.B5 : List Nat := [0, 0, 2, 6, 14, 31, 0, 64, 255, 511, 1023]
theorem spec_l1Cur_hold.tab5 : rtab .any (opsOf Try.f31 5) = spec_l1Cur_hold.T5 := by kernel_rfl
theorem spec_l1Cur_hold.bits5 : waitsOk spec_l1Cur_hold.T5.2 spec_l1Cur_hold.B5 = true := by kernel_rfl
def spec_l1Cur_hold.T7 : Bool × List (List Nat × List Nat) := (true, [([], []), ([], []), ([1], [1]), ([2], [2]), ([3], [3]), ([0, 4], [0, 4]), ([], []), ([6], [6]), ([5, 7], [5, 7]), ([0, 1, 2, 3, 4, 5, 6, 7, 8], []), ([9, 8, 5, 0, 1, 2, 3, 4, 5, 6, 7, 8], [8, 9])])
def spec_l1Cur_hold.B7 : List Nat := [0, 0, 2, 6, 14, 31, 0, 64, 255, 511, 1023]
theorem spec_l1Cur_hold.tab7 : rtab .any (opsOf Try.f31 7) = spec_l1Cur_hold.T7 := by kernel_rfl
theorem spec_l1Cur_hold.bits7 : waitsOk spec_l1Cur_hold.T7.2 spec_l1Cur_hold.B7 = true := by kernel_rfl
set_option maxHeartbeats 8000000 in
set_option maxRecDepth 100000 in
theorem spec_l1Cur_hold.calls (k : Nat) (g : Nat) (s0_0 : List Int) (s0_1 : Int) (s0_2 : Int) (a1_0 : Int) (a1_1 : Int) (a1_2 : Int) (a1_3 : Int) (a1_4 : Int) (a1_5 : Int) (a1_6 : Int) (r1 : Bool) (r2 : Int) (r3 : Int) (r4 : Int) (r5 : Int) (r6 : Int) (w0 w : World) (hI : IsS61 w0 w g s0_0 s0_1 s0_2) (hB : Below w0.heap.size w0 w) (h : spec_l1Cur_hold.f k s0_0 s0_1 s0_2 a1_0 a1_1 a1_2 a1_3 a1_4 a1_5 a1_6 = some (r1, r2, r3, r4, r5, r6)) :
  Calls Try.prog 31 #[.pointer (some ⟨g, 0, none⟩), .agg #[.int .i64 a1_0, .int .i64 a1_1, .int .i64 a1_2, .int .i64 a1_3, .int .i64 a1_4, .int .i64 a1_5, .int .i64 a1_6]] w fun e w' => e = .returned (.agg #[.bool r1, .int .i64 r2, .int .i64 r3, .int .i64 r4]) ∧ IsS61 w0 w' g s0_0 r5 r6 ∧ Below w0.heap.size w0 w' ∧ KeepBut w w' g none := by
 have hu30 := Try.underlying30
 have hu27 := Try.underlying27
 have HI0 := Aside0.mk hI
 have HK := a_ (KeepBut.refl w g none)
 have HL := Aside0.mk hB.size
 clear hI
 have HW0 := Aside0.mk hB.size
 have HB := Aside0.mk hB
 clear hB
 have H : ((spec_l1Cur_one.f s0_0 s0_1 s0_2 3).bind fun bt226 => (if bt226.1 = true then (some (false, 0, 0, 0, bt226.2.1, bt226.2.2)) else ((spec_l1Cur_pick.f s0_0 bt226.2.1 bt226.2.2 41).bind fun bt229 => (if a1_5 > 0 then ((spec_l1Cur_pick.f s0_0 bt229.2.1 bt229.2.2 (wrap64 ((wrap64 (2 * a1_5)) + 1))).bind fun bt233 => (spec_l1Cur_hold.j0 k s0_0 bt233.2.1 bt233.2.2 a1_0 a1_1 a1_2 a1_3 a1_4 a1_5 a1_6 true (wrap64 (bt233.1 - a1_5)) (wrap64 (bt229.1 - 20)) 0)) else (spec_l1Cur_hold.j0 k s0_0 bt229.2.1 bt229.2.2 a1_0 a1_1 a1_2 a1_3 a1_4 a1_5 a1_6 true 0 (wrap64 (bt229.1 - 20)) 0))))) = some (r1, r2, r3, r4, r5, r6) := h
 clear h
 replace H := Option.bind_eq_some_iff.mp H
 obtain ⟨⟨t226, t227, t228⟩, A30, H⟩ := H
 replace H : (if t226 = true then (some (false, 0, 0, 0, t227, t228)) else ((spec_l1Cur_pick.f s0_0 t227 t228 41).bind fun bt229 => (if a1_5 > 0 then ((spec_l1Cur_pick.f s0_0 bt229.2.1 bt229.2.2 (wrap64 ((wrap64 (2 * a1_5)) + 1))).bind fun bt233 => (spec_l1Cur_hold.j0 k s0_0 bt233.2.1 bt233.2.2 a1_0 a1_1 a1_2 a1_3 a1_4 a1_5 a1_6 true (wrap64 (bt233.1 - a1_5)) (wrap64 (bt229.1 - 20)) 0)) else (spec_l1Cur_hold.j0 k s0_0 bt229.2.1 bt229.2.2 a1_0 a1_1 a1_2 a1_3 a1_4 a1_5 a1_6 true 0 (wrap64 (bt229.1 - 20)) 0)))) = some (r1, r2, r3, r4, r5, r6) := H
 have A3 := Aside0.mk A30
 clear A30
 by_cases c4 : t226 = true
 ·subst c4
  have H1 : (some (false, 0, 0, 0, t227, t228)) = some (r1, r2, r3, r4, r5, r6) := by rw [if_pos rfl] at H; exact H
  clear H
  have H := H1
  clear H1
  simp only [Option.some.injEq, Prod.mk.injEq] at H
  obtain ⟨rfl, rfl, rfl, rfl, rfl, rfl⟩ := H
  go_enter Try.func31, Try.ntmps31
  go_wp2_with (first | ((with_reducible refine gate_dst (N := 3) rfl ?_); refine box_event ?hg (N := 3) ?hd (cs := #[.int .i64 a1_0, .int .i64 a1_1, .int .i64 a1_2, .int .i64 a1_3, .int .i64 a1_4, .int .i64 a1_5, .int .i64 a1_6]) (t := 30) ?hr ?_; (case hd => rfl); (case hg => rfl); (case hr => first | (go_simp; done) | (go_simp; rfl)); intro gb224 hg w5 hbox hb; replace HB := a_ (below_step (by repeat (first | (with_reducible first | exact HB.out | apply below_alloc | apply pw_below_drewN | apply below_drew1 | refine below_set ?_ (IsS61.ge HI0.out)) | exact HB.out)) hb); have BK224 := a_ (hbox); have GW224 := a_ (by rw [hg]; exact (keep_size (w := w) (g := g) (row := none) (by repeat (first | (with_reducible first | exact HK.out | apply KeepBut.set_ | apply keep_drewN | apply keep_drew | apply keep_alloc) | exact HK.out))) : w.heap.size ≤ gb224); have GE224 := a_ (Nat.le_trans HW0.out (by rw [hg]; exact (keep_size (w := w) (g := g) (row := none) (by repeat (first | (with_reducible first | exact HK.out | apply KeepBut.set_ | apply keep_drewN | apply keep_drew | apply keep_alloc) | exact HK.out))) : w.heap.size ≤ gb224) : w0.heap.size ≤ gb224); replace HK := a_ (KeepBut.trans (by repeat (first | (with_reducible first | exact HK.out | apply KeepBut.set_ | apply keep_drewN | apply keep_drew | apply keep_alloc) | exact HK.out)) (KeepBut.of_below hb g none) (.inl rfl)); have NB0_224 := a_ (by rw [hg]; exact Nat.ne_of_lt (IsS61.lt (show IsS61 w0 _ g s0_0 s0_1 s0_2 from by repeat (first | (with_reducible first | exact HI0.out | apply IsS61.alloc | apply IsS61.drewN | apply IsS61.drew | apply IsS61.set_1 | apply IsS61.set_2) | exact HI0.out))) : g ≠ gb224); have NB224_0 := a_ (by rw [hg]; exact Nat.ne_of_gt (IsS61.lt (show IsS61 w0 _ g s0_0 s0_1 s0_2 from by repeat (first | (with_reducible first | exact HI0.out | apply IsS61.alloc | apply IsS61.drewN | apply IsS61.drew | apply IsS61.set_1 | apply IsS61.set_2) | exact HI0.out))) : gb224 ≠ g); replace HI0 := a_ (IsS61.below (by repeat (first | (with_reducible first | exact HI0.out | apply IsS61.alloc | apply IsS61.drewN | apply IsS61.drew | apply IsS61.set_1 | apply IsS61.set_2) | exact HI0.out)) hb); clear hb hbox hg) | ((with_reducible refine gate_dst (N := 4) rfl ?_); refine box_event ?hg (N := 4) ?hd (cs := #[.bool false, .int .i64 0, .int .i64 0, .int .i64 0]) (t := 27) ?hr ?_; (case hd => rfl); (case hg => rfl); (case hr => first | (go_simp; done) | (go_simp; rfl)); intro gb225 hg w6 hbox hb; replace HB := a_ (below_step (by repeat (first | (with_reducible first | exact HB.out | apply below_alloc | apply pw_below_drewN | apply below_drew1 | refine below_set ?_ (IsS61.ge HI0.out) | refine below_set ?_ GE224.out) | exact HB.out)) hb); have BK225 := a_ (hbox); have GW225 := a_ (by rw [hg]; exact (keep_size (w := w) (g := g) (row := none) (by repeat (first | (with_reducible first | exact HK.out | apply KeepBut.set_ | apply keep_drewN | apply keep_drew | apply keep_alloc | refine keep_far ?_ GW224.out _) | exact HK.out))) : w.heap.size ≤ gb225); have GE225 := a_ (Nat.le_trans HW0.out (by rw [hg]; exact (keep_size (w := w) (g := g) (row := none) (by repeat (first | (with_reducible first | exact HK.out | apply KeepBut.set_ | apply keep_drewN | apply keep_drew | apply keep_alloc | refine keep_far ?_ GW224.out _) | exact HK.out))) : w.heap.size ≤ gb225) : w0.heap.size ≤ gb225); replace HK := a_ (KeepBut.trans (by repeat (first | (with_reducible first | exact HK.out | apply KeepBut.set_ | apply keep_drewN | apply keep_drew | apply keep_alloc | refine keep_far ?_ GW224.out _) | exact HK.out)) (KeepBut.of_below hb g none) (.inl rfl)); have NB224_225 := a_ (nel hg BK224.out); have NB225_224 := a_ (nle hg BK224.out); replace BK224 := a_ (blk_below (pk BK224.out) hb); have NB0_225 := a_ (by rw [hg]; exact Nat.ne_of_lt (IsS61.lt (show IsS61 w0 _ g s0_0 s0_1 s0_2 from by repeat (first | (with_reducible first | exact HI0.out | apply IsS61.alloc | apply IsS61.drewN | apply IsS61.drew | apply IsS61.set_1 | apply IsS61.set_2 | refine IsS61.far ?_ NB0_224.out _) | exact HI0.out))) : g ≠ gb225); have NB225_0 := a_ (by rw [hg]; exact Nat.ne_of_gt (IsS61.lt (show IsS61 w0 _ g s0_0 s0_1 s0_2 from by repeat (first | (with_reducible first | exact HI0.out | apply IsS61.alloc | apply IsS61.drewN | apply IsS61.drew | apply IsS61.set_1 | apply IsS61.set_2 | refine IsS61.far ?_ NB0_224.out _) | exact HI0.out))) : gb225 ≠ g); replace HI0 := a_ (IsS61.below (by repeat (first | (with_reducible first | exact HI0.out | apply IsS61.alloc | apply IsS61.drewN | apply IsS61.drew | apply IsS61.set_1 | apply IsS61.set_2 | refine IsS61.far ?_ NB0_224.out _) | exact HI0.out)) hb); clear hb hbox hg) | ((with_reducible refine gate_callee (f := 27) rfl ?_); refine goesL_ (some 7) rfl rfl Try.func27 (by kernel_rfl) rfl #[.pointer (some ⟨g, 0, none⟩), .int .i64 3] rfl (by (try simp only [lA, lB, lC]); first | done | rfl | (simp only [lD, lE]; rfl)) ?_; (with_reducible refine (spec_l1Cur_one.calls g s0_0 s0_1 s0_2 3 true t227 t228 w0 _ ?side1 ?side2 A3.out).mono ?_); (case side1 => repeat (first | (with_reducible first | exact HI0.out | apply IsS61.alloc | apply IsS61.drewN | apply IsS61.drew | apply IsS61.set_1 | apply IsS61.set_2 | refine IsS61.far ?_ NB0_224.out _ | refine IsS61.far ?_ NB0_225.out _) | exact HI0.out)); (case side2 => repeat (first | (with_reducible first | exact HB.out | apply below_alloc | apply pw_below_drewN | apply below_drew1 | refine below_set ?_ (IsS61.ge HI0.out) | refine below_set ?_ GE224.out | refine below_set ?_ GE225.out) | exact HB.out)); rintro e w7 ⟨rfl, hi, hb, hk⟩; refine ⟨_, rfl, ?_⟩; replace BK224 := a_ (KeepBut.blk hk (g' := gb224) (o := .cells #[.int .i64 a1_0, .int .i64 a1_1, .int .i64 a1_2, .int .i64 a1_3, .int .i64 a1_4, .int .i64 a1_5, .int .i64 a1_6] 30 (0, 0)) (pk BK224.out) NB224_0.out (by simp)); replace BK225 := a_ (KeepBut.blk hk (g' := gb225) (o := .cells #[.bool false, .int .i64 0, .int .i64 0, .int .i64 0] 27 (0, 0)) (pk BK225.out) NB225_0.out (by simp)); replace HK := a_ (KeepBut.trans (by repeat (first | (with_reducible first | exact HK.out | apply KeepBut.set_ | apply keep_drewN | apply keep_drew | apply keep_alloc | refine keep_far ?_ GW224.out _ | refine keep_far ?_ GW225.out _) | exact HK.out)) hk (.inl rfl)); replace HB := a_ (hb); replace HI0 := a_ (hi); clear hb hk hi; have hnb8 := NB225_224.out; have hnc8 := NB224_225.out; have hnb9 := NB225_0.out; have hnc9 := NB0_225.out; have hcz10_0 : _ = some (Value.bool false) := (blk_cell BK225.out 0).trans rfl; have hcz10_1 : _ = some (Value.int .i64 0) := (blk_cell BK225.out 1).trans rfl; have hcz10_2 : _ = some (Value.int .i64 0) := (blk_cell BK225.out 2).trans rfl; have hcz10_3 : _ = some (Value.int .i64 0) := (blk_cell BK225.out 3).trans rfl; have hfz10_0 := blk_frozen BK225.out 0; have hfz10_1 := blk_frozen BK225.out 1; have hfz10_2 := blk_frozen BK225.out 2; have hfz10_3 := blk_frozen BK225.out 3))
  refine bodyPost_ret (results_cell_row rfl _ _ gb225 27 #[.bool false, .int .i64 0, .int .i64 0, .int .i64 0] (0, 0) _ rfl (by refine pk ?_; refine blk_put (cs := #[.bool false, .int .i64 0, .int .i64 0, .int .i64 0]) ?_ 3 _ rfl; refine pk ?_; refine blk_put (cs := #[.bool false, .int .i64 0, .int .i64 0, .int .i64 0]) ?_ 2 _ rfl; refine pk ?_; refine blk_put (cs := #[.bool false, .int .i64 0, .int .i64 0, .int .i64 0]) ?_ 1 _ rfl; refine pk ?_; refine blk_put (cs := #[.bool false, .int .i64 0, .int .i64 0, .int .i64 0]) ?_ 0 _ rfl; refine pk ?_; exact BK225.out) Try.underlying27 rfl (by kernel_rfl)) rfl ?_
  exact ⟨by first | rfl | (simp [errW_none, errW_some] <;> rfl) | (simp [*, errW_none, errW_some] <;> rfl), by repeat (first | (with_reducible first | exact HI0.out | apply IsS61.alloc | apply IsS61.drewN | apply IsS61.drew | apply IsS61.set_1 | apply IsS61.set_2 | refine IsS61.far ?_ NB0_224.out _ | refine IsS61.far ?_ NB0_225.out _) | exact HI0.out), by repeat (first | (with_reducible first | exact HB.out | apply below_alloc | apply pw_below_drewN | apply below_drew1 | refine below_set ?_ (IsS61.ge HI0.out) | refine below_set ?_ GE224.out | refine below_set ?_ GE225.out) | exact HB.out), by repeat (first | (with_reducible first | exact HK.out | apply KeepBut.set_ | apply keep_drewN | apply keep_drew | apply keep_alloc | refine keep_far ?_ GW224.out _ | refine keep_far ?_ GW225.out _) | exact HK.out)⟩
 ·replace c4 := Bool.eq_false_iff.mpr c4
  subst c4
  have H1 : ((spec_l1Cur_pick.f s0_0 t227 t228 41).bind fun bt229 => (if a1_5 > 0 then ((spec_l1Cur_pick.f s0_0 bt229.2.1 bt229.2.2 (wrap64 ((wrap64 (2 * a1_5)) + 1))).bind fun bt233 => (spec_l1Cur_hold.j0 k s0_0 bt233.2.1 bt233.2.2 a1_0 a1_1 a1_2 a1_3 a1_4 a1_5 a1_6 true (wrap64 (bt233.1 - a1_5)) (wrap64 (bt229.1 - 20)) 0)) else (spec_l1Cur_hold.j0 k s0_0 bt229.2.1 bt229.2.2 a1_0 a1_1 a1_2 a1_3 a1_4 a1_5 a1_6 true 0 (wrap64 (bt229.1 - 20)) 0))) = some (r1, r2, r3, r4, r5, r6) := by rw [if_neg (show ¬ (false = true) by decide)] at H; exact H
  clear H
  have H := H1
  clear H1
  replace H := Option.bind_eq_some_iff.mp H
  obtain ⟨⟨t229, t230, t231⟩, A110, H⟩ := H
  replace H : (if a1_5 > 0 then ((spec_l1Cur_pick.f s0_0 t230 t231 (wrap64 ((wrap64 (2 * a1_5)) + 1))).bind fun bt233 => (spec_l1Cur_hold.j0 k s0_0 bt233.2.1 bt233.2.2 a1_0 a1_1 a1_2 a1_3 a1_4 a1_5 a1_6 true (wrap64 (bt233.1 - a1_5)) (wrap64 (t229 - 20)) 0)) else (spec_l1Cur_hold.j0 k s0_0 t230 t231 a1_0 a1_1 a1_2 a1_3 a1_4 a1_5 a1_6 true 0 (wrap64 (t229 - 20)) 0)) = some (r1, r2, r3, r4, r5, r6) := H
  have A11 := Aside0.mk A110
  clear A110
  have HC12 := Aside0.mk H
  clear H
  go_enter Try.func31, Try.ntmps31
  go_upto_if 15 with (first | ((with_reducible refine gate_dst (N := 3) rfl ?_); refine box_event ?hg (N := 3) ?hd (cs := #[.int .i64 a1_0, .int .i64 a1_1, .int .i64 a1_2, .int .i64 a1_3, .int .i64 a1_4, .int .i64 a1_5, .int .i64 a1_6]) (t := 30) ?hr ?_; (case hd => rfl); (case hg => rfl); (case hr => first | (go_simp; done) | (go_simp; rfl)); intro gb224 hg w13 hbox hb; replace HB := a_ (below_step (by repeat (first | (with_reducible first | exact HB.out | apply below_alloc | apply pw_below_drewN | apply below_drew1 | refine below_set ?_ (IsS61.ge HI0.out)) | exact HB.out)) hb); have BK224 := a_ (hbox); have GW224 := a_ (by rw [hg]; exact (keep_size (w := w) (g := g) (row := none) (by repeat (first | (with_reducible first | exact HK.out | apply KeepBut.set_ | apply keep_drewN | apply keep_drew | apply keep_alloc) | exact HK.out))) : w.heap.size ≤ gb224); have GE224 := a_ (Nat.le_trans HW0.out (by rw [hg]; exact (keep_size (w := w) (g := g) (row := none) (by repeat (first | (with_reducible first | exact HK.out | apply KeepBut.set_ | apply keep_drewN | apply keep_drew | apply keep_alloc) | exact HK.out))) : w.heap.size ≤ gb224) : w0.heap.size ≤ gb224); replace HK := a_ (KeepBut.trans (by repeat (first | (with_reducible first | exact HK.out | apply KeepBut.set_ | apply keep_drewN | apply keep_drew | apply keep_alloc) | exact HK.out)) (KeepBut.of_below hb g none) (.inl rfl)); have NB0_224 := a_ (by rw [hg]; exact Nat.ne_of_lt (IsS61.lt (show IsS61 w0 _ g s0_0 s0_1 s0_2 from by repeat (first | (with_reducible first | exact HI0.out | apply IsS61.alloc | apply IsS61.drewN | apply IsS61.drew | apply IsS61.set_1 | apply IsS61.set_2) | exact HI0.out))) : g ≠ gb224); have NB224_0 := a_ (by rw [hg]; exact Nat.ne_of_gt (IsS61.lt (show IsS61 w0 _ g s0_0 s0_1 s0_2 from by repeat (first | (with_reducible first | exact HI0.out | apply IsS61.alloc | apply IsS61.drewN | apply IsS61.drew | apply IsS61.set_1 | apply IsS61.set_2) | exact HI0.out))) : gb224 ≠ g); replace HI0 := a_ (IsS61.below (by repeat (first | (with_reducible first | exact HI0.out | apply IsS61.alloc | apply IsS61.drewN | apply IsS61.drew | apply IsS61.set_1 | apply IsS61.set_2) | exact HI0.out)) hb); clear hb hbox hg) | ((with_reducible refine gate_dst (N := 4) rfl ?_); refine box_event ?hg (N := 4) ?hd (cs := #[.bool false, .int .i64 0, .int .i64 0, .int .i64 0]) (t := 27) ?hr ?_; (case hd => rfl); (case hg => rfl); (case hr => first | (go_simp; done) | (go_simp; rfl)); intro gb225 hg w14 hbox hb; replace HB := a_ (below_step (by repeat (first | (with_reducible first | exact HB.out | apply below_alloc | apply pw_below_drewN | apply below_drew1 | refine below_set ?_ (IsS61.ge HI0.out) | refine below_set ?_ GE224.out) | exact HB.out)) hb); have BK225 := a_ (hbox); have GW225 := a_ (by rw [hg]; exact (keep_size (w := w) (g := g) (row := none) (by repeat (first | (with_reducible first | exact HK.out | apply KeepBut.set_ | apply keep_drewN | apply keep_drew | apply keep_alloc | refine keep_far ?_ GW224.out _) | exact HK.out))) : w.heap.size ≤ gb225); have GE225 := a_ (Nat.le_trans HW0.out (by rw [hg]; exact (keep_size (w := w) (g := g) (row := none) (by repeat (first | (with_reducible first | exact HK.out | apply KeepBut.set_ | apply keep_drewN | apply keep_drew | apply keep_alloc | refine keep_far ?_ GW224.out _) | exact HK.out))) : w.heap.size ≤ gb225) : w0.heap.size ≤ gb225); replace HK := a_ (KeepBut.trans (by repeat (first | (with_reducible first | exact HK.out | apply KeepBut.set_ | apply keep_drewN | apply keep_drew | apply keep_alloc | refine keep_far ?_ GW224.out _) | exact HK.out)) (KeepBut.of_below hb g none) (.inl rfl)); have NB224_225 := a_ (nel hg BK224.out); have NB225_224 := a_ (nle hg BK224.out); replace BK224 := a_ (blk_below (pk BK224.out) hb); have NB0_225 := a_ (by rw [hg]; exact Nat.ne_of_lt (IsS61.lt (show IsS61 w0 _ g s0_0 s0_1 s0_2 from by repeat (first | (with_reducible first | exact HI0.out | apply IsS61.alloc | apply IsS61.drewN | apply IsS61.drew | apply IsS61.set_1 | apply IsS61.set_2 | refine IsS61.far ?_ NB0_224.out _) | exact HI0.out))) : g ≠ gb225); have NB225_0 := a_ (by rw [hg]; exact Nat.ne_of_gt (IsS61.lt (show IsS61 w0 _ g s0_0 s0_1 s0_2 from by repeat (first | (with_reducible first | exact HI0.out | apply IsS61.alloc | apply IsS61.drewN | apply IsS61.drew | apply IsS61.set_1 | apply IsS61.set_2 | refine IsS61.far ?_ NB0_224.out _) | exact HI0.out))) : gb225 ≠ g); replace HI0 := a_ (IsS61.below (by repeat (first | (with_reducible first | exact HI0.out | apply IsS61.alloc | apply IsS61.drewN | apply IsS61.drew | apply IsS61.set_1 | apply IsS61.set_2 | refine IsS61.far ?_ NB0_224.out _) | exact HI0.out)) hb); clear hb hbox hg) | ((with_reducible refine gate_callee (f := 27) rfl ?_); refine goesL_ (some 7) rfl rfl Try.func27 (by kernel_rfl) rfl #[.pointer (some ⟨g, 0, none⟩), .int .i64 3] rfl (by (try simp only [lA, lB, lC]); first | done | rfl | (simp only [lD, lE]; rfl)) ?_; (with_reducible refine (spec_l1Cur_one.calls g s0_0 s0_1 s0_2 3 false t227 t228 w0 _ ?side1 ?side2 A3.out).mono ?_); (case side1 => repeat (first | (with_reducible first | exact HI0.out | apply IsS61.alloc | apply IsS61.drewN | apply IsS61.drew | apply IsS61.set_1 | apply IsS61.set_2 | refine IsS61.far ?_ NB0_224.out _ | refine IsS61.far ?_ NB0_225.out _) | exact HI0.out)); (case side2 => repeat (first | (with_reducible first | exact HB.out | apply below_alloc | apply pw_below_drewN | apply below_drew1 | refine below_set ?_ (IsS61.ge HI0.out) | refine below_set ?_ GE224.out | refine below_set ?_ GE225.out) | exact HB.out)); rintro e w15 ⟨rfl, hi, hb, hk⟩; refine ⟨_, rfl, ?_⟩; replace BK224 := a_ (KeepBut.blk hk (g' := gb224) (o := .cells #[.int .i64 a1_0, .int .i64 a1_1, .int .i64 a1_2, .int .i64 a1_3, .int .i64 a1_4, .int .i64 a1_5, .int .i64 a1_6] 30 (0, 0)) (pk BK224.out) NB224_0.out (by simp)); replace BK225 := a_ (KeepBut.blk hk (g' := gb225) (o := .cells #[.bool false, .int .i64 0, .int .i64 0, .int .i64 0] 27 (0, 0)) (pk BK225.out) NB225_0.out (by simp)); replace HK := a_ (KeepBut.trans (by repeat (first | (with_reducible first | exact HK.out | apply KeepBut.set_ | apply keep_drewN | apply keep_drew | apply keep_alloc | refine keep_far ?_ GW224.out _ | refine keep_far ?_ GW225.out _) | exact HK.out)) hk (.inl rfl)); replace HB := a_ (hb); replace HI0 := a_ (hi); clear hb hk hi) | ((with_reducible refine gate_callee (f := 26) rfl ?_); refine goesL_ (some 10) rfl rfl Try.func26 (by kernel_rfl) rfl #[.pointer (some ⟨g, 0, none⟩), .int .i64 41] rfl (by (try simp only [lA, lB, lC]); first | done | rfl | (simp only [lD, lE]; rfl)) ?_; (with_reducible refine (spec_l1Cur_pick.calls g s0_0 t227 t228 41 t229 t230 t231 w0 _ ?side1 ?side2 A11.out).mono ?_); (case side1 => repeat (first | (with_reducible first | exact HI0.out | apply IsS61.alloc | apply IsS61.drewN | apply IsS61.drew | apply IsS61.set_1 | apply IsS61.set_2 | refine IsS61.far ?_ NB0_224.out _ | refine IsS61.far ?_ NB0_225.out _) | exact HI0.out)); (case side2 => repeat (first | (with_reducible first | exact HB.out | apply below_alloc | apply pw_below_drewN | apply below_drew1 | refine below_set ?_ (IsS61.ge HI0.out) | refine below_set ?_ GE224.out | refine below_set ?_ GE225.out) | exact HB.out)); rintro e w16 ⟨rfl, hi, hb, hk⟩; refine ⟨_, rfl, ?_⟩; replace BK224 := a_ (KeepBut.blk hk (g' := gb224) (o := .cells #[.int .i64 a1_0, .int .i64 a1_1, .int .i64 a1_2, .int .i64 a1_3, .int .i64 a1_4, .int .i64 a1_5, .int .i64 a1_6] 30 (0, 0)) (pk BK224.out) NB224_0.out (by simp)); replace BK225 := a_ (KeepBut.blk hk (g' := gb225) (o := .cells #[.bool false, .int .i64 0, .int .i64 0, .int .i64 0] 27 (0, 0)) (pk BK225.out) NB225_0.out (by simp)); replace HK := a_ (KeepBut.trans (by repeat (first | (with_reducible first | exact HK.out | apply KeepBut.set_ | apply keep_drewN | apply keep_drew | apply keep_alloc | refine keep_far ?_ GW224.out _ | refine keep_far ?_ GW225.out _) | exact HK.out)) hk (.inl rfl)); replace HB := a_ (hb); replace HI0 := a_ (hi); clear hb hk hi) | ((with_reducible refine gate_dst (N := 5) rfl ?_); refine box_event ?hg (N := 5) ?hd (cs := #[.bool false, .int .i64 0, .int .i64 0, .int .i64 0]) (t := 27) ?hr ?_; (case hd => rfl); (case hg => rfl); (case hr => first | (go_simp; done) | (go_simp; rfl)); intro gb232 hg w17 hbox hb; replace HB := a_ (below_step (by repeat (first | (with_reducible first | exact HB.out | apply below_alloc | apply pw_below_drewN | apply below_drew1 | refine below_set ?_ (IsS61.ge HI0.out) | refine below_set ?_ GE224.out | refine below_set ?_ GE225.out) | exact HB.out)) hb); have BK232 := a_ (hbox); have GW232 := a_ (by rw [hg]; exact (keep_size (w := w) (g := g) (row := none) (by repeat (first | (with_reducible first | exact HK.out | apply KeepBut.set_ | apply keep_drewN | apply keep_drew | apply keep_alloc | refine keep_far ?_ GW224.out _ | refine keep_far ?_ GW225.out _) | exact HK.out))) : w.heap.size ≤ gb232); have GE232 := a_ (Nat.le_trans HW0.out (by rw [hg]; exact (keep_size (w := w) (g := g) (row := none) (by repeat (first | (with_reducible first | exact HK.out | apply KeepBut.set_ | apply keep_drewN | apply keep_drew | apply keep_alloc | refine keep_far ?_ GW224.out _ | refine keep_far ?_ GW225.out _) | exact HK.out))) : w.heap.size ≤ gb232) : w0.heap.size ≤ gb232); replace HK := a_ (KeepBut.trans (by repeat (first | (with_reducible first | exact HK.out | apply KeepBut.set_ | apply keep_drewN | apply keep_drew | apply keep_alloc | refine keep_far ?_ GW224.out _ | refine keep_far ?_ GW225.out _) | exact HK.out)) (KeepBut.of_below hb g none) (.inl rfl)); have NB224_232 := a_ (nel hg BK224.out); have NB232_224 := a_ (nle hg BK224.out); replace BK224 := a_ (blk_below (pk BK224.out) hb); have NB225_232 := a_ (nel hg BK225.out); have NB232_225 := a_ (nle hg BK225.out); replace BK225 := a_ (blk_below (pk BK225.out) hb); have NB0_232 := a_ (by rw [hg]; exact Nat.ne_of_lt (IsS61.lt (show IsS61 w0 _ g s0_0 t230 t231 from by repeat (first | (with_reducible first | exact HI0.out | apply IsS61.alloc | apply IsS61.drewN | apply IsS61.drew | apply IsS61.set_1 | apply IsS61.set_2 | refine IsS61.far ?_ NB0_224.out _ | refine IsS61.far ?_ NB0_225.out _) | exact HI0.out))) : g ≠ gb232); have NB232_0 := a_ (by rw [hg]; exact Nat.ne_of_gt (IsS61.lt (show IsS61 w0 _ g s0_0 t230 t231 from by repeat (first | (with_reducible first | exact HI0.out | apply IsS61.alloc | apply IsS61.drewN | apply IsS61.drew | apply IsS61.set_1 | apply IsS61.set_2 | refine IsS61.far ?_ NB0_224.out _ | refine IsS61.far ?_ NB0_225.out _) | exact HI0.out))) : gb232 ≠ g); replace HI0 := a_ (IsS61.below (by repeat (first | (with_reducible first | exact HI0.out | apply IsS61.alloc | apply IsS61.drewN | apply IsS61.drew | apply IsS61.set_1 | apply IsS61.set_2 | refine IsS61.far ?_ NB0_224.out _ | refine IsS61.far ?_ NB0_225.out _) | exact HI0.out)) hb); clear hb hbox hg; have hnb18 := NB232_224.out; have hnc18 := NB224_232.out; have hnb19 := NB232_225.out; have hnc19 := NB225_232.out; have hnb20 := NB232_0.out; have hnc20 := NB0_232.out; have hcz21_0 : _ = some (Value.bool false) := (blk_cell BK232.out 0).trans rfl; have hcz21_1 : _ = some (Value.int .i64 0) := (blk_cell BK232.out 1).trans rfl; have hcz21_2 : _ = some (Value.int .i64 0) := (blk_cell BK232.out 2).trans rfl; have hcz21_3 : _ = some (Value.int .i64 0) := (blk_cell BK232.out 3).trans rfl; have hfz21_0 := blk_frozen BK232.out 0; have hfz21_1 := blk_frozen BK232.out 1; have hfz21_2 := blk_frozen BK232.out 2; have hfz21_3 := blk_frozen BK232.out 3; have hnb22 := NB224_225.out; have hnc22 := NB225_224.out; have hnb23 := NB224_0.out; have hnc23 := NB0_224.out; have hcz24_0 : _ = some (Value.int .i64 a1_0) := (blk_cell BK224.out 0).trans rfl; have hcz24_1 : _ = some (Value.int .i64 a1_1) := (blk_cell BK224.out 1).trans rfl; have hcz24_2 : _ = some (Value.int .i64 a1_2) := (blk_cell BK224.out 2).trans rfl; have hcz24_3 : _ = some (Value.int .i64 a1_3) := (blk_cell BK224.out 3).trans rfl; have hcz24_4 : _ = some (Value.int .i64 a1_4) := (blk_cell BK224.out 4).trans rfl; have hcz24_5 : _ = some (Value.int .i64 a1_5) := (blk_cell BK224.out 5).trans rfl; have hcz24_6 : _ = some (Value.int .i64 a1_6) := (blk_cell BK224.out 6).trans rfl; have hfz24_0 := blk_frozen BK224.out 0; have hfz24_1 := blk_frozen BK224.out 1; have hfz24_2 := blk_frozen BK224.out 2; have hfz24_3 := blk_frozen BK224.out 3; have hfz24_4 := blk_frozen BK224.out 4; have hfz24_5 := blk_frozen BK224.out 5; have hfz24_6 := blk_frozen BK224.out 6))
  (try simp only [Act.put, List.setIfInBounds_toArray, List.set_cons_zero, List.set_cons_succ])
  go_cut [] (fun wc => ∃ (kq : Nat) (x1001_11 : Int) (x1002_11 : Int) (x233001_11 : Int), Aside0 (spec_l1Cur_hold.j0 kq s0_0 x1001_11 x1002_11 a1_0 a1_1 a1_2 a1_3 a1_4 a1_5 a1_6 true x233001_11 (wrap64 (t229 - 20)) 0 = some (r1, r2, r3, r4, r5, r6)) ∧ Aside0 (kq ≤ k) ∧ Aside0 (wc.heap[gb224]? = some (.cells #[.int .i64 a1_0, .int .i64 a1_1, .int .i64 a1_2, .int .i64 a1_3, .int .i64 a1_4, .int .i64 a1_5, .int .i64 a1_6] 30 (0, 0))) ∧ Aside0 (wc.heap[gb225]? = some (.cells #[.bool false, .int .i64 0, .int .i64 0, .int .i64 0] 27 (0, 0))) ∧ Aside0 (wc.heap[gb232]? = some (.cells #[.bool true, .int .i64 x233001_11, .int .i64 (wrap64 (t229 - 20)), .int .i64 0] 27 (0, 0))) ∧ Aside0 (IsS61 w0 wc g s0_0 x1001_11 x1002_11) ∧ Aside0 (KeepBut w wc g none) ∧ Aside0 (Below w0.heap.size w0 wc))
  case first =>
   have H := HC12.out
   clear HC12
   by_cases c25 : a1_5 > 0
   ·rw [if_pos c25] at H
    have c25b0 : decide (0 < a1_5) = true := decide_eq_true c25
    clear c25
    (first | rw [c25b0] | (simp only [i64_w, i32_w]; rw [c25b0]) | skip)
    replace H := Option.bind_eq_some_iff.mp H
    obtain ⟨⟨t233, t234, t235⟩, A260, H⟩ := H
    replace H : (spec_l1Cur_hold.j0 k s0_0 t234 t235 a1_0 a1_1 a1_2 a1_3 a1_4 a1_5 a1_6 true (wrap64 (t233 - a1_5)) (wrap64 (t229 - 20)) 0) = some (r1, r2, r3, r4, r5, r6) := H
    have A26 := Aside0.mk A260
    clear A260
    have H' := Aside0.mk H
    clear H
    try go_wp2
    have n0_ : Aside0 (((((w17.setCell ⟨gb232, 0, none⟩ (.bool true)).setCell ⟨gb232, 1, none⟩ (.int .i64 0)).setCell ⟨gb232, 2, none⟩ (.int .i64 (wrap64 (t229 - 20)))).setCell ⟨gb232, 3, none⟩ (.int .i64 0)).heap[gb224]? = some (.cells #[.int .i64 a1_0, .int .i64 a1_1, .int .i64 a1_2, .int .i64 a1_3, .int .i64 a1_4, .int .i64 a1_5, .int .i64 a1_6] 30 (0, 0))) := ⟨by refine pk ?_; refine blk_far ?_ NB224_232.out _; refine pk ?_; refine blk_far ?_ NB224_232.out _; refine pk ?_; refine blk_far ?_ NB224_232.out _; refine pk ?_; refine blk_far ?_ NB224_232.out _; refine pk ?_; exact BK224.out⟩
    have n1_ : Aside0 (((((w17.setCell ⟨gb232, 0, none⟩ (.bool true)).setCell ⟨gb232, 1, none⟩ (.int .i64 0)).setCell ⟨gb232, 2, none⟩ (.int .i64 (wrap64 (t229 - 20)))).setCell ⟨gb232, 3, none⟩ (.int .i64 0)).heap[gb225]? = some (.cells #[.bool false, .int .i64 0, .int .i64 0, .int .i64 0] 27 (0, 0))) := ⟨by refine pk ?_; refine blk_far ?_ NB225_232.out _; refine pk ?_; refine blk_far ?_ NB225_232.out _; refine pk ?_; refine blk_far ?_ NB225_232.out _; refine pk ?_; refine blk_far ?_ NB225_232.out _; refine pk ?_; exact BK225.out⟩
    have n2_ : Aside0 (((((w17.setCell ⟨gb232, 0, none⟩ (.bool true)).setCell ⟨gb232, 1, none⟩ (.int .i64 0)).setCell ⟨gb232, 2, none⟩ (.int .i64 (wrap64 (t229 - 20)))).setCell ⟨gb232, 3, none⟩ (.int .i64 0)).heap[gb232]? = some (.cells #[.bool true, .int .i64 0, .int .i64 (wrap64 (t229 - 20)), .int .i64 0] 27 (0, 0))) := ⟨by refine pk ?_; refine blk_put (cs := #[.bool true, .int .i64 0, .int .i64 (wrap64 (t229 - 20)), .int .i64 0]) ?_ 3 _ rfl; refine pk ?_; refine blk_put (cs := #[.bool true, .int .i64 0, .int .i64 0, .int .i64 0]) ?_ 2 _ rfl; refine pk ?_; refine blk_put (cs := #[.bool true, .int .i64 0, .int .i64 0, .int .i64 0]) ?_ 1 _ rfl; refine pk ?_; refine blk_put (cs := #[.bool false, .int .i64 0, .int .i64 0, .int .i64 0]) ?_ 0 _ rfl; refine pk ?_; exact BK232.out⟩
    have n3_ : Aside0 (IsS61 w0 ((((w17.setCell ⟨gb232, 0, none⟩ (.bool true)).setCell ⟨gb232, 1, none⟩ (.int .i64 0)).setCell ⟨gb232, 2, none⟩ (.int .i64 (wrap64 (t229 - 20)))).setCell ⟨gb232, 3, none⟩ (.int .i64 0)) g s0_0 t230 t231) := ⟨by repeat (first | (with_reducible first | exact HI0.out | apply IsS61.alloc | apply IsS61.drewN | apply IsS61.drew | apply IsS61.set_1 | apply IsS61.set_2 | refine IsS61.far ?_ NB0_224.out _ | refine IsS61.far ?_ NB0_225.out _ | refine IsS61.far ?_ NB0_232.out _) | exact HI0.out)⟩
    have n4_ : Aside0 (KeepBut w ((((w17.setCell ⟨gb232, 0, none⟩ (.bool true)).setCell ⟨gb232, 1, none⟩ (.int .i64 0)).setCell ⟨gb232, 2, none⟩ (.int .i64 (wrap64 (t229 - 20)))).setCell ⟨gb232, 3, none⟩ (.int .i64 0)) g none) := ⟨by repeat (first | (with_reducible first | exact HK.out | apply KeepBut.set_ | apply keep_drewN | apply keep_drew | apply keep_alloc | refine keep_far ?_ GW224.out _ | refine keep_far ?_ GW225.out _ | refine keep_far ?_ GW232.out _) | exact HK.out)⟩
    have n5_ : Aside0 (Below w0.heap.size w0 ((((w17.setCell ⟨gb232, 0, none⟩ (.bool true)).setCell ⟨gb232, 1, none⟩ (.int .i64 0)).setCell ⟨gb232, 2, none⟩ (.int .i64 (wrap64 (t229 - 20)))).setCell ⟨gb232, 3, none⟩ (.int .i64 0))) := ⟨by repeat (first | (with_reducible first | exact HB.out | apply below_alloc | apply pw_below_drewN | apply below_drew1 | refine below_set ?_ (IsS61.ge HI0.out) | refine below_set ?_ GE224.out | refine below_set ?_ GE225.out | refine below_set ?_ GE232.out) | exact HB.out)⟩
    (try clear BK224)
    (try clear BK225)
    (try clear BK232)
    (try clear HI0)
    (try clear HK)
    (try clear HB)
    generalize ((((w17.setCell ⟨gb232, 0, none⟩ (.bool true)).setCell ⟨gb232, 1, none⟩ (.int .i64 0)).setCell ⟨gb232, 2, none⟩ (.int .i64 (wrap64 (t229 - 20)))).setCell ⟨gb232, 3, none⟩ (.int .i64 0)) = w27 at n0_ n1_ n2_ n3_ n4_ n5_ ⊢
    have BK224 := n0_
    have BK225 := n1_
    have BK232 := n2_
    have HI0 := n3_
    have HK := n4_
    have HB := n5_
    clear n0_ n1_ n2_ n3_ n4_ n5_
    replace BK224 := a_ (blk_drew BK224.out)
    replace BK225 := a_ (blk_drew BK225.out)
    replace BK232 := a_ (blk_drew BK232.out)
    replace HI0 := a_ (IsS61.drew HI0.out)
    replace HK := a_ (keep_drew HK.out)
    replace HB := a_ (below_drew1 HB.out)
    refine start_ (n := 11) (S := fun w' => w'.cell? ⟨gb224, 0, none⟩ = some (.int .i64 a1_0) ∧ w'.cell? ⟨gb224, 1, none⟩ = some (.int .i64 a1_1) ∧ w'.cell? ⟨gb224, 2, none⟩ = some (.int .i64 a1_2) ∧ w'.cell? ⟨gb224, 3, none⟩ = some (.int .i64 a1_3) ∧ w'.cell? ⟨gb224, 4, none⟩ = some (.int .i64 a1_4) ∧ w'.cell? ⟨gb224, 5, none⟩ = some (.int .i64 a1_5) ∧ w'.cell? ⟨gb224, 6, none⟩ = some (.int .i64 a1_6)) (ds := []) #[false, false, false, false, false, false, false, false, false, false, false] (by kernel_rfl) rfl rfl ⟨(blk_cell BK224.out 0).trans rfl, (blk_cell BK224.out 1).trans rfl, (blk_cell BK224.out 2).trans rfl, (blk_cell BK224.out 3).trans rfl, (blk_cell BK224.out 4).trans rfl, (blk_cell BK224.out 5).trans rfl, (blk_cell BK224.out 6).trans rfl⟩ (fun hHeld => ?_); refine with_tabW spec_l1Cur_hold.tab5 spec_l1Cur_hold.bits5 (fun HT_ HW_ => ?_)
    generalize w27.drew = w28 at BK224 BK225 BK232 HI0 HK HB hHeld ⊢
    refine pure_ (i := 0) (N := some 16) (v := ?_) (a' := ?_) #[true, false, false, false, false, false, false, false, false, false, false] rfl rfl (any_of HT_.out (by kernel_rfl)) (fun _ _ _ h => h) (Or.inl ⟨by rfl, ?_⟩) ?_ ?_
    rotate_left
    ·intro w'
     go_simp
     with_reducible rfl
    rotate_left
    ·simp only [Act.put, List.setIfInBounds_toArray, List.set_cons_zero, List.set_cons_succ, i64_w, i32_w]
     rfl
    refine pure_ (i := 1) (N := some 17) (v := ?_) (a' := ?_) #[true, true, false, false, false, false, false, false, false, false, false] rfl rfl (any_of HT_.out (by kernel_rfl)) (fun _ _ _ h => h) (Or.inl ⟨by rfl, ?_⟩) ?_ ?_
    rotate_left
    ·intro w'
     go_simp
     with_reducible rfl
    rotate_left
    ·simp only [Act.put, List.setIfInBounds_toArray, List.set_cons_zero, List.set_cons_succ, i64_w, i32_w]
     rfl
    refine pure_ (i := 6) (N := some 22) (v := ?_) (a' := ?_) #[true, true, false, false, false, false, true, false, false, false, false] rfl rfl (any_of HT_.out (by kernel_rfl)) (fun _ _ _ h => h) (Or.inl ⟨by rfl, ?_⟩) ?_ ?_
    rotate_left
    ·intro w'
     go_simp
     with_reducible rfl
    rotate_left
    ·simp only [Act.put, List.setIfInBounds_toArray, List.set_cons_zero, List.set_cons_succ, i64_w, i32_w]
     rfl
    refine take_ (i := 2) (N := some 18) (v := ?_) (a' := ?_) #[true, true, true, false, false, false, true, false, false, false, false] rfl rfl (take_ofW HT_.out HW_.out (by kernel_rfl)) (fun _ _ _ h => h) (Or.inl ⟨by rfl, ?_⟩) hHeld ?_ ?_
    rotate_left
    ·rintro w' ⟨s0, s1, s2, s3, s4, s5, s6⟩
     go_simp
     with_reducible rfl
    rotate_left
    ·simp only [Act.put, List.setIfInBounds_toArray, List.set_cons_zero, List.set_cons_succ, i64_w, i32_w]
     rfl
    refine pure_ (i := 3) (N := some 19) (v := ?_) (a' := ?_) #[true, true, true, true, false, false, true, false, false, false, false] rfl rfl (any_of HT_.out (by kernel_rfl)) (fun _ _ _ h => h) (Or.inl ⟨by rfl, ?_⟩) ?_ ?_
    rotate_left
    ·intro w'
     go_simp
     with_reducible rfl
    rotate_left
    ·simp only [Act.put, List.setIfInBounds_toArray, List.set_cons_zero, List.set_cons_succ, i64_w, i32_w]
     rfl
    refine pure_ (i := 4) (N := some 20) (v := ?_) (a' := ?_) #[true, true, true, true, true, false, true, false, false, false, false] rfl rfl (any_of HT_.out (by kernel_rfl)) (fun _ _ _ h => h) (Or.inl ⟨by rfl, ?_⟩) ?_ ?_
    rotate_left
    ·intro w'
     go_simp
     with_reducible rfl
    rotate_left
    ·simp only [Act.put, List.setIfInBounds_toArray, List.set_cons_zero, List.set_cons_succ, i64_w, i32_w]
     rfl
    refine take_ (i := 7) (N := some 23) (v := ?_) (a' := ?_) #[true, true, true, true, true, false, true, true, false, false, false] rfl rfl (take_ofW HT_.out HW_.out (by kernel_rfl)) (fun _ _ _ h => h) (Or.inl ⟨by rfl, ?_⟩) hHeld ?_ ?_
    rotate_left
    ·rintro w' ⟨s0, s1, s2, s3, s4, s5, s6⟩
     go_simp
     with_reducible rfl
    rotate_left
    ·simp only [Act.put, List.setIfInBounds_toArray, List.set_cons_zero, List.set_cons_succ, i64_w, i32_w]
     rfl
    refine one_ (i := 5) (N := some 21) #[true, true, true, true, true, true, true, true, false, false, false] rfl rfl (one_of HT_.out (by kernel_rfl)) (by decide) (fun K hK => ?_)
    refine goes_ Try.func26 (by kernel_rfl) rfl #[.pointer (some ⟨g, 0, none⟩), .int .i64 (wrap64 ((wrap64 (2 * a1_5)) + 1))] (by rfl) rfl rfl (by (try simp only [lA, lB, lC]); first | done | rfl | (simp only [lD, lE]; rfl)) ?_
    with_reducible refine (spec_l1Cur_pick.calls g s0_0 t230 t231 (wrap64 ((wrap64 (2 * a1_5)) + 1)) t233 t234 t235 w0 _ ?side1 ?side2 A26.out).mono ?_
    (case side1 => repeat (first | (with_reducible first | exact HI0.out | apply IsS61.alloc | apply IsS61.drewN | apply IsS61.drew | apply IsS61.set_1 | apply IsS61.set_2 | refine IsS61.far ?_ NB0_224.out _ | refine IsS61.far ?_ NB0_225.out _ | refine IsS61.far ?_ NB0_232.out _) | exact HI0.out))
    (case side2 => repeat (first | (with_reducible first | exact HB.out | apply below_alloc | apply pw_below_drewN | apply below_drew1 | refine below_set ?_ (IsS61.ge HI0.out) | refine below_set ?_ GE224.out | refine below_set ?_ GE225.out | refine below_set ?_ GE232.out) | exact HB.out))
    rintro e w29 ⟨rfl, hi, hb, hk⟩
    refine ⟨_, rfl, ?_⟩
    replace BK224 := a_ (KeepBut.blk hk (g' := gb224) (o := .cells #[.int .i64 a1_0, .int .i64 a1_1, .int .i64 a1_2, .int .i64 a1_3, .int .i64 a1_4, .int .i64 a1_5, .int .i64 a1_6] 30 (0, 0)) (pk BK224.out) NB224_0.out (by simp))
    replace BK225 := a_ (KeepBut.blk hk (g' := gb225) (o := .cells #[.bool false, .int .i64 0, .int .i64 0, .int .i64 0] 27 (0, 0)) (pk BK225.out) NB225_0.out (by simp))
    replace BK232 := a_ (KeepBut.blk hk (g' := gb232) (o := .cells #[.bool true, .int .i64 0, .int .i64 (wrap64 (t229 - 20)), .int .i64 0] 27 (0, 0)) (pk BK232.out) NB232_0.out (by simp))
    replace HK := a_ (KeepBut.trans (by repeat (first | (with_reducible first | exact HK.out | apply KeepBut.set_ | apply keep_drewN | apply keep_drew | apply keep_alloc | refine keep_far ?_ GW224.out _ | refine keep_far ?_ GW225.out _ | refine keep_far ?_ GW232.out _) | exact HK.out)) hk (.inl rfl))
    replace HB := a_ (hb)
    replace HI0 := a_ (hi)
    (try clear hb)
    (try clear hb2)
    (try clear hk)
    (try clear hi)
    refine hK.out _ _ ⟨(blk_cell BK224.out 0).trans rfl, (blk_cell BK224.out 1).trans rfl, (blk_cell BK224.out 2).trans rfl, (blk_cell BK224.out 3).trans rfl, (blk_cell BK224.out 4).trans rfl, (blk_cell BK224.out 5).trans rfl, (blk_cell BK224.out 6).trans rfl⟩ (fun hHeld => ?_)
    clear hK K
    refine norm_ (a' := ?_) ?_ ?_
    rotate_left
    ·show Act.put _ (some 21) _ = _
     simp only [Act.put, List.setIfInBounds_toArray, List.set_cons_zero, List.set_cons_succ, i64_w, i32_w]
     rfl
    refine pure_ (i := 8) (N := some 24) (v := ?_) (a' := ?_) #[true, true, true, true, true, true, true, true, true, false, false] rfl rfl (any_of HT_.out (by kernel_rfl)) (fun _ _ _ h => h) (Or.inl ⟨by rfl, ?_⟩) ?_ ?_
    rotate_left
    ·intro w'
     go_simp
     with_reducible rfl
    rotate_left
    ·simp only [Act.put, List.setIfInBounds_toArray, List.set_cons_zero, List.set_cons_succ, i64_w, i32_w]
     rfl
    refine pure_ (i := 9) (N := some 25) (v := ?_) (a' := ?_) #[true, true, true, true, true, true, true, true, true, true, false] rfl rfl (any_of HT_.out (by kernel_rfl)) (fun _ _ _ h => h) (Or.inl ⟨by rfl, ?_⟩) ?_ ?_
    rotate_left
    ·intro w'
     go_simp
     with_reducible rfl
    rotate_left
    ·simp only [Act.put, List.setIfInBounds_toArray, List.set_cons_zero, List.set_cons_succ, i64_w, i32_w]
     rfl
    refine one_ (i := 10) (N := none) #[true, true, true, true, true, true, true, true, true, true, true] rfl rfl (one_of HT_.out (by kernel_rfl)) (by decide) (fun K hK => ?_)
    have hs30 : w29.cell? ⟨gb232, 1, none⟩ = some (.int .i64 0) := (blk_cell BK232.out 1).trans rfl
    have hfs30 := blk_frozen BK232.out 1
    have hns30_0 := NB224_232.out
    have hns30_1 := NB225_232.out
    have hms30_0 := NB232_224.out
    have hms30_1 := NB232_225.out
    refine skip_ (w1 := ?_) (by rfl) rfl ?_ ?_
    rotate_left
    ·go_simp
     rfl
    refine hK.out _ _ ⟨((cell_far (p := ⟨gb232, _, none⟩) NB224_232.out _).trans (hHeld.1)), ((cell_far (p := ⟨gb232, _, none⟩) NB224_232.out _).trans (hHeld.2.1)), ((cell_far (p := ⟨gb232, _, none⟩) NB224_232.out _).trans (hHeld.2.2.1)), ((cell_far (p := ⟨gb232, _, none⟩) NB224_232.out _).trans (hHeld.2.2.2.1)), ((cell_far (p := ⟨gb232, _, none⟩) NB224_232.out _).trans (hHeld.2.2.2.2.1)), ((cell_far (p := ⟨gb232, _, none⟩) NB224_232.out _).trans (hHeld.2.2.2.2.2.1)), ((cell_far (p := ⟨gb232, _, none⟩) NB224_232.out _).trans (hHeld.2.2.2.2.2.2))⟩ (fun hHeld => ?_)
    clear hK K
    refine done_ (done_of HT_.out (by kernel_rfl)) ?_
    try go_wp2
    go_meet
    case rel => exact ⟨_, (t234), (t235), (wrap64 (t233 - a1_5)), H', ⟨by first | omega | exact Nat.le_refl _⟩, ⟨by refine pk ?_; refine blk_far ?_ NB224_232.out _; refine pk ?_; exact BK224.out⟩, ⟨by refine pk ?_; refine blk_far ?_ NB225_232.out _; refine pk ?_; exact BK225.out⟩, ⟨by refine pk ?_; refine blk_put (cs := #[.bool true, .int .i64 0, .int .i64 (wrap64 (t229 - 20)), .int .i64 0]) ?_ 1 _ rfl; refine pk ?_; exact BK232.out⟩, ⟨by repeat (first | (with_reducible first | exact HI0.out | apply IsS61.alloc | apply IsS61.drewN | apply IsS61.drew | apply IsS61.set_1 | apply IsS61.set_2 | refine IsS61.far ?_ NB0_224.out _ | refine IsS61.far ?_ NB0_225.out _ | refine IsS61.far ?_ NB0_232.out _) | exact HI0.out)⟩, ⟨by repeat (first | (with_reducible first | exact HK.out | apply KeepBut.set_ | apply keep_drewN | apply keep_drew | apply keep_alloc | refine keep_far ?_ GW224.out _ | refine keep_far ?_ GW225.out _ | refine keep_far ?_ GW232.out _) | exact HK.out)⟩, ⟨by repeat (first | (with_reducible first | exact HB.out | apply below_alloc | apply pw_below_drewN | apply below_drew1 | refine below_set ?_ (IsS61.ge HI0.out) | refine below_set ?_ GE224.out | refine below_set ?_ GE225.out | refine below_set ?_ GE232.out) | exact HB.out)⟩⟩
   ·rw [if_neg c25] at H
    have c25b0 : decide (0 < a1_5) = false := decide_eq_false c25
    clear c25
    (first | rw [c25b0] | (simp only [i64_w, i32_w]; rw [c25b0]) | skip)
    have H' := Aside0.mk H
    clear H
    go_wp2
    go_meet
    case rel => exact ⟨_, (t230), (t231), (0), H', ⟨by first | omega | exact Nat.le_refl _⟩, ⟨by refine pk ?_; refine blk_far ?_ NB224_232.out _; refine pk ?_; refine blk_far ?_ NB224_232.out _; refine pk ?_; refine blk_far ?_ NB224_232.out _; refine pk ?_; refine blk_far ?_ NB224_232.out _; refine pk ?_; exact BK224.out⟩, ⟨by refine pk ?_; refine blk_far ?_ NB225_232.out _; refine pk ?_; refine blk_far ?_ NB225_232.out _; refine pk ?_; refine blk_far ?_ NB225_232.out _; refine pk ?_; refine blk_far ?_ NB225_232.out _; refine pk ?_; exact BK225.out⟩, ⟨by refine pk ?_; refine blk_put (cs := #[.bool true, .int .i64 0, .int .i64 (wrap64 (t229 - 20)), .int .i64 0]) ?_ 3 _ rfl; refine pk ?_; refine blk_put (cs := #[.bool true, .int .i64 0, .int .i64 0, .int .i64 0]) ?_ 2 _ rfl; refine pk ?_; refine blk_put (cs := #[.bool true, .int .i64 0, .int .i64 0, .int .i64 0]) ?_ 1 _ rfl; refine pk ?_; refine blk_put (cs := #[.bool false, .int .i64 0, .int .i64 0, .int .i64 0]) ?_ 0 _ rfl; refine pk ?_; exact BK232.out⟩, ⟨by repeat (first | (with_reducible first | exact HI0.out | apply IsS61.alloc | apply IsS61.drewN | apply IsS61.drew | apply IsS61.set_1 | apply IsS61.set_2 | refine IsS61.far ?_ NB0_224.out _ | refine IsS61.far ?_ NB0_225.out _ | refine IsS61.far ?_ NB0_232.out _) | exact HI0.out)⟩, ⟨by repeat (first | (with_reducible first | exact HK.out | apply KeepBut.set_ | apply keep_drewN | apply keep_drew | apply keep_alloc | refine keep_far ?_ GW224.out _ | refine keep_far ?_ GW225.out _ | refine keep_far ?_ GW232.out _) | exact HK.out)⟩, ⟨by repeat (first | (with_reducible first | exact HB.out | apply below_alloc | apply pw_below_drewN | apply below_drew1 | refine below_set ?_ (IsS61.ge HI0.out) | refine below_set ?_ GE224.out | refine below_set ?_ GE225.out | refine below_set ?_ GE232.out) | exact HB.out)⟩⟩
  case rest =>
   clear HC12
   try clear c1
   try clear c2
   try clear p2
   try clear c3
   try clear c4
   try clear p6
   try clear c8
   try clear c9
   try clear c18
   try clear c19
   try clear c20
   try clear c22
   try clear c23
   try clear c25
   try clear c25b0
   try clear c26
   try clear c27
   try clear hcz10_0
   try clear hcz10_1
   try clear hcz10_2
   try clear hcz10_3
   try clear hcz21_0
   try clear hcz21_1
   try clear hcz21_2
   try clear hcz21_3
   try clear hcz24_0
   try clear hcz24_1
   try clear hcz24_2
   try clear hcz24_3
   try clear hcz24_4
   try clear hcz24_5
   try clear hcz24_6
   try clear hfz10_0
   try clear hfz10_1
   try clear hfz10_2
   try clear hfz10_3
   try clear hfz21_0
   try clear hfz21_1
   try clear hfz21_2
   try clear hfz21_3
   try clear hfz24_0
   try clear hfz24_1
   try clear hfz24_2
   try clear hfz24_3
   try clear hfz24_4
   try clear hfz24_5
   try clear hfz24_6
   obtain ⟨kq, x1001_11, x1002_11, x233001_11, HA, HJ11, BK224, BK225, BK232, HI0, HK, HB⟩ := hcut
   cases kq with
   | zero => exact absurd HA.out (by simp [spec_l1Cur_hold.j0])
   | succ kj11 =>
    have H := HA.out
    clear HA
    simp only [spec_l1Cur_hold.j0] at H
    have HC31 := Aside0.mk H
    clear H
    have hnb32 := NB224_225.out
    have hnc32 := NB225_224.out
    have hnb33 := NB224_232.out
    have hnc33 := NB232_224.out
    have hnb34 := NB224_0.out
    have hnc34 := NB0_224.out
    have hcz35_0 : wc.cell? ⟨gb224, 0, none⟩ = some (.int .i64 a1_0) := (blk_cell BK224.out 0).trans rfl
    have hcz35_1 : wc.cell? ⟨gb224, 1, none⟩ = some (.int .i64 a1_1) := (blk_cell BK224.out 1).trans rfl
    have hcz35_2 : wc.cell? ⟨gb224, 2, none⟩ = some (.int .i64 a1_2) := (blk_cell BK224.out 2).trans rfl
    have hcz35_3 : wc.cell? ⟨gb224, 3, none⟩ = some (.int .i64 a1_3) := (blk_cell BK224.out 3).trans rfl
    have hcz35_4 : wc.cell? ⟨gb224, 4, none⟩ = some (.int .i64 a1_4) := (blk_cell BK224.out 4).trans rfl
    have hcz35_5 : wc.cell? ⟨gb224, 5, none⟩ = some (.int .i64 a1_5) := (blk_cell BK224.out 5).trans rfl
    have hcz35_6 : wc.cell? ⟨gb224, 6, none⟩ = some (.int .i64 a1_6) := (blk_cell BK224.out 6).trans rfl
    have hfz35_0 := blk_frozen BK224.out 0
    have hfz35_1 := blk_frozen BK224.out 1
    have hfz35_2 := blk_frozen BK224.out 2
    have hfz35_3 := blk_frozen BK224.out 3
    have hfz35_4 := blk_frozen BK224.out 4
    have hfz35_5 := blk_frozen BK224.out 5
    have hfz35_6 := blk_frozen BK224.out 6
    go_upto_if 28 with (fail)
    go_cut [] (fun wc => ∃ (kq : Nat) (x1001_30 : Int) (x1002_30 : Int) (x233003_30 : Int), Aside0 (spec_l1Cur_hold.j1 kq s0_0 x1001_30 x1002_30 a1_0 a1_1 a1_2 a1_3 a1_4 a1_5 a1_6 true x233001_11 (wrap64 (t229 - 20)) x233003_30 = some (r1, r2, r3, r4, r5, r6)) ∧ Aside0 (kq ≤ kj11) ∧ Aside0 (wc.heap[gb224]? = some (.cells #[.int .i64 a1_0, .int .i64 a1_1, .int .i64 a1_2, .int .i64 a1_3, .int .i64 a1_4, .int .i64 a1_5, .int .i64 a1_6] 30 (0, 0))) ∧ Aside0 (wc.heap[gb225]? = some (.cells #[.bool false, .int .i64 0, .int .i64 0, .int .i64 0] 27 (0, 0))) ∧ Aside0 (wc.heap[gb232]? = some (.cells #[.bool true, .int .i64 x233001_11, .int .i64 (wrap64 (t229 - 20)), .int .i64 x233003_30] 27 (0, 0))) ∧ Aside0 (IsS61 w0 wc g s0_0 x1001_30 x1002_30) ∧ Aside0 (KeepBut w wc g none) ∧ Aside0 (Below w0.heap.size w0 wc))
    case first =>
     have H := HC31.out
     clear HC31
     by_cases c36 : a1_4 > 0
     ·rw [if_pos c36] at H
      have c36b0 : decide (0 < a1_4) = true := decide_eq_true c36
      clear c36
      (first | rw [c36b0] | (simp only [i64_w, i32_w]; rw [c36b0]) | skip)
      replace H := Option.bind_eq_some_iff.mp H
      obtain ⟨⟨t236, t237, t238⟩, A370, H⟩ := H
      replace H : (spec_l1Cur_hold.j1 kj11 s0_0 t237 t238 a1_0 a1_1 a1_2 a1_3 a1_4 a1_5 a1_6 true x233001_11 (wrap64 (t229 - 20)) (wrap64 (t236 - a1_4))) = some (r1, r2, r3, r4, r5, r6) := H
      have A37 := Aside0.mk A370
      clear A370
      have H' := Aside0.mk H
      clear H
      try go_wp2
      replace BK224 := a_ (blk_drew BK224.out)
      replace BK225 := a_ (blk_drew BK225.out)
      replace BK232 := a_ (blk_drew BK232.out)
      replace HI0 := a_ (IsS61.drew HI0.out)
      replace HK := a_ (keep_drew HK.out)
      replace HB := a_ (below_drew1 HB.out)
      refine start_ (n := 11) (S := fun w' => w'.cell? ⟨gb224, 0, none⟩ = some (.int .i64 a1_0) ∧ w'.cell? ⟨gb224, 1, none⟩ = some (.int .i64 a1_1) ∧ w'.cell? ⟨gb224, 2, none⟩ = some (.int .i64 a1_2) ∧ w'.cell? ⟨gb224, 3, none⟩ = some (.int .i64 a1_3) ∧ w'.cell? ⟨gb224, 4, none⟩ = some (.int .i64 a1_4) ∧ w'.cell? ⟨gb224, 5, none⟩ = some (.int .i64 a1_5) ∧ w'.cell? ⟨gb224, 6, none⟩ = some (.int .i64 a1_6)) (ds := []) #[false, false, false, false, false, false, false, false, false, false, false] (by kernel_rfl) rfl rfl ⟨(blk_cell BK224.out 0).trans rfl, (blk_cell BK224.out 1).trans rfl, (blk_cell BK224.out 2).trans rfl, (blk_cell BK224.out 3).trans rfl, (blk_cell BK224.out 4).trans rfl, (blk_cell BK224.out 5).trans rfl, (blk_cell BK224.out 6).trans rfl⟩ (fun hHeld => ?_); refine with_tabW spec_l1Cur_hold.tab7 spec_l1Cur_hold.bits7 (fun HT_ HW_ => ?_)
      generalize wc.drew = w38 at BK224 BK225 BK232 HI0 HK HB hHeld ⊢
      refine pure_ (i := 0) (N := some 29) (v := ?_) (a' := ?_) #[true, false, false, false, false, false, false, false, false, false, false] rfl rfl (any_of HT_.out (by kernel_rfl)) (fun _ _ _ h => h) (Or.inl ⟨by rfl, ?_⟩) ?_ ?_
      rotate_left
      ·intro w'
       go_simp
       with_reducible rfl
      rotate_left
      ·simp only [Act.put, List.setIfInBounds_toArray, List.set_cons_zero, List.set_cons_succ, i64_w, i32_w]
       rfl
      refine pure_ (i := 1) (N := some 30) (v := ?_) (a' := ?_) #[true, true, false, false, false, false, false, false, false, false, false] rfl rfl (any_of HT_.out (by kernel_rfl)) (fun _ _ _ h => h) (Or.inl ⟨by rfl, ?_⟩) ?_ ?_
      rotate_left
      ·intro w'
       go_simp
       with_reducible rfl
      rotate_left
      ·simp only [Act.put, List.setIfInBounds_toArray, List.set_cons_zero, List.set_cons_succ, i64_w, i32_w]
       rfl
      refine pure_ (i := 6) (N := some 35) (v := ?_) (a' := ?_) #[true, true, false, false, false, false, true, false, false, false, false] rfl rfl (any_of HT_.out (by kernel_rfl)) (fun _ _ _ h => h) (Or.inl ⟨by rfl, ?_⟩) ?_ ?_
      rotate_left
      ·intro w'
       go_simp
       with_reducible rfl
      rotate_left
      ·simp only [Act.put, List.setIfInBounds_toArray, List.set_cons_zero, List.set_cons_succ, i64_w, i32_w]
       rfl
      refine take_ (i := 2) (N := some 31) (v := ?_) (a' := ?_) #[true, true, true, false, false, false, true, false, false, false, false] rfl rfl (take_ofW HT_.out HW_.out (by kernel_rfl)) (fun _ _ _ h => h) (Or.inl ⟨by rfl, ?_⟩) hHeld ?_ ?_
      rotate_left
      ·rintro w' ⟨s0, s1, s2, s3, s4, s5, s6⟩
       go_simp
       with_reducible rfl
      rotate_left
      ·simp only [Act.put, List.setIfInBounds_toArray, List.set_cons_zero, List.set_cons_succ, i64_w, i32_w]
       rfl
      refine pure_ (i := 3) (N := some 32) (v := ?_) (a' := ?_) #[true, true, true, true, false, false, true, false, false, false, false] rfl rfl (any_of HT_.out (by kernel_rfl)) (fun _ _ _ h => h) (Or.inl ⟨by rfl, ?_⟩) ?_ ?_
      rotate_left
      ·intro w'
       go_simp
       with_reducible rfl
      rotate_left
      ·simp only [Act.put, List.setIfInBounds_toArray, List.set_cons_zero, List.set_cons_succ, i64_w, i32_w]
       rfl
      refine pure_ (i := 4) (N := some 33) (v := ?_) (a' := ?_) #[true, true, true, true, true, false, true, false, false, false, false] rfl rfl (any_of HT_.out (by kernel_rfl)) (fun _ _ _ h => h) (Or.inl ⟨by rfl, ?_⟩) ?_ ?_
      rotate_left
      ·intro w'
       go_simp
       with_reducible rfl
      rotate_left
      ·simp only [Act.put, List.setIfInBounds_toArray, List.set_cons_zero, List.set_cons_succ, i64_w, i32_w]
       rfl
      refine take_ (i := 7) (N := some 36) (v := ?_) (a' := ?_) #[true, true, true, true, true, false, true, true, false, false, false] rfl rfl (take_ofW HT_.out HW_.out (by kernel_rfl)) (fun _ _ _ h => h) (Or.inl ⟨by rfl, ?_⟩) hHeld ?_ ?_
      rotate_left
      ·rintro w' ⟨s0, s1, s2, s3, s4, s5, s6⟩
       go_simp
       with_reducible rfl
      rotate_left
      ·simp only [Act.put, List.setIfInBounds_toArray, List.set_cons_zero, List.set_cons_succ, i64_w, i32_w]
       rfl
      refine one_ (i := 5) (N := some 34) #[true, true, true, true, true, true, true, true, false, false, false] rfl rfl (one_of HT_.out (by kernel_rfl)) (by decide) (fun K hK => ?_)
      refine goes_ Try.func26 (by kernel_rfl) rfl #[.pointer (some ⟨g, 0, none⟩), .int .i64 (wrap64 ((wrap64 (2 * a1_4)) + 1))] (by rfl) rfl rfl (by (try simp only [lA, lB, lC]); first | done | rfl | (simp only [lD, lE]; rfl)) ?_
      with_reducible refine (spec_l1Cur_pick.calls g s0_0 x1001_11 x1002_11 (wrap64 ((wrap64 (2 * a1_4)) + 1)) t236 t237 t238 w0 _ ?side1 ?side2 A37.out).mono ?_
      (case side1 => repeat (first | (with_reducible first | exact HI0.out | apply IsS61.alloc | apply IsS61.drewN | apply IsS61.drew | apply IsS61.set_1 | apply IsS61.set_2 | refine IsS61.far ?_ NB0_224.out _ | refine IsS61.far ?_ NB0_225.out _ | refine IsS61.far ?_ NB0_232.out _) | exact HI0.out))
      (case side2 => repeat (first | (with_reducible first | exact HB.out | apply below_alloc | apply pw_below_drewN | apply below_drew1 | refine below_set ?_ (IsS61.ge HI0.out) | refine below_set ?_ GE224.out | refine below_set ?_ GE225.out | refine below_set ?_ GE232.out) | exact HB.out))
      rintro e w39 ⟨rfl, hi, hb, hk⟩
      refine ⟨_, rfl, ?_⟩
      replace BK224 := a_ (KeepBut.blk hk (g' := gb224) (o := .cells #[.int .i64 a1_0, .int .i64 a1_1, .int .i64 a1_2, .int .i64 a1_3, .int .i64 a1_4, .int .i64 a1_5, .int .i64 a1_6] 30 (0, 0)) (pk BK224.out) NB224_0.out (by simp))
      replace BK225 := a_ (KeepBut.blk hk (g' := gb225) (o := .cells #[.bool false, .int .i64 0, .int .i64 0, .int .i64 0] 27 (0, 0)) (pk BK225.out) NB225_0.out (by simp))
      replace BK232 := a_ (KeepBut.blk hk (g' := gb232) (o := .cells #[.bool true, .int .i64 x233001_11, .int .i64 (wrap64 (t229 - 20)), .int .i64 0] 27 (0, 0)) (pk BK232.out) NB232_0.out (by simp))
      replace HK := a_ (KeepBut.trans (by repeat (first | (with_reducible first | exact HK.out | apply KeepBut.set_ | apply keep_drewN | apply keep_drew | apply keep_alloc | refine keep_far ?_ GW224.out _ | refine keep_far ?_ GW225.out _ | refine keep_far ?_ GW232.out _) | exact HK.out)) hk (.inl rfl))
      replace HB := a_ (hb)
      replace HI0 := a_ (hi)
      (try clear hb)
      (try clear hb2)
      (try clear hk)
      (try clear hi)
      refine hK.out _ _ ⟨(blk_cell BK224.out 0).trans rfl, (blk_cell BK224.out 1).trans rfl, (blk_cell BK224.out 2).trans rfl, (blk_cell BK224.out 3).trans rfl, (blk_cell BK224.out 4).trans rfl, (blk_cell BK224.out 5).trans rfl, (blk_cell BK224.out 6).trans rfl⟩ (fun hHeld => ?_)
      clear hK K
      refine norm_ (a' := ?_) ?_ ?_
      rotate_left
      ·show Act.put _ (some 34) _ = _
       simp only [Act.put, List.setIfInBounds_toArray, List.set_cons_zero, List.set_cons_succ, i64_w, i32_w]
       rfl
      refine pure_ (i := 8) (N := some 37) (v := ?_) (a' := ?_) #[true, true, true, true, true, true, true, true, true, false, false] rfl rfl (any_of HT_.out (by kernel_rfl)) (fun _ _ _ h => h) (Or.inl ⟨by rfl, ?_⟩) ?_ ?_
      rotate_left
      ·intro w'
       go_simp
       with_reducible rfl
      rotate_left
      ·simp only [Act.put, List.setIfInBounds_toArray, List.set_cons_zero, List.set_cons_succ, i64_w, i32_w]
       rfl
      refine pure_ (i := 9) (N := some 38) (v := ?_) (a' := ?_) #[true, true, true, true, true, true, true, true, true, true, false] rfl rfl (any_of HT_.out (by kernel_rfl)) (fun _ _ _ h => h) (Or.inl ⟨by rfl, ?_⟩) ?_ ?_
      rotate_left
      ·intro w'
       go_simp
       with_reducible rfl
      rotate_left
      ·simp only [Act.put, List.setIfInBounds_toArray, List.set_cons_zero, List.set_cons_succ, i64_w, i32_w]
       rfl
      refine one_ (i := 10) (N := none) #[true, true, true, true, true, true, true, true, true, true, true] rfl rfl (one_of HT_.out (by kernel_rfl)) (by decide) (fun K hK => ?_)
      have hs40 : w39.cell? ⟨gb232, 3, none⟩ = some (.int .i64 0) := (blk_cell BK232.out 3).trans rfl
      have hfs40 := blk_frozen BK232.out 3
      have hns40_0 := NB224_232.out
      have hns40_1 := NB225_232.out
      have hms40_0 := NB232_224.out
      have hms40_1 := NB232_225.out
      refine skip_ (w1 := ?_) (by rfl) rfl ?_ ?_
      rotate_left
      ·go_simp
       rfl
      refine hK.out _ _ ⟨((cell_far (p := ⟨gb232, _, none⟩) NB224_232.out _).trans (hHeld.1)), ((cell_far (p := ⟨gb232, _, none⟩) NB224_232.out _).trans (hHeld.2.1)), ((cell_far (p := ⟨gb232, _, none⟩) NB224_232.out _).trans (hHeld.2.2.1)), ((cell_far (p := ⟨gb232, _, none⟩) NB224_232.out _).trans (hHeld.2.2.2.1)), ((cell_far (p := ⟨gb232, _, none⟩) NB224_232.out _).trans (hHeld.2.2.2.2.1)), ((cell_far (p := ⟨gb232, _, none⟩) NB224_232.out _).trans (hHeld.2.2.2.2.2.1)), ((cell_far (p := ⟨gb232, _, none⟩) NB224_232.out _).trans (hHeld.2.2.2.2.2.2))⟩ (fun hHeld => ?_)
      clear hK K
      refine done_ (done_of HT_.out (by kernel_rfl)) ?_
      try go_wp2
      go_meet
      case rel => exact ⟨_, (t237), (t238), (wrap64 (t236 - a1_4)), H', ⟨by have := HJ11.out; first | omega | exact Nat.le_refl _⟩, ⟨by refine pk ?_; refine blk_far ?_ NB224_232.out _; refine pk ?_; exact BK224.out⟩, ⟨by refine pk ?_; refine blk_far ?_ NB225_232.out _; refine pk ?_; exact BK225.out⟩, ⟨by refine pk ?_; refine blk_put (cs := #[.bool true, .int .i64 x233001_11, .int .i64 (wrap64 (t229 - 20)), .int .i64 0]) ?_ 3 _ rfl; refine pk ?_; exact BK232.out⟩, ⟨by repeat (first | (with_reducible first | exact HI0.out | apply IsS61.alloc | apply IsS61.drewN | apply IsS61.drew | apply IsS61.set_1 | apply IsS61.set_2 | refine IsS61.far ?_ NB0_224.out _ | refine IsS61.far ?_ NB0_225.out _ | refine IsS61.far ?_ NB0_232.out _) | exact HI0.out)⟩, ⟨by repeat (first | (with_reducible first | exact HK.out | apply KeepBut.set_ | apply keep_drewN | apply keep_drew | apply keep_alloc | refine keep_far ?_ GW224.out _ | refine keep_far ?_ GW225.out _ | refine keep_far ?_ GW232.out _) | exact HK.out)⟩, ⟨by repeat (first | (with_reducible first | exact HB.out | apply below_alloc | apply pw_below_drewN | apply below_drew1 | refine below_set ?_ (IsS61.ge HI0.out) | refine below_set ?_ GE224.out | refine below_set ?_ GE225.out | refine below_set ?_ GE232.out) | exact HB.out)⟩⟩
     ·rw [if_neg c36] at H
      have c36b0 : decide (0 < a1_4) = false := decide_eq_false c36
      clear c36
      (first | rw [c36b0] | (simp only [i64_w, i32_w]; rw [c36b0]) | skip)
      have H' := Aside0.mk H
      clear H
      go_wp2
      go_meet
      case rel => exact ⟨_, (x1001_11), (x1002_11), (0), H', ⟨by have := HJ11.out; first | omega | exact Nat.le_refl _⟩, ⟨pk BK224.out⟩, ⟨pk BK225.out⟩, ⟨pk BK232.out⟩, ⟨by repeat (first | (with_reducible first | exact HI0.out | apply IsS61.alloc | apply IsS61.drewN | apply IsS61.drew | apply IsS61.set_1 | apply IsS61.set_2 | refine IsS61.far ?_ NB0_224.out _ | refine IsS61.far ?_ NB0_225.out _ | refine IsS61.far ?_ NB0_232.out _) | exact HI0.out)⟩, ⟨by repeat (first | (with_reducible first | exact HK.out | apply KeepBut.set_ | apply keep_drewN | apply keep_drew | apply keep_alloc | refine keep_far ?_ GW224.out _ | refine keep_far ?_ GW225.out _ | refine keep_far ?_ GW232.out _) | exact HK.out)⟩, ⟨by repeat (first | (with_reducible first | exact HB.out | apply below_alloc | apply pw_below_drewN | apply below_drew1 | refine below_set ?_ (IsS61.ge HI0.out) | refine below_set ?_ GE224.out | refine below_set ?_ GE225.out | refine below_set ?_ GE232.out) | exact HB.out)⟩⟩
    case rest =>
     clear HC31
     try clear c1
     try clear c2
     try clear p2
     try clear c3
     try clear c4
     try clear p6
     try clear c8
     try clear c9
     try clear c18
     try clear c19
     try clear c20
     try clear c22
     try clear c23
     try clear c25
     try clear c25b0
     try clear c26
     try clear c27
     try clear c31
     try clear c32
     try clear c33
     try clear c34
     try clear c36
     try clear c36b0
     try clear hcz10_0
     try clear hcz10_1
     try clear hcz10_2
     try clear hcz10_3
     try clear hcz21_0
     try clear hcz21_1
     try clear hcz21_2
     try clear hcz21_3
     try clear hcz24_0
     try clear hcz24_1
     try clear hcz24_2
     try clear hcz24_3
     try clear hcz24_4
     try clear hcz24_5
     try clear hcz24_6
     try clear hcz35_0
     try clear hcz35_1
     try clear hcz35_2
     try clear hcz35_3
     try clear hcz35_4
     try clear hcz35_5
     try clear hcz35_6
     try clear hfz10_0
     try clear hfz10_1
     try clear hfz10_2
     try clear hfz10_3
     try clear hfz21_0
     try clear hfz21_1
     try clear hfz21_2
     try clear hfz21_3
     try clear hfz24_0
     try clear hfz24_1
     try clear hfz24_2
     try clear hfz24_3
     try clear hfz24_4
     try clear hfz24_5
     try clear hfz24_6
     try clear hfz35_0
     try clear hfz35_1
     try clear hfz35_2
     try clear hfz35_3
     try clear hfz35_4
     try clear hfz35_5
     try clear hfz35_6
     try clear p2
     try clear p6
     obtain ⟨kq, x1001_30, x1002_30, x233003_30, HA, HJ30, BK224, BK225, BK232, HI0, HK, HB⟩ := hcut
     cases kq with
     | zero => exact absurd HA.out (by simp [spec_l1Cur_hold.j1])
     | succ kj30 =>
      have H := HA.out
      clear HA
      simp only [spec_l1Cur_hold.j1] at H
      replace H := Option.bind_eq_some_iff.mp H
      obtain ⟨⟨t239, t240, t241⟩, A410, H⟩ := H
      replace H : (if t239 = 0 then (some (false, x233001_11, (wrap64 (t229 - 20)), x233003_30, t240, t241)) else (if t239 = 1 then (some (true, wrap64 (a1_5 + 1), (wrap64 (t229 - 20)), x233003_30, t240, t241)) else (if t239 = 2 then ((spec_l1Cur_among.f s0_0 t240 t241 ([2000000, 2000001] : List Int)).bind fun bt245 => (some (true, x233001_11, bt245.1, x233003_30, bt245.2.1, bt245.2.2))) else (some (true, x233001_11, (wrap64 (t229 - 20)), x233003_30, t240, t241))))) = some (r1, r2, r3, r4, r5, r6) := H
      have A41 := Aside0.mk A410
      clear A410
      by_cases c42 : t239 = 0
      ·rw [if_pos c42] at H
       have c42b0 : (t239 == 0) = true := beq_iff_eq.mpr c42
       have c42b1 : (t239 != 0) = false := bne_eq_false_iff_eq.mpr c42
       clear c42
       simp only [Option.some.injEq, Prod.mk.injEq] at H
       obtain ⟨rfl, rfl, rfl, rfl, rfl, rfl⟩ := H
       go_wp2_with (first | ((with_reducible refine gate_callee (f := 26) rfl ?_); refine goesL_ (some 40) rfl rfl Try.func26 (by kernel_rfl) rfl #[.pointer (some ⟨g, 0, none⟩), .int .i64 24] rfl (by (try simp only [lA, lB, lC]); first | done | rfl | (simp only [lD, lE]; rfl)) ?_; (with_reducible refine (spec_l1Cur_pick.calls g s0_0 x1001_30 x1002_30 24 t239 t240 t241 w0 _ ?side1 ?side2 A41.out).mono ?_); (case side1 => repeat (first | (with_reducible first | exact HI0.out | apply IsS61.alloc | apply IsS61.drewN | apply IsS61.drew | apply IsS61.set_1 | apply IsS61.set_2 | refine IsS61.far ?_ NB0_224.out _ | refine IsS61.far ?_ NB0_225.out _ | refine IsS61.far ?_ NB0_232.out _) | exact HI0.out)); (case side2 => repeat (first | (with_reducible first | exact HB.out | apply below_alloc | apply pw_below_drewN | apply below_drew1 | refine below_set ?_ (IsS61.ge HI0.out) | refine below_set ?_ GE224.out | refine below_set ?_ GE225.out | refine below_set ?_ GE232.out) | exact HB.out)); rintro e w43 ⟨rfl, hi, hb, hk⟩; refine ⟨_, rfl, ?_⟩; replace BK224 := a_ (KeepBut.blk hk (g' := gb224) (o := .cells #[.int .i64 a1_0, .int .i64 a1_1, .int .i64 a1_2, .int .i64 a1_3, .int .i64 a1_4, .int .i64 a1_5, .int .i64 a1_6] 30 (0, 0)) (pk BK224.out) NB224_0.out (by simp)); replace BK225 := a_ (KeepBut.blk hk (g' := gb225) (o := .cells #[.bool false, .int .i64 0, .int .i64 0, .int .i64 0] 27 (0, 0)) (pk BK225.out) NB225_0.out (by simp)); replace BK232 := a_ (KeepBut.blk hk (g' := gb232) (o := .cells #[.bool true, .int .i64 x233001_11, .int .i64 (wrap64 (t229 - 20)), .int .i64 x233003_30] 27 (0, 0)) (pk BK232.out) NB232_0.out (by simp)); replace HK := a_ (KeepBut.trans (by repeat (first | (with_reducible first | exact HK.out | apply KeepBut.set_ | apply keep_drewN | apply keep_drew | apply keep_alloc | refine keep_far ?_ GW224.out _ | refine keep_far ?_ GW225.out _ | refine keep_far ?_ GW232.out _) | exact HK.out)) hk (.inl rfl)); replace HB := a_ (hb); replace HI0 := a_ (hi); clear hb hk hi; have hnb44 := NB232_224.out; have hnc44 := NB224_232.out; have hnb45 := NB232_225.out; have hnc45 := NB225_232.out; have hnb46 := NB232_0.out; have hnc46 := NB0_232.out; have hcz47_0 : _ = some (Value.bool true) := (blk_cell BK232.out 0).trans rfl; have hcz47_1 : _ = some (Value.int .i64 x233001_11) := (blk_cell BK232.out 1).trans rfl; have hcz47_2 : _ = some (Value.int .i64 (wrap64 (t229 - 20))) := (blk_cell BK232.out 2).trans rfl; have hcz47_3 : _ = some (Value.int .i64 x233003_30) := (blk_cell BK232.out 3).trans rfl; have hfz47_0 := blk_frozen BK232.out 0; have hfz47_1 := blk_frozen BK232.out 1; have hfz47_2 := blk_frozen BK232.out 2; have hfz47_3 := blk_frozen BK232.out 3; have hnb48 := NB225_224.out; have hnc48 := NB224_225.out; have hnb49 := NB225_0.out; have hnc49 := NB0_225.out; have hcz50_0 : _ = some (Value.bool false) := (blk_cell BK225.out 0).trans rfl; have hcz50_1 : _ = some (Value.int .i64 0) := (blk_cell BK225.out 1).trans rfl; have hcz50_2 : _ = some (Value.int .i64 0) := (blk_cell BK225.out 2).trans rfl; have hcz50_3 : _ = some (Value.int .i64 0) := (blk_cell BK225.out 3).trans rfl; have hfz50_0 := blk_frozen BK225.out 0; have hfz50_1 := blk_frozen BK225.out 1; have hfz50_2 := blk_frozen BK225.out 2; have hfz50_3 := blk_frozen BK225.out 3))
       refine bodyPost_ret (results_cell_row rfl _ _ gb225 27 #[.bool false, .int .i64 x233001_11, .int .i64 (wrap64 (t229 - 20)), .int .i64 x233003_30] (0, 0) _ rfl (by refine pk ?_; refine blk_put (cs := #[.bool false, .int .i64 x233001_11, .int .i64 (wrap64 (t229 - 20)), .int .i64 0]) ?_ 3 _ rfl; refine pk ?_; refine blk_put (cs := #[.bool false, .int .i64 x233001_11, .int .i64 0, .int .i64 0]) ?_ 2 _ rfl; refine pk ?_; refine blk_put (cs := #[.bool false, .int .i64 0, .int .i64 0, .int .i64 0]) ?_ 1 _ rfl; refine pk ?_; refine blk_put (cs := #[.bool false, .int .i64 0, .int .i64 0, .int .i64 0]) ?_ 0 _ rfl; refine pk ?_; refine blk_far ?_ NB225_232.out _; refine pk ?_; exact BK225.out) Try.underlying27 rfl (by kernel_rfl)) rfl ?_
       exact ⟨by first | rfl | (simp [errW_none, errW_some] <;> rfl) | (simp [*, errW_none, errW_some] <;> rfl), by repeat (first | (with_reducible first | exact HI0.out | apply IsS61.alloc | apply IsS61.drewN | apply IsS61.drew | apply IsS61.set_1 | apply IsS61.set_2 | refine IsS61.far ?_ NB0_224.out _ | refine IsS61.far ?_ NB0_225.out _ | refine IsS61.far ?_ NB0_232.out _) | exact HI0.out), by repeat (first | (with_reducible first | exact HB.out | apply below_alloc | apply pw_below_drewN | apply below_drew1 | refine below_set ?_ (IsS61.ge HI0.out) | refine below_set ?_ GE224.out | refine below_set ?_ GE225.out | refine below_set ?_ GE232.out) | exact HB.out), by repeat (first | (with_reducible first | exact HK.out | apply KeepBut.set_ | apply keep_drewN | apply keep_drew | apply keep_alloc | refine keep_far ?_ GW224.out _ | refine keep_far ?_ GW225.out _ | refine keep_far ?_ GW232.out _) | exact HK.out)⟩
      ·rw [if_neg c42] at H
       have c42b0 : (t239 == 0) = false := beq_eq_false_iff_ne.mpr c42
       have c42b1 : (t239 != 0) = true := bne_iff_ne.mpr c42
       by_cases c51 : t239 = 1
       ·rw [if_pos c51] at H
        have c51b0 : (t239 == 1) = true := beq_iff_eq.mpr c51
        have c51b1 : (t239 != 1) = false := bne_eq_false_iff_eq.mpr c51
        clear c51
        simp only [Option.some.injEq, Prod.mk.injEq] at H
        obtain ⟨rfl, rfl, rfl, rfl, rfl, rfl⟩ := H
        go_wp2_with (first | ((with_reducible refine gate_callee (f := 26) rfl ?_); refine goesL_ (some 40) rfl rfl Try.func26 (by kernel_rfl) rfl #[.pointer (some ⟨g, 0, none⟩), .int .i64 24] rfl (by (try simp only [lA, lB, lC]); first | done | rfl | (simp only [lD, lE]; rfl)) ?_; (with_reducible refine (spec_l1Cur_pick.calls g s0_0 x1001_30 x1002_30 24 t239 t240 t241 w0 _ ?side1 ?side2 A41.out).mono ?_); (case side1 => repeat (first | (with_reducible first | exact HI0.out | apply IsS61.alloc | apply IsS61.drewN | apply IsS61.drew | apply IsS61.set_1 | apply IsS61.set_2 | refine IsS61.far ?_ NB0_224.out _ | refine IsS61.far ?_ NB0_225.out _ | refine IsS61.far ?_ NB0_232.out _) | exact HI0.out)); (case side2 => repeat (first | (with_reducible first | exact HB.out | apply below_alloc | apply pw_below_drewN | apply below_drew1 | refine below_set ?_ (IsS61.ge HI0.out) | refine below_set ?_ GE224.out | refine below_set ?_ GE225.out | refine below_set ?_ GE232.out) | exact HB.out)); rintro e w52 ⟨rfl, hi, hb, hk⟩; refine ⟨_, rfl, ?_⟩; replace BK224 := a_ (KeepBut.blk hk (g' := gb224) (o := .cells #[.int .i64 a1_0, .int .i64 a1_1, .int .i64 a1_2, .int .i64 a1_3, .int .i64 a1_4, .int .i64 a1_5, .int .i64 a1_6] 30 (0, 0)) (pk BK224.out) NB224_0.out (by simp)); replace BK225 := a_ (KeepBut.blk hk (g' := gb225) (o := .cells #[.bool false, .int .i64 0, .int .i64 0, .int .i64 0] 27 (0, 0)) (pk BK225.out) NB225_0.out (by simp)); replace BK232 := a_ (KeepBut.blk hk (g' := gb232) (o := .cells #[.bool true, .int .i64 x233001_11, .int .i64 (wrap64 (t229 - 20)), .int .i64 x233003_30] 27 (0, 0)) (pk BK232.out) NB232_0.out (by simp)); replace HK := a_ (KeepBut.trans (by repeat (first | (with_reducible first | exact HK.out | apply KeepBut.set_ | apply keep_drewN | apply keep_drew | apply keep_alloc | refine keep_far ?_ GW224.out _ | refine keep_far ?_ GW225.out _ | refine keep_far ?_ GW232.out _) | exact HK.out)) hk (.inl rfl)); replace HB := a_ (hb); replace HI0 := a_ (hi); clear hb hk hi; have hnb53 := NB224_225.out; have hnc53 := NB225_224.out; have hnb54 := NB224_232.out; have hnc54 := NB232_224.out; have hnb55 := NB224_0.out; have hnc55 := NB0_224.out; have hcz56_0 : _ = some (Value.int .i64 a1_0) := (blk_cell BK224.out 0).trans rfl; have hcz56_1 : _ = some (Value.int .i64 a1_1) := (blk_cell BK224.out 1).trans rfl; have hcz56_2 : _ = some (Value.int .i64 a1_2) := (blk_cell BK224.out 2).trans rfl; have hcz56_3 : _ = some (Value.int .i64 a1_3) := (blk_cell BK224.out 3).trans rfl; have hcz56_4 : _ = some (Value.int .i64 a1_4) := (blk_cell BK224.out 4).trans rfl; have hcz56_5 : _ = some (Value.int .i64 a1_5) := (blk_cell BK224.out 5).trans rfl; have hcz56_6 : _ = some (Value.int .i64 a1_6) := (blk_cell BK224.out 6).trans rfl; have hfz56_0 := blk_frozen BK224.out 0; have hfz56_1 := blk_frozen BK224.out 1; have hfz56_2 := blk_frozen BK224.out 2; have hfz56_3 := blk_frozen BK224.out 3; have hfz56_4 := blk_frozen BK224.out 4; have hfz56_5 := blk_frozen BK224.out 5; have hfz56_6 := blk_frozen BK224.out 6; have hnb57 := NB232_225.out; have hnc57 := NB225_232.out; have hnb58 := NB232_0.out; have hnc58 := NB0_232.out; have hcz59_0 : _ = some (Value.bool true) := (blk_cell BK232.out 0).trans rfl; have hcz59_1 : _ = some (Value.int .i64 x233001_11) := (blk_cell BK232.out 1).trans rfl; have hcz59_2 : _ = some (Value.int .i64 (wrap64 (t229 - 20))) := (blk_cell BK232.out 2).trans rfl; have hcz59_3 : _ = some (Value.int .i64 x233003_30) := (blk_cell BK232.out 3).trans rfl; have hfz59_0 := blk_frozen BK232.out 0; have hfz59_1 := blk_frozen BK232.out 1; have hfz59_2 := blk_frozen BK232.out 2; have hfz59_3 := blk_frozen BK232.out 3; have hnb60 := NB225_0.out; have hnc60 := NB0_225.out; have hcz61_0 : _ = some (Value.bool false) := (blk_cell BK225.out 0).trans rfl; have hcz61_1 : _ = some (Value.int .i64 0) := (blk_cell BK225.out 1).trans rfl; have hcz61_2 : _ = some (Value.int .i64 0) := (blk_cell BK225.out 2).trans rfl; have hcz61_3 : _ = some (Value.int .i64 0) := (blk_cell BK225.out 3).trans rfl; have hfz61_0 := blk_frozen BK225.out 0; have hfz61_1 := blk_frozen BK225.out 1; have hfz61_2 := blk_frozen BK225.out 2; have hfz61_3 := blk_frozen BK225.out 3))
        refine bodyPost_ret (results_cell_row rfl _ _ gb225 27 #[.bool true, .int .i64 (wrap64 (a1_5 + 1)), .int .i64 (wrap64 (t229 - 20)), .int .i64 x233003_30] (0, 0) _ rfl (by refine pk ?_; refine blk_put (cs := #[.bool true, .int .i64 (wrap64 (a1_5 + 1)), .int .i64 (wrap64 (t229 - 20)), .int .i64 0]) ?_ 3 _ rfl; refine pk ?_; refine blk_put (cs := #[.bool true, .int .i64 (wrap64 (a1_5 + 1)), .int .i64 0, .int .i64 0]) ?_ 2 _ rfl; refine pk ?_; refine blk_put (cs := #[.bool true, .int .i64 0, .int .i64 0, .int .i64 0]) ?_ 1 _ rfl; refine pk ?_; refine blk_put (cs := #[.bool false, .int .i64 0, .int .i64 0, .int .i64 0]) ?_ 0 _ rfl; refine pk ?_; refine blk_far ?_ NB225_232.out _; refine pk ?_; exact BK225.out) Try.underlying27 rfl (by kernel_rfl)) rfl ?_
        exact ⟨by first | rfl | (simp [errW_none, errW_some] <;> rfl) | (simp [*, errW_none, errW_some] <;> rfl), by repeat (first | (with_reducible first | exact HI0.out | apply IsS61.alloc | apply IsS61.drewN | apply IsS61.drew | apply IsS61.set_1 | apply IsS61.set_2 | refine IsS61.far ?_ NB0_224.out _ | refine IsS61.far ?_ NB0_225.out _ | refine IsS61.far ?_ NB0_232.out _) | exact HI0.out), by repeat (first | (with_reducible first | exact HB.out | apply below_alloc | apply pw_below_drewN | apply below_drew1 | refine below_set ?_ (IsS61.ge HI0.out) | refine below_set ?_ GE224.out | refine below_set ?_ GE225.out | refine below_set ?_ GE232.out) | exact HB.out), by repeat (first | (with_reducible first | exact HK.out | apply KeepBut.set_ | apply keep_drewN | apply keep_drew | apply keep_alloc | refine keep_far ?_ GW224.out _ | refine keep_far ?_ GW225.out _ | refine keep_far ?_ GW232.out _) | exact HK.out)⟩
       ·rw [if_neg c51] at H
        have c51b0 : (t239 == 1) = false := beq_eq_false_iff_ne.mpr c51
        have c51b1 : (t239 != 1) = true := bne_iff_ne.mpr c51
        by_cases c62 : t239 = 2
        ·rw [if_pos c62] at H
         have c62b0 : (t239 == 2) = true := beq_iff_eq.mpr c62
         have c62b1 : (t239 != 2) = false := bne_eq_false_iff_eq.mpr c62
         clear c62
         obtain ⟨y242, hy242⟩ : ∃ y_ : List Int, y_ = ([2000000, 2000001] : List Int) := ⟨_, rfl⟩
         replace H : ((spec_l1Cur_among.f s0_0 t240 t241 y242).bind fun bt245 => (some (true, x233001_11, bt245.1, x233003_30, bt245.2.1, bt245.2.2))) = some (r1, r2, r3, r4, r5, r6) := by first | (rw [hy242]; with_reducible exact H) | (have H2_ := (Option.bind_some _ _).symm.trans H; rw [hy242]; with_reducible exact H2_) | (have H2_ := (Option.bind_some _ _).symm.trans H; with_reducible exact H2_) | with_reducible exact H | (rw [hy242]; exact H) | exact H
         have Ny242 := Aside0.mk hy242
         clear hy242
         replace H := Option.bind_eq_some_iff.mp H
         obtain ⟨⟨t245, t246, t247⟩, A630, H⟩ := H
         replace H : (some (true, x233001_11, t245, x233003_30, t246, t247)) = some (r1, r2, r3, r4, r5, r6) := H
         have A63 := Aside0.mk A630
         clear A630
         simp only [Option.some.injEq, Prod.mk.injEq] at H
         obtain ⟨rfl, rfl, rfl, rfl, rfl, rfl⟩ := H
         go_wp2_with (first | ((with_reducible refine gate_callee (f := 26) rfl ?_); refine goesL_ (some 40) rfl rfl Try.func26 (by kernel_rfl) rfl #[.pointer (some ⟨g, 0, none⟩), .int .i64 24] rfl (by (try simp only [lA, lB, lC]); first | done | rfl | (simp only [lD, lE]; rfl)) ?_; (with_reducible refine (spec_l1Cur_pick.calls g s0_0 x1001_30 x1002_30 24 t239 t240 t241 w0 _ ?side1 ?side2 A41.out).mono ?_); (case side1 => repeat (first | (with_reducible first | exact HI0.out | apply IsS61.alloc | apply IsS61.drewN | apply IsS61.drew | apply IsS61.set_1 | apply IsS61.set_2 | refine IsS61.far ?_ NB0_224.out _ | refine IsS61.far ?_ NB0_225.out _ | refine IsS61.far ?_ NB0_232.out _) | exact HI0.out)); (case side2 => repeat (first | (with_reducible first | exact HB.out | apply below_alloc | apply pw_below_drewN | apply below_drew1 | refine below_set ?_ (IsS61.ge HI0.out) | refine below_set ?_ GE224.out | refine below_set ?_ GE225.out | refine below_set ?_ GE232.out) | exact HB.out)); rintro e w64 ⟨rfl, hi, hb, hk⟩; refine ⟨_, rfl, ?_⟩; replace BK224 := a_ (KeepBut.blk hk (g' := gb224) (o := .cells #[.int .i64 a1_0, .int .i64 a1_1, .int .i64 a1_2, .int .i64 a1_3, .int .i64 a1_4, .int .i64 a1_5, .int .i64 a1_6] 30 (0, 0)) (pk BK224.out) NB224_0.out (by simp)); replace BK225 := a_ (KeepBut.blk hk (g' := gb225) (o := .cells #[.bool false, .int .i64 0, .int .i64 0, .int .i64 0] 27 (0, 0)) (pk BK225.out) NB225_0.out (by simp)); replace BK232 := a_ (KeepBut.blk hk (g' := gb232) (o := .cells #[.bool true, .int .i64 x233001_11, .int .i64 (wrap64 (t229 - 20)), .int .i64 x233003_30] 27 (0, 0)) (pk BK232.out) NB232_0.out (by simp)); replace HK := a_ (KeepBut.trans (by repeat (first | (with_reducible first | exact HK.out | apply KeepBut.set_ | apply keep_drewN | apply keep_drew | apply keep_alloc | refine keep_far ?_ GW224.out _ | refine keep_far ?_ GW225.out _ | refine keep_far ?_ GW232.out _) | exact HK.out)) hk (.inl rfl)); replace HB := a_ (hb); replace HI0 := a_ (hi); clear hb hk hi) | ((with_reducible refine gate_dst (N := 53) rfl ?_); refine Kd.R_lit (Kd.int .i64) _ 3 ?hg (N := 53) ?hd (xs := ([2000000, 2000001] : List Int)) (inner := [.int .i64 2000000, .int .i64 2000001]) (ok := fun _ => True) (okp := fun _ => True) ?hr ?hp (fun _ hk => hk) trivial (Below.refl _ _) (Nat.le_refl _) (by simp) ?_; (case hd => rfl); (case hg => rfl); (case hr => first | (go_simp; done) | (go_simp; rfl)); (case hp => exact (Reps.one (show Kd.M (Kd.int .i64) _ _ _ 2000000 [.int .i64 2000000] from rfl) (Reps.one (show Kd.M (Kd.int .i64) _ _ _ 2000001 [.int .i64 2000001] from rfl) (Reps.none _ _)))); intro v243 w65 ho66 hb hg_ hnew_; clear hg_ hnew_; (first | rw [← Ny242.out] at ho66 | (simp only [Int.reduceToNat] at ho66; rw [← Ny242.out] at ho66)); have HO244 := a_ (Kd.R_lower ho66 (keep_size (w := w) (g := g) (row := none) (by repeat (first | (with_reducible first | exact HK.out | apply KeepBut.set_ | apply keep_drewN | apply keep_drew | apply keep_alloc | refine keep_far ?_ GW224.out _ | refine keep_far ?_ GW225.out _ | refine keep_far ?_ GW232.out _) | exact HK.out)))); replace BK224 := a_ (blk_below (pk BK224.out) hb); replace BK225 := a_ (blk_below (pk BK225.out) hb); replace BK232 := a_ (blk_below (pk BK232.out) hb); replace HK := a_ (KeepBut.trans (by repeat (first | (with_reducible first | exact HK.out | apply KeepBut.set_ | apply keep_drewN | apply keep_drew | apply keep_alloc | refine keep_far ?_ GW224.out _ | refine keep_far ?_ GW225.out _ | refine keep_far ?_ GW232.out _) | exact HK.out)) (KeepBut.of_below hb g none) (.inl rfl)); replace HB := a_ (below_step (by repeat (first | (with_reducible first | exact HB.out | apply below_alloc | apply pw_below_drewN | apply below_drew1 | refine below_set ?_ (IsS61.ge HI0.out) | refine below_set ?_ GE224.out | refine below_set ?_ GE225.out | refine below_set ?_ GE232.out) | exact HB.out)) hb); replace HI0 := a_ (IsS61.below (by repeat (first | (with_reducible first | exact HI0.out | apply IsS61.alloc | apply IsS61.drewN | apply IsS61.drew | apply IsS61.set_1 | apply IsS61.set_2 | refine IsS61.far ?_ NB0_224.out _ | refine IsS61.far ?_ NB0_225.out _ | refine IsS61.far ?_ NB0_232.out _) | exact HI0.out)) hb); clear hb ho66; obtain ⟨Ao67, co67, eo67⟩ := Kd.R_slice HO244.out; subst eo67) | ((with_reducible refine gate_callee (f := 43) rfl ?_); refine goesL_ (some 54) rfl rfl Try.func43 (by kernel_rfl) rfl #[.pointer (some ⟨g, 0, none⟩), .slice Ao67 y242.length co67] rfl (by (try simp only [lA, lB, lC]); first | done | rfl | (simp only [lD, lE]; rfl)) ?_; (with_reducible refine (spec_l1Cur_among.calls g s0_0 t240 t241 _ _ y242 t245 t246 t247 w0 _ ?side1 ?side2 ?side3 ?side4 ?side5 A63.out).mono ?_); (case side1 => repeat (first | (with_reducible first | exact HI0.out | apply IsS61.alloc | apply IsS61.drewN | apply IsS61.drew | apply IsS61.set_1 | apply IsS61.set_2 | refine IsS61.far ?_ NB0_224.out _ | refine IsS61.far ?_ NB0_225.out _ | refine IsS61.far ?_ NB0_232.out _) | exact HI0.out)); (case side2 => repeat (first | (with_reducible first | exact HB.out | apply below_alloc | apply pw_below_drewN | apply below_drew1 | refine below_set ?_ (IsS61.ge HI0.out) | refine below_set ?_ GE224.out | refine below_set ?_ GE225.out | refine below_set ?_ GE232.out) | exact HB.out)); (case side3 => exact cu (Kd.R_reads' HO244.out).2.2); (case side4 => exact (Kd.R_reads' HO244.out).2.1); (case side5 => exact far_slice (IsS61.own_ne HI0.out HO244.out (by decide))); rintro e w68 ⟨rfl, hi, hb, hk⟩; refine ⟨_, rfl, ?_⟩; replace BK224 := a_ (KeepBut.blk hk (g' := gb224) (o := .cells #[.int .i64 a1_0, .int .i64 a1_1, .int .i64 a1_2, .int .i64 a1_3, .int .i64 a1_4, .int .i64 a1_5, .int .i64 a1_6] 30 (0, 0)) (pk BK224.out) NB224_0.out (by simp)); replace BK225 := a_ (KeepBut.blk hk (g' := gb225) (o := .cells #[.bool false, .int .i64 0, .int .i64 0, .int .i64 0] 27 (0, 0)) (pk BK225.out) NB225_0.out (by simp)); replace BK232 := a_ (KeepBut.blk hk (g' := gb232) (o := .cells #[.bool true, .int .i64 x233001_11, .int .i64 (wrap64 (t229 - 20)), .int .i64 x233003_30] 27 (0, 0)) (pk BK232.out) NB232_0.out (by simp)); replace HO244 := a_ (Kd.R_mono (Kd.R_keep (IsS61.apart (show IsS61 w0 _ g s0_0 t240 t241 from by repeat (first | (with_reducible first | exact HI0.out | apply IsS61.alloc | apply IsS61.drewN | apply IsS61.drew | apply IsS61.set_1 | apply IsS61.set_2 | refine IsS61.far ?_ NB0_224.out _ | refine IsS61.far ?_ NB0_225.out _ | refine IsS61.far ?_ NB0_232.out _) | exact HI0.out)) (rk HO244.out) (by decide)) hk (fun _ h => h.2)) (fun _ h => h.1)); replace HK := a_ (KeepBut.trans (by repeat (first | (with_reducible first | exact HK.out | apply KeepBut.set_ | apply keep_drewN | apply keep_drew | apply keep_alloc | refine keep_far ?_ GW224.out _ | refine keep_far ?_ GW225.out _ | refine keep_far ?_ GW232.out _) | exact HK.out)) hk (.inl rfl)); replace HB := a_ (hb); replace HI0 := a_ (hi); clear hb hk hi; have hnb69 := NB232_224.out; have hnc69 := NB224_232.out; have hnb70 := NB232_225.out; have hnc70 := NB225_232.out; have hnb71 := NB232_0.out; have hnc71 := NB0_232.out; have hcz72_0 : _ = some (Value.bool true) := (blk_cell BK232.out 0).trans rfl; have hcz72_1 : _ = some (Value.int .i64 x233001_11) := (blk_cell BK232.out 1).trans rfl; have hcz72_2 : _ = some (Value.int .i64 (wrap64 (t229 - 20))) := (blk_cell BK232.out 2).trans rfl; have hcz72_3 : _ = some (Value.int .i64 x233003_30) := (blk_cell BK232.out 3).trans rfl; have hfz72_0 := blk_frozen BK232.out 0; have hfz72_1 := blk_frozen BK232.out 1; have hfz72_2 := blk_frozen BK232.out 2; have hfz72_3 := blk_frozen BK232.out 3; have hnb73 := NB225_224.out; have hnc73 := NB224_225.out; have hnb74 := NB225_0.out; have hnc74 := NB0_225.out; have hcz75_0 : _ = some (Value.bool false) := (blk_cell BK225.out 0).trans rfl; have hcz75_1 : _ = some (Value.int .i64 0) := (blk_cell BK225.out 1).trans rfl; have hcz75_2 : _ = some (Value.int .i64 0) := (blk_cell BK225.out 2).trans rfl; have hcz75_3 : _ = some (Value.int .i64 0) := (blk_cell BK225.out 3).trans rfl; have hfz75_0 := blk_frozen BK225.out 0; have hfz75_1 := blk_frozen BK225.out 1; have hfz75_2 := blk_frozen BK225.out 2; have hfz75_3 := blk_frozen BK225.out 3))
         refine bodyPost_ret (results_cell_row rfl _ _ gb225 27 #[.bool true, .int .i64 x233001_11, .int .i64 t245, .int .i64 x233003_30] (0, 0) _ rfl (by refine pk ?_; refine blk_put (cs := #[.bool true, .int .i64 x233001_11, .int .i64 t245, .int .i64 0]) ?_ 3 _ rfl; refine pk ?_; refine blk_put (cs := #[.bool true, .int .i64 x233001_11, .int .i64 0, .int .i64 0]) ?_ 2 _ rfl; refine pk ?_; refine blk_put (cs := #[.bool true, .int .i64 0, .int .i64 0, .int .i64 0]) ?_ 1 _ rfl; refine pk ?_; refine blk_put (cs := #[.bool false, .int .i64 0, .int .i64 0, .int .i64 0]) ?_ 0 _ rfl; refine pk ?_; refine blk_far ?_ NB225_232.out _; refine pk ?_; exact BK225.out) Try.underlying27 rfl (by kernel_rfl)) rfl ?_
         exact ⟨by first | rfl | (simp [errW_none, errW_some] <;> rfl) | (simp [*, errW_none, errW_some] <;> rfl), by repeat (first | (with_reducible first | exact HI0.out | apply IsS61.alloc | apply IsS61.drewN | apply IsS61.drew | apply IsS61.set_1 | apply IsS61.set_2 | refine IsS61.far ?_ NB0_224.out _ | refine IsS61.far ?_ NB0_225.out _ | refine IsS61.far ?_ NB0_232.out _) | exact HI0.out), by repeat (first | (with_reducible first | exact HB.out | apply below_alloc | apply pw_below_drewN | apply below_drew1 | refine below_set ?_ (IsS61.ge HI0.out) | refine below_set ?_ GE224.out | refine below_set ?_ GE225.out | refine below_set ?_ GE232.out) | exact HB.out), by repeat (first | (with_reducible first | exact HK.out | apply KeepBut.set_ | apply keep_drewN | apply keep_drew | apply keep_alloc | refine keep_far ?_ GW224.out _ | refine keep_far ?_ GW225.out _ | refine keep_far ?_ GW232.out _) | exact HK.out)⟩
        ·rw [if_neg c62] at H
         have c62b0 : (t239 == 2) = false := beq_eq_false_iff_ne.mpr c62
         have c62b1 : (t239 != 2) = true := bne_iff_ne.mpr c62
         simp only [Option.some.injEq, Prod.mk.injEq] at H
         obtain ⟨rfl, rfl, rfl, rfl, rfl, rfl⟩ := H
         go_wp2_with (first | ((with_reducible refine gate_callee (f := 26) rfl ?_); refine goesL_ (some 40) rfl rfl Try.func26 (by kernel_rfl) rfl #[.pointer (some ⟨g, 0, none⟩), .int .i64 24] rfl (by (try simp only [lA, lB, lC]); first | done | rfl | (simp only [lD, lE]; rfl)) ?_; (with_reducible refine (spec_l1Cur_pick.calls g s0_0 x1001_30 x1002_30 24 t239 t240 t241 w0 _ ?side1 ?side2 A41.out).mono ?_); (case side1 => repeat (first | (with_reducible first | exact HI0.out | apply IsS61.alloc | apply IsS61.drewN | apply IsS61.drew | apply IsS61.set_1 | apply IsS61.set_2 | refine IsS61.far ?_ NB0_224.out _ | refine IsS61.far ?_ NB0_225.out _ | refine IsS61.far ?_ NB0_232.out _) | exact HI0.out)); (case side2 => repeat (first | (with_reducible first | exact HB.out | apply below_alloc | apply pw_below_drewN | apply below_drew1 | refine below_set ?_ (IsS61.ge HI0.out) | refine below_set ?_ GE224.out | refine below_set ?_ GE225.out | refine below_set ?_ GE232.out) | exact HB.out)); rintro e w76 ⟨rfl, hi, hb, hk⟩; refine ⟨_, rfl, ?_⟩; replace BK224 := a_ (KeepBut.blk hk (g' := gb224) (o := .cells #[.int .i64 a1_0, .int .i64 a1_1, .int .i64 a1_2, .int .i64 a1_3, .int .i64 a1_4, .int .i64 a1_5, .int .i64 a1_6] 30 (0, 0)) (pk BK224.out) NB224_0.out (by simp)); replace BK225 := a_ (KeepBut.blk hk (g' := gb225) (o := .cells #[.bool false, .int .i64 0, .int .i64 0, .int .i64 0] 27 (0, 0)) (pk BK225.out) NB225_0.out (by simp)); replace BK232 := a_ (KeepBut.blk hk (g' := gb232) (o := .cells #[.bool true, .int .i64 x233001_11, .int .i64 (wrap64 (t229 - 20)), .int .i64 x233003_30] 27 (0, 0)) (pk BK232.out) NB232_0.out (by simp)); replace HK := a_ (KeepBut.trans (by repeat (first | (with_reducible first | exact HK.out | apply KeepBut.set_ | apply keep_drewN | apply keep_drew | apply keep_alloc | refine keep_far ?_ GW224.out _ | refine keep_far ?_ GW225.out _ | refine keep_far ?_ GW232.out _) | exact HK.out)) hk (.inl rfl)); replace HB := a_ (hb); replace HI0 := a_ (hi); clear hb hk hi; have hnb77 := NB232_224.out; have hnc77 := NB224_232.out; have hnb78 := NB232_225.out; have hnc78 := NB225_232.out; have hnb79 := NB232_0.out; have hnc79 := NB0_232.out; have hcz80_0 : _ = some (Value.bool true) := (blk_cell BK232.out 0).trans rfl; have hcz80_1 : _ = some (Value.int .i64 x233001_11) := (blk_cell BK232.out 1).trans rfl; have hcz80_2 : _ = some (Value.int .i64 (wrap64 (t229 - 20))) := (blk_cell BK232.out 2).trans rfl; have hcz80_3 : _ = some (Value.int .i64 x233003_30) := (blk_cell BK232.out 3).trans rfl; have hfz80_0 := blk_frozen BK232.out 0; have hfz80_1 := blk_frozen BK232.out 1; have hfz80_2 := blk_frozen BK232.out 2; have hfz80_3 := blk_frozen BK232.out 3; have hnb81 := NB225_224.out; have hnc81 := NB224_225.out; have hnb82 := NB225_0.out; have hnc82 := NB0_225.out; have hcz83_0 : _ = some (Value.bool false) := (blk_cell BK225.out 0).trans rfl; have hcz83_1 : _ = some (Value.int .i64 0) := (blk_cell BK225.out 1).trans rfl; have hcz83_2 : _ = some (Value.int .i64 0) := (blk_cell BK225.out 2).trans rfl; have hcz83_3 : _ = some (Value.int .i64 0) := (blk_cell BK225.out 3).trans rfl; have hfz83_0 := blk_frozen BK225.out 0; have hfz83_1 := blk_frozen BK225.out 1; have hfz83_2 := blk_frozen BK225.out 2; have hfz83_3 := blk_frozen BK225.out 3))
         refine bodyPost_ret (results_cell_row rfl _ _ gb225 27 #[.bool true, .int .i64 x233001_11, .int .i64 (wrap64 (t229 - 20)), .int .i64 x233003_30] (0, 0) _ rfl (by refine pk ?_; refine blk_put (cs := #[.bool true, .int .i64 x233001_11, .int .i64 (wrap64 (t229 - 20)), .int .i64 0]) ?_ 3 _ rfl; refine pk ?_; refine blk_put (cs := #[.bool true, .int .i64 x233001_11, .int .i64 0, .int .i64 0]) ?_ 2 _ rfl; refine pk ?_; refine blk_put (cs := #[.bool true, .int .i64 0, .int .i64 0, .int .i64 0]) ?_ 1 _ rfl; refine pk ?_; refine blk_put (cs := #[.bool false, .int .i64 0, .int .i64 0, .int .i64 0]) ?_ 0 _ rfl; refine pk ?_; exact BK225.out) Try.underlying27 rfl (by kernel_rfl)) rfl ?_
         exact ⟨by first | rfl | (simp [errW_none, errW_some] <;> rfl) | (simp [*, errW_none, errW_some] <;> rfl), by repeat (first | (with_reducible first | exact HI0.out | apply IsS61.alloc | apply IsS61.drewN | apply IsS61.drew | apply IsS61.set_1 | apply IsS61.set_2 | refine IsS61.far ?_ NB0_224.out _ | refine IsS61.far ?_ NB0_225.out _ | refine IsS61.far ?_ NB0_232.out _) | exact HI0.out), by repeat (first | (with_reducible first | exact HB.out | apply below_alloc | apply pw_below_drewN | apply below_drew1 | refine below_set ?_ (IsS61.ge HI0.out) | refine below_set ?_ GE224.out | refine below_set ?_ GE225.out | refine below_set ?_ GE232.out) | exact HB.out), by repeat (first | (with_reducible first | exact HK.out | apply KeepBut.set_ | apply keep_drewN | apply keep_drew | apply keep_alloc | refine keep_far ?_ GW224.out _ | refine keep_far ?_ GW225.out _ | refine keep_far ?_ GW232.out _) | exact HK.out)⟩

/-! ### spec_l1Cur_level: function 32 -/
def spec_l1Cur_level.f (s0_0 : List Int) (s0_1 : Int) (s0_2 : Int) : Option (Int × Int × Int) := (spec_l1Cur_one.f s0_0 s0_1 s0_2 30).bind fun bt248 => (if bt248.1 = true then ((spec_l1Cur_among.f s0_0 bt248.2.1 bt248.2.2 (([1000000, (-1000000), 1000001] : List Int))).bind fun bt254 => (some (bt254.1, bt254.2.1, bt254.2.2))) else ((spec_l1Cur_pick.f s0_0 bt248.2.1 bt248.2.2 61).bind fun bt257 => (some (wrap64 (bt257.1 - 30), bt257.2.1, bt257.2.2))))
set_option maxHeartbeats 8000000 in
set_option maxRecDepth 100000 in
theorem spec_l1Cur_level.calls (g : Nat) (s0_0 : List Int) (s0_1 : Int) (s0_2 : Int) (r1 : Int) (r2 : Int) (r3 : Int) (w0 w : World) (hI : IsS61 w0 w g s0_0 s0_1 s0_2) (hB : Below w0.heap.size w0 w) (h : spec_l1Cur_level.f s0_0 s0_1 s0_2 = some (r1, r2, r3)) :
  Calls Try.prog 32 #[.pointer (some ⟨g, 0, none⟩)] w fun e w' => e = .returned (.int .i64 r1) ∧ IsS61 w0 w' g s0_0 r2 r3 ∧ Below w0.heap.size w0 w' ∧ KeepBut w w' g none := by
 have HI0 := Aside0.mk hI
 have HK := a_ (KeepBut.refl w g none)
 have HL := Aside0.mk hB.size
 clear hI
 have HW0 := Aside0.mk hB.size
 have HB := Aside0.mk hB
 clear hB
 have H : ((spec_l1Cur_one.f s0_0 s0_1 s0_2 30).bind fun bt248 => (if bt248.1 = true then ((spec_l1Cur_among.f s0_0 bt248.2.1 bt248.2.2 ([1000000, (-1000000), 1000001] : List Int)).bind fun bt254 => (some (bt254.1, bt254.2.1, bt254.2.2))) else ((spec_l1Cur_pick.f s0_0 bt248.2.1 bt248.2.2 61).bind fun bt257 => (some (wrap64 (bt257.1 - 30), bt257.2.1, bt257.2.2))))) = some (r1, r2, r3) := h
 clear h
 replace H := Option.bind_eq_some_iff.mp H
 obtain ⟨⟨t248, t249, t250⟩, A20, H⟩ := H
 replace H : (if t248 = true then ((spec_l1Cur_among.f s0_0 t249 t250 ([1000000, (-1000000), 1000001] : List Int)).bind fun bt254 => (some (bt254.1, bt254.2.1, bt254.2.2))) else ((spec_l1Cur_pick.f s0_0 t249 t250 61).bind fun bt257 => (some (wrap64 (bt257.1 - 30), bt257.2.1, bt257.2.2)))) = some (r1, r2, r3) := H
 have A2 := Aside0.mk A20
 clear A20
 by_cases c3 : t248 = true
 ·subst c3
  have H1 : ((spec_l1Cur_among.f s0_0 t249 t250 ([1000000, (-1000000), 1000001] : List Int)).bind fun bt254 => (some (bt254.1, bt254.2.1, bt254.2.2))) = some (r1, r2, r3) := by rw [if_pos rfl] at H; exact H
  clear H
  have H := H1
  clear H1
  obtain ⟨y251, hy251⟩ : ∃ y_ : List Int, y_ = ([1000000, (-1000000), 1000001] : List Int) := ⟨_, rfl⟩
  replace H : ((spec_l1Cur_among.f s0_0 t249 t250 y251).bind fun bt254 => (some (bt254.1, bt254.2.1, bt254.2.2))) = some (r1, r2, r3) := by first | (rw [hy251]; with_reducible exact H) | (have H2_ := (Option.bind_some _ _).symm.trans H; rw [hy251]; with_reducible exact H2_) | (have H2_ := (Option.bind_some _ _).symm.trans H; with_reducible exact H2_) | with_reducible exact H | (rw [hy251]; exact H) | exact H
  have Ny251 := Aside0.mk hy251
  clear hy251
  replace H := Option.bind_eq_some_iff.mp H
  obtain ⟨⟨t254, t255, t256⟩, A40, H⟩ := H
  replace H : (some (t254, t255, t256)) = some (r1, r2, r3) := H
  have A4 := Aside0.mk A40
  clear A40
  simp only [Option.some.injEq, Prod.mk.injEq] at H
  obtain ⟨rfl, rfl, rfl⟩ := H
  go_enter Try.func32, Try.ntmps32
  go_wp2_with (first | ((with_reducible refine gate_callee (f := 27) rfl ?_); refine goesL_ (some 4) rfl rfl Try.func27 (by kernel_rfl) rfl #[.pointer (some ⟨g, 0, none⟩), .int .i64 30] rfl (by (try simp only [lA, lB, lC]); first | done | rfl | (simp only [lD, lE]; rfl)) ?_; (with_reducible refine (spec_l1Cur_one.calls g s0_0 s0_1 s0_2 30 true t249 t250 w0 _ ?side1 ?side2 A2.out).mono ?_); (case side1 => repeat (first | (with_reducible first | exact HI0.out | apply IsS61.alloc | apply IsS61.drewN | apply IsS61.drew | apply IsS61.set_1 | apply IsS61.set_2) | exact HI0.out)); (case side2 => repeat (first | (with_reducible first | exact HB.out | apply below_alloc | apply pw_below_drewN | apply below_drew1 | refine below_set ?_ (IsS61.ge HI0.out)) | exact HB.out)); rintro e w5 ⟨rfl, hi, hb, hk⟩; refine ⟨_, rfl, ?_⟩; replace HK := a_ (KeepBut.trans (by repeat (first | (with_reducible first | exact HK.out | apply KeepBut.set_ | apply keep_drewN | apply keep_drew | apply keep_alloc) | exact HK.out)) hk (.inl rfl)); replace HB := a_ (hb); replace HI0 := a_ (hi); clear hb hk hi) | ((with_reducible refine gate_dst (N := 6) rfl ?_); refine Kd.R_lit (Kd.int .i64) _ 3 ?hg (N := 6) ?hd (xs := ([1000000, (-1000000), 1000001] : List Int)) (inner := [.int .i64 1000000, .int .i64 (-1000000), .int .i64 1000001]) (ok := fun _ => True) (okp := fun _ => True) ?hr ?hp (fun _ hk => hk) trivial (Below.refl _ _) (Nat.le_refl _) (by simp) ?_; (case hd => rfl); (case hg => rfl); (case hr => first | (go_simp; done) | (go_simp; rfl)); (case hp => exact (Reps.one (show Kd.M (Kd.int .i64) _ _ _ 1000000 [.int .i64 1000000] from rfl) (Reps.one (show Kd.M (Kd.int .i64) _ _ _ (-1000000) [.int .i64 (-1000000)] from rfl) (Reps.one (show Kd.M (Kd.int .i64) _ _ _ 1000001 [.int .i64 1000001] from rfl) (Reps.none _ _))))); intro v252 w6 ho7 hb hg_ hnew_; clear hg_ hnew_; (first | rw [← Ny251.out] at ho7 | (simp only [Int.reduceToNat] at ho7; rw [← Ny251.out] at ho7)); have HO253 := a_ (Kd.R_lower ho7 (keep_size (w := w) (g := g) (row := none) (by repeat (first | (with_reducible first | exact HK.out | apply KeepBut.set_ | apply keep_drewN | apply keep_drew | apply keep_alloc) | exact HK.out)))); replace HK := a_ (KeepBut.trans (by repeat (first | (with_reducible first | exact HK.out | apply KeepBut.set_ | apply keep_drewN | apply keep_drew | apply keep_alloc) | exact HK.out)) (KeepBut.of_below hb g none) (.inl rfl)); replace HB := a_ (below_step (by repeat (first | (with_reducible first | exact HB.out | apply below_alloc | apply pw_below_drewN | apply below_drew1 | refine below_set ?_ (IsS61.ge HI0.out)) | exact HB.out)) hb); replace HI0 := a_ (IsS61.below (by repeat (first | (with_reducible first | exact HI0.out | apply IsS61.alloc | apply IsS61.drewN | apply IsS61.drew | apply IsS61.set_1 | apply IsS61.set_2) | exact HI0.out)) hb); clear hb ho7; obtain ⟨Ao8, co8, eo8⟩ := Kd.R_slice HO253.out; subst eo8) | ((with_reducible refine gate_callee (f := 43) rfl ?_); refine goesL_ (some 7) rfl rfl Try.func43 (by kernel_rfl) rfl #[.pointer (some ⟨g, 0, none⟩), .slice Ao8 y251.length co8] rfl (by (try simp only [lA, lB, lC]); first | done | rfl | (simp only [lD, lE]; rfl)) ?_; (with_reducible refine (spec_l1Cur_among.calls g s0_0 t249 t250 _ _ y251 t254 t255 t256 w0 _ ?side1 ?side2 ?side3 ?side4 ?side5 A4.out).mono ?_); (case side1 => repeat (first | (with_reducible first | exact HI0.out | apply IsS61.alloc | apply IsS61.drewN | apply IsS61.drew | apply IsS61.set_1 | apply IsS61.set_2) | exact HI0.out)); (case side2 => repeat (first | (with_reducible first | exact HB.out | apply below_alloc | apply pw_below_drewN | apply below_drew1 | refine below_set ?_ (IsS61.ge HI0.out)) | exact HB.out)); (case side3 => exact cu (Kd.R_reads' HO253.out).2.2); (case side4 => exact (Kd.R_reads' HO253.out).2.1); (case side5 => exact far_slice (IsS61.own_ne HI0.out HO253.out (by decide))); rintro e w9 ⟨rfl, hi, hb, hk⟩; refine ⟨_, rfl, ?_⟩; replace HO253 := a_ (Kd.R_mono (Kd.R_keep (IsS61.apart (show IsS61 w0 _ g s0_0 t249 t250 from by repeat (first | (with_reducible first | exact HI0.out | apply IsS61.alloc | apply IsS61.drewN | apply IsS61.drew | apply IsS61.set_1 | apply IsS61.set_2) | exact HI0.out)) (rk HO253.out) (by decide)) hk (fun _ h => h.2)) (fun _ h => h.1)); replace HK := a_ (KeepBut.trans (by repeat (first | (with_reducible first | exact HK.out | apply KeepBut.set_ | apply keep_drewN | apply keep_drew | apply keep_alloc) | exact HK.out)) hk (.inl rfl)); replace HB := a_ (hb); replace HI0 := a_ (hi); clear hb hk hi))
  go_ret
  exact ⟨by first | rfl | (simp [errW_none, errW_some] <;> rfl) | (simp [*, errW_none, errW_some] <;> rfl), by repeat (first | (with_reducible first | exact HI0.out | apply IsS61.alloc | apply IsS61.drewN | apply IsS61.drew | apply IsS61.set_1 | apply IsS61.set_2) | exact HI0.out), by repeat (first | (with_reducible first | exact HB.out | apply below_alloc | apply pw_below_drewN | apply below_drew1 | refine below_set ?_ (IsS61.ge HI0.out)) | exact HB.out), by repeat (first | (with_reducible first | exact HK.out | apply KeepBut.set_ | apply keep_drewN | apply keep_drew | apply keep_alloc) | exact HK.out)⟩
 ·replace c3 := Bool.eq_false_iff.mpr c3
  subst c3
  have H1 : ((spec_l1Cur_pick.f s0_0 t249 t250 61).bind fun bt257 => (some (wrap64 (bt257.1 - 30), bt257.2.1, bt257.2.2))) = some (r1, r2, r3) := by rw [if_neg (show ¬ (false = true) by decide)] at H; exact H
  clear H
  have H := H1
  clear H1
  replace H := Option.bind_eq_some_iff.mp H
  obtain ⟨⟨t257, t258, t259⟩, A100, H⟩ := H
  replace H : (some (wrap64 (t257 - 30), t258, t259)) = some (r1, r2, r3) := H
  have A10 := Aside0.mk A100
  clear A100
  simp only [Option.some.injEq, Prod.mk.injEq] at H
  obtain ⟨rfl, rfl, rfl⟩ := H
  go_enter Try.func32, Try.ntmps32
  go_wp2_with (first | ((with_reducible refine gate_callee (f := 27) rfl ?_); refine goesL_ (some 4) rfl rfl Try.func27 (by kernel_rfl) rfl #[.pointer (some ⟨g, 0, none⟩), .int .i64 30] rfl (by (try simp only [lA, lB, lC]); first | done | rfl | (simp only [lD, lE]; rfl)) ?_; (with_reducible refine (spec_l1Cur_one.calls g s0_0 s0_1 s0_2 30 false t249 t250 w0 _ ?side1 ?side2 A2.out).mono ?_); (case side1 => repeat (first | (with_reducible first | exact HI0.out | apply IsS61.alloc | apply IsS61.drewN | apply IsS61.drew | apply IsS61.set_1 | apply IsS61.set_2) | exact HI0.out)); (case side2 => repeat (first | (with_reducible first | exact HB.out | apply below_alloc | apply pw_below_drewN | apply below_drew1 | refine below_set ?_ (IsS61.ge HI0.out)) | exact HB.out)); rintro e w11 ⟨rfl, hi, hb, hk⟩; refine ⟨_, rfl, ?_⟩; replace HK := a_ (KeepBut.trans (by repeat (first | (with_reducible first | exact HK.out | apply KeepBut.set_ | apply keep_drewN | apply keep_drew | apply keep_alloc) | exact HK.out)) hk (.inl rfl)); replace HB := a_ (hb); replace HI0 := a_ (hi); clear hb hk hi) | ((with_reducible refine gate_callee (f := 26) rfl ?_); refine goesL_ (some 9) rfl rfl Try.func26 (by kernel_rfl) rfl #[.pointer (some ⟨g, 0, none⟩), .int .i64 61] rfl (by (try simp only [lA, lB, lC]); first | done | rfl | (simp only [lD, lE]; rfl)) ?_; (with_reducible refine (spec_l1Cur_pick.calls g s0_0 t249 t250 61 t257 t258 t259 w0 _ ?side1 ?side2 A10.out).mono ?_); (case side1 => repeat (first | (with_reducible first | exact HI0.out | apply IsS61.alloc | apply IsS61.drewN | apply IsS61.drew | apply IsS61.set_1 | apply IsS61.set_2) | exact HI0.out)); (case side2 => repeat (first | (with_reducible first | exact HB.out | apply below_alloc | apply pw_below_drewN | apply below_drew1 | refine below_set ?_ (IsS61.ge HI0.out)) | exact HB.out)); rintro e w12 ⟨rfl, hi, hb, hk⟩; refine ⟨_, rfl, ?_⟩; replace HK := a_ (KeepBut.trans (by repeat (first | (with_reducible first | exact HK.out | apply KeepBut.set_ | apply keep_drewN | apply keep_drew | apply keep_alloc) | exact HK.out)) hk (.inl rfl)); replace HB := a_ (hb); replace HI0 := a_ (hi); clear hb hk hi))
  go_ret
  exact ⟨by first | rfl | (simp [errW_none, errW_some] <;> rfl) | (simp [*, errW_none, errW_some] <;> rfl), by repeat (first | (with_reducible first | exact HI0.out | apply IsS61.alloc | apply IsS61.drewN | apply IsS61.drew | apply IsS61.set_1 | apply IsS61.set_2) | exact HI0.out), by repeat (first | (with_reducible first | exact HB.out | apply below_alloc | apply pw_below_drewN | apply below_drew1 | refine below_set ?_ (IsS61.ge HI0.out)) | exact HB.out), by repeat (first | (with_reducible first | exact HK.out | apply KeepBut.set_ | apply keep_drewN | apply keep_drew | apply keep_alloc) | exact HK.out)⟩

end Go.Proofs.Ytineniimpdjpnaa.PFnGains
