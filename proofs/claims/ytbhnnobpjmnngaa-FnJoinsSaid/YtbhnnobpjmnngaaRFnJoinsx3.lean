-- Written by a program of this session out of the loaded functions' print; helper lemmas as print.sh lays them.
import Derived.Test.YtbhnnobpjmnngaaUp2
import Derived.Test.YtbhnnobpjmnngaaUp
import Derived.Test.YtbhnnobpjmnngaaRFnJoinsx0
import Derived.Test.YtbhnnobpjmnngaaRFnJoinsx1
import Derived.Test.YtbhnnobpjmnngaaRFnJoinsx2
namespace Go.Proofs.Ytbhnnobpjmnngaa.PFnJoins
open Go.RowKit Go.Proofs.YtbhnnobpjmnngaaW.PrintWords Go.Proofs.YtbhnnobpjmnngaaW.PrintLast Go.Proofs.YtbhnnobpjmnngaaW.PrintMore
attribute [local go_sem] max2_int min2_int max_two min_two max_three min_three max_four min_four go_fstore go_fneg go_fadd go_fsub go_fmul go_fquo go_fmax go_fmin go_fconv go_bits go_frombits  -- for this text's walks alone
set_option linter.unusedVariables false
set_option linter.unusedSimpArgs false

/-! ### spec_l1Cur_box: function 16 -/
def spec_l1Cur_box.l0 : Nat → Int → Int → List Int → Int → Int → List Nat → List Nat → Option (List Nat × List Nat × Int × Int)
 | 0, _, _, _, _, _, _, _ => none
 | k + 1, x1, x6, x1000, x1001, x1002, x213000, x213001 => if x6 < x1 then ((spec_l1Cur_sound.f x1000 x1001 x1002).bind fun bt213 => ((spec_l1Cur_sound.f x1000 bt213.2.1 bt213.2.2).bind fun bt216 => ((math_Abs.f bt216.1).bind fun t219 => (if (floatBits .add .f64 bt213.1 t219).isSome = true then ((spec_l1Cur_one.f x1000 bt216.2.1 bt216.2.2 40).bind fun bt220 => (if bt220.1 = true then ((spec_l1Cur_real.f k x1000 bt220.2.1 bt220.2.2).bind fun bt223 => (if x213000.length < 17592186044416 then ((spec_l2Plain.f bt223.1).bind fun t229 => (if x213001.length < 17592186044416 then (spec_l1Cur_box.l0 k x1 (wrap64 (x6 + 1)) x1000 bt223.2.1 bt223.2.2 (x213000 ++ [bt213.1]) (x213001 ++ [t229])) else (none))) else (none))) else (if x213000.length < 17592186044416 then ((spec_l2Plain.f (fl2 .add bt213.1 t219)).bind fun t236 => (if x213001.length < 17592186044416 then (spec_l1Cur_box.l0 k x1 (wrap64 (x6 + 1)) x1000 bt220.2.1 bt220.2.2 (x213000 ++ [bt213.1]) (x213001 ++ [t236])) else (none))) else (none)))) else (none))))) else ((spec_l1Cur_pick.f x1000 x1001 x1002 40).bind fun bt240 => (if bt240.1 = 0 then (if x213001.length < 17592186044416 then (some (x213000, (x213001 ++ [(4607182418800017408 : Nat)]), bt240.2.1, bt240.2.2)) else (none)) else (if bt240.1 = 1 then (if x1 > 0 then (if 0 < (x213000.length : Int) then (if (floatBits .sub .f64 (rdOf (0 : Nat) x213000 0) (4607182418800017408 : Nat)).isSome = true then (if 0 < (x213001.length : Int) then (some (x213000, (x213001.set (0 : Int).toNat (fl2 .sub (rdOf (0 : Nat) x213000 0) (4607182418800017408 : Nat))), bt240.2.1, bt240.2.2)) else (none)) else (none)) else (none)) else (some (x213000, x213001, bt240.2.1, bt240.2.2))) else (some (x213000, x213001, bt240.2.1, bt240.2.2)))))
def spec_l1Cur_box.f (k : Nat) (s0_0 : List Int) (s0_1 : Int) (s0_2 : Int) (a1 : Int) : Option (List Nat × List Nat × Int × Int) := spec_l1Cur_box.l0 k a1 0 s0_0 s0_1 s0_2 ([] : List Nat) ([] : List Nat)
theorem spec_l1Cur_box.mono_l : ∀ k, (∀ y0 y1 y2 y3 y4 y5 y6, LeO (spec_l1Cur_box.l0 k y0 y1 y2 y3 y4 y5 y6) (spec_l1Cur_box.l0 (k + 1) y0 y1 y2 y3 y4 y5 y6))
 | 0 => fun _ _ _ _ _ _ _ r h => by simp [spec_l1Cur_box.l0] at h
 | k + 1 => by
  have ih0 := spec_l1Cur_box.mono_l k
  ·intro y0 y1 y2 y3 y4 y5 y6
   unfold spec_l1Cur_box.l0
   repeat' first
   | (with_reducible exact ih0 _ _ _ _ _ _ _)
   | (with_reducible exact spec_l1Cur_real.mono _ _ _ _)
   | (with_reducible exact LeO.refl _)
   | (with_reducible exact LeO.none _)
   | (with_reducible refine LeO.ite ?_ ?_)
   | (with_reducible refine LeO.bind ?_ (fun _ => ?_))
   | exact ih0 _ _ _ _ _ _ _
   | exact spec_l1Cur_real.mono _ _ _ _
   | exact LeO.none _
   | refine LeO.ite ?_ ?_
   | refine LeO.bind ?_ (fun _ => ?_)
theorem spec_l1Cur_box.mono : ∀ a0 a1 a2 a3 k, LeO (spec_l1Cur_box.f k a0 a1 a2 a3) (spec_l1Cur_box.f (k + 1) a0 a1 a2 a3) := by
 intro a0 a1 a2 a3 k
 have ih0 := spec_l1Cur_box.mono_l k
 unfold spec_l1Cur_box.f
 repeat' first
   | (with_reducible exact ih0 _ _ _ _ _ _ _)
   | (with_reducible exact spec_l1Cur_real.mono _ _ _ _)
   | (with_reducible exact LeO.refl _)
   | (with_reducible exact LeO.none _)
   | (with_reducible refine LeO.ite ?_ ?_)
   | (with_reducible refine LeO.bind ?_ (fun _ => ?_))
   | exact ih0 _ _ _ _ _ _ _
   | exact spec_l1Cur_real.mono _ _ _ _
   | exact LeO.none _
   | refine LeO.ite ?_ ?_
   | refine LeO.bind ?_ (fun _ => ?_)
def spec_l1Cur_box.T10 : Bool × List (List Nat × List Nat) := (true, [([], []), ([0], [0]), ([], []), ([2], [2]), ([3], [3]), ([1, 4, 3], [1, 4]), ([0, 1, 2, 3, 4, 5], []), ([6, 5, 5, 0, 1, 2, 3, 4, 5], [5, 6])])
def spec_l1Cur_box.B10 : List Nat := [0, 1, 0, 4, 12, 31, 63, 127]
theorem spec_l1Cur_box.tab10 : rtab .any (opsOf Try.f16 10) = spec_l1Cur_box.T10 := by kernel_rfl
theorem spec_l1Cur_box.bits10 : waitsOk spec_l1Cur_box.T10.2 spec_l1Cur_box.B10 = true := by kernel_rfl
def spec_l1Cur_box.T16 : Bool × List (List Nat × List Nat) := (true, [([], []), ([0], [0]), ([], []), ([2], [2]), ([3], [3]), ([4], [4]), ([5], [5]), ([1, 0, 1, 2, 3, 4, 5, 6], [1]), ([7, 6, 0, 1, 2, 3, 4, 5, 6], [6, 7])])
def spec_l1Cur_box.B16 : List Nat := [0, 1, 0, 4, 12, 28, 60, 127, 255]
theorem spec_l1Cur_box.tab16 : rtab .any (opsOf Try.f16 16) = spec_l1Cur_box.T16 := by kernel_rfl
theorem spec_l1Cur_box.bits16 : waitsOk spec_l1Cur_box.T16.2 spec_l1Cur_box.B16 = true := by kernel_rfl
set_option maxHeartbeats 8000000 in
set_option maxRecDepth 100000 in
theorem spec_l1Cur_box.calls (k : Nat) (g : Nat) (s0_0 : List Int) (s0_1 : Int) (s0_2 : Int) (a1 : Int) (r1 : List Nat) (r2 : List Nat) (r3 : Int) (r4 : Int) (w0 w : World) (hI : IsS38 w0 w g s0_0 s0_1 s0_2) (hB : Below w0.heap.size w0 w) (h : spec_l1Cur_box.f k s0_0 s0_1 s0_2 a1 = some (r1, r2, r3, r4)) :
  Calls Try.prog 16 #[.pointer (some ⟨g, 0, none⟩), .int .i64 a1] w fun e w' => ∃ v0_ v1_ : Value, e = .returned (.agg #[v0_, v1_]) ∧ Kd.R Kd.flt 33 w' w.heap.size (fun k_ => N_ v1_ k_) v0_ r1 ∧ Kd.R Kd.flt 33 w' w.heap.size (fun k_ => N_ v0_ k_) v1_ r2 ∧ IsS38 w0 w' g s0_0 r3 r4 ∧ Below w0.heap.size w0 w' ∧ KeepBut w w' g none := by
 have hu25 := Try.underlying25
 have HI0 := Aside0.mk hI
 have HK := a_ (KeepBut.refl w g none)
 have HL := Aside0.mk hB.size
 clear hI
 have HW0 := Aside0.mk hB.size
 have HB := Aside0.mk hB
 clear hB
 have H : (spec_l1Cur_box.l0 k a1 0 s0_0 s0_1 s0_2 ([] : List Nat) ([] : List Nat)) = some (r1, r2, r3, r4) := h
 clear h
 have H' := Aside0.mk H
 clear H
 go_enter Try.func16, Try.ntmps16
 go_wp2_with (first | ((with_reducible refine gate_dst (N := 4) rfl ?_); refine box_event ?hg (N := 4) ?hd (cs := #[.slice none 0 0, .slice none 0 0]) (t := 25) ?hr ?_; (case hd => rfl); (case hg => rfl); (case hr => first | (go_simp; done) | (go_simp; rfl)); intro gb211 hg w3 hbox hb; replace HB := a_ (below_step (by repeat (first | (with_reducible first | exact HB.out | apply below_alloc | apply pw_below_drewN | apply below_drew1 | refine below_set ?_ (IsS38.ge HI0.out)) | exact HB.out)) hb); have BK211 := a_ (hbox); have GW211 := a_ (by rw [hg]; exact (keep_size (w := w) (g := g) (row := none) (by repeat (first | (with_reducible first | exact HK.out | apply KeepBut.set_ | apply keep_drewN | apply keep_drew | apply keep_alloc) | exact HK.out))) : w.heap.size ≤ gb211); have GE211 := a_ (Nat.le_trans HW0.out (by rw [hg]; exact (keep_size (w := w) (g := g) (row := none) (by repeat (first | (with_reducible first | exact HK.out | apply KeepBut.set_ | apply keep_drewN | apply keep_drew | apply keep_alloc) | exact HK.out))) : w.heap.size ≤ gb211) : w0.heap.size ≤ gb211); replace HK := a_ (KeepBut.trans (by repeat (first | (with_reducible first | exact HK.out | apply KeepBut.set_ | apply keep_drewN | apply keep_drew | apply keep_alloc) | exact HK.out)) (KeepBut.of_below hb g none) (.inl rfl)); have NB0_211 := a_ (by rw [hg]; exact Nat.ne_of_lt (IsS38.lt (show IsS38 w0 _ g s0_0 s0_1 s0_2 from by repeat (first | (with_reducible first | exact HI0.out | apply IsS38.alloc | apply IsS38.drewN | apply IsS38.drew | apply IsS38.set_1 | apply IsS38.set_2) | exact HI0.out))) : g ≠ gb211); have NB211_0 := a_ (by rw [hg]; exact Nat.ne_of_gt (IsS38.lt (show IsS38 w0 _ g s0_0 s0_1 s0_2 from by repeat (first | (with_reducible first | exact HI0.out | apply IsS38.alloc | apply IsS38.drewN | apply IsS38.drew | apply IsS38.set_1 | apply IsS38.set_2) | exact HI0.out))) : gb211 ≠ g); replace HI0 := a_ (IsS38.below (by repeat (first | (with_reducible first | exact HI0.out | apply IsS38.alloc | apply IsS38.drewN | apply IsS38.drew | apply IsS38.set_1 | apply IsS38.set_2) | exact HI0.out)) hb); clear hb hbox hg) | ((with_reducible refine gate_dst (N := 5) rfl ?_); refine box_event ?hg (N := 5) ?hd (cs := #[.slice none 0 0, .slice none 0 0]) (t := 25) ?hr ?_; (case hd => rfl); (case hg => rfl); (case hr => first | (go_simp; done) | (go_simp; rfl)); intro gb212 hg w4 hbox hb; replace HB := a_ (below_step (by repeat (first | (with_reducible first | exact HB.out | apply below_alloc | apply pw_below_drewN | apply below_drew1 | refine below_set ?_ (IsS38.ge HI0.out) | refine below_set ?_ GE211.out) | exact HB.out)) hb); have BK212 := a_ (hbox); have GW212 := a_ (by rw [hg]; exact (keep_size (w := w) (g := g) (row := none) (by repeat (first | (with_reducible first | exact HK.out | apply KeepBut.set_ | apply keep_drewN | apply keep_drew | apply keep_alloc | refine keep_far ?_ GW211.out _) | exact HK.out))) : w.heap.size ≤ gb212); have GE212 := a_ (Nat.le_trans HW0.out (by rw [hg]; exact (keep_size (w := w) (g := g) (row := none) (by repeat (first | (with_reducible first | exact HK.out | apply KeepBut.set_ | apply keep_drewN | apply keep_drew | apply keep_alloc | refine keep_far ?_ GW211.out _) | exact HK.out))) : w.heap.size ≤ gb212) : w0.heap.size ≤ gb212); replace HK := a_ (KeepBut.trans (by repeat (first | (with_reducible first | exact HK.out | apply KeepBut.set_ | apply keep_drewN | apply keep_drew | apply keep_alloc | refine keep_far ?_ GW211.out _) | exact HK.out)) (KeepBut.of_below hb g none) (.inl rfl)); have NB211_212 := a_ (nel hg BK211.out); have NB212_211 := a_ (nle hg BK211.out); replace BK211 := a_ (blk_below (pk BK211.out) hb); have NB0_212 := a_ (by rw [hg]; exact Nat.ne_of_lt (IsS38.lt (show IsS38 w0 _ g s0_0 s0_1 s0_2 from by repeat (first | (with_reducible first | exact HI0.out | apply IsS38.alloc | apply IsS38.drewN | apply IsS38.drew | apply IsS38.set_1 | apply IsS38.set_2 | refine IsS38.far ?_ NB0_211.out _) | exact HI0.out))) : g ≠ gb212); have NB212_0 := a_ (by rw [hg]; exact Nat.ne_of_gt (IsS38.lt (show IsS38 w0 _ g s0_0 s0_1 s0_2 from by repeat (first | (with_reducible first | exact HI0.out | apply IsS38.alloc | apply IsS38.drewN | apply IsS38.drew | apply IsS38.set_1 | apply IsS38.set_2 | refine IsS38.far ?_ NB0_211.out _) | exact HI0.out))) : gb212 ≠ g); replace HI0 := a_ (IsS38.below (by repeat (first | (with_reducible first | exact HI0.out | apply IsS38.alloc | apply IsS38.drewN | apply IsS38.drew | apply IsS38.set_1 | apply IsS38.set_2 | refine IsS38.far ?_ NB0_211.out _) | exact HI0.out)) hb); clear hb hbox hg; have hnb5 := NB212_211.out; have hnc5 := NB211_212.out; have hnb6 := NB212_0.out; have hnc6 := NB0_212.out; have hcz7_0 : _ = some (Value.slice none 0 0) := (blk_cell BK212.out 0).trans rfl; have hcz7_1 : _ = some (Value.slice none 0 0) := (blk_cell BK212.out 1).trans rfl; have hfz7_0 := blk_frozen BK212.out 0; have hfz7_1 := blk_frozen BK212.out 1))
 go_loopg [6] k (fun kq v6 w' => ∃ (x6_1 : Int) (x1001_1 : Int) (x1002_1 : Int) (x213000_1 : List Nat) (x213001_1 : List Nat) (u213000 : Value) (u213001 : Value), v6 = .int .i64 x6_1 ∧ Aside0 (spec_l1Cur_box.l0 kq a1 x6_1 s0_0 x1001_1 x1002_1 x213000_1 x213001_1 = some (r1, r2, r3, r4)) ∧ Aside0 (kq ≤ k) ∧ Aside0 (Kd.R Kd.flt 33 w' w.heap.size (fun k_ => some k_ ≠ (u213001 : Value).ownBlock) u213000 x213000_1) ∧ Aside0 (Kd.R Kd.flt 33 w' w.heap.size (fun k_ => some k_ ≠ (u213000 : Value).ownBlock) u213001 x213001_1) ∧ Aside0 (w'.heap[gb211]? = some (.cells #[(.slice none 0 0), (.slice none 0 0)] 25 (0, 0))) ∧ Aside0 (w'.heap[gb212]? = some (.cells #[u213000, u213001] 25 (0, 0))) ∧ Aside0 (IsS38 w0 w' g s0_0 x1001_1 x1002_1) ∧ Aside0 (KeepBut w w' g none) ∧ Aside0 (Below w0.heap.size w0 w'))
 case atStart => exact ⟨(0), (s0_1), (s0_2), (([] : List Nat)), (([] : List Nat)), (.slice none 0 0), (.slice none 0 0), (by first | rfl | (simp; done) | (simp [*]; done)), H', ⟨Nat.le_refl _⟩, ⟨by first | exact Kd.R_nil _ _ _ _ _ | exact Kd.N_nil _ _ _ _ _ | exact Kd.V_nil _ _ _ _ _ | exact Kd.Q_nil _ _ _ _ _ | exact Kd.S_nil _ _ _ _ _⟩, ⟨by first | exact Kd.R_nil _ _ _ _ _ | exact Kd.N_nil _ _ _ _ _ | exact Kd.V_nil _ _ _ _ _ | exact Kd.Q_nil _ _ _ _ _ | exact Kd.S_nil _ _ _ _ _⟩, ⟨by refine pk ?_; refine blk_far ?_ NB211_212.out _; refine pk ?_; refine blk_far ?_ NB211_212.out _; refine pk ?_; exact BK211.out⟩, ⟨by refine pk ?_; refine blk_put (cs := #[.slice none 0 0, .slice none 0 0]) ?_ 1 _ rfl; refine pk ?_; refine blk_put (cs := #[.slice none 0 0, .slice none 0 0]) ?_ 0 _ rfl; refine pk ?_; exact BK212.out⟩, ⟨by repeat (first | (with_reducible first | exact HI0.out | apply IsS38.alloc | apply IsS38.drewN | apply IsS38.drew | apply IsS38.set_1 | apply IsS38.set_2 | refine IsS38.far ?_ NB0_211.out _ | refine IsS38.far ?_ NB0_212.out _) | exact HI0.out)⟩, ⟨by repeat (first | (with_reducible first | exact HK.out | apply KeepBut.set_ | apply keep_drewN | apply keep_drew | apply keep_alloc | refine keep_far ?_ GW211.out _ | refine keep_far ?_ GW212.out _) | exact HK.out)⟩, ⟨by repeat (first | (with_reducible first | exact HB.out | apply below_alloc | apply pw_below_drewN | apply below_drew1 | refine below_set ?_ (IsS38.ge HI0.out) | refine below_set ?_ GE211.out | refine below_set ?_ GE212.out) | exact HB.out)⟩⟩
 case round =>
  clear H'
  try clear c1; try clear p2; try clear c5; try clear c6; try clear hcz7_0; try clear hcz7_1; try clear hfz7_0; try clear hfz7_1
  obtain ⟨x6_1, x1001_1, x1002_1, x213000_1, x213001_1, u213000, u213001, rfl, HA, HK1, HO_213000, HO_213001, BK211, BK212, HI0, HK, HB⟩ := hrel
  cases gk with
  | zero => exact absurd HA.out (by simp [spec_l1Cur_box.l0])
  | succ k1 =>
   have H := HA.out
   clear HA
   simp only [spec_l1Cur_box.l0] at H
   by_cases c8 : x6_1 < a1
   ·rw [if_pos c8] at H
    have c8b0 : decide (x6_1 < a1) = true := decide_eq_true c8
    clear c8
    replace H := Option.bind_eq_some_iff.mp H
    obtain ⟨⟨t213, t214, t215⟩, A90, H⟩ := H
    replace H : ((spec_l1Cur_sound.f s0_0 t214 t215).bind fun bt216 => ((math_Abs.f bt216.1).bind fun t219 => (if (floatBits .add .f64 t213 t219).isSome = true then ((spec_l1Cur_one.f s0_0 bt216.2.1 bt216.2.2 40).bind fun bt220 => (if bt220.1 = true then ((spec_l1Cur_real.f k1 s0_0 bt220.2.1 bt220.2.2).bind fun bt223 => (if x213000_1.length < 17592186044416 then ((spec_l2Plain.f bt223.1).bind fun t229 => (if x213001_1.length < 17592186044416 then (spec_l1Cur_box.l0 k1 a1 (wrap64 (x6_1 + 1)) s0_0 bt223.2.1 bt223.2.2 (x213000_1 ++ [t213]) (x213001_1 ++ [t229])) else (none))) else (none))) else (if x213000_1.length < 17592186044416 then ((spec_l2Plain.f (fl2 .add t213 t219)).bind fun t236 => (if x213001_1.length < 17592186044416 then (spec_l1Cur_box.l0 k1 a1 (wrap64 (x6_1 + 1)) s0_0 bt220.2.1 bt220.2.2 (x213000_1 ++ [t213]) (x213001_1 ++ [t236])) else (none))) else (none)))) else (none)))) = some (r1, r2, r3, r4) := H
    have A9 := Aside0.mk A90
    clear A90
    replace H := Option.bind_eq_some_iff.mp H
    obtain ⟨⟨t216, t217, t218⟩, A100, H⟩ := H
    replace H : ((math_Abs.f t216).bind fun t219 => (if (floatBits .add .f64 t213 t219).isSome = true then ((spec_l1Cur_one.f s0_0 t217 t218 40).bind fun bt220 => (if bt220.1 = true then ((spec_l1Cur_real.f k1 s0_0 bt220.2.1 bt220.2.2).bind fun bt223 => (if x213000_1.length < 17592186044416 then ((spec_l2Plain.f bt223.1).bind fun t229 => (if x213001_1.length < 17592186044416 then (spec_l1Cur_box.l0 k1 a1 (wrap64 (x6_1 + 1)) s0_0 bt223.2.1 bt223.2.2 (x213000_1 ++ [t213]) (x213001_1 ++ [t229])) else (none))) else (none))) else (if x213000_1.length < 17592186044416 then ((spec_l2Plain.f (fl2 .add t213 t219)).bind fun t236 => (if x213001_1.length < 17592186044416 then (spec_l1Cur_box.l0 k1 a1 (wrap64 (x6_1 + 1)) s0_0 bt220.2.1 bt220.2.2 (x213000_1 ++ [t213]) (x213001_1 ++ [t236])) else (none))) else (none)))) else (none))) = some (r1, r2, r3, r4) := H
    have A10 := Aside0.mk A100
    clear A100
    replace H := Option.bind_eq_some_iff.mp H
    obtain ⟨t219, A110, H⟩ := H
    replace H : (if (floatBits .add .f64 t213 t219).isSome = true then ((spec_l1Cur_one.f s0_0 t217 t218 40).bind fun bt220 => (if bt220.1 = true then ((spec_l1Cur_real.f k1 s0_0 bt220.2.1 bt220.2.2).bind fun bt223 => (if x213000_1.length < 17592186044416 then ((spec_l2Plain.f bt223.1).bind fun t229 => (if x213001_1.length < 17592186044416 then (spec_l1Cur_box.l0 k1 a1 (wrap64 (x6_1 + 1)) s0_0 bt223.2.1 bt223.2.2 (x213000_1 ++ [t213]) (x213001_1 ++ [t229])) else (none))) else (none))) else (if x213000_1.length < 17592186044416 then ((spec_l2Plain.f (fl2 .add t213 t219)).bind fun t236 => (if x213001_1.length < 17592186044416 then (spec_l1Cur_box.l0 k1 a1 (wrap64 (x6_1 + 1)) s0_0 bt220.2.1 bt220.2.2 (x213000_1 ++ [t213]) (x213001_1 ++ [t236])) else (none))) else (none)))) else (none)) = some (r1, r2, r3, r4) := H
    have A11 := Aside0.mk A110
    clear A110
    by_cases c12 : (floatBits .add .f64 t213 t219).isSome = true
    ·rw [if_pos c12] at H
     have c12b0 : (floatBits .add .f64 t213 t219).isSome = true := c12
     clear c12
     replace H := Option.bind_eq_some_iff.mp H
     obtain ⟨⟨t220, t221, t222⟩, A130, H⟩ := H
     replace H : (if t220 = true then ((spec_l1Cur_real.f k1 s0_0 t221 t222).bind fun bt223 => (if x213000_1.length < 17592186044416 then ((spec_l2Plain.f bt223.1).bind fun t229 => (if x213001_1.length < 17592186044416 then (spec_l1Cur_box.l0 k1 a1 (wrap64 (x6_1 + 1)) s0_0 bt223.2.1 bt223.2.2 (x213000_1 ++ [t213]) (x213001_1 ++ [t229])) else (none))) else (none))) else (if x213000_1.length < 17592186044416 then ((spec_l2Plain.f (fl2 .add t213 t219)).bind fun t236 => (if x213001_1.length < 17592186044416 then (spec_l1Cur_box.l0 k1 a1 (wrap64 (x6_1 + 1)) s0_0 t221 t222 (x213000_1 ++ [t213]) (x213001_1 ++ [t236])) else (none))) else (none))) = some (r1, r2, r3, r4) := H
     have A13 := Aside0.mk A130
     clear A130
     by_cases c14 : t220 = true
     ·subst c14
      have H1 : ((spec_l1Cur_real.f k1 s0_0 t221 t222).bind fun bt223 => (if x213000_1.length < 17592186044416 then ((spec_l2Plain.f bt223.1).bind fun t229 => (if x213001_1.length < 17592186044416 then (spec_l1Cur_box.l0 k1 a1 (wrap64 (x6_1 + 1)) s0_0 bt223.2.1 bt223.2.2 (x213000_1 ++ [t213]) (x213001_1 ++ [t229])) else (none))) else (none))) = some (r1, r2, r3, r4) := by rw [if_pos rfl] at H; exact H
      clear H
      have H := H1
      clear H1
      replace H := Option.bind_eq_some_iff.mp H
      obtain ⟨⟨t223, t224, t225⟩, A150, H⟩ := H
      replace H : (if x213000_1.length < 17592186044416 then ((spec_l2Plain.f t223).bind fun t229 => (if x213001_1.length < 17592186044416 then (spec_l1Cur_box.l0 k1 a1 (wrap64 (x6_1 + 1)) s0_0 t224 t225 (x213000_1 ++ [t213]) (x213001_1 ++ [t229])) else (none))) else (none)) = some (r1, r2, r3, r4) := H
      have A15 := Aside0.mk A150
      clear A150
      by_cases c16 : x213000_1.length < 17592186044416
      ·rw [if_pos c16] at H
       have LMc16 := Aside0.mk c16
       clear c16
       obtain ⟨y226, hy226⟩ : ∃ y_ : List Nat, y_ = (x213000_1 ++ [t213]) := ⟨_, rfl⟩
       replace H : ((spec_l2Plain.f t223).bind fun t229 => (if x213001_1.length < 17592186044416 then (spec_l1Cur_box.l0 k1 a1 (wrap64 (x6_1 + 1)) s0_0 t224 t225 y226 (x213001_1 ++ [t229])) else (none))) = some (r1, r2, r3, r4) := by first | (rw [hy226]; with_reducible exact H) | (have H2_ := (Option.bind_some _ _).symm.trans H; rw [hy226]; with_reducible exact H2_) | (have H2_ := (Option.bind_some _ _).symm.trans H; with_reducible exact H2_) | with_reducible exact H | (rw [hy226]; exact H) | exact H
       have Ny226 := Aside0.mk hy226
       clear hy226
       replace H := Option.bind_eq_some_iff.mp H
       obtain ⟨t229, A170, H⟩ := H
       replace H : (if x213001_1.length < 17592186044416 then (spec_l1Cur_box.l0 k1 a1 (wrap64 (x6_1 + 1)) s0_0 t224 t225 y226 (x213001_1 ++ [t229])) else (none)) = some (r1, r2, r3, r4) := H
       have A17 := Aside0.mk A170
       clear A170
       by_cases c18 : x213001_1.length < 17592186044416
       ·rw [if_pos c18] at H
        have LMc18 := Aside0.mk c18
        clear c18
        obtain ⟨y230, hy230⟩ : ∃ y_ : List Nat, y_ = (x213001_1 ++ [t229]) := ⟨_, rfl⟩
        replace H : (spec_l1Cur_box.l0 k1 a1 (wrap64 (x6_1 + 1)) s0_0 t224 t225 y226 y230) = some (r1, r2, r3, r4) := by first | (rw [hy230]; with_reducible exact H) | (have H2_ := (Option.bind_some _ _).symm.trans H; rw [hy230]; with_reducible exact H2_) | (have H2_ := (Option.bind_some _ _).symm.trans H; with_reducible exact H2_) | with_reducible exact H | (rw [hy230]; exact H) | exact H
        have Ny230 := Aside0.mk hy230
        clear hy230
        have H' := Aside0.mk H
        clear H
        try go_wp2_with (first | ((with_reducible refine gate_callee (f := 21) rfl ?_); refine goesL_ (some 16) rfl rfl Try.func21 (by kernel_rfl) rfl #[.pointer (some ⟨g, 0, none⟩)] rfl (by (try simp only [lA, lB, lC]); first | done | rfl | (simp only [lD, lE]; rfl)) ?_; (with_reducible refine (spec_l1Cur_sound.calls g s0_0 x1001_1 x1002_1 t213 t214 t215 w0 _ ?side1 ?side2 A9.out).mono ?_); (case side1 => repeat (first | (with_reducible first | exact HI0.out | apply IsS38.alloc | apply IsS38.drewN | apply IsS38.drew | apply IsS38.set_1 | apply IsS38.set_2 | refine IsS38.far ?_ NB0_211.out _ | refine IsS38.far ?_ NB0_212.out _) | exact HI0.out)); (case side2 => repeat (first | (with_reducible first | exact HB.out | apply below_alloc | apply pw_below_drewN | apply below_drew1 | refine below_set ?_ (IsS38.ge HI0.out) | refine below_set ?_ GE211.out | refine below_set ?_ GE212.out) | exact HB.out)); rintro e w19 ⟨rfl, hi, hb, hk⟩; refine ⟨_, rfl, ?_⟩; replace HO_213000 := a_ (Kd.R_mono (Kd.R_keep (IsS38.apart (show IsS38 w0 _ g s0_0 x1001_1 x1002_1 from by repeat (first | (with_reducible first | exact HI0.out | apply IsS38.alloc | apply IsS38.drewN | apply IsS38.drew | apply IsS38.set_1 | apply IsS38.set_2 | refine IsS38.far ?_ NB0_211.out _ | refine IsS38.far ?_ NB0_212.out _) | exact HI0.out)) (rk HO_213000.out) (by decide)) hk (fun _ h => h.2)) (fun _ h => h.1)); replace HO_213001 := a_ (Kd.R_mono (Kd.R_keep (IsS38.apart (show IsS38 w0 _ g s0_0 x1001_1 x1002_1 from by repeat (first | (with_reducible first | exact HI0.out | apply IsS38.alloc | apply IsS38.drewN | apply IsS38.drew | apply IsS38.set_1 | apply IsS38.set_2 | refine IsS38.far ?_ NB0_211.out _ | refine IsS38.far ?_ NB0_212.out _) | exact HI0.out)) (rk HO_213001.out) (by decide)) hk (fun _ h => h.2)) (fun _ h => h.1)); replace BK211 := a_ (KeepBut.blk hk (g' := gb211) (o := .cells #[.slice none 0 0, .slice none 0 0] 25 (0, 0)) (pk BK211.out) NB211_0.out (by simp)); replace BK212 := a_ (KeepBut.blk hk (g' := gb212) (o := .cells #[u213000, u213001] 25 (0, 0)) (pk BK212.out) NB212_0.out (by simp)); replace HK := a_ (KeepBut.trans (by repeat (first | (with_reducible first | exact HK.out | apply KeepBut.set_ | apply keep_drewN | apply keep_drew | apply keep_alloc | refine keep_far ?_ GW211.out _ | refine keep_far ?_ GW212.out _) | exact HK.out)) hk (.inl rfl)); replace HB := a_ (hb); replace HI0 := a_ (hi); clear hb hk hi) | ((with_reducible refine gate_callee (f := 21) rfl ?_); refine goesL_ (some 19) rfl rfl Try.func21 (by kernel_rfl) rfl #[.pointer (some ⟨g, 0, none⟩)] rfl (by (try simp only [lA, lB, lC]); first | done | rfl | (simp only [lD, lE]; rfl)) ?_; (with_reducible refine (spec_l1Cur_sound.calls g s0_0 t214 t215 t216 t217 t218 w0 _ ?side1 ?side2 A10.out).mono ?_); (case side1 => repeat (first | (with_reducible first | exact HI0.out | apply IsS38.alloc | apply IsS38.drewN | apply IsS38.drew | apply IsS38.set_1 | apply IsS38.set_2 | refine IsS38.far ?_ NB0_211.out _ | refine IsS38.far ?_ NB0_212.out _) | exact HI0.out)); (case side2 => repeat (first | (with_reducible first | exact HB.out | apply below_alloc | apply pw_below_drewN | apply below_drew1 | refine below_set ?_ (IsS38.ge HI0.out) | refine below_set ?_ GE211.out | refine below_set ?_ GE212.out) | exact HB.out)); rintro e w20 ⟨rfl, hi, hb, hk⟩; refine ⟨_, rfl, ?_⟩; replace HO_213000 := a_ (Kd.R_mono (Kd.R_keep (IsS38.apart (show IsS38 w0 _ g s0_0 t214 t215 from by repeat (first | (with_reducible first | exact HI0.out | apply IsS38.alloc | apply IsS38.drewN | apply IsS38.drew | apply IsS38.set_1 | apply IsS38.set_2 | refine IsS38.far ?_ NB0_211.out _ | refine IsS38.far ?_ NB0_212.out _) | exact HI0.out)) (rk HO_213000.out) (by decide)) hk (fun _ h => h.2)) (fun _ h => h.1)); replace HO_213001 := a_ (Kd.R_mono (Kd.R_keep (IsS38.apart (show IsS38 w0 _ g s0_0 t214 t215 from by repeat (first | (with_reducible first | exact HI0.out | apply IsS38.alloc | apply IsS38.drewN | apply IsS38.drew | apply IsS38.set_1 | apply IsS38.set_2 | refine IsS38.far ?_ NB0_211.out _ | refine IsS38.far ?_ NB0_212.out _) | exact HI0.out)) (rk HO_213001.out) (by decide)) hk (fun _ h => h.2)) (fun _ h => h.1)); replace BK211 := a_ (KeepBut.blk hk (g' := gb211) (o := .cells #[.slice none 0 0, .slice none 0 0] 25 (0, 0)) (pk BK211.out) NB211_0.out (by simp)); replace BK212 := a_ (KeepBut.blk hk (g' := gb212) (o := .cells #[u213000, u213001] 25 (0, 0)) (pk BK212.out) NB212_0.out (by simp)); replace HK := a_ (KeepBut.trans (by repeat (first | (with_reducible first | exact HK.out | apply KeepBut.set_ | apply keep_drewN | apply keep_drew | apply keep_alloc | refine keep_far ?_ GW211.out _ | refine keep_far ?_ GW212.out _) | exact HK.out)) hk (.inl rfl)); replace HB := a_ (hb); replace HI0 := a_ (hi); clear hb hk hi) | ((with_reducible refine gate_callee (f := 22) rfl ?_); refine goesL_ (some 20) rfl rfl Try.func22 (by kernel_rfl) rfl #[.float .f64 t216] rfl (by (try simp only [lA, lB, lC]); first | done | rfl | (simp only [lD, lE]; rfl)) ?_; (with_reducible refine (math_Abs.calls t216 t219 _ A11.out).mono ?_); rintro e w' ⟨rfl, ⟨nd, rfl⟩⟩; refine ⟨_, rfl, ?_⟩; (try (rw [drewN_self w20]; generalize hq_ : World.drewN w20 _ = w20; have n0_ : Aside0 (Kd.R Kd.flt 33 w20 w.heap.size (fun k_ => some k_ ≠ (u213001 : Value).ownBlock) u213000 x213000_1) := ⟨by rw [← hq_]; exact (rk HO_213000.out)⟩; have n1_ : Aside0 (Kd.R Kd.flt 33 w20 w.heap.size (fun k_ => some k_ ≠ (u213000 : Value).ownBlock) u213001 x213001_1) := ⟨by rw [← hq_]; exact (rk HO_213001.out)⟩; have n2_ : Aside0 (w20.heap[gb211]? = some (.cells #[.slice none 0 0, .slice none 0 0] 25 (0, 0))) := ⟨by rw [← hq_]; exact (pk BK211.out)⟩; have n3_ : Aside0 (w20.heap[gb212]? = some (.cells #[u213000, u213001] 25 (0, 0))) := ⟨by rw [← hq_]; exact (pk BK212.out)⟩; have n4_ : Aside0 (IsS38 w0 w20 g s0_0 t217 t218) := ⟨by rw [← hq_]; exact (by repeat (first | (with_reducible first | exact HI0.out | apply IsS38.alloc | apply IsS38.drewN | apply IsS38.drew | apply IsS38.set_1 | apply IsS38.set_2 | refine IsS38.far ?_ NB0_211.out _ | refine IsS38.far ?_ NB0_212.out _) | exact HI0.out))⟩; have n5_ : Aside0 (KeepBut w w20 g none) := ⟨by rw [← hq_]; exact (by repeat (first | (with_reducible first | exact HK.out | apply KeepBut.set_ | apply keep_drewN | apply keep_drew | apply keep_alloc | refine keep_far ?_ GW211.out _ | refine keep_far ?_ GW212.out _) | exact HK.out))⟩; have n6_ : Aside0 (Below w0.heap.size w0 w20) := ⟨by rw [← hq_]; exact (by repeat (first | (with_reducible first | exact HB.out | apply below_alloc | apply pw_below_drewN | apply below_drew1 | refine below_set ?_ (IsS38.ge HI0.out) | refine below_set ?_ GE211.out | refine below_set ?_ GE212.out) | exact HB.out))⟩; clear HO_213000 HO_213001 BK211 BK212 HI0 HK HB hq_; have HO_213000 := n0_; have HO_213001 := n1_; have BK211 := n2_; have BK212 := n3_; have HI0 := n4_; have HK := n5_; have HB := n6_; clear n0_ n1_ n2_ n3_ n4_ n5_ n6_))) | ((with_reducible refine gate_callee (f := 17) rfl ?_); refine goesL_ (some 23) rfl rfl Try.func17 (by kernel_rfl) rfl #[.pointer (some ⟨g, 0, none⟩), .int .i64 40] rfl (by (try simp only [lA, lB, lC]); first | done | rfl | (simp only [lD, lE]; rfl)) ?_; (with_reducible refine (spec_l1Cur_one.calls g s0_0 t217 t218 40 true t221 t222 w0 _ ?side1 ?side2 A13.out).mono ?_); (case side1 => repeat (first | (with_reducible first | exact HI0.out | apply IsS38.alloc | apply IsS38.drewN | apply IsS38.drew | apply IsS38.set_1 | apply IsS38.set_2 | refine IsS38.far ?_ NB0_211.out _ | refine IsS38.far ?_ NB0_212.out _) | exact HI0.out)); (case side2 => repeat (first | (with_reducible first | exact HB.out | apply below_alloc | apply pw_below_drewN | apply below_drew1 | refine below_set ?_ (IsS38.ge HI0.out) | refine below_set ?_ GE211.out | refine below_set ?_ GE212.out) | exact HB.out)); rintro e w21 ⟨rfl, hi, hb, hk⟩; refine ⟨_, rfl, ?_⟩; replace HO_213000 := a_ (Kd.R_mono (Kd.R_keep (IsS38.apart (show IsS38 w0 _ g s0_0 t217 t218 from by repeat (first | (with_reducible first | exact HI0.out | apply IsS38.alloc | apply IsS38.drewN | apply IsS38.drew | apply IsS38.set_1 | apply IsS38.set_2 | refine IsS38.far ?_ NB0_211.out _ | refine IsS38.far ?_ NB0_212.out _) | exact HI0.out)) (rk HO_213000.out) (by decide)) hk (fun _ h => h.2)) (fun _ h => h.1)); replace HO_213001 := a_ (Kd.R_mono (Kd.R_keep (IsS38.apart (show IsS38 w0 _ g s0_0 t217 t218 from by repeat (first | (with_reducible first | exact HI0.out | apply IsS38.alloc | apply IsS38.drewN | apply IsS38.drew | apply IsS38.set_1 | apply IsS38.set_2 | refine IsS38.far ?_ NB0_211.out _ | refine IsS38.far ?_ NB0_212.out _) | exact HI0.out)) (rk HO_213001.out) (by decide)) hk (fun _ h => h.2)) (fun _ h => h.1)); replace BK211 := a_ (KeepBut.blk hk (g' := gb211) (o := .cells #[.slice none 0 0, .slice none 0 0] 25 (0, 0)) (pk BK211.out) NB211_0.out (by simp)); replace BK212 := a_ (KeepBut.blk hk (g' := gb212) (o := .cells #[u213000, u213001] 25 (0, 0)) (pk BK212.out) NB212_0.out (by simp)); replace HK := a_ (KeepBut.trans (by repeat (first | (with_reducible first | exact HK.out | apply KeepBut.set_ | apply keep_drewN | apply keep_drew | apply keep_alloc | refine keep_far ?_ GW211.out _ | refine keep_far ?_ GW212.out _) | exact HK.out)) hk (.inl rfl)); replace HB := a_ (hb); replace HI0 := a_ (hi); clear hb hk hi) | ((with_reducible refine gate_callee (f := 23) rfl ?_); refine goesL_ (some 25) rfl rfl Try.func23 (by kernel_rfl) rfl #[.pointer (some ⟨g, 0, none⟩)] rfl (by (try simp only [lA, lB, lC]); first | done | rfl | (simp only [lD, lE]; rfl)) ?_; (with_reducible refine (spec_l1Cur_real.calls k1 g s0_0 t221 t222 t223 t224 t225 w0 _ ?side1 ?side2 A15.out).mono ?_); (case side1 => repeat (first | (with_reducible first | exact HI0.out | apply IsS38.alloc | apply IsS38.drewN | apply IsS38.drew | apply IsS38.set_1 | apply IsS38.set_2 | refine IsS38.far ?_ NB0_211.out _ | refine IsS38.far ?_ NB0_212.out _) | exact HI0.out)); (case side2 => repeat (first | (with_reducible first | exact HB.out | apply below_alloc | apply pw_below_drewN | apply below_drew1 | refine below_set ?_ (IsS38.ge HI0.out) | refine below_set ?_ GE211.out | refine below_set ?_ GE212.out) | exact HB.out)); rintro e w22 ⟨rfl, hi, hb, hk⟩; refine ⟨_, rfl, ?_⟩; replace HO_213000 := a_ (Kd.R_mono (Kd.R_keep (IsS38.apart (show IsS38 w0 _ g s0_0 t221 t222 from by repeat (first | (with_reducible first | exact HI0.out | apply IsS38.alloc | apply IsS38.drewN | apply IsS38.drew | apply IsS38.set_1 | apply IsS38.set_2 | refine IsS38.far ?_ NB0_211.out _ | refine IsS38.far ?_ NB0_212.out _) | exact HI0.out)) (rk HO_213000.out) (by decide)) hk (fun _ h => h.2)) (fun _ h => h.1)); replace HO_213001 := a_ (Kd.R_mono (Kd.R_keep (IsS38.apart (show IsS38 w0 _ g s0_0 t221 t222 from by repeat (first | (with_reducible first | exact HI0.out | apply IsS38.alloc | apply IsS38.drewN | apply IsS38.drew | apply IsS38.set_1 | apply IsS38.set_2 | refine IsS38.far ?_ NB0_211.out _ | refine IsS38.far ?_ NB0_212.out _) | exact HI0.out)) (rk HO_213001.out) (by decide)) hk (fun _ h => h.2)) (fun _ h => h.1)); replace BK211 := a_ (KeepBut.blk hk (g' := gb211) (o := .cells #[.slice none 0 0, .slice none 0 0] 25 (0, 0)) (pk BK211.out) NB211_0.out (by simp)); replace BK212 := a_ (KeepBut.blk hk (g' := gb212) (o := .cells #[u213000, u213001] 25 (0, 0)) (pk BK212.out) NB212_0.out (by simp)); replace HK := a_ (KeepBut.trans (by repeat (first | (with_reducible first | exact HK.out | apply KeepBut.set_ | apply keep_drewN | apply keep_drew | apply keep_alloc | refine keep_far ?_ GW211.out _ | refine keep_far ?_ GW212.out _) | exact HK.out)) hk (.inl rfl)); replace HB := a_ (hb); replace HI0 := a_ (hi); clear hb hk hi; have hnb23 := NB212_211.out; have hnc23 := NB211_212.out; have hnb24 := NB212_0.out; have hnc24 := NB0_212.out; have hcz25_0 : w22.cell? ⟨gb212, 0, none⟩ = some (u213000) := (blk_cell BK212.out 0).trans rfl; have hcz25_1 : w22.cell? ⟨gb212, 1, none⟩ = some (u213001) := (blk_cell BK212.out 1).trans rfl; have hfz25_0 := blk_frozen BK212.out 0; have hfz25_1 := blk_frozen BK212.out 1) | ((with_reducible refine gate_builtin (b := .append) (xs := #[.tmp 27, .tmp 29]) rfl ?_); at_builtin; refine Kd.R_append Kd.flt w.heap.size rfl (.tmp 27) (.tmp 29) 23 33 (.float .f64 0) 8 rfl Try.underlying23 info33 rfl (by decide) (by omega) u213000 x213000_1 t213 [.float .f64 t213] (fun k_ => some k_ ≠ (u213001 : Value).ownBlock) (fun _ => False) rfl rfl ?aP (fun _ hk => hk.elim) ?aF ?aO (Below.refl _ _) ?aS ?aL ?_; (case aP => exact rfl); (case aF => exact (fun k_ hk => Kd.fresh' (Kd.R_lt (rk HO_213001.out)) k_ hk)); (case aO => exact (rk HO_213000.out)); (case aS => exact (keep_size (w := w) (g := g) (row := none) (by repeat (first | (with_reducible first | exact HK.out | apply KeepBut.set_ | apply keep_drewN | apply keep_drew | apply keep_alloc | refine keep_far ?_ GW211.out _ | refine keep_far ?_ GW212.out _) | exact HK.out)))); (case aL => have := LMc16.out; omega); intro v227 w26 ho hb hg hat; rw [← Ny226.out] at ho; replace HO_213001 := a_ (Kd.R_after (ok := (fun _ => True)) (rk (Kd.R_mono HO_213001.out (fun _ hk => ⟨trivial, hk⟩))) hg hat); replace BK211 := a_ (blk_grown (pk BK211.out) hg (Kd.R_ne HO_213000.out BK211.out (by decide))); replace BK212 := a_ (blk_grown (pk BK212.out) hg (Kd.R_ne HO_213000.out BK212.out (by decide))); replace HB := a_ (below_weaken (by repeat (first | (with_reducible first | exact HB.out | apply below_alloc | apply pw_below_drewN | apply below_drew1 | refine below_set ?_ (IsS38.ge HI0.out) | refine below_set ?_ GE211.out | refine below_set ?_ GE212.out) | exact HB.out)) HL.out hb); replace HI0 := a_ (IsS38.grown (show IsS38 w0 _ g s0_0 t224 t225 from by repeat (first | (with_reducible first | exact HI0.out | apply IsS38.alloc | apply IsS38.drewN | apply IsS38.drew | apply IsS38.set_1 | apply IsS38.set_2 | refine IsS38.far ?_ NB0_211.out _ | refine IsS38.far ?_ NB0_212.out _) | exact HI0.out)) hg (IsS38.own_ne HI0.out HO_213000.out (by decide))); replace HK := a_ (KeepBut.trans (by repeat (first | (with_reducible first | exact HK.out | apply KeepBut.set_ | apply keep_drewN | apply keep_drew | apply keep_alloc | refine keep_far ?_ GW211.out _ | refine keep_far ?_ GW212.out _) | exact HK.out)) (KeepBut.of_grown hg g) (Kd.R_base2 HO_213000.out)); have HO228 := a_ (ho); clear HO_213000 ho hb hg hat; obtain ⟨Ao27, co27, eo27⟩ := Kd.R_slice HO228.out; subst eo27; have hcz28_0 : w26.cell? ⟨gb212, 0, none⟩ = some (u213000) := (blk_cell BK212.out 0).trans rfl; have hcz28_1 : w26.cell? ⟨gb212, 1, none⟩ = some (u213001) := (blk_cell BK212.out 1).trans rfl; have hfz28_0 := blk_frozen BK212.out 0; have hfz28_1 := blk_frozen BK212.out 1))
        have n0_ : Aside0 (Kd.R Kd.flt 33 (w26.setCell ⟨gb212, 0, none⟩ (.slice Ao27 y226.length co27)) w.heap.size (fun k_ => N_ (.slice Ao27 y226.length co27) k_) u213001 x213001_1) := ⟨rk (Kd.R_mono (fr1 HO_213001.out BK212.out (by decide) 0 (.slice Ao27 y226.length co27)) (fun _ hk => hk.1.2))⟩
        have n1_ : Aside0 (Kd.R Kd.flt 33 (w26.setCell ⟨gb212, 0, none⟩ (.slice Ao27 y226.length co27)) w.heap.size (fun k_ => some k_ ≠ (u213001 : Value).ownBlock) (.slice Ao27 y226.length co27) y226) := ⟨rk (Kd.R_mono (fr1 HO228.out BK212.out (by decide) 0 (.slice Ao27 y226.length co27)) (fun _ hk => hk.1))⟩
        have n2_ : Aside0 ((w26.setCell ⟨gb212, 0, none⟩ (.slice Ao27 y226.length co27)).heap[gb211]? = some (.cells #[.slice none 0 0, .slice none 0 0] 25 (0, 0))) := ⟨by refine pk ?_; refine blk_far ?_ NB211_212.out _; refine pk ?_; exact BK211.out⟩
        have n3_ : Aside0 ((w26.setCell ⟨gb212, 0, none⟩ (.slice Ao27 y226.length co27)).heap[gb212]? = some (.cells #[.slice Ao27 y226.length co27, u213001] 25 (0, 0))) := ⟨by refine pk ?_; refine blk_put (cs := #[u213000, u213001]) ?_ 0 _ rfl; refine pk ?_; exact BK212.out⟩
        have n4_ : Aside0 (IsS38 w0 (w26.setCell ⟨gb212, 0, none⟩ (.slice Ao27 y226.length co27)) g s0_0 t224 t225) := ⟨by repeat (first | (with_reducible first | exact HI0.out | apply IsS38.alloc | apply IsS38.drewN | apply IsS38.drew | apply IsS38.set_1 | apply IsS38.set_2 | refine IsS38.far ?_ NB0_211.out _ | refine IsS38.far ?_ NB0_212.out _) | exact HI0.out)⟩
        have n5_ : Aside0 (KeepBut w (w26.setCell ⟨gb212, 0, none⟩ (.slice Ao27 y226.length co27)) g none) := ⟨by repeat (first | (with_reducible first | exact HK.out | apply KeepBut.set_ | apply keep_drewN | apply keep_drew | apply keep_alloc | refine keep_far ?_ GW211.out _ | refine keep_far ?_ GW212.out _) | exact HK.out)⟩
        have n6_ : Aside0 (Below w0.heap.size w0 (w26.setCell ⟨gb212, 0, none⟩ (.slice Ao27 y226.length co27))) := ⟨by repeat (first | (with_reducible first | exact HB.out | apply below_alloc | apply pw_below_drewN | apply below_drew1 | refine below_set ?_ (IsS38.ge HI0.out) | refine below_set ?_ GE211.out | refine below_set ?_ GE212.out) | exact HB.out)⟩
        (try clear HO_213001)
        (try clear HO228)
        (try clear BK211)
        (try clear BK212)
        (try clear HI0)
        (try clear HK)
        (try clear HB)
        generalize (w26.setCell ⟨gb212, 0, none⟩ (.slice Ao27 y226.length co27)) = w29 at n0_ n1_ n2_ n3_ n4_ n5_ n6_ ⊢
        have HO_213001 := n0_
        have HO228 := n1_
        have BK211 := n2_
        have BK212 := n3_
        have HI0 := n4_
        have HK := n5_
        have HB := n6_
        clear n0_ n1_ n2_ n3_ n4_ n5_ n6_
        replace HO_213001 := a_ (Kd.R_drew HO_213001.out)
        replace HO228 := a_ (Kd.R_drew HO228.out)
        replace BK211 := a_ (blk_drew BK211.out)
        replace BK212 := a_ (blk_drew BK212.out)
        replace HI0 := a_ (IsS38.drew HI0.out)
        replace HK := a_ (keep_drew HK.out)
        replace HB := a_ (below_drew1 HB.out)
        refine start_ (n := 8) (S := fun w' => w'.cell? ⟨gb212, 0, none⟩ = some (.slice Ao27 y226.length co27) ∧ w'.cell? ⟨gb212, 1, none⟩ = some (u213001)) (ds := [7]) #[false, false, false, false, false, false, false, false] (by kernel_rfl) rfl rfl ⟨(blk_cell BK212.out 0).trans rfl, (blk_cell BK212.out 1).trans rfl⟩ (fun hHeld => ?_); refine with_tabW spec_l1Cur_box.tab10 spec_l1Cur_box.bits10 (fun HT_ HW_ => ?_)
        generalize w29.drew = w30 at HO_213001 HO228 BK211 BK212 HI0 HK HB hHeld ⊢
        refine pure_ (i := 0) (N := some 32) (v := ?_) (a' := ?_) #[true, false, false, false, false, false, false, false] rfl rfl (any_of HT_.out (by kernel_rfl)) (fun _ _ _ h => h) (Or.inl ⟨by rfl, ?_⟩) ?_ ?_
        rotate_left
        ·intro w'
         go_simp
         with_reducible rfl
        rotate_left
        ·simp only [Act.put, sB, sC, sD, i64_w, i32_w]
         rfl
        refine pure_ (i := 2) (N := some 34) (v := ?_) (a' := ?_) #[true, false, true, false, false, false, false, false] rfl rfl (any_of HT_.out (by kernel_rfl)) (fun _ _ _ h => h) (Or.inl ⟨by rfl, ?_⟩) ?_ ?_
        rotate_left
        ·intro w'
         go_simp
         with_reducible rfl
        rotate_left
        ·simp only [Act.put, sB, sC, sD, i64_w, i32_w]
         rfl
        refine take_ (i := 1) (N := some 33) (v := ?_) (a' := ?_) #[true, true, true, false, false, false, false, false] rfl rfl (take_ofW HT_.out HW_.out (by kernel_rfl)) (fun _ _ _ h => h) (Or.inl ⟨by rfl, ?_⟩) hHeld ?_ ?_
        rotate_left
        ·rintro w' ⟨s0, s1⟩
         go_simp
         with_reducible rfl
        rotate_left
        ·simp only [Act.put, sB, sC, sD, i64_w, i32_w]
         rfl
        refine one_ (i := 3) (N := some 35) #[true, true, true, true, false, false, false, false] rfl rfl (one_of HT_.out (by kernel_rfl)) (by decide) (fun K hK => ?_)
        refine goes_ Try.func24 (by kernel_rfl) rfl #[.float .f64 t223] (by rfl) rfl rfl (by (try simp only [lA, lB, lC]); first | done | rfl | (simp only [lD, lE]; rfl)) ?_
        with_reducible refine (spec_l2Plain.calls t223 t229 _ A17.out).mono ?_
        rintro e w' ⟨rfl, ⟨nd, rfl⟩⟩
        refine ⟨_, rfl, ?_⟩
        refine hK.out _ _ ⟨(blk_cell BK212.out 0).trans rfl, (blk_cell BK212.out 1).trans rfl⟩ (fun hHeld => ?_)
        clear hK K
        refine norm_ (a' := ?_) ?_ ?_
        rotate_left
        ·show Act.put _ (some 35) _ = _
         simp only [Act.put, sB, sC, sD, i64_w, i32_w]
         rfl
        refine one_ (i := 4) (N := some 36) #[true, true, true, true, true, false, false, false] rfl rfl (one_of HT_.out (by kernel_rfl)) (by decide) (fun K hK => ?_)
        refine value_ (w1 := ?_) (v := ?_) (by rfl) rfl ?_ ?_
        rotate_left 2
        ·go_simp
         constructor
         ·rfl
         ·rfl
        refine hK.out _ _ ⟨(blk_cell (blk_alloc BK212.out _) 0).trans rfl, (blk_cell (blk_alloc BK212.out _) 1).trans rfl⟩ (fun hHeld => ?_)
        clear hK K
        refine norm_ (a' := ?_) ?_ ?_
        rotate_left
        ·show Act.put _ (some 36) _ = _
         simp only [Act.put, sB, sC, sD, i64_w, i32_w]
         rfl
        refine one_ (i := 5) (N := some 37) #[true, true, true, true, true, true, false, false] rfl rfl (one_of HT_.out (by kernel_rfl)) (by decide) (fun K hK => ?_)
        refine Kd.R_append_step Kd.flt w.heap.size (by rfl) (.tmp 33) (.tmp 36) 23 33 (.float .f64 0) 8 rfl Try.underlying23 info33 rfl (by decide) (by omega) u213001 x213001_1 t229 [.float .f64 t229] (fun k_ => N_ (.slice Ao27 y226.length co27) k_) (fun _ => False) rfl rfl ?aP (fun _ hk => hk.elim) ?aF ?aO (Below.refl _ _) ?aS ?aL ?_
        (case aP => exact rfl)
        (case aF => exact (fun k_ hk => Kd.fresh' (Kd.R_lt (rk HO228.out)) k_ hk))
        (case aO => exact (rk HO_213001.out))
        (case aS => exact (keep_size (w := w) (g := g) (row := none) (by repeat (first | (with_reducible first | exact HK.out | apply KeepBut.set_ | apply keep_drewN | apply keep_drew | apply keep_alloc | refine keep_far ?_ GW211.out _ | refine keep_far ?_ GW212.out _) | exact HK.out))))
        (case aL => have := LMc18.out; omega)
        intro v231 w31 ho hb hg hat
        rw [← Ny230.out] at ho
        replace BK211 := a_ (blk_grown (pk BK211.out) hg (Kd.R_ne HO_213001.out BK211.out (by decide)))
        replace BK212 := a_ (blk_grown (pk BK212.out) hg (Kd.R_ne HO_213001.out BK212.out (by decide)))
        replace HO228 := a_ (Kd.R_after (ok := (fun _ => True)) (rk (Kd.R_mono HO228.out (fun _ hk => ⟨trivial, hk⟩))) hg hat)
        replace HB := a_ (below_weaken (by repeat (first | (with_reducible first | exact HB.out | apply below_alloc | apply pw_below_drewN | apply below_drew1 | refine below_set ?_ (IsS38.ge HI0.out) | refine below_set ?_ GE211.out | refine below_set ?_ GE212.out) | exact HB.out)) HL.out hb)
        replace HI0 := a_ (IsS38.grown (show IsS38 w0 _ g s0_0 t224 t225 from by repeat (first | (with_reducible first | exact HI0.out | apply IsS38.alloc | apply IsS38.drewN | apply IsS38.drew | apply IsS38.set_1 | apply IsS38.set_2 | refine IsS38.far ?_ NB0_211.out _ | refine IsS38.far ?_ NB0_212.out _) | exact HI0.out)) hg (IsS38.own_ne HI0.out HO_213001.out (by decide)))
        replace HK := a_ (KeepBut.trans (by repeat (first | (with_reducible first | exact HK.out | apply KeepBut.set_ | apply keep_drewN | apply keep_drew | apply keep_alloc | refine keep_far ?_ GW211.out _ | refine keep_far ?_ GW212.out _) | exact HK.out)) (KeepBut.of_grown hg g) (Kd.R_base2 HO_213001.out))
        have HO232 := a_ (ho)
        clear HO_213001 ho hb hg hat
        obtain ⟨Ao32, co32, eo32⟩ := Kd.R_slice HO232.out
        (first | subst eo32 | (injection eo32 with f1_ f2_ f3_; obtain rfl := f1_.symm; obtain rfl := f3_.symm))
        refine hK.out _ _ ⟨(blk_cell BK212.out 0).trans rfl, (blk_cell BK212.out 1).trans rfl⟩ (fun hHeld => ?_)
        clear hK K
        refine norm_ (a' := ?_) ?_ ?_
        rotate_left
        ·show Act.put _ (some 37) _ = _
         simp only [Act.put, sB, sC, sD, i64_w, i32_w]
         rfl
        refine pure_ (i := 6) (N := some 38) (v := ?_) (a' := ?_) #[true, true, true, true, true, true, true, false] rfl rfl (any_of HT_.out (by kernel_rfl)) (fun _ _ _ h => h) (Or.inl ⟨by rfl, ?_⟩) ?_ ?_
        rotate_left
        ·intro w'
         go_simp
         with_reducible rfl
        rotate_left
        ·simp only [Act.put, sB, sC, sD, i64_w, i32_w]
         rfl
        refine last_ (i := 7) (N := none) #[true, true, true, true, true, true, true, true] rfl rfl (one_of HT_.out (by kernel_rfl)) (by decide) (fun K hK => ?_)
        have hs33 : w31.cell? ⟨gb212, 1, none⟩ = some (u213001) := (blk_cell BK212.out 1).trans rfl
        have hfs33 := blk_frozen BK212.out 1
        have hns33_0 := NB211_212.out
        have hms33_0 := NB212_211.out
        refine skip_ (w1 := ?_) ?_ ?_ ?_ ?_
        rotate_left
        ·rfl
        ·rfl
        ·go_simp
         rfl
        refine hK.out _ _ ?_
        clear hK K
        refine done_ (done_of HT_.out (by kernel_rfl)) ?_
        try go_wp2
        go_roundg k1
        case measure => have := HK1.out; omega
        case rel => exact ⟨(wrap64 (x6_1 + 1)), (t224), (t225), (y226), (y230), (.slice Ao27 y226.length co27), (.slice Ao32 y230.length co32), (by first | rfl | (simp; done) | (simp [*]; done)), H', ⟨by have := HK1.out; omega⟩, ⟨rk (Kd.R_mono (fr1 HO228.out BK212.out (by decide) 1 (.slice Ao32 y230.length co32)) (fun _ hk => hk.1.2))⟩, ⟨rk (Kd.R_mono (fr1 HO232.out BK212.out (by decide) 1 (.slice Ao32 y230.length co32)) (fun _ hk => hk.1))⟩, ⟨by refine pk ?_; refine blk_far ?_ NB211_212.out _; refine pk ?_; exact BK211.out⟩, ⟨by refine pk ?_; refine blk_put (cs := #[.slice Ao27 y226.length co27, u213001]) ?_ 1 _ rfl; refine pk ?_; exact BK212.out⟩, ⟨by repeat (first | (with_reducible first | exact HI0.out | apply IsS38.alloc | apply IsS38.drewN | apply IsS38.drew | apply IsS38.set_1 | apply IsS38.set_2 | refine IsS38.far ?_ NB0_211.out _ | refine IsS38.far ?_ NB0_212.out _) | exact HI0.out)⟩, ⟨by repeat (first | (with_reducible first | exact HK.out | apply KeepBut.set_ | apply keep_drewN | apply keep_drew | apply keep_alloc | refine keep_far ?_ GW211.out _ | refine keep_far ?_ GW212.out _) | exact HK.out)⟩, ⟨by repeat (first | (with_reducible first | exact HB.out | apply below_alloc | apply pw_below_drewN | apply below_drew1 | refine below_set ?_ (IsS38.ge HI0.out) | refine below_set ?_ GE211.out | refine below_set ?_ GE212.out) | exact HB.out)⟩⟩
       ·rw [if_neg c18] at H
        exact absurd H (by simp)
      ·rw [if_neg c16] at H
       exact absurd H (by simp)
     ·replace c14 := Bool.eq_false_iff.mpr c14
      subst c14
      have H1 : (if x213000_1.length < 17592186044416 then ((spec_l2Plain.f (fl2 .add t213 t219)).bind fun t236 => (if x213001_1.length < 17592186044416 then (spec_l1Cur_box.l0 k1 a1 (wrap64 (x6_1 + 1)) s0_0 t221 t222 (x213000_1 ++ [t213]) (x213001_1 ++ [t236])) else (none))) else (none)) = some (r1, r2, r3, r4) := by rw [if_neg (show ¬ (false = true) by decide)] at H; exact H
      clear H
      have H := H1
      clear H1
      by_cases c34 : x213000_1.length < 17592186044416
      ·rw [if_pos c34] at H
       have LMc34 := Aside0.mk c34
       clear c34
       obtain ⟨y233, hy233⟩ : ∃ y_ : List Nat, y_ = (x213000_1 ++ [t213]) := ⟨_, rfl⟩
       replace H : ((spec_l2Plain.f (fl2 .add t213 t219)).bind fun t236 => (if x213001_1.length < 17592186044416 then (spec_l1Cur_box.l0 k1 a1 (wrap64 (x6_1 + 1)) s0_0 t221 t222 y233 (x213001_1 ++ [t236])) else (none))) = some (r1, r2, r3, r4) := by first | (rw [hy233]; with_reducible exact H) | (have H2_ := (Option.bind_some _ _).symm.trans H; rw [hy233]; with_reducible exact H2_) | (have H2_ := (Option.bind_some _ _).symm.trans H; with_reducible exact H2_) | with_reducible exact H | (rw [hy233]; exact H) | exact H
       have Ny233 := Aside0.mk hy233
       clear hy233
       replace H := Option.bind_eq_some_iff.mp H
       obtain ⟨t236, A350, H⟩ := H
       replace H : (if x213001_1.length < 17592186044416 then (spec_l1Cur_box.l0 k1 a1 (wrap64 (x6_1 + 1)) s0_0 t221 t222 y233 (x213001_1 ++ [t236])) else (none)) = some (r1, r2, r3, r4) := H
       have A35 := Aside0.mk A350
       clear A350
       by_cases c36 : x213001_1.length < 17592186044416
       ·rw [if_pos c36] at H
        have LMc36 := Aside0.mk c36
        clear c36
        obtain ⟨y237, hy237⟩ : ∃ y_ : List Nat, y_ = (x213001_1 ++ [t236]) := ⟨_, rfl⟩
        replace H : (spec_l1Cur_box.l0 k1 a1 (wrap64 (x6_1 + 1)) s0_0 t221 t222 y233 y237) = some (r1, r2, r3, r4) := by first | (rw [hy237]; with_reducible exact H) | (have H2_ := (Option.bind_some _ _).symm.trans H; rw [hy237]; with_reducible exact H2_) | (have H2_ := (Option.bind_some _ _).symm.trans H; with_reducible exact H2_) | with_reducible exact H | (rw [hy237]; exact H) | exact H
        have Ny237 := Aside0.mk hy237
        clear hy237
        have H' := Aside0.mk H
        clear H
        try go_wp2_with (first | ((with_reducible refine gate_callee (f := 21) rfl ?_); refine goesL_ (some 16) rfl rfl Try.func21 (by kernel_rfl) rfl #[.pointer (some ⟨g, 0, none⟩)] rfl (by (try simp only [lA, lB, lC]); first | done | rfl | (simp only [lD, lE]; rfl)) ?_; (with_reducible refine (spec_l1Cur_sound.calls g s0_0 x1001_1 x1002_1 t213 t214 t215 w0 _ ?side1 ?side2 A9.out).mono ?_); (case side1 => repeat (first | (with_reducible first | exact HI0.out | apply IsS38.alloc | apply IsS38.drewN | apply IsS38.drew | apply IsS38.set_1 | apply IsS38.set_2 | refine IsS38.far ?_ NB0_211.out _ | refine IsS38.far ?_ NB0_212.out _) | exact HI0.out)); (case side2 => repeat (first | (with_reducible first | exact HB.out | apply below_alloc | apply pw_below_drewN | apply below_drew1 | refine below_set ?_ (IsS38.ge HI0.out) | refine below_set ?_ GE211.out | refine below_set ?_ GE212.out) | exact HB.out)); rintro e w37 ⟨rfl, hi, hb, hk⟩; refine ⟨_, rfl, ?_⟩; replace HO_213000 := a_ (Kd.R_mono (Kd.R_keep (IsS38.apart (show IsS38 w0 _ g s0_0 x1001_1 x1002_1 from by repeat (first | (with_reducible first | exact HI0.out | apply IsS38.alloc | apply IsS38.drewN | apply IsS38.drew | apply IsS38.set_1 | apply IsS38.set_2 | refine IsS38.far ?_ NB0_211.out _ | refine IsS38.far ?_ NB0_212.out _) | exact HI0.out)) (rk HO_213000.out) (by decide)) hk (fun _ h => h.2)) (fun _ h => h.1)); replace HO_213001 := a_ (Kd.R_mono (Kd.R_keep (IsS38.apart (show IsS38 w0 _ g s0_0 x1001_1 x1002_1 from by repeat (first | (with_reducible first | exact HI0.out | apply IsS38.alloc | apply IsS38.drewN | apply IsS38.drew | apply IsS38.set_1 | apply IsS38.set_2 | refine IsS38.far ?_ NB0_211.out _ | refine IsS38.far ?_ NB0_212.out _) | exact HI0.out)) (rk HO_213001.out) (by decide)) hk (fun _ h => h.2)) (fun _ h => h.1)); replace BK211 := a_ (KeepBut.blk hk (g' := gb211) (o := .cells #[.slice none 0 0, .slice none 0 0] 25 (0, 0)) (pk BK211.out) NB211_0.out (by simp)); replace BK212 := a_ (KeepBut.blk hk (g' := gb212) (o := .cells #[u213000, u213001] 25 (0, 0)) (pk BK212.out) NB212_0.out (by simp)); replace HK := a_ (KeepBut.trans (by repeat (first | (with_reducible first | exact HK.out | apply KeepBut.set_ | apply keep_drewN | apply keep_drew | apply keep_alloc | refine keep_far ?_ GW211.out _ | refine keep_far ?_ GW212.out _) | exact HK.out)) hk (.inl rfl)); replace HB := a_ (hb); replace HI0 := a_ (hi); clear hb hk hi) | ((with_reducible refine gate_callee (f := 21) rfl ?_); refine goesL_ (some 19) rfl rfl Try.func21 (by kernel_rfl) rfl #[.pointer (some ⟨g, 0, none⟩)] rfl (by (try simp only [lA, lB, lC]); first | done | rfl | (simp only [lD, lE]; rfl)) ?_; (with_reducible refine (spec_l1Cur_sound.calls g s0_0 t214 t215 t216 t217 t218 w0 _ ?side1 ?side2 A10.out).mono ?_); (case side1 => repeat (first | (with_reducible first | exact HI0.out | apply IsS38.alloc | apply IsS38.drewN | apply IsS38.drew | apply IsS38.set_1 | apply IsS38.set_2 | refine IsS38.far ?_ NB0_211.out _ | refine IsS38.far ?_ NB0_212.out _) | exact HI0.out)); (case side2 => repeat (first | (with_reducible first | exact HB.out | apply below_alloc | apply pw_below_drewN | apply below_drew1 | refine below_set ?_ (IsS38.ge HI0.out) | refine below_set ?_ GE211.out | refine below_set ?_ GE212.out) | exact HB.out)); rintro e w38 ⟨rfl, hi, hb, hk⟩; refine ⟨_, rfl, ?_⟩; replace HO_213000 := a_ (Kd.R_mono (Kd.R_keep (IsS38.apart (show IsS38 w0 _ g s0_0 t214 t215 from by repeat (first | (with_reducible first | exact HI0.out | apply IsS38.alloc | apply IsS38.drewN | apply IsS38.drew | apply IsS38.set_1 | apply IsS38.set_2 | refine IsS38.far ?_ NB0_211.out _ | refine IsS38.far ?_ NB0_212.out _) | exact HI0.out)) (rk HO_213000.out) (by decide)) hk (fun _ h => h.2)) (fun _ h => h.1)); replace HO_213001 := a_ (Kd.R_mono (Kd.R_keep (IsS38.apart (show IsS38 w0 _ g s0_0 t214 t215 from by repeat (first | (with_reducible first | exact HI0.out | apply IsS38.alloc | apply IsS38.drewN | apply IsS38.drew | apply IsS38.set_1 | apply IsS38.set_2 | refine IsS38.far ?_ NB0_211.out _ | refine IsS38.far ?_ NB0_212.out _) | exact HI0.out)) (rk HO_213001.out) (by decide)) hk (fun _ h => h.2)) (fun _ h => h.1)); replace BK211 := a_ (KeepBut.blk hk (g' := gb211) (o := .cells #[.slice none 0 0, .slice none 0 0] 25 (0, 0)) (pk BK211.out) NB211_0.out (by simp)); replace BK212 := a_ (KeepBut.blk hk (g' := gb212) (o := .cells #[u213000, u213001] 25 (0, 0)) (pk BK212.out) NB212_0.out (by simp)); replace HK := a_ (KeepBut.trans (by repeat (first | (with_reducible first | exact HK.out | apply KeepBut.set_ | apply keep_drewN | apply keep_drew | apply keep_alloc | refine keep_far ?_ GW211.out _ | refine keep_far ?_ GW212.out _) | exact HK.out)) hk (.inl rfl)); replace HB := a_ (hb); replace HI0 := a_ (hi); clear hb hk hi) | ((with_reducible refine gate_callee (f := 22) rfl ?_); refine goesL_ (some 20) rfl rfl Try.func22 (by kernel_rfl) rfl #[.float .f64 t216] rfl (by (try simp only [lA, lB, lC]); first | done | rfl | (simp only [lD, lE]; rfl)) ?_; (with_reducible refine (math_Abs.calls t216 t219 _ A11.out).mono ?_); rintro e w' ⟨rfl, ⟨nd, rfl⟩⟩; refine ⟨_, rfl, ?_⟩; (try (rw [drewN_self w38]; generalize hq_ : World.drewN w38 _ = w38; have n0_ : Aside0 (Kd.R Kd.flt 33 w38 w.heap.size (fun k_ => some k_ ≠ (u213001 : Value).ownBlock) u213000 x213000_1) := ⟨by rw [← hq_]; exact (rk HO_213000.out)⟩; have n1_ : Aside0 (Kd.R Kd.flt 33 w38 w.heap.size (fun k_ => some k_ ≠ (u213000 : Value).ownBlock) u213001 x213001_1) := ⟨by rw [← hq_]; exact (rk HO_213001.out)⟩; have n2_ : Aside0 (w38.heap[gb211]? = some (.cells #[.slice none 0 0, .slice none 0 0] 25 (0, 0))) := ⟨by rw [← hq_]; exact (pk BK211.out)⟩; have n3_ : Aside0 (w38.heap[gb212]? = some (.cells #[u213000, u213001] 25 (0, 0))) := ⟨by rw [← hq_]; exact (pk BK212.out)⟩; have n4_ : Aside0 (IsS38 w0 w38 g s0_0 t217 t218) := ⟨by rw [← hq_]; exact (by repeat (first | (with_reducible first | exact HI0.out | apply IsS38.alloc | apply IsS38.drewN | apply IsS38.drew | apply IsS38.set_1 | apply IsS38.set_2 | refine IsS38.far ?_ NB0_211.out _ | refine IsS38.far ?_ NB0_212.out _) | exact HI0.out))⟩; have n5_ : Aside0 (KeepBut w w38 g none) := ⟨by rw [← hq_]; exact (by repeat (first | (with_reducible first | exact HK.out | apply KeepBut.set_ | apply keep_drewN | apply keep_drew | apply keep_alloc | refine keep_far ?_ GW211.out _ | refine keep_far ?_ GW212.out _) | exact HK.out))⟩; have n6_ : Aside0 (Below w0.heap.size w0 w38) := ⟨by rw [← hq_]; exact (by repeat (first | (with_reducible first | exact HB.out | apply below_alloc | apply pw_below_drewN | apply below_drew1 | refine below_set ?_ (IsS38.ge HI0.out) | refine below_set ?_ GE211.out | refine below_set ?_ GE212.out) | exact HB.out))⟩; clear HO_213000 HO_213001 BK211 BK212 HI0 HK HB hq_; have HO_213000 := n0_; have HO_213001 := n1_; have BK211 := n2_; have BK212 := n3_; have HI0 := n4_; have HK := n5_; have HB := n6_; clear n0_ n1_ n2_ n3_ n4_ n5_ n6_))) | ((with_reducible refine gate_callee (f := 17) rfl ?_); refine goesL_ (some 23) rfl rfl Try.func17 (by kernel_rfl) rfl #[.pointer (some ⟨g, 0, none⟩), .int .i64 40] rfl (by (try simp only [lA, lB, lC]); first | done | rfl | (simp only [lD, lE]; rfl)) ?_; (with_reducible refine (spec_l1Cur_one.calls g s0_0 t217 t218 40 false t221 t222 w0 _ ?side1 ?side2 A13.out).mono ?_); (case side1 => repeat (first | (with_reducible first | exact HI0.out | apply IsS38.alloc | apply IsS38.drewN | apply IsS38.drew | apply IsS38.set_1 | apply IsS38.set_2 | refine IsS38.far ?_ NB0_211.out _ | refine IsS38.far ?_ NB0_212.out _) | exact HI0.out)); (case side2 => repeat (first | (with_reducible first | exact HB.out | apply below_alloc | apply pw_below_drewN | apply below_drew1 | refine below_set ?_ (IsS38.ge HI0.out) | refine below_set ?_ GE211.out | refine below_set ?_ GE212.out) | exact HB.out)); rintro e w39 ⟨rfl, hi, hb, hk⟩; refine ⟨_, rfl, ?_⟩; replace HO_213000 := a_ (Kd.R_mono (Kd.R_keep (IsS38.apart (show IsS38 w0 _ g s0_0 t217 t218 from by repeat (first | (with_reducible first | exact HI0.out | apply IsS38.alloc | apply IsS38.drewN | apply IsS38.drew | apply IsS38.set_1 | apply IsS38.set_2 | refine IsS38.far ?_ NB0_211.out _ | refine IsS38.far ?_ NB0_212.out _) | exact HI0.out)) (rk HO_213000.out) (by decide)) hk (fun _ h => h.2)) (fun _ h => h.1)); replace HO_213001 := a_ (Kd.R_mono (Kd.R_keep (IsS38.apart (show IsS38 w0 _ g s0_0 t217 t218 from by repeat (first | (with_reducible first | exact HI0.out | apply IsS38.alloc | apply IsS38.drewN | apply IsS38.drew | apply IsS38.set_1 | apply IsS38.set_2 | refine IsS38.far ?_ NB0_211.out _ | refine IsS38.far ?_ NB0_212.out _) | exact HI0.out)) (rk HO_213001.out) (by decide)) hk (fun _ h => h.2)) (fun _ h => h.1)); replace BK211 := a_ (KeepBut.blk hk (g' := gb211) (o := .cells #[.slice none 0 0, .slice none 0 0] 25 (0, 0)) (pk BK211.out) NB211_0.out (by simp)); replace BK212 := a_ (KeepBut.blk hk (g' := gb212) (o := .cells #[u213000, u213001] 25 (0, 0)) (pk BK212.out) NB212_0.out (by simp)); replace HK := a_ (KeepBut.trans (by repeat (first | (with_reducible first | exact HK.out | apply KeepBut.set_ | apply keep_drewN | apply keep_drew | apply keep_alloc | refine keep_far ?_ GW211.out _ | refine keep_far ?_ GW212.out _) | exact HK.out)) hk (.inl rfl)); replace HB := a_ (hb); replace HI0 := a_ (hi); clear hb hk hi; have hnb40 := NB212_211.out; have hnc40 := NB211_212.out; have hnb41 := NB212_0.out; have hnc41 := NB0_212.out; have hcz42_0 : w39.cell? ⟨gb212, 0, none⟩ = some (u213000) := (blk_cell BK212.out 0).trans rfl; have hcz42_1 : w39.cell? ⟨gb212, 1, none⟩ = some (u213001) := (blk_cell BK212.out 1).trans rfl; have hfz42_0 := blk_frozen BK212.out 0; have hfz42_1 := blk_frozen BK212.out 1) | ((with_reducible refine gate_builtin (b := .append) (xs := #[.tmp 27, .tmp 29]) rfl ?_); at_builtin; refine Kd.R_append Kd.flt w.heap.size rfl (.tmp 27) (.tmp 29) 23 33 (.float .f64 0) 8 rfl Try.underlying23 info33 rfl (by decide) (by omega) u213000 x213000_1 t213 [.float .f64 t213] (fun k_ => some k_ ≠ (u213001 : Value).ownBlock) (fun _ => False) rfl rfl ?aP (fun _ hk => hk.elim) ?aF ?aO (Below.refl _ _) ?aS ?aL ?_; (case aP => exact rfl); (case aF => exact (fun k_ hk => Kd.fresh' (Kd.R_lt (rk HO_213001.out)) k_ hk)); (case aO => exact (rk HO_213000.out)); (case aS => exact (keep_size (w := w) (g := g) (row := none) (by repeat (first | (with_reducible first | exact HK.out | apply KeepBut.set_ | apply keep_drewN | apply keep_drew | apply keep_alloc | refine keep_far ?_ GW211.out _ | refine keep_far ?_ GW212.out _) | exact HK.out)))); (case aL => have := LMc34.out; omega); intro v234 w43 ho hb hg hat; rw [← Ny233.out] at ho; replace HO_213001 := a_ (Kd.R_after (ok := (fun _ => True)) (rk (Kd.R_mono HO_213001.out (fun _ hk => ⟨trivial, hk⟩))) hg hat); replace BK211 := a_ (blk_grown (pk BK211.out) hg (Kd.R_ne HO_213000.out BK211.out (by decide))); replace BK212 := a_ (blk_grown (pk BK212.out) hg (Kd.R_ne HO_213000.out BK212.out (by decide))); replace HB := a_ (below_weaken (by repeat (first | (with_reducible first | exact HB.out | apply below_alloc | apply pw_below_drewN | apply below_drew1 | refine below_set ?_ (IsS38.ge HI0.out) | refine below_set ?_ GE211.out | refine below_set ?_ GE212.out) | exact HB.out)) HL.out hb); replace HI0 := a_ (IsS38.grown (show IsS38 w0 _ g s0_0 t221 t222 from by repeat (first | (with_reducible first | exact HI0.out | apply IsS38.alloc | apply IsS38.drewN | apply IsS38.drew | apply IsS38.set_1 | apply IsS38.set_2 | refine IsS38.far ?_ NB0_211.out _ | refine IsS38.far ?_ NB0_212.out _) | exact HI0.out)) hg (IsS38.own_ne HI0.out HO_213000.out (by decide))); replace HK := a_ (KeepBut.trans (by repeat (first | (with_reducible first | exact HK.out | apply KeepBut.set_ | apply keep_drewN | apply keep_drew | apply keep_alloc | refine keep_far ?_ GW211.out _ | refine keep_far ?_ GW212.out _) | exact HK.out)) (KeepBut.of_grown hg g) (Kd.R_base2 HO_213000.out)); have HO235 := a_ (ho); clear HO_213000 ho hb hg hat; obtain ⟨Ao44, co44, eo44⟩ := Kd.R_slice HO235.out; subst eo44; have hcz45_0 : w43.cell? ⟨gb212, 0, none⟩ = some (u213000) := (blk_cell BK212.out 0).trans rfl; have hcz45_1 : w43.cell? ⟨gb212, 1, none⟩ = some (u213001) := (blk_cell BK212.out 1).trans rfl; have hfz45_0 := blk_frozen BK212.out 0; have hfz45_1 := blk_frozen BK212.out 1))
        have n0_ : Aside0 (Kd.R Kd.flt 33 (w43.setCell ⟨gb212, 0, none⟩ (.slice Ao44 y233.length co44)) w.heap.size (fun k_ => N_ (.slice Ao44 y233.length co44) k_) u213001 x213001_1) := ⟨rk (Kd.R_mono (fr1 HO_213001.out BK212.out (by decide) 0 (.slice Ao44 y233.length co44)) (fun _ hk => hk.1.2))⟩
        have n1_ : Aside0 (Kd.R Kd.flt 33 (w43.setCell ⟨gb212, 0, none⟩ (.slice Ao44 y233.length co44)) w.heap.size (fun k_ => some k_ ≠ (u213001 : Value).ownBlock) (.slice Ao44 y233.length co44) y233) := ⟨rk (Kd.R_mono (fr1 HO235.out BK212.out (by decide) 0 (.slice Ao44 y233.length co44)) (fun _ hk => hk.1))⟩
        have n2_ : Aside0 ((w43.setCell ⟨gb212, 0, none⟩ (.slice Ao44 y233.length co44)).heap[gb211]? = some (.cells #[.slice none 0 0, .slice none 0 0] 25 (0, 0))) := ⟨by refine pk ?_; refine blk_far ?_ NB211_212.out _; refine pk ?_; exact BK211.out⟩
        have n3_ : Aside0 ((w43.setCell ⟨gb212, 0, none⟩ (.slice Ao44 y233.length co44)).heap[gb212]? = some (.cells #[.slice Ao44 y233.length co44, u213001] 25 (0, 0))) := ⟨by refine pk ?_; refine blk_put (cs := #[u213000, u213001]) ?_ 0 _ rfl; refine pk ?_; exact BK212.out⟩
        have n4_ : Aside0 (IsS38 w0 (w43.setCell ⟨gb212, 0, none⟩ (.slice Ao44 y233.length co44)) g s0_0 t221 t222) := ⟨by repeat (first | (with_reducible first | exact HI0.out | apply IsS38.alloc | apply IsS38.drewN | apply IsS38.drew | apply IsS38.set_1 | apply IsS38.set_2 | refine IsS38.far ?_ NB0_211.out _ | refine IsS38.far ?_ NB0_212.out _) | exact HI0.out)⟩
        have n5_ : Aside0 (KeepBut w (w43.setCell ⟨gb212, 0, none⟩ (.slice Ao44 y233.length co44)) g none) := ⟨by repeat (first | (with_reducible first | exact HK.out | apply KeepBut.set_ | apply keep_drewN | apply keep_drew | apply keep_alloc | refine keep_far ?_ GW211.out _ | refine keep_far ?_ GW212.out _) | exact HK.out)⟩
        have n6_ : Aside0 (Below w0.heap.size w0 (w43.setCell ⟨gb212, 0, none⟩ (.slice Ao44 y233.length co44))) := ⟨by repeat (first | (with_reducible first | exact HB.out | apply below_alloc | apply pw_below_drewN | apply below_drew1 | refine below_set ?_ (IsS38.ge HI0.out) | refine below_set ?_ GE211.out | refine below_set ?_ GE212.out) | exact HB.out)⟩
        (try clear HO_213001)
        (try clear HO235)
        (try clear BK211)
        (try clear BK212)
        (try clear HI0)
        (try clear HK)
        (try clear HB)
        generalize (w43.setCell ⟨gb212, 0, none⟩ (.slice Ao44 y233.length co44)) = w46 at n0_ n1_ n2_ n3_ n4_ n5_ n6_ ⊢
        have HO_213001 := n0_
        have HO235 := n1_
        have BK211 := n2_
        have BK212 := n3_
        have HI0 := n4_
        have HK := n5_
        have HB := n6_
        clear n0_ n1_ n2_ n3_ n4_ n5_ n6_
        replace HO_213001 := a_ (Kd.R_drew HO_213001.out)
        replace HO235 := a_ (Kd.R_drew HO235.out)
        replace BK211 := a_ (blk_drew BK211.out)
        replace BK212 := a_ (blk_drew BK212.out)
        replace HI0 := a_ (IsS38.drew HI0.out)
        replace HK := a_ (keep_drew HK.out)
        replace HB := a_ (below_drew1 HB.out)
        refine start_ (n := 8) (S := fun w' => w'.cell? ⟨gb212, 0, none⟩ = some (.slice Ao44 y233.length co44) ∧ w'.cell? ⟨gb212, 1, none⟩ = some (u213001)) (ds := [7]) #[false, false, false, false, false, false, false, false] (by kernel_rfl) rfl rfl ⟨(blk_cell BK212.out 0).trans rfl, (blk_cell BK212.out 1).trans rfl⟩ (fun hHeld => ?_); refine with_tabW spec_l1Cur_box.tab10 spec_l1Cur_box.bits10 (fun HT_ HW_ => ?_)
        generalize w46.drew = w47 at HO_213001 HO235 BK211 BK212 HI0 HK HB hHeld ⊢
        refine pure_ (i := 0) (N := some 32) (v := ?_) (a' := ?_) #[true, false, false, false, false, false, false, false] rfl rfl (any_of HT_.out (by kernel_rfl)) (fun _ _ _ h => h) (Or.inl ⟨by rfl, ?_⟩) ?_ ?_
        rotate_left
        ·intro w'
         go_simp
         with_reducible rfl
        rotate_left
        ·simp only [Act.put, sB, sC, sD, i64_w, i32_w]
         rfl
        refine pure_ (i := 2) (N := some 34) (v := ?_) (a' := ?_) #[true, false, true, false, false, false, false, false] rfl rfl (any_of HT_.out (by kernel_rfl)) (fun _ _ _ h => h) (Or.inl ⟨by rfl, ?_⟩) ?_ ?_
        rotate_left
        ·intro w'
         go_simp
         with_reducible rfl
        rotate_left
        ·simp only [Act.put, sB, sC, sD, i64_w, i32_w]
         rfl
        refine take_ (i := 1) (N := some 33) (v := ?_) (a' := ?_) #[true, true, true, false, false, false, false, false] rfl rfl (take_ofW HT_.out HW_.out (by kernel_rfl)) (fun _ _ _ h => h) (Or.inl ⟨by rfl, ?_⟩) hHeld ?_ ?_
        rotate_left
        ·rintro w' ⟨s0, s1⟩
         go_simp
         with_reducible rfl
        rotate_left
        ·simp only [Act.put, sB, sC, sD, i64_w, i32_w]
         rfl
        refine one_ (i := 3) (N := some 35) #[true, true, true, true, false, false, false, false] rfl rfl (one_of HT_.out (by kernel_rfl)) (by decide) (fun K hK => ?_)
        refine goes_ Try.func24 (by kernel_rfl) rfl #[.float .f64 (fl2 .add t213 t219)] (by rfl) rfl rfl (by (try simp only [lA, lB, lC]); first | done | rfl | (simp only [lD, lE]; rfl)) ?_
        with_reducible refine (spec_l2Plain.calls (fl2 .add t213 t219) t236 _ A35.out).mono ?_
        rintro e w' ⟨rfl, ⟨nd, rfl⟩⟩
        refine ⟨_, rfl, ?_⟩
        refine hK.out _ _ ⟨(blk_cell BK212.out 0).trans rfl, (blk_cell BK212.out 1).trans rfl⟩ (fun hHeld => ?_)
        clear hK K
        refine norm_ (a' := ?_) ?_ ?_
        rotate_left
        ·show Act.put _ (some 35) _ = _
         simp only [Act.put, sB, sC, sD, i64_w, i32_w]
         rfl
        refine one_ (i := 4) (N := some 36) #[true, true, true, true, true, false, false, false] rfl rfl (one_of HT_.out (by kernel_rfl)) (by decide) (fun K hK => ?_)
        refine value_ (w1 := ?_) (v := ?_) (by rfl) rfl ?_ ?_
        rotate_left 2
        ·go_simp
         constructor
         ·rfl
         ·rfl
        refine hK.out _ _ ⟨(blk_cell (blk_alloc BK212.out _) 0).trans rfl, (blk_cell (blk_alloc BK212.out _) 1).trans rfl⟩ (fun hHeld => ?_)
        clear hK K
        refine norm_ (a' := ?_) ?_ ?_
        rotate_left
        ·show Act.put _ (some 36) _ = _
         simp only [Act.put, sB, sC, sD, i64_w, i32_w]
         rfl
        refine one_ (i := 5) (N := some 37) #[true, true, true, true, true, true, false, false] rfl rfl (one_of HT_.out (by kernel_rfl)) (by decide) (fun K hK => ?_)
        refine Kd.R_append_step Kd.flt w.heap.size (by rfl) (.tmp 33) (.tmp 36) 23 33 (.float .f64 0) 8 rfl Try.underlying23 info33 rfl (by decide) (by omega) u213001 x213001_1 t236 [.float .f64 t236] (fun k_ => N_ (.slice Ao44 y233.length co44) k_) (fun _ => False) rfl rfl ?aP (fun _ hk => hk.elim) ?aF ?aO (Below.refl _ _) ?aS ?aL ?_
        (case aP => exact rfl)
        (case aF => exact (fun k_ hk => Kd.fresh' (Kd.R_lt (rk HO235.out)) k_ hk))
        (case aO => exact (rk HO_213001.out))
        (case aS => exact (keep_size (w := w) (g := g) (row := none) (by repeat (first | (with_reducible first | exact HK.out | apply KeepBut.set_ | apply keep_drewN | apply keep_drew | apply keep_alloc | refine keep_far ?_ GW211.out _ | refine keep_far ?_ GW212.out _) | exact HK.out))))
        (case aL => have := LMc36.out; omega)
        intro v238 w48 ho hb hg hat
        rw [← Ny237.out] at ho
        replace BK211 := a_ (blk_grown (pk BK211.out) hg (Kd.R_ne HO_213001.out BK211.out (by decide)))
        replace BK212 := a_ (blk_grown (pk BK212.out) hg (Kd.R_ne HO_213001.out BK212.out (by decide)))
        replace HO235 := a_ (Kd.R_after (ok := (fun _ => True)) (rk (Kd.R_mono HO235.out (fun _ hk => ⟨trivial, hk⟩))) hg hat)
        replace HB := a_ (below_weaken (by repeat (first | (with_reducible first | exact HB.out | apply below_alloc | apply pw_below_drewN | apply below_drew1 | refine below_set ?_ (IsS38.ge HI0.out) | refine below_set ?_ GE211.out | refine below_set ?_ GE212.out) | exact HB.out)) HL.out hb)
        replace HI0 := a_ (IsS38.grown (show IsS38 w0 _ g s0_0 t221 t222 from by repeat (first | (with_reducible first | exact HI0.out | apply IsS38.alloc | apply IsS38.drewN | apply IsS38.drew | apply IsS38.set_1 | apply IsS38.set_2 | refine IsS38.far ?_ NB0_211.out _ | refine IsS38.far ?_ NB0_212.out _) | exact HI0.out)) hg (IsS38.own_ne HI0.out HO_213001.out (by decide)))
        replace HK := a_ (KeepBut.trans (by repeat (first | (with_reducible first | exact HK.out | apply KeepBut.set_ | apply keep_drewN | apply keep_drew | apply keep_alloc | refine keep_far ?_ GW211.out _ | refine keep_far ?_ GW212.out _) | exact HK.out)) (KeepBut.of_grown hg g) (Kd.R_base2 HO_213001.out))
        have HO239 := a_ (ho)
        clear HO_213001 ho hb hg hat
        obtain ⟨Ao49, co49, eo49⟩ := Kd.R_slice HO239.out
        (first | subst eo49 | (injection eo49 with f1_ f2_ f3_; obtain rfl := f1_.symm; obtain rfl := f3_.symm))
        refine hK.out _ _ ⟨(blk_cell BK212.out 0).trans rfl, (blk_cell BK212.out 1).trans rfl⟩ (fun hHeld => ?_)
        clear hK K
        refine norm_ (a' := ?_) ?_ ?_
        rotate_left
        ·show Act.put _ (some 37) _ = _
         simp only [Act.put, sB, sC, sD, i64_w, i32_w]
         rfl
        refine pure_ (i := 6) (N := some 38) (v := ?_) (a' := ?_) #[true, true, true, true, true, true, true, false] rfl rfl (any_of HT_.out (by kernel_rfl)) (fun _ _ _ h => h) (Or.inl ⟨by rfl, ?_⟩) ?_ ?_
        rotate_left
        ·intro w'
         go_simp
         with_reducible rfl
        rotate_left
        ·simp only [Act.put, sB, sC, sD, i64_w, i32_w]
         rfl
        refine last_ (i := 7) (N := none) #[true, true, true, true, true, true, true, true] rfl rfl (one_of HT_.out (by kernel_rfl)) (by decide) (fun K hK => ?_)
        have hs50 : w48.cell? ⟨gb212, 1, none⟩ = some (u213001) := (blk_cell BK212.out 1).trans rfl
        have hfs50 := blk_frozen BK212.out 1
        have hns50_0 := NB211_212.out
        have hms50_0 := NB212_211.out
        refine skip_ (w1 := ?_) ?_ ?_ ?_ ?_
        rotate_left
        ·rfl
        ·rfl
        ·go_simp
         rfl
        refine hK.out _ _ ?_
        clear hK K
        refine done_ (done_of HT_.out (by kernel_rfl)) ?_
        try go_wp2
        go_roundg k1
        case measure => have := HK1.out; omega
        case rel => exact ⟨(wrap64 (x6_1 + 1)), (t221), (t222), (y233), (y237), (.slice Ao44 y233.length co44), (.slice Ao49 y237.length co49), (by first | rfl | (simp; done) | (simp [*]; done)), H', ⟨by have := HK1.out; omega⟩, ⟨rk (Kd.R_mono (fr1 HO235.out BK212.out (by decide) 1 (.slice Ao49 y237.length co49)) (fun _ hk => hk.1.2))⟩, ⟨rk (Kd.R_mono (fr1 HO239.out BK212.out (by decide) 1 (.slice Ao49 y237.length co49)) (fun _ hk => hk.1))⟩, ⟨by refine pk ?_; refine blk_far ?_ NB211_212.out _; refine pk ?_; exact BK211.out⟩, ⟨by refine pk ?_; refine blk_put (cs := #[.slice Ao44 y233.length co44, u213001]) ?_ 1 _ rfl; refine pk ?_; exact BK212.out⟩, ⟨by repeat (first | (with_reducible first | exact HI0.out | apply IsS38.alloc | apply IsS38.drewN | apply IsS38.drew | apply IsS38.set_1 | apply IsS38.set_2 | refine IsS38.far ?_ NB0_211.out _ | refine IsS38.far ?_ NB0_212.out _) | exact HI0.out)⟩, ⟨by repeat (first | (with_reducible first | exact HK.out | apply KeepBut.set_ | apply keep_drewN | apply keep_drew | apply keep_alloc | refine keep_far ?_ GW211.out _ | refine keep_far ?_ GW212.out _) | exact HK.out)⟩, ⟨by repeat (first | (with_reducible first | exact HB.out | apply below_alloc | apply pw_below_drewN | apply below_drew1 | refine below_set ?_ (IsS38.ge HI0.out) | refine below_set ?_ GE211.out | refine below_set ?_ GE212.out) | exact HB.out)⟩⟩
       ·rw [if_neg c36] at H
        exact absurd H (by simp)
      ·rw [if_neg c34] at H
       exact absurd H (by simp)
    ·rw [if_neg c12] at H
     exact absurd H (by simp)
   ·rw [if_neg c8] at H
    have c8b0 : decide (x6_1 < a1) = false := decide_eq_false c8
    clear c8
    replace H := Option.bind_eq_some_iff.mp H
    obtain ⟨⟨t240, t241, t242⟩, A510, H⟩ := H
    replace H : (if t240 = 0 then (if x213001_1.length < 17592186044416 then (some (x213000_1, (x213001_1 ++ [(4607182418800017408 : Nat)]), t241, t242)) else (none)) else (if t240 = 1 then (if a1 > 0 then (if 0 < (x213000_1.length : Int) then (if (floatBits .sub .f64 (rdOf (0 : Nat) x213000_1 0) (4607182418800017408 : Nat)).isSome = true then (if 0 < (x213001_1.length : Int) then (some (x213000_1, (x213001_1.set (0 : Int).toNat (fl2 .sub (rdOf (0 : Nat) x213000_1 0) (4607182418800017408 : Nat))), t241, t242)) else (none)) else (none)) else (none)) else (some (x213000_1, x213001_1, t241, t242))) else (some (x213000_1, x213001_1, t241, t242)))) = some (r1, r2, r3, r4) := H
    have A51 := Aside0.mk A510
    clear A510
    by_cases c52 : t240 = 0
    ·rw [if_pos c52] at H
     have c52b0 : (t240 == 0) = true := beq_iff_eq.mpr c52
     have c52b1 : (t240 != 0) = false := bne_eq_false_iff_eq.mpr c52
     clear c52
     by_cases c53 : x213001_1.length < 17592186044416
     ·rw [if_pos c53] at H
      have LMc53 := Aside0.mk c53
      clear c53
      obtain ⟨y243, hy243⟩ : ∃ y_ : List Nat, y_ = (x213001_1 ++ [(4607182418800017408 : Nat)]) := ⟨_, rfl⟩
      replace H : (some (x213000_1, y243, t241, t242)) = some (r1, r2, r3, r4) := by first | (rw [hy243]; with_reducible exact H) | (have H2_ := (Option.bind_some _ _).symm.trans H; rw [hy243]; with_reducible exact H2_) | (have H2_ := (Option.bind_some _ _).symm.trans H; with_reducible exact H2_) | with_reducible exact H | (rw [hy243]; exact H) | exact H
      have Ny243 := Aside0.mk hy243
      clear hy243
      simp only [Option.some.injEq, Prod.mk.injEq] at H
      obtain ⟨rfl, rfl, rfl, rfl⟩ := H
      go_wp2_with (first | ((with_reducible refine gate_callee (f := 20) rfl ?_); refine goesL_ (some 40) rfl rfl Try.func20 (by kernel_rfl) rfl #[.pointer (some ⟨g, 0, none⟩), .int .i64 40] rfl (by (try simp only [lA, lB, lC]); first | done | rfl | (simp only [lD, lE]; rfl)) ?_; (with_reducible refine (spec_l1Cur_pick.calls g s0_0 x1001_1 x1002_1 40 t240 t241 t242 w0 _ ?side1 ?side2 A51.out).mono ?_); (case side1 => repeat (first | (with_reducible first | exact HI0.out | apply IsS38.alloc | apply IsS38.drewN | apply IsS38.drew | apply IsS38.set_1 | apply IsS38.set_2 | refine IsS38.far ?_ NB0_211.out _ | refine IsS38.far ?_ NB0_212.out _) | exact HI0.out)); (case side2 => repeat (first | (with_reducible first | exact HB.out | apply below_alloc | apply pw_below_drewN | apply below_drew1 | refine below_set ?_ (IsS38.ge HI0.out) | refine below_set ?_ GE211.out | refine below_set ?_ GE212.out) | exact HB.out)); rintro e w54 ⟨rfl, hi, hb, hk⟩; refine ⟨_, rfl, ?_⟩; replace HO_213000 := a_ (Kd.R_mono (Kd.R_keep (IsS38.apart (show IsS38 w0 _ g s0_0 x1001_1 x1002_1 from by repeat (first | (with_reducible first | exact HI0.out | apply IsS38.alloc | apply IsS38.drewN | apply IsS38.drew | apply IsS38.set_1 | apply IsS38.set_2 | refine IsS38.far ?_ NB0_211.out _ | refine IsS38.far ?_ NB0_212.out _) | exact HI0.out)) (rk HO_213000.out) (by decide)) hk (fun _ h => h.2)) (fun _ h => h.1)); replace HO_213001 := a_ (Kd.R_mono (Kd.R_keep (IsS38.apart (show IsS38 w0 _ g s0_0 x1001_1 x1002_1 from by repeat (first | (with_reducible first | exact HI0.out | apply IsS38.alloc | apply IsS38.drewN | apply IsS38.drew | apply IsS38.set_1 | apply IsS38.set_2 | refine IsS38.far ?_ NB0_211.out _ | refine IsS38.far ?_ NB0_212.out _) | exact HI0.out)) (rk HO_213001.out) (by decide)) hk (fun _ h => h.2)) (fun _ h => h.1)); replace BK211 := a_ (KeepBut.blk hk (g' := gb211) (o := .cells #[.slice none 0 0, .slice none 0 0] 25 (0, 0)) (pk BK211.out) NB211_0.out (by simp)); replace BK212 := a_ (KeepBut.blk hk (g' := gb212) (o := .cells #[u213000, u213001] 25 (0, 0)) (pk BK212.out) NB212_0.out (by simp)); replace HK := a_ (KeepBut.trans (by repeat (first | (with_reducible first | exact HK.out | apply KeepBut.set_ | apply keep_drewN | apply keep_drew | apply keep_alloc | refine keep_far ?_ GW211.out _ | refine keep_far ?_ GW212.out _) | exact HK.out)) hk (.inl rfl)); replace HB := a_ (hb); replace HI0 := a_ (hi); clear hb hk hi; have hnb55 := NB212_211.out; have hnc55 := NB211_212.out; have hnb56 := NB212_0.out; have hnc56 := NB0_212.out; have hcz57_0 : w54.cell? ⟨gb212, 0, none⟩ = some (u213000) := (blk_cell BK212.out 0).trans rfl; have hcz57_1 : w54.cell? ⟨gb212, 1, none⟩ = some (u213001) := (blk_cell BK212.out 1).trans rfl; have hfz57_0 := blk_frozen BK212.out 0; have hfz57_1 := blk_frozen BK212.out 1) | ((with_reducible refine gate_builtin (b := .append) (xs := #[.tmp 44, .tmp 45]) rfl ?_); at_builtin; refine Kd.R_append Kd.flt w.heap.size rfl (.tmp 44) (.tmp 45) 23 33 (.float .f64 0) 8 rfl Try.underlying23 info33 rfl (by decide) (by omega) u213001 x213001_1 (4607182418800017408 : Nat) [.float .f64 (4607182418800017408 : Nat)] (fun k_ => some k_ ≠ (u213000 : Value).ownBlock) (fun _ => False) rfl rfl ?aP (fun _ hk => hk.elim) ?aF ?aO (Below.refl _ _) ?aS ?aL ?_; (case aP => exact rfl); (case aF => exact (fun k_ hk => Kd.fresh' (Kd.R_lt (rk HO_213000.out)) k_ hk)); (case aO => exact (rk HO_213001.out)); (case aS => exact (keep_size (w := w) (g := g) (row := none) (by repeat (first | (with_reducible first | exact HK.out | apply KeepBut.set_ | apply keep_drewN | apply keep_drew | apply keep_alloc | refine keep_far ?_ GW211.out _ | refine keep_far ?_ GW212.out _) | exact HK.out)))); (case aL => have := LMc53.out; omega); intro v244 w58 ho hb hg hat; rw [← Ny243.out] at ho; replace HO_213000 := a_ (Kd.R_after (ok := (fun _ => True)) (rk (Kd.R_mono HO_213000.out (fun _ hk => ⟨trivial, hk⟩))) hg hat); replace BK211 := a_ (blk_grown (pk BK211.out) hg (Kd.R_ne HO_213001.out BK211.out (by decide))); replace BK212 := a_ (blk_grown (pk BK212.out) hg (Kd.R_ne HO_213001.out BK212.out (by decide))); replace HB := a_ (below_weaken (by repeat (first | (with_reducible first | exact HB.out | apply below_alloc | apply pw_below_drewN | apply below_drew1 | refine below_set ?_ (IsS38.ge HI0.out) | refine below_set ?_ GE211.out | refine below_set ?_ GE212.out) | exact HB.out)) HL.out hb); replace HI0 := a_ (IsS38.grown (show IsS38 w0 _ g s0_0 t241 t242 from by repeat (first | (with_reducible first | exact HI0.out | apply IsS38.alloc | apply IsS38.drewN | apply IsS38.drew | apply IsS38.set_1 | apply IsS38.set_2 | refine IsS38.far ?_ NB0_211.out _ | refine IsS38.far ?_ NB0_212.out _) | exact HI0.out)) hg (IsS38.own_ne HI0.out HO_213001.out (by decide))); replace HK := a_ (KeepBut.trans (by repeat (first | (with_reducible first | exact HK.out | apply KeepBut.set_ | apply keep_drewN | apply keep_drew | apply keep_alloc | refine keep_far ?_ GW211.out _ | refine keep_far ?_ GW212.out _) | exact HK.out)) (KeepBut.of_grown hg g) (Kd.R_base2 HO_213001.out)); have HO245 := a_ (ho); clear HO_213001 ho hb hg hat; obtain ⟨Ao59, co59, eo59⟩ := Kd.R_slice HO245.out; subst eo59; have hcz60_0 : w58.cell? ⟨gb212, 0, none⟩ = some (u213000) := (blk_cell BK212.out 0).trans rfl; have hcz60_1 : w58.cell? ⟨gb212, 1, none⟩ = some (u213001) := (blk_cell BK212.out 1).trans rfl; have hfz60_0 := blk_frozen BK212.out 0; have hfz60_1 := blk_frozen BK212.out 1; obtain ⟨Ao61, co61, eo61⟩ := Kd.R_slice HO_213000.out; subst eo61; have hnb62 := NB211_0.out; have hnc62 := NB0_211.out; have hcz63_0 : _ = some (Value.slice none 0 0) := (blk_cell BK211.out 0).trans rfl; have hcz63_1 : _ = some (Value.slice none 0 0) := (blk_cell BK211.out 1).trans rfl; have hfz63_0 := blk_frozen BK211.out 0; have hfz63_1 := blk_frozen BK211.out 1))
      refine bodyPost_ret (results_cell_row rfl _ _ gb211 25 #[.slice Ao61 x213000_1.length co61, .slice Ao59 y243.length co59] (0, 0) _ rfl (by refine pk ?_; refine blk_put (cs := #[.slice Ao61 x213000_1.length co61, .slice none 0 0]) ?_ 1 _ rfl; refine pk ?_; refine blk_put (cs := #[.slice none 0 0, .slice none 0 0]) ?_ 0 _ rfl; refine pk ?_; refine blk_far ?_ NB211_212.out _; refine pk ?_; exact BK211.out) Try.underlying25 rfl (by kernel_rfl)) rfl ?_
      exact ⟨_, _, by first | rfl | (simp [errW_none, errW_some] <;> rfl) | (simp [*, errW_none, errW_some] <;> rfl), by refine rk ?_; exact Kd.R_mono (Kd.R_far (p := ⟨gb211, 1, none⟩) (Kd.R_far (p := ⟨gb211, 0, none⟩) (Kd.R_far (p := ⟨gb212, 1, none⟩) (Kd.R_types (Kd.R_types HO_213000.out BK212.out (by decide)) BK211.out (by decide)) (fun _ hk => hk.1.2) (.slice Ao59 y243.length co59)) (fun _ hk => hk.2) (.slice Ao61 x213000_1.length co61)) (fun _ hk => hk.2) (.slice Ao59 y243.length co59)) (fun _ hk => hk.1.1.2), by refine rk ?_; exact Kd.R_mono (Kd.R_far (p := ⟨gb211, 1, none⟩) (Kd.R_far (p := ⟨gb211, 0, none⟩) (Kd.R_far (p := ⟨gb212, 1, none⟩) (Kd.R_types (Kd.R_types HO245.out BK212.out (by decide)) BK211.out (by decide)) (fun _ hk => hk.1.2) (.slice Ao59 y243.length co59)) (fun _ hk => hk.2) (.slice Ao61 x213000_1.length co61)) (fun _ hk => hk.2) (.slice Ao59 y243.length co59)) (fun _ hk => hk.1.1), by repeat (first | (with_reducible first | exact HI0.out | apply IsS38.alloc | apply IsS38.drewN | apply IsS38.drew | apply IsS38.set_1 | apply IsS38.set_2 | refine IsS38.far ?_ NB0_211.out _ | refine IsS38.far ?_ NB0_212.out _) | exact HI0.out), by repeat (first | (with_reducible first | exact HB.out | apply below_alloc | apply pw_below_drewN | apply below_drew1 | refine below_set ?_ (IsS38.ge HI0.out) | refine below_set ?_ GE211.out | refine below_set ?_ GE212.out) | exact HB.out), by repeat (first | (with_reducible first | exact HK.out | apply KeepBut.set_ | apply keep_drewN | apply keep_drew | apply keep_alloc | refine keep_far ?_ GW211.out _ | refine keep_far ?_ GW212.out _) | exact HK.out)⟩
     ·rw [if_neg c53] at H
      exact absurd H (by simp)
    ·rw [if_neg c52] at H
     have c52b0 : (t240 == 0) = false := beq_eq_false_iff_ne.mpr c52
     have c52b1 : (t240 != 0) = true := bne_iff_ne.mpr c52
     by_cases c64 : t240 = 1
     ·rw [if_pos c64] at H
      have c64b0 : (t240 == 1) = true := beq_iff_eq.mpr c64
      have c64b1 : (t240 != 1) = false := bne_eq_false_iff_eq.mpr c64
      clear c64
      by_cases c65 : a1 > 0
      ·rw [if_pos c65] at H
       have c65b0 : decide (0 < a1) = true := decide_eq_true c65
       clear c65
       by_cases c66 : 0 < (x213000_1.length : Int)
       ·rw [if_pos c66] at H
        have c66b0 : decide (0 < (x213000_1.length : Int)) = true := decide_eq_true c66
        have c66b1 : decide (0 < x213000_1.length) = true := decide_eq_true (by omega)
        clear c66
        by_cases c67 : (floatBits .sub .f64 (rdOf (0 : Nat) x213000_1 0) (4607182418800017408 : Nat)).isSome = true
        ·rw [if_pos c67] at H
         have c67b0 : (floatBits .sub .f64 (rdOf (0 : Nat) x213000_1 0) (4607182418800017408 : Nat)).isSome = true := c67
         clear c67
         by_cases c68 : 0 < (x213001_1.length : Int)
         ·rw [if_pos c68] at H
          have c68b0 : decide (0 < (x213001_1.length : Int)) = true := decide_eq_true c68
          have c68b1 : decide (0 < x213001_1.length) = true := decide_eq_true (by omega)
          clear c68
          obtain ⟨y247, hy247⟩ : ∃ y_ : List Nat, y_ = (x213001_1.set (0 : Int).toNat (fl2 .sub (rdOf (0 : Nat) x213000_1 0) (4607182418800017408 : Nat))) := ⟨_, rfl⟩
          replace H : (some (x213000_1, y247, t241, t242)) = some (r1, r2, r3, r4) := by first | (rw [hy247]; with_reducible exact H) | (have H2_ := (Option.bind_some _ _).symm.trans H; rw [hy247]; with_reducible exact H2_) | (have H2_ := (Option.bind_some _ _).symm.trans H; with_reducible exact H2_) | with_reducible exact H | (rw [hy247]; exact H) | exact H
          have Ny247 := Aside0.mk hy247
          clear hy247
          simp only [Option.some.injEq, Prod.mk.injEq] at H
          obtain ⟨rfl, rfl, rfl, rfl⟩ := H
          try go_wp2_with (first | ((with_reducible refine gate_callee (f := 20) rfl ?_); refine goesL_ (some 40) rfl rfl Try.func20 (by kernel_rfl) rfl #[.pointer (some ⟨g, 0, none⟩), .int .i64 40] rfl (by (try simp only [lA, lB, lC]); first | done | rfl | (simp only [lD, lE]; rfl)) ?_; (with_reducible refine (spec_l1Cur_pick.calls g s0_0 x1001_1 x1002_1 40 t240 t241 t242 w0 _ ?side1 ?side2 A51.out).mono ?_); (case side1 => repeat (first | (with_reducible first | exact HI0.out | apply IsS38.alloc | apply IsS38.drewN | apply IsS38.drew | apply IsS38.set_1 | apply IsS38.set_2 | refine IsS38.far ?_ NB0_211.out _ | refine IsS38.far ?_ NB0_212.out _) | exact HI0.out)); (case side2 => repeat (first | (with_reducible first | exact HB.out | apply below_alloc | apply pw_below_drewN | apply below_drew1 | refine below_set ?_ (IsS38.ge HI0.out) | refine below_set ?_ GE211.out | refine below_set ?_ GE212.out) | exact HB.out)); rintro e w70 ⟨rfl, hi, hb, hk⟩; refine ⟨_, rfl, ?_⟩; replace HO_213000 := a_ (Kd.R_mono (Kd.R_keep (IsS38.apart (show IsS38 w0 _ g s0_0 x1001_1 x1002_1 from by repeat (first | (with_reducible first | exact HI0.out | apply IsS38.alloc | apply IsS38.drewN | apply IsS38.drew | apply IsS38.set_1 | apply IsS38.set_2 | refine IsS38.far ?_ NB0_211.out _ | refine IsS38.far ?_ NB0_212.out _) | exact HI0.out)) (rk HO_213000.out) (by decide)) hk (fun _ h => h.2)) (fun _ h => h.1)); replace HO_213001 := a_ (Kd.R_mono (Kd.R_keep (IsS38.apart (show IsS38 w0 _ g s0_0 x1001_1 x1002_1 from by repeat (first | (with_reducible first | exact HI0.out | apply IsS38.alloc | apply IsS38.drewN | apply IsS38.drew | apply IsS38.set_1 | apply IsS38.set_2 | refine IsS38.far ?_ NB0_211.out _ | refine IsS38.far ?_ NB0_212.out _) | exact HI0.out)) (rk HO_213001.out) (by decide)) hk (fun _ h => h.2)) (fun _ h => h.1)); replace BK211 := a_ (KeepBut.blk hk (g' := gb211) (o := .cells #[.slice none 0 0, .slice none 0 0] 25 (0, 0)) (pk BK211.out) NB211_0.out (by simp)); replace BK212 := a_ (KeepBut.blk hk (g' := gb212) (o := .cells #[u213000, u213001] 25 (0, 0)) (pk BK212.out) NB212_0.out (by simp)); replace HK := a_ (KeepBut.trans (by repeat (first | (with_reducible first | exact HK.out | apply KeepBut.set_ | apply keep_drewN | apply keep_drew | apply keep_alloc | refine keep_far ?_ GW211.out _ | refine keep_far ?_ GW212.out _) | exact HK.out)) hk (.inl rfl)); replace HB := a_ (hb); replace HI0 := a_ (hi); clear hb hk hi))
          replace HO_213000 := a_ (Kd.R_drew HO_213000.out)
          replace HO_213001 := a_ (Kd.R_drew HO_213001.out)
          replace BK211 := a_ (blk_drew BK211.out)
          replace BK212 := a_ (blk_drew BK212.out)
          replace HI0 := a_ (IsS38.drew HI0.out)
          replace HK := a_ (keep_drew HK.out)
          replace HB := a_ (below_drew1 HB.out)
          obtain ⟨Ao72, co72, eo72⟩ := Kd.R_slice HO_213000.out
          (first | subst eo72 | (injection eo72 with f1_ f2_ f3_; obtain rfl := f1_.symm; obtain rfl := f3_.symm))
          have p246 : 0 ≤ (0 : Int) := (by omega)
          have q246 : 0 < (x213000_1.length : Int) := of_decide_eq_true (by first | (with_reducible assumption) | assumption)
          obtain ⟨ad246, e246, hx246_0⟩ := Kd.at_flt (Kd.R_reads' HO_213000.out).2.2 0 p246 q246
          cases e246
          have qi246 : (0 < x213000_1.length) = True := eq_true (by omega)
          (try rw [show ((0 : Int)).toNat = 0 from rfl] at hx246_0)
          (try rw [Addr.add_zero'] at hx246_0)
          replace p246 := eq_true p246
          replace q246 := eq_true q246
          have p69 : 0 ≤ (0 : Int) := (by omega)
          have q69 : (0 : Int) < ((x213001_1.length : Int) : Int) := of_decide_eq_true (by first | (with_reducible assumption) | assumption)
          have qi69 : (0 < x213001_1.length) = True := eq_true (by omega)
          obtain ⟨go69, co69, eo69, gb69, gl69, cl69, HG69⟩ := Kd.R_form HO_213001.out (by omega)
          (first | cases eo69 | (injection eo69 with ea_ en_ ec_; (first | subst ea_ | (injection ea_ with ea_; subst ea_)); subst ec_; clear en_))
          have GB69 := Aside0.mk gb69
          have GG69 := Aside0.mk HG69
          clear gb69 gl69 HG69
          obtain ⟨hx69_0, hf69_0⟩ := Kd.R_celln (0 : Nat) HO_213001.out (0 : Int) p69 q69
          (try rw [show ((0 : Int)).toNat = 0 from rfl] at hx69_0)
          (try simp only [Nat.reduceMul, Nat.zero_mul, Nat.zero_add, Nat.reduceAdd] at hx69_0)
          (try rw [show ((0 : Int)).toNat = 0 from rfl] at hf69_0)
          (try simp only [Nat.reduceMul, Nat.zero_mul, Nat.zero_add, Nat.reduceAdd] at hf69_0)
          replace p69 := eq_true p69
          replace q69 := eq_true q69
          have HN0_go69 := a_ (show g ≠ go69 from by have h_ := IsS38.own_ne HI0.out HO_213001.out (by decide); intro e_; exact h_ (by rw [e_]; rfl))
          have HP73 := Kd.R_putn HO_213001.out (0 : Int) (fl2 .sub (rdOf (0 : Nat) x213000_1 0) (4607182418800017408 : Nat))
          rw [← Ny247.out] at HP73
          have HQ73 := Aside0.mk HP73
          clear HP73
          refine start_ (n := 9) (S := fun w' => w'.cell? ⟨gb212, 0, none⟩ = some (.slice (some ad246) x213000_1.length co72) ∧ w'.cell? ⟨gb212, 1, none⟩ = some (.slice (some ⟨go69, 0, none⟩) x213001_1.length co69) ∧ w'.cell? ad246 = some (.float .f64 (rdOf (0 : Nat) x213000_1 0))) (ds := [8]) #[false, false, false, false, false, false, false, false, false] (by kernel_rfl) rfl rfl ⟨(blk_cell BK212.out 0).trans rfl, (blk_cell BK212.out 1).trans rfl, hx246_0⟩ (fun hHeld => ?_); refine with_tabW spec_l1Cur_box.tab16 spec_l1Cur_box.bits16 (fun HT_ HW_ => ?_)
          generalize w70.drew = w71 at HO_213000 HO_213001 BK211 BK212 HI0 HK HB GG69 HQ73 hf69_0 hx246_0 hx69_0 hHeld ⊢
          refine pure_ (i := 0) (N := some 52) (v := ?_) (a' := ?_) #[true, false, false, false, false, false, false, false, false] rfl rfl (any_of HT_.out (by kernel_rfl)) (fun _ _ _ h => h) (Or.inl ⟨by rfl, ?_⟩) ?_ ?_
          rotate_left
          ·intro w'
           go_simp
           with_reducible rfl
          rotate_left
          ·simp only [Act.put, sB, sC, sD, i64_w, i32_w]
           rfl
          refine pure_ (i := 2) (N := some 54) (v := ?_) (a' := ?_) #[true, false, true, false, false, false, false, false, false] rfl rfl (any_of HT_.out (by kernel_rfl)) (fun _ _ _ h => h) (Or.inl ⟨by rfl, ?_⟩) ?_ ?_
          rotate_left
          ·intro w'
           go_simp
           with_reducible rfl
          rotate_left
          ·simp only [Act.put, sB, sC, sD, i64_w, i32_w]
           rfl
          refine take_ (i := 1) (N := some 53) (v := ?_) (a' := ?_) #[true, true, true, false, false, false, false, false, false] rfl rfl (take_ofW HT_.out HW_.out (by kernel_rfl)) (fun _ _ _ h => h) (Or.inl ⟨by rfl, ?_⟩) hHeld ?_ ?_
          rotate_left
          ·rintro w' ⟨s0, s1, s2⟩
           go_simp
           with_reducible rfl
          rotate_left
          ·simp only [Act.put, sB, sC, sD, i64_w, i32_w]
           rfl
          refine take_ (i := 3) (N := some 55) (v := ?_) (a' := ?_) #[true, true, true, true, false, false, false, false, false] rfl rfl (take_ofW HT_.out HW_.out (by kernel_rfl)) (fun _ _ _ h => h) (Or.inl ⟨by rfl, ?_⟩) hHeld ?_ ?_
          rotate_left
          ·rintro w' ⟨s0, s1, s2⟩
           go_simp
           with_reducible rfl
          rotate_left
          ·simp only [Act.put, sB, sC, sD, i64_w, i32_w]
           rfl
          refine pure_ (i := 4) (N := some 56) (v := ?_) (a' := ?_) #[true, true, true, true, true, false, false, false, false] rfl rfl (any_of HT_.out (by kernel_rfl)) (fun _ _ _ h => h) (Or.inl ⟨by rfl, ?_⟩) ?_ ?_
          rotate_left
          ·intro w'
           go_simp
           with_reducible rfl
          rotate_left
          ·simp only [Act.put, sB, sC, sD, i64_w, i32_w]
           rfl
          refine take_ (i := 5) (N := some 57) (v := ?_) (a' := ?_) #[true, true, true, true, true, true, false, false, false] rfl rfl (take_ofW HT_.out HW_.out (by kernel_rfl)) (fun _ _ _ h => h) (Or.inl ⟨by rfl, ?_⟩) hHeld ?_ ?_
          rotate_left
          ·rintro w' ⟨s0, s1, s2⟩
           go_simp
           with_reducible rfl
          rotate_left
          ·simp only [Act.put, sB, sC, sD, i64_w, i32_w]
           rfl
          refine pure_ (i := 6) (N := some 58) (v := ?_) (a' := ?_) #[true, true, true, true, true, true, true, false, false] rfl rfl (any_of HT_.out (by kernel_rfl)) (fun _ _ _ h => h) (Or.inl ⟨by rfl, ?_⟩) ?_ ?_
          rotate_left
          ·intro w'
           go_simp
           with_reducible rfl
          rotate_left
          ·simp only [Act.put, sB, sC, sD, i64_w, i32_w]
           rfl
          refine pure_ (i := 7) (N := some 59) (v := ?_) (a' := ?_) #[true, true, true, true, true, true, true, true, false] rfl rfl (any_of HT_.out (by kernel_rfl)) (fun _ _ _ h => h) (Or.inl ⟨by rfl, ?_⟩) ?_ ?_
          rotate_left
          ·intro w'
           go_simp
           with_reducible rfl
          rotate_left
          ·simp only [Act.put, sB, sC, sD, i64_w, i32_w]
           rfl
          refine last_ (i := 8) (N := none) #[true, true, true, true, true, true, true, true, true] rfl rfl (one_of HT_.out (by kernel_rfl)) (by decide) (fun K hK => ?_)
          refine skip_ (w1 := ?_) ?_ ?_ ?_ ?_
          rotate_left
          ·rfl
          ·rfl
          ·go_simp
           rfl
          refine hK.out _ _ ?_
          clear hK K
          refine done_ (done_of HT_.out (by kernel_rfl)) ?_
          have n0_ : Aside0 (Kd.R Kd.flt 33 (w71.setCell ⟨go69, 0, none⟩ (.float .f64 (fl2 .sub (rdOf (0 : Nat) x213000_1 0) (4607182418800017408 : Nat)))) w.heap.size (fun k_ => some k_ ≠ (.slice (some ⟨go69, 0, none⟩) x213001_1.length co69 : Value).ownBlock) (.slice (some ad246) x213000_1.length co72) x213000_1) := ⟨rk (Kd.R_mono (Kd.R_far (p := ⟨go69, 0, none⟩) (Kd.R_mono HO_213000.out (fun k_ hk => (⟨hk, fun e_ => hk (by rw [e_]; rfl)⟩ : _ ∧ k_ ≠ go69))) (fun _ hk => hk.2) (.float .f64 (fl2 .sub (rdOf (0 : Nat) x213000_1 0) (4607182418800017408 : Nat)))) (fun _ hk => hk.1))⟩
          have n1_ : Aside0 (Kd.R Kd.flt 33 (w71.setCell ⟨go69, 0, none⟩ (.float .f64 (fl2 .sub (rdOf (0 : Nat) x213000_1 0) (4607182418800017408 : Nat)))) w.heap.size (fun k_ => some k_ ≠ (.slice (some ad246) x213000_1.length co72 : Value).ownBlock) (.slice (some ⟨go69, 0, none⟩) x213001_1.length co69) y247) := ⟨by refine rk ?_; exact HQ73.out⟩
          have n2_ : Aside0 ((w71.setCell ⟨go69, 0, none⟩ (.float .f64 (fl2 .sub (rdOf (0 : Nat) x213000_1 0) (4607182418800017408 : Nat)))).heap[gb211]? = some (.cells #[.slice none 0 0, .slice none 0 0] 25 (0, 0))) := ⟨by refine pk ?_; refine blk_far ?_ (by have h_ := Kd.R_ne HO_213001.out BK211.out (by decide); intro e_; exact h_ (by rw [e_]; rfl)) _; refine pk ?_; exact BK211.out⟩
          have n3_ : Aside0 ((w71.setCell ⟨go69, 0, none⟩ (.float .f64 (fl2 .sub (rdOf (0 : Nat) x213000_1 0) (4607182418800017408 : Nat)))).heap[gb212]? = some (.cells #[.slice (some ad246) x213000_1.length co72, .slice (some ⟨go69, 0, none⟩) x213001_1.length co69] 25 (0, 0))) := ⟨by refine pk ?_; refine blk_far ?_ (by have h_ := Kd.R_ne HO_213001.out BK212.out (by decide); intro e_; exact h_ (by rw [e_]; rfl)) _; refine pk ?_; exact BK212.out⟩
          have n4_ : Aside0 (IsS38 w0 (w71.setCell ⟨go69, 0, none⟩ (.float .f64 (fl2 .sub (rdOf (0 : Nat) x213000_1 0) (4607182418800017408 : Nat)))) g s0_0 t241 t242) := ⟨by repeat (first | (with_reducible first | exact HI0.out | apply IsS38.alloc | apply IsS38.drewN | apply IsS38.drew | apply IsS38.set_1 | apply IsS38.set_2 | refine IsS38.far ?_ HN0_go69.out _ | refine IsS38.far ?_ NB0_211.out _ | refine IsS38.far ?_ NB0_212.out _) | exact HI0.out)⟩
          have n5_ : Aside0 (KeepBut w (w71.setCell ⟨go69, 0, none⟩ (.float .f64 (fl2 .sub (rdOf (0 : Nat) x213000_1 0) (4607182418800017408 : Nat)))) g none) := ⟨by repeat (first | (with_reducible first | exact HK.out | apply KeepBut.set_ | apply keep_drewN | apply keep_drew | apply keep_alloc | refine keep_far ?_ GB69.out _ | refine keep_far ?_ GW211.out _ | refine keep_far ?_ GW212.out _) | exact HK.out)⟩
          have n6_ : Aside0 (Below w0.heap.size w0 (w71.setCell ⟨go69, 0, none⟩ (.float .f64 (fl2 .sub (rdOf (0 : Nat) x213000_1 0) (4607182418800017408 : Nat))))) := ⟨by repeat (first | (with_reducible first | exact HB.out | apply below_alloc | apply pw_below_drewN | apply below_drew1 | refine below_set ?_ (Nat.le_trans HL.out GB69.out) | refine below_set ?_ (IsS38.ge HI0.out) | refine below_set ?_ GE211.out | refine below_set ?_ GE212.out) | exact HB.out)⟩
          (try clear HO_213000)
          (try clear HO_213001)
          (try clear BK211)
          (try clear BK212)
          (try clear HI0)
          (try clear HK)
          (try clear HB)
          generalize (w71.setCell ⟨go69, 0, none⟩ (.float .f64 (fl2 .sub (rdOf (0 : Nat) x213000_1 0) (4607182418800017408 : Nat)))) = w74 at n0_ n1_ n2_ n3_ n4_ n5_ n6_ ⊢
          have HO_213000 := n0_
          have HO_213001 := n1_
          have BK211 := n2_
          have BK212 := n3_
          have HI0 := n4_
          have HK := n5_
          have HB := n6_
          clear n0_ n1_ n2_ n3_ n4_ n5_ n6_
          have hnb75 := NB212_211.out
          have hnc75 := NB211_212.out
          have hnb76 := NB212_0.out
          have hnc76 := NB0_212.out
          have hcz77_0 : _ = some (Value.slice (some ad246) x213000_1.length co72) := (blk_cell BK212.out 0).trans rfl
          have hcz77_1 : _ = some (Value.slice (some ⟨go69, 0, none⟩) x213001_1.length co69) := (blk_cell BK212.out 1).trans rfl
          have hfz77_0 := blk_frozen BK212.out 0
          have hfz77_1 := blk_frozen BK212.out 1
          have hnb78 := NB211_0.out
          have hnc78 := NB0_211.out
          have hcz79_0 : _ = some (Value.slice none 0 0) := (blk_cell BK211.out 0).trans rfl
          have hcz79_1 : _ = some (Value.slice none 0 0) := (blk_cell BK211.out 1).trans rfl
          have hfz79_0 := blk_frozen BK211.out 0
          have hfz79_1 := blk_frozen BK211.out 1
          try go_wp2
          refine bodyPost_ret (results_cell_row rfl _ _ gb211 25 #[.slice (some ad246) x213000_1.length co72, .slice (some ⟨go69, 0, none⟩) x213001_1.length co69] (0, 0) _ rfl (by refine pk ?_; refine blk_put (cs := #[.slice (some ad246) x213000_1.length co72, .slice none 0 0]) ?_ 1 _ rfl; refine pk ?_; refine blk_put (cs := #[.slice none 0 0, .slice none 0 0]) ?_ 0 _ rfl; refine pk ?_; exact BK211.out) Try.underlying25 rfl (by kernel_rfl)) rfl ?_
          exact ⟨_, _, by first | rfl | (simp [errW_none, errW_some] <;> rfl) | (simp [*, errW_none, errW_some] <;> rfl), by refine rk ?_; exact Kd.R_mono (fr2 HO_213000.out BK211.out (by decide) 0 (.slice (some ad246) x213000_1.length co72) 1 (.slice (some ⟨go69, 0, none⟩) x213001_1.length co69)) (fun _ hk => hk.1), by refine rk ?_; exact Kd.R_mono (fr2 HO_213001.out BK211.out (by decide) 0 (.slice (some ad246) x213000_1.length co72) 1 (.slice (some ⟨go69, 0, none⟩) x213001_1.length co69)) (fun _ hk => hk.1), by repeat (first | (with_reducible first | exact HI0.out | apply IsS38.alloc | apply IsS38.drewN | apply IsS38.drew | apply IsS38.set_1 | apply IsS38.set_2 | refine IsS38.far ?_ NB0_211.out _ | refine IsS38.far ?_ NB0_212.out _) | exact HI0.out), by repeat (first | (with_reducible first | exact HB.out | apply below_alloc | apply pw_below_drewN | apply below_drew1 | refine below_set ?_ (IsS38.ge HI0.out) | refine below_set ?_ GE211.out | refine below_set ?_ GE212.out) | exact HB.out), by repeat (first | (with_reducible first | exact HK.out | apply KeepBut.set_ | apply keep_drewN | apply keep_drew | apply keep_alloc | refine keep_far ?_ GW211.out _ | refine keep_far ?_ GW212.out _) | exact HK.out)⟩
         ·rw [if_neg c68] at H
          exact absurd H (by simp)
        ·rw [if_neg c67] at H
         exact absurd H (by simp)
       ·rw [if_neg c66] at H
        exact absurd H (by simp)
      ·rw [if_neg c65] at H
       have c65b0 : decide (0 < a1) = false := decide_eq_false c65
       clear c65
       simp only [Option.some.injEq, Prod.mk.injEq] at H
       obtain ⟨rfl, rfl, rfl, rfl⟩ := H
       go_wp2_with (first | ((with_reducible refine gate_callee (f := 20) rfl ?_); refine goesL_ (some 40) rfl rfl Try.func20 (by kernel_rfl) rfl #[.pointer (some ⟨g, 0, none⟩), .int .i64 40] rfl (by (try simp only [lA, lB, lC]); first | done | rfl | (simp only [lD, lE]; rfl)) ?_; (with_reducible refine (spec_l1Cur_pick.calls g s0_0 x1001_1 x1002_1 40 t240 t241 t242 w0 _ ?side1 ?side2 A51.out).mono ?_); (case side1 => repeat (first | (with_reducible first | exact HI0.out | apply IsS38.alloc | apply IsS38.drewN | apply IsS38.drew | apply IsS38.set_1 | apply IsS38.set_2 | refine IsS38.far ?_ NB0_211.out _ | refine IsS38.far ?_ NB0_212.out _) | exact HI0.out)); (case side2 => repeat (first | (with_reducible first | exact HB.out | apply below_alloc | apply pw_below_drewN | apply below_drew1 | refine below_set ?_ (IsS38.ge HI0.out) | refine below_set ?_ GE211.out | refine below_set ?_ GE212.out) | exact HB.out)); rintro e w80 ⟨rfl, hi, hb, hk⟩; refine ⟨_, rfl, ?_⟩; replace HO_213000 := a_ (Kd.R_mono (Kd.R_keep (IsS38.apart (show IsS38 w0 _ g s0_0 x1001_1 x1002_1 from by repeat (first | (with_reducible first | exact HI0.out | apply IsS38.alloc | apply IsS38.drewN | apply IsS38.drew | apply IsS38.set_1 | apply IsS38.set_2 | refine IsS38.far ?_ NB0_211.out _ | refine IsS38.far ?_ NB0_212.out _) | exact HI0.out)) (rk HO_213000.out) (by decide)) hk (fun _ h => h.2)) (fun _ h => h.1)); replace HO_213001 := a_ (Kd.R_mono (Kd.R_keep (IsS38.apart (show IsS38 w0 _ g s0_0 x1001_1 x1002_1 from by repeat (first | (with_reducible first | exact HI0.out | apply IsS38.alloc | apply IsS38.drewN | apply IsS38.drew | apply IsS38.set_1 | apply IsS38.set_2 | refine IsS38.far ?_ NB0_211.out _ | refine IsS38.far ?_ NB0_212.out _) | exact HI0.out)) (rk HO_213001.out) (by decide)) hk (fun _ h => h.2)) (fun _ h => h.1)); replace BK211 := a_ (KeepBut.blk hk (g' := gb211) (o := .cells #[.slice none 0 0, .slice none 0 0] 25 (0, 0)) (pk BK211.out) NB211_0.out (by simp)); replace BK212 := a_ (KeepBut.blk hk (g' := gb212) (o := .cells #[u213000, u213001] 25 (0, 0)) (pk BK212.out) NB212_0.out (by simp)); replace HK := a_ (KeepBut.trans (by repeat (first | (with_reducible first | exact HK.out | apply KeepBut.set_ | apply keep_drewN | apply keep_drew | apply keep_alloc | refine keep_far ?_ GW211.out _ | refine keep_far ?_ GW212.out _) | exact HK.out)) hk (.inl rfl)); replace HB := a_ (hb); replace HI0 := a_ (hi); clear hb hk hi; have hnb81 := NB212_211.out; have hnc81 := NB211_212.out; have hnb82 := NB212_0.out; have hnc82 := NB0_212.out; have hcz83_0 : w80.cell? ⟨gb212, 0, none⟩ = some (u213000) := (blk_cell BK212.out 0).trans rfl; have hcz83_1 : w80.cell? ⟨gb212, 1, none⟩ = some (u213001) := (blk_cell BK212.out 1).trans rfl; have hfz83_0 := blk_frozen BK212.out 0; have hfz83_1 := blk_frozen BK212.out 1; obtain ⟨Ao84, co84, eo84⟩ := Kd.R_slice HO_213000.out; subst eo84; have hnb85 := NB211_0.out; have hnc85 := NB0_211.out; have hcz86_0 : _ = some (Value.slice none 0 0) := (blk_cell BK211.out 0).trans rfl; have hcz86_1 : _ = some (Value.slice none 0 0) := (blk_cell BK211.out 1).trans rfl; have hfz86_0 := blk_frozen BK211.out 0; have hfz86_1 := blk_frozen BK211.out 1; obtain ⟨Ao87, co87, eo87⟩ := Kd.R_slice HO_213001.out; subst eo87))
       refine bodyPost_ret (results_cell_row rfl _ _ gb211 25 #[.slice Ao84 x213000_1.length co84, .slice Ao87 x213001_1.length co87] (0, 0) _ rfl (by refine pk ?_; refine blk_put (cs := #[.slice Ao84 x213000_1.length co84, .slice none 0 0]) ?_ 1 _ rfl; refine pk ?_; refine blk_put (cs := #[.slice none 0 0, .slice none 0 0]) ?_ 0 _ rfl; refine pk ?_; exact BK211.out) Try.underlying25 rfl (by kernel_rfl)) rfl ?_
       exact ⟨_, _, by first | rfl | (simp [errW_none, errW_some] <;> rfl) | (simp [*, errW_none, errW_some] <;> rfl), by refine rk ?_; exact Kd.R_mono (fr2 HO_213000.out BK211.out (by decide) 0 (.slice Ao84 x213000_1.length co84) 1 (.slice Ao87 x213001_1.length co87)) (fun _ hk => hk.1), by refine rk ?_; exact Kd.R_mono (fr2 HO_213001.out BK211.out (by decide) 0 (.slice Ao84 x213000_1.length co84) 1 (.slice Ao87 x213001_1.length co87)) (fun _ hk => hk.1), by repeat (first | (with_reducible first | exact HI0.out | apply IsS38.alloc | apply IsS38.drewN | apply IsS38.drew | apply IsS38.set_1 | apply IsS38.set_2 | refine IsS38.far ?_ NB0_211.out _ | refine IsS38.far ?_ NB0_212.out _) | exact HI0.out), by repeat (first | (with_reducible first | exact HB.out | apply below_alloc | apply pw_below_drewN | apply below_drew1 | refine below_set ?_ (IsS38.ge HI0.out) | refine below_set ?_ GE211.out | refine below_set ?_ GE212.out) | exact HB.out), by repeat (first | (with_reducible first | exact HK.out | apply KeepBut.set_ | apply keep_drewN | apply keep_drew | apply keep_alloc | refine keep_far ?_ GW211.out _ | refine keep_far ?_ GW212.out _) | exact HK.out)⟩
     ·rw [if_neg c64] at H
      have c64b0 : (t240 == 1) = false := beq_eq_false_iff_ne.mpr c64
      have c64b1 : (t240 != 1) = true := bne_iff_ne.mpr c64
      simp only [Option.some.injEq, Prod.mk.injEq] at H
      obtain ⟨rfl, rfl, rfl, rfl⟩ := H
      go_wp2_with (first | ((with_reducible refine gate_callee (f := 20) rfl ?_); refine goesL_ (some 40) rfl rfl Try.func20 (by kernel_rfl) rfl #[.pointer (some ⟨g, 0, none⟩), .int .i64 40] rfl (by (try simp only [lA, lB, lC]); first | done | rfl | (simp only [lD, lE]; rfl)) ?_; (with_reducible refine (spec_l1Cur_pick.calls g s0_0 x1001_1 x1002_1 40 t240 t241 t242 w0 _ ?side1 ?side2 A51.out).mono ?_); (case side1 => repeat (first | (with_reducible first | exact HI0.out | apply IsS38.alloc | apply IsS38.drewN | apply IsS38.drew | apply IsS38.set_1 | apply IsS38.set_2 | refine IsS38.far ?_ NB0_211.out _ | refine IsS38.far ?_ NB0_212.out _) | exact HI0.out)); (case side2 => repeat (first | (with_reducible first | exact HB.out | apply below_alloc | apply pw_below_drewN | apply below_drew1 | refine below_set ?_ (IsS38.ge HI0.out) | refine below_set ?_ GE211.out | refine below_set ?_ GE212.out) | exact HB.out)); rintro e w88 ⟨rfl, hi, hb, hk⟩; refine ⟨_, rfl, ?_⟩; replace HO_213000 := a_ (Kd.R_mono (Kd.R_keep (IsS38.apart (show IsS38 w0 _ g s0_0 x1001_1 x1002_1 from by repeat (first | (with_reducible first | exact HI0.out | apply IsS38.alloc | apply IsS38.drewN | apply IsS38.drew | apply IsS38.set_1 | apply IsS38.set_2 | refine IsS38.far ?_ NB0_211.out _ | refine IsS38.far ?_ NB0_212.out _) | exact HI0.out)) (rk HO_213000.out) (by decide)) hk (fun _ h => h.2)) (fun _ h => h.1)); replace HO_213001 := a_ (Kd.R_mono (Kd.R_keep (IsS38.apart (show IsS38 w0 _ g s0_0 x1001_1 x1002_1 from by repeat (first | (with_reducible first | exact HI0.out | apply IsS38.alloc | apply IsS38.drewN | apply IsS38.drew | apply IsS38.set_1 | apply IsS38.set_2 | refine IsS38.far ?_ NB0_211.out _ | refine IsS38.far ?_ NB0_212.out _) | exact HI0.out)) (rk HO_213001.out) (by decide)) hk (fun _ h => h.2)) (fun _ h => h.1)); replace BK211 := a_ (KeepBut.blk hk (g' := gb211) (o := .cells #[.slice none 0 0, .slice none 0 0] 25 (0, 0)) (pk BK211.out) NB211_0.out (by simp)); replace BK212 := a_ (KeepBut.blk hk (g' := gb212) (o := .cells #[u213000, u213001] 25 (0, 0)) (pk BK212.out) NB212_0.out (by simp)); replace HK := a_ (KeepBut.trans (by repeat (first | (with_reducible first | exact HK.out | apply KeepBut.set_ | apply keep_drewN | apply keep_drew | apply keep_alloc | refine keep_far ?_ GW211.out _ | refine keep_far ?_ GW212.out _) | exact HK.out)) hk (.inl rfl)); replace HB := a_ (hb); replace HI0 := a_ (hi); clear hb hk hi; have hnb89 := NB212_211.out; have hnc89 := NB211_212.out; have hnb90 := NB212_0.out; have hnc90 := NB0_212.out; have hcz91_0 : w88.cell? ⟨gb212, 0, none⟩ = some (u213000) := (blk_cell BK212.out 0).trans rfl; have hcz91_1 : w88.cell? ⟨gb212, 1, none⟩ = some (u213001) := (blk_cell BK212.out 1).trans rfl; have hfz91_0 := blk_frozen BK212.out 0; have hfz91_1 := blk_frozen BK212.out 1; obtain ⟨Ao92, co92, eo92⟩ := Kd.R_slice HO_213000.out; subst eo92; have hnb93 := NB211_0.out; have hnc93 := NB0_211.out; have hcz94_0 : _ = some (Value.slice none 0 0) := (blk_cell BK211.out 0).trans rfl; have hcz94_1 : _ = some (Value.slice none 0 0) := (blk_cell BK211.out 1).trans rfl; have hfz94_0 := blk_frozen BK211.out 0; have hfz94_1 := blk_frozen BK211.out 1; obtain ⟨Ao95, co95, eo95⟩ := Kd.R_slice HO_213001.out; subst eo95))
      refine bodyPost_ret (results_cell_row rfl _ _ gb211 25 #[.slice Ao92 x213000_1.length co92, .slice Ao95 x213001_1.length co95] (0, 0) _ rfl (by refine pk ?_; refine blk_put (cs := #[.slice Ao92 x213000_1.length co92, .slice none 0 0]) ?_ 1 _ rfl; refine pk ?_; refine blk_put (cs := #[.slice none 0 0, .slice none 0 0]) ?_ 0 _ rfl; refine pk ?_; exact BK211.out) Try.underlying25 rfl (by kernel_rfl)) rfl ?_
      exact ⟨_, _, by first | rfl | (simp [errW_none, errW_some] <;> rfl) | (simp [*, errW_none, errW_some] <;> rfl), by refine rk ?_; exact Kd.R_mono (fr2 HO_213000.out BK211.out (by decide) 0 (.slice Ao92 x213000_1.length co92) 1 (.slice Ao95 x213001_1.length co95)) (fun _ hk => hk.1), by refine rk ?_; exact Kd.R_mono (fr2 HO_213001.out BK211.out (by decide) 0 (.slice Ao92 x213000_1.length co92) 1 (.slice Ao95 x213001_1.length co95)) (fun _ hk => hk.1), by repeat (first | (with_reducible first | exact HI0.out | apply IsS38.alloc | apply IsS38.drewN | apply IsS38.drew | apply IsS38.set_1 | apply IsS38.set_2 | refine IsS38.far ?_ NB0_211.out _ | refine IsS38.far ?_ NB0_212.out _) | exact HI0.out), by repeat (first | (with_reducible first | exact HB.out | apply below_alloc | apply pw_below_drewN | apply below_drew1 | refine below_set ?_ (IsS38.ge HI0.out) | refine below_set ?_ GE211.out | refine below_set ?_ GE212.out) | exact HB.out), by repeat (first | (with_reducible first | exact HK.out | apply KeepBut.set_ | apply keep_drewN | apply keep_drew | apply keep_alloc | refine keep_far ?_ GW211.out _ | refine keep_far ?_ GW212.out _) | exact HK.out)⟩

end Go.Proofs.Ytbhnnobpjmnngaa.PFnJoins
