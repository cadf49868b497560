-- Written by a program of this session out of the loaded functions' print; helper lemmas as print.sh lays them.
import Derived.Test.YtbhnnobpjmnngaaUp2
import Derived.Test.YtbhnnobpjmnngaaUp
import Derived.Test.YtbhnnobpjmnngaaRFnJoinsx0
import Derived.Test.YtbhnnobpjmnngaaRFnJoinsx5
namespace Go.Proofs.Ytbhnnobpjmnngaa.PFnJoins
open Go.RowKit Go.Proofs.YtbhnnobpjmnngaaW.PrintWords Go.Proofs.YtbhnnobpjmnngaaW.PrintLast Go.Proofs.YtbhnnobpjmnngaaW.PrintMore
attribute [local go_sem] max2_int min2_int max_two min_two max_three min_three max_four min_four go_fstore go_fneg go_fadd go_fsub go_fmul go_fquo go_fmax go_fmin go_fconv go_bits go_frombits  -- for this text's walks alone
set_option linter.unusedVariables false
set_option linter.unusedSimpArgs false

/-! ### impl_BoxMeet: function 9 -/
def impl_BoxMeet.l0 : Nat → Int → Int → List Nat → List Nat → List Nat → List Nat → List Nat → List Nat → Option (List Nat × List Nat × Bool)
 | 0, _, _, _, _, _, _, _, _ => none
 | k + 1, x15, x16, x419000, x419001, x420000, x420001, x423000, x423001 => if x16 < x15 then (if 0 ≤ x16 then (if x16 < (x419000.length : Int) then (if x16 < (x420000.length : Int) then (if (FloatKind.f64.format.order (rdOf (0 : Nat) x419000 x16) (rdOf (0 : Nat) x420000 x16)).isSome = true then (if x423000.length < 17592186044416 then (if x16 < (x419001.length : Int) then (if x16 < (x420001.length : Int) then (if (FloatKind.f64.format.order (rdOf (0 : Nat) x419001 x16) (rdOf (0 : Nat) x420001 x16)).isSome = true then (if x423001.length < 17592186044416 then (impl_BoxMeet.l0 k x15 (wrap64 (x16 + 1)) x419000 x419001 x420000 x420001 (x423000 ++ [fmax (rdOf (0 : Nat) x419000 x16) (rdOf (0 : Nat) x420000 x16)]) (x423001 ++ [fmin (rdOf (0 : Nat) x419001 x16) (rdOf (0 : Nat) x420001 x16)])) else (none)) else (none)) else (none)) else (none)) else (none)) else (none)) else (none)) else (none)) else (none)) else ((impl_GoodBox.f k x423000 x423001).bind fun t433 => (if t433 = true then (some (x423000, x423001, true)) else (some (([] : List Nat), ([] : List Nat), false))))
def impl_BoxMeet.f (k : Nat) (l0_0 : List Nat) (l0_1 : List Nat) (l1_0 : List Nat) (l1_1 : List Nat) : Option (List Nat × List Nat × Bool) := (impl_alike.f k l0_0 l0_1 l1_0 l1_1).bind fun t421 => (if t421 = true then (impl_BoxMeet.l0 k (l0_0.length : Int) 0 l0_0 l0_1 l1_0 l1_1 ([] : List Nat) ([] : List Nat)) else (some (([] : List Nat), ([] : List Nat), false)))
theorem impl_BoxMeet.mono_l : ∀ k, (∀ y0 y1 y2 y3 y4 y5 y6 y7, LeO (impl_BoxMeet.l0 k y0 y1 y2 y3 y4 y5 y6 y7) (impl_BoxMeet.l0 (k + 1) y0 y1 y2 y3 y4 y5 y6 y7))
 | 0 => fun _ _ _ _ _ _ _ _ r h => by simp [impl_BoxMeet.l0] at h
 | k + 1 => by
  have ih0 := impl_BoxMeet.mono_l k
  ·intro y0 y1 y2 y3 y4 y5 y6 y7
   unfold impl_BoxMeet.l0
   repeat' first
   | (with_reducible exact ih0 _ _ _ _ _ _ _ _)
   | (with_reducible exact impl_GoodBox.mono _ _ _)
   | (with_reducible exact impl_alike.mono _ _ _ _ _)
   | (with_reducible exact LeO.refl _)
   | (with_reducible exact LeO.none _)
   | (with_reducible refine LeO.ite ?_ ?_)
   | (with_reducible refine LeO.bind ?_ (fun _ => ?_))
   | exact ih0 _ _ _ _ _ _ _ _
   | exact impl_GoodBox.mono _ _ _
   | exact impl_alike.mono _ _ _ _ _
   | exact LeO.none _
   | refine LeO.ite ?_ ?_
   | refine LeO.bind ?_ (fun _ => ?_)
theorem impl_BoxMeet.mono : ∀ a0 a1 a2 a3 k, LeO (impl_BoxMeet.f k a0 a1 a2 a3) (impl_BoxMeet.f (k + 1) a0 a1 a2 a3) := by
 intro a0 a1 a2 a3 k
 have ih0 := impl_BoxMeet.mono_l k
 unfold impl_BoxMeet.f
 repeat' first
   | (with_reducible exact ih0 _ _ _ _ _ _ _ _)
   | (with_reducible exact impl_GoodBox.mono _ _ _)
   | (with_reducible exact impl_alike.mono _ _ _ _ _)
   | (with_reducible exact LeO.refl _)
   | (with_reducible exact LeO.none _)
   | (with_reducible refine LeO.ite ?_ ?_)
   | (with_reducible refine LeO.bind ?_ (fun _ => ?_))
   | exact ih0 _ _ _ _ _ _ _ _
   | exact impl_GoodBox.mono _ _ _
   | exact impl_alike.mono _ _ _ _ _
   | exact LeO.none _
   | refine LeO.ite ?_ ?_
   | refine LeO.bind ?_ (fun _ => ?_)
def impl_BoxMeet.T7 : Bool × List (List Nat × List Nat) := (true, [([], []), ([0], [0]), ([], []), ([2], [2]), ([], []), ([3, 4], [3, 4]), ([5], [5]), ([], []), ([7], [7]), ([], []), ([8, 9], [8, 9]), ([10], [10]), ([6, 11], [6, 11]), ([12], [12]), ([1, 13], [1, 13]), ([0, 1, 2, 3, 4, 5, 6, 7, 8, 9, 10, 11, 12, 13, 14], []), ([15, 14, 14, 0, 1, 2, 3, 4, 5, 6, 7, 8, 9, 10, 11, 12, 13, 14], [14, 15])])
def impl_BoxMeet.B7 : List Nat := [0, 1, 0, 4, 0, 28, 60, 0, 128, 0, 896, 1920, 4092, 8188, 16383, 32767, 65535]
theorem impl_BoxMeet.tab7 : rtab .any (opsOf Try.f9 7) = impl_BoxMeet.T7 := by kernel_rfl
theorem impl_BoxMeet.bits7 : waitsOk impl_BoxMeet.T7.2 impl_BoxMeet.B7 = true := by kernel_rfl
def impl_BoxMeet.T8 : Bool × List (List Nat × List Nat) := (true, [([], []), ([0], [0]), ([], []), ([2], [2]), ([], []), ([3, 4], [3, 4]), ([5], [5]), ([], []), ([7], [7]), ([], []), ([8, 9], [8, 9]), ([10], [10]), ([6, 11], [6, 11]), ([12], [12]), ([1, 13], [1, 13]), ([0, 1, 2, 3, 4, 5, 6, 7, 8, 9, 10, 11, 12, 13, 14], []), ([15, 14, 14, 0, 1, 2, 3, 4, 5, 6, 7, 8, 9, 10, 11, 12, 13, 14], [14, 15])])
def impl_BoxMeet.B8 : List Nat := [0, 1, 0, 4, 0, 28, 60, 0, 128, 0, 896, 1920, 4092, 8188, 16383, 32767, 65535]
theorem impl_BoxMeet.tab8 : rtab .any (opsOf Try.f9 8) = impl_BoxMeet.T8 := by kernel_rfl
theorem impl_BoxMeet.bits8 : waitsOk impl_BoxMeet.T8.2 impl_BoxMeet.B8 = true := by kernel_rfl
set_option maxHeartbeats 8000000 in
set_option maxRecDepth 100000 in
theorem impl_BoxMeet.calls (k : Nat) (A0_0 : Option Addr) (c0_0 : Nat) (l0_0 : List Nat) (A0_1 : Option Addr) (c0_1 : Nat) (l0_1 : List Nat) (A1_0 : Option Addr) (c1_0 : Nat) (l1_0 : List Nat) (A1_1 : Option Addr) (c1_1 : Nat) (l1_1 : List Nat) (r1 : List Nat) (r2 : List Nat) (r3 : Bool) (w : World) (hr0_0 : Kd.C Kd.flt w A0_0 l0_0.length l0_0) (hc0_0 : l0_0.length ≤ c0_0) (hr0_1 : Kd.C Kd.flt w A0_1 l0_1.length l0_1) (hc0_1 : l0_1.length ≤ c0_1) (hr1_0 : Kd.C Kd.flt w A1_0 l1_0.length l1_0) (hc1_0 : l1_0.length ≤ c1_0) (hr1_1 : Kd.C Kd.flt w A1_1 l1_1.length l1_1) (hc1_1 : l1_1.length ≤ c1_1) (h : impl_BoxMeet.f k l0_0 l0_1 l1_0 l1_1 = some (r1, r2, r3)) :
  Calls Try.prog 9 #[.agg #[.slice A0_0 l0_0.length c0_0, .slice A0_1 l0_1.length c0_1], .agg #[.slice A1_0 l1_0.length c1_0, .slice A1_1 l1_1.length c1_1]] w fun e w' => ∃ v0_ v1_ : Value, e = .returned (.tuple #[.agg #[v0_, v1_], .bool r3]) ∧ Kd.R Kd.flt 33 w' w.heap.size (fun k_ => N_ v1_ k_) v0_ r1 ∧ Kd.R Kd.flt 33 w' w.heap.size (fun k_ => N_ v0_ k_) v1_ r2 ∧ Below w.heap.size w w' := by
 have hu25 := Try.underlying25
 have HR0_0 := Aside0.mk hr0_0
 have HC0_0 := Aside0.mk hc0_0
 clear hr0_0 hc0_0
 have HR0_1 := Aside0.mk hr0_1
 have HC0_1 := Aside0.mk hc0_1
 clear hr0_1 hc0_1
 have HR1_0 := Aside0.mk hr1_0
 have HC1_0 := Aside0.mk hc1_0
 clear hr1_0 hc1_0
 have HR1_1 := Aside0.mk hr1_1
 have HC1_1 := Aside0.mk hc1_1
 clear hr1_1 hc1_1
 have HB := a_ (Below.refl w.heap.size w)
 have H : ((impl_alike.f k l0_0 l0_1 l1_0 l1_1).bind fun t421 => (if t421 = true then (impl_BoxMeet.l0 k (l0_0.length : Int) 0 l0_0 l0_1 l1_0 l1_1 ([] : List Nat) ([] : List Nat)) else (some (([] : List Nat), ([] : List Nat), false)))) = some (r1, r2, r3) := h
 clear h
 replace H := Option.bind_eq_some_iff.mp H
 obtain ⟨t421, A30, H⟩ := H
 replace H : (if t421 = true then (impl_BoxMeet.l0 k (l0_0.length : Int) 0 l0_0 l0_1 l1_0 l1_1 ([] : List Nat) ([] : List Nat)) else (some (([] : List Nat), ([] : List Nat), false))) = some (r1, r2, r3) := H
 have A3 := Aside0.mk A30
 clear A30
 by_cases c4 : t421 = true
 ·subst c4
  have H1 : (impl_BoxMeet.l0 k (l0_0.length : Int) 0 l0_0 l0_1 l1_0 l1_1 ([] : List Nat) ([] : List Nat)) = some (r1, r2, r3) := by rw [if_pos rfl] at H; exact H
  clear H
  have H := H1
  clear H1
  have H' := Aside0.mk H
  clear H
  go_enter Try.func9, Try.ntmps9
  go_wp2_with (first | ((with_reducible refine gate_dst (N := 2) rfl ?_); refine box_event ?hg (N := 2) ?hd (cs := #[.slice A0_0 l0_0.length c0_0, .slice A0_1 l0_1.length c0_1]) (t := 25) ?hr ?_; (case hd => rfl); (case hg => rfl); (case hr => first | (go_simp; done) | (go_simp; rfl)); intro gb418 hg w5 hbox hb; have BK418 := a_ (hbox); have GW418 := a_ (bsg hg HB.out); have GE418 := a_ (bsg hg HB.out); replace HB := a_ (below_step (un HB.out) hb); clear hb hbox hg) | ((with_reducible refine gate_dst (N := 3) rfl ?_); refine box_event ?hg (N := 3) ?hd (cs := #[.slice A1_0 l1_0.length c1_0, .slice A1_1 l1_1.length c1_1]) (t := 25) ?hr ?_; (case hd => rfl); (case hg => rfl); (case hr => first | (go_simp; done) | (go_simp; rfl)); intro gb419 hg w6 hbox hb; have BK419 := a_ (hbox); have GW419 := a_ (bsg hg HB.out); have GE419 := a_ (bsg hg HB.out); replace HB := a_ (below_step (by repeat (with_reducible first | exact HB.out | refine bz ?_ (by assumption) | apply bA | apply bN | apply bD)) hb); have NB418_419 := a_ (nel hg BK418.out); have NB419_418 := a_ (nle hg BK418.out); replace BK418 := a_ (blk_below (pk BK418.out) hb); clear hb hbox hg) | ((with_reducible refine gate_dst (N := 4) rfl ?_); refine box_event ?hg (N := 4) ?hd (cs := #[.slice none 0 0, .slice none 0 0]) (t := 25) ?hr ?_; (case hd => rfl); (case hg => rfl); (case hr => first | (go_simp; done) | (go_simp; rfl)); intro gb420 hg w7 hbox hb; have BK420 := a_ (hbox); have GW420 := a_ (bsg hg HB.out); have GE420 := a_ (bsg hg HB.out); replace HB := a_ (below_step (by repeat (with_reducible first | exact HB.out | refine bz ?_ (by assumption) | apply bA | apply bN | apply bD)) hb); have NB418_420 := a_ (nel hg BK418.out); have NB420_418 := a_ (nle hg BK418.out); replace BK418 := a_ (blk_below (pk BK418.out) hb); have NB419_420 := a_ (nel hg BK419.out); have NB420_419 := a_ (nle hg BK419.out); replace BK419 := a_ (blk_below (pk BK419.out) hb); clear hb hbox hg; have hnb8 := NB418_419.out; have hnc8 := NB419_418.out; have hnb9 := NB418_420.out; have hnc9 := NB420_418.out; have hcz10_0 : _ = some (Value.slice A0_0 l0_0.length c0_0) := (blk_cell BK418.out 0).trans rfl; have hcz10_1 : _ = some (Value.slice A0_1 l0_1.length c0_1) := (blk_cell BK418.out 1).trans rfl; have hfz10_0 := blk_frozen BK418.out 0; have hfz10_1 := blk_frozen BK418.out 1; have hnb11 := NB419_420.out; have hnc11 := NB420_419.out; have hcz12_0 : _ = some (Value.slice A1_0 l1_0.length c1_0) := (blk_cell BK419.out 0).trans rfl; have hcz12_1 : _ = some (Value.slice A1_1 l1_1.length c1_1) := (blk_cell BK419.out 1).trans rfl; have hfz12_0 := blk_frozen BK419.out 0; have hfz12_1 := blk_frozen BK419.out 1) | ((with_reducible refine gate_callee (f := 12) rfl ?_); refine goesL_ (some 10) rfl rfl Try.func12 (by kernel_rfl) rfl #[.agg #[.slice A0_0 l0_0.length c0_0, .slice A0_1 l0_1.length c0_1], .agg #[.slice A1_0 l1_0.length c1_0, .slice A1_1 l1_1.length c1_1]] rfl (by (try simp only [lA, lB, lC]); first | done | rfl | (simp only [lD, lE]; rfl)) ?_; (with_reducible refine (impl_alike.calls k _ _ l0_0 _ _ l0_1 _ _ l1_0 _ _ l1_1 true _ ?side1 ?side2 ?side3 ?side4 ?side5 ?side6 ?side7 ?side8 A3.out).mono ?_); (case side1 => exact Kd.C_below HR0_0.out (un HB.out)); (case side2 => exact HC0_0.out); (case side3 => exact Kd.C_below HR0_1.out (un HB.out)); (case side4 => exact HC0_1.out); (case side5 => exact Kd.C_below HR1_0.out (un HB.out)); (case side6 => exact HC1_0.out); (case side7 => exact Kd.C_below HR1_1.out (un HB.out)); (case side8 => exact HC1_1.out); rintro e w13 ⟨rfl, hb⟩; refine ⟨_, rfl, ?_⟩; replace BK418 := a_ (blk_below (pk BK418.out) hb); replace BK419 := a_ (blk_below (pk BK419.out) hb); replace BK420 := a_ (blk_below (pk BK420.out) hb); replace HB := a_ (below_step (by repeat (with_reducible first | exact HB.out | refine bz ?_ (by assumption) | apply bA | apply bN | apply bD)) hb); clear hb) | ((with_reducible refine gate_dst (N := 6) rfl ?_); refine box_event ?hg (N := 6) ?hd (cs := #[.slice none 0 0, .slice none 0 0]) (t := 25) ?hr ?_; (case hd => rfl); (case hg => rfl); (case hr => first | (go_simp; done) | (go_simp; rfl)); intro gb422 hg w14 hbox hb; have BK422 := a_ (hbox); have GW422 := a_ (bsg hg HB.out); have GE422 := a_ (bsg hg HB.out); replace HB := a_ (below_step (by repeat (with_reducible first | exact HB.out | refine bz ?_ (by assumption) | apply bA | apply bN | apply bD)) hb); have NB418_422 := a_ (nel hg BK418.out); have NB422_418 := a_ (nle hg BK418.out); replace BK418 := a_ (blk_below (pk BK418.out) hb); have NB419_422 := a_ (nel hg BK419.out); have NB422_419 := a_ (nle hg BK419.out); replace BK419 := a_ (blk_below (pk BK419.out) hb); have NB420_422 := a_ (nel hg BK420.out); have NB422_420 := a_ (nle hg BK420.out); replace BK420 := a_ (blk_below (pk BK420.out) hb); clear hb hbox hg; have hnb15 := NB418_422.out; have hnc15 := NB422_418.out; have hcz16_0 : _ = some (Value.slice A0_0 l0_0.length c0_0) := (blk_cell BK418.out 0).trans rfl; have hcz16_1 : _ = some (Value.slice A0_1 l0_1.length c0_1) := (blk_cell BK418.out 1).trans rfl; have hfz16_0 := blk_frozen BK418.out 0; have hfz16_1 := blk_frozen BK418.out 1))
  go_loopg [16] k (fun kq v16 w' => ∃ (x16_1 : Int) (x423000_1 : List Nat) (x423001_1 : List Nat) (u423000 : Value) (u423001 : Value), v16 = .int .i64 x16_1 ∧ Aside0 (impl_BoxMeet.l0 kq (l0_0.length : Int) x16_1 l0_0 l0_1 l1_0 l1_1 x423000_1 x423001_1 = some (r1, r2, r3)) ∧ Aside0 (kq ≤ k) ∧ Aside0 (Kd.R Kd.flt 33 w' w.heap.size (fun k_ => some k_ ≠ (u423001 : Value).ownBlock) u423000 x423000_1) ∧ Aside0 (Kd.R Kd.flt 33 w' w.heap.size (fun k_ => some k_ ≠ (u423000 : Value).ownBlock) u423001 x423001_1) ∧ Aside0 (w'.heap[gb418]? = some (.cells #[(.slice A0_0 l0_0.length c0_0), (.slice A0_1 l0_1.length c0_1)] 25 (0, 0))) ∧ Aside0 (w'.heap[gb419]? = some (.cells #[(.slice A1_0 l1_0.length c1_0), (.slice A1_1 l1_1.length c1_1)] 25 (0, 0))) ∧ Aside0 (w'.heap[gb420]? = some (.cells #[(.slice none 0 0), (.slice none 0 0)] 25 (0, 0))) ∧ Aside0 (w'.heap[gb422]? = some (.cells #[u423000, u423001] 25 (0, 0))) ∧ Aside0 (Below w.heap.size w w'))
  case atStart => exact ⟨(0), (([] : List Nat)), (([] : List Nat)), (.slice none 0 0), (.slice none 0 0), (by first | rfl | (simp; done) | (simp [*]; done)), H', ⟨Nat.le_refl _⟩, ⟨by first | exact Kd.R_nil _ _ _ _ _ | exact Kd.N_nil _ _ _ _ _ | exact Kd.V_nil _ _ _ _ _ | exact Kd.Q_nil _ _ _ _ _ | exact Kd.S_nil _ _ _ _ _⟩, ⟨by first | exact Kd.R_nil _ _ _ _ _ | exact Kd.N_nil _ _ _ _ _ | exact Kd.V_nil _ _ _ _ _ | exact Kd.Q_nil _ _ _ _ _ | exact Kd.S_nil _ _ _ _ _⟩, ⟨pk BK418.out⟩, ⟨pk BK419.out⟩, ⟨pk BK420.out⟩, ⟨pk BK422.out⟩, ⟨by repeat (with_reducible first | exact HB.out | refine bz ?_ (by assumption) | apply bA | apply bN | apply bD)⟩⟩
  case round =>
   clear H'
   try clear c1; try clear p2; try clear c4; try clear c8; try clear c9; try clear c11; try clear c12; try clear c15; try clear hcz10_0; try clear hcz10_1; try clear hcz12_0; try clear hcz12_1; try clear hcz16_0; try clear hcz16_1; try clear hfz10_0; try clear hfz10_1; try clear hfz12_0; try clear hfz12_1; try clear hfz16_0; try clear hfz16_1
   obtain ⟨x16_1, x423000_1, x423001_1, u423000, u423001, rfl, HA, HK1, HO_423000, HO_423001, BK418, BK419, BK420, BK422, HB⟩ := hrel
   cases gk with
   | zero => exact absurd HA.out (by simp [impl_BoxMeet.l0])
   | succ k1 =>
    have H := HA.out
    clear HA
    simp only [impl_BoxMeet.l0] at H
    by_cases c17 : x16_1 < (l0_0.length : Int)
    ·rw [if_pos c17] at H
     have c17b0 : decide (x16_1 < (l0_0.length : Int)) = true := decide_eq_true c17
     clear c17
     by_cases c18 : 0 ≤ x16_1
     ·rw [if_pos c18] at H
      have c18b0 : decide (0 ≤ x16_1) = true := decide_eq_true c18
      clear c18
      by_cases c19 : x16_1 < (l0_0.length : Int)
      ·rw [if_pos c19] at H
       have c19b0 : decide (x16_1 < (l0_0.length : Int)) = true := decide_eq_true c19
       clear c19
       by_cases c20 : x16_1 < (l1_0.length : Int)
       ·rw [if_pos c20] at H
        have c20b0 : decide (x16_1 < (l1_0.length : Int)) = true := decide_eq_true c20
        clear c20
        by_cases c21 : (FloatKind.f64.format.order (rdOf (0 : Nat) l0_0 x16_1) (rdOf (0 : Nat) l1_0 x16_1)).isSome = true
        ·rw [if_pos c21] at H
         have c21b0 : (FloatKind.f64.format.order (rdOf (0 : Nat) l0_0 x16_1) (rdOf (0 : Nat) l1_0 x16_1)).isSome = true := c21
         clear c21
         by_cases c22 : x423000_1.length < 17592186044416
         ·rw [if_pos c22] at H
          have LMc22 := Aside0.mk c22
          clear c22
          obtain ⟨y425, hy425⟩ : ∃ y_ : List Nat, y_ = (x423000_1 ++ [fmax (rdOf (0 : Nat) l0_0 x16_1) (rdOf (0 : Nat) l1_0 x16_1)]) := ⟨_, rfl⟩
          replace H : (if x16_1 < (l0_1.length : Int) then (if x16_1 < (l1_1.length : Int) then (if (FloatKind.f64.format.order (rdOf (0 : Nat) l0_1 x16_1) (rdOf (0 : Nat) l1_1 x16_1)).isSome = true then (if x423001_1.length < 17592186044416 then (impl_BoxMeet.l0 k1 (l0_0.length : Int) (wrap64 (x16_1 + 1)) l0_0 l0_1 l1_0 l1_1 y425 (x423001_1 ++ [fmin (rdOf (0 : Nat) l0_1 x16_1) (rdOf (0 : Nat) l1_1 x16_1)])) else (none)) else (none)) else (none)) else (none)) = some (r1, r2, r3) := by first | (rw [hy425]; with_reducible exact H) | (have H2_ := (Option.bind_some _ _).symm.trans H; rw [hy425]; with_reducible exact H2_) | (have H2_ := (Option.bind_some _ _).symm.trans H; with_reducible exact H2_) | with_reducible exact H | (rw [hy425]; exact H) | exact H
          have Ny425 := Aside0.mk hy425
          clear hy425
          by_cases c23 : x16_1 < (l0_1.length : Int)
          ·rw [if_pos c23] at H
           have c23b0 : decide (x16_1 < (l0_1.length : Int)) = true := decide_eq_true c23
           clear c23
           by_cases c24 : x16_1 < (l1_1.length : Int)
           ·rw [if_pos c24] at H
            have c24b0 : decide (x16_1 < (l1_1.length : Int)) = true := decide_eq_true c24
            clear c24
            by_cases c25 : (FloatKind.f64.format.order (rdOf (0 : Nat) l0_1 x16_1) (rdOf (0 : Nat) l1_1 x16_1)).isSome = true
            ·rw [if_pos c25] at H
             have c25b0 : (FloatKind.f64.format.order (rdOf (0 : Nat) l0_1 x16_1) (rdOf (0 : Nat) l1_1 x16_1)).isSome = true := c25
             clear c25
             by_cases c26 : x423001_1.length < 17592186044416
             ·rw [if_pos c26] at H
              have LMc26 := Aside0.mk c26
              clear c26
              obtain ⟨y430, hy430⟩ : ∃ y_ : List Nat, y_ = (x423001_1 ++ [fmin (rdOf (0 : Nat) l0_1 x16_1) (rdOf (0 : Nat) l1_1 x16_1)]) := ⟨_, rfl⟩
              replace H : (impl_BoxMeet.l0 k1 (l0_0.length : Int) (wrap64 (x16_1 + 1)) l0_0 l0_1 l1_0 l1_1 y425 y430) = some (r1, r2, r3) := by first | (rw [hy430]; with_reducible exact H) | (have H2_ := (Option.bind_some _ _).symm.trans H; rw [hy430]; with_reducible exact H2_) | (have H2_ := (Option.bind_some _ _).symm.trans H; with_reducible exact H2_) | with_reducible exact H | (rw [hy430]; exact H) | exact H
              have Ny430 := Aside0.mk hy430
              clear hy430
              have H' := Aside0.mk H
              clear H
              try go_wp2
              replace HO_423000 := a_ (Kd.R_drew HO_423000.out)
              replace HO_423001 := a_ (Kd.R_drew HO_423001.out)
              replace BK418 := a_ (blk_drew BK418.out)
              replace BK419 := a_ (blk_drew BK419.out)
              replace BK420 := a_ (blk_drew BK420.out)
              replace BK422 := a_ (blk_drew BK422.out)
              replace HB := a_ (below_drew1 HB.out)
              have p423 : 0 ≤ (x16_1 : Int) := of_decide_eq_true (by first | (with_reducible assumption) | assumption)
              have q423 : x16_1 < (l0_0.length : Int) := of_decide_eq_true (by first | (with_reducible assumption) | assumption)
              obtain ⟨ad423, e423, hx423_0⟩ := Kd.at_flt HR0_0.out x16_1 p423 q423
              have hw423_0 := hx423_0
              cases e423
              replace hx423_0 := (HB.out.cell (World.block_lt_of_cell? w _ hx423_0)).trans hx423_0
              replace p423 := eq_true p423
              replace q423 := eq_true q423
              have p424 : 0 ≤ (x16_1 : Int) := of_decide_eq_true (by first | (with_reducible assumption) | assumption)
              have q424 : x16_1 < (l1_0.length : Int) := of_decide_eq_true (by first | (with_reducible assumption) | assumption)
              obtain ⟨ad424, e424, hx424_0⟩ := Kd.at_flt HR1_0.out x16_1 p424 q424
              have hw424_0 := hx424_0
              cases e424
              replace hx424_0 := (HB.out.cell (World.block_lt_of_cell? w _ hx424_0)).trans hx424_0
              replace p424 := eq_true p424
              replace q424 := eq_true q424
              refine start_ (n := 17) (S := fun w' => w'.cell? ⟨gb422, 0, none⟩ = some (u423000) ∧ w'.cell? ⟨gb422, 1, none⟩ = some (u423001) ∧ w'.cell? ⟨gb418, 0, none⟩ = some (.slice (some ad423) l0_0.length c0_0) ∧ w'.cell? ⟨gb418, 1, none⟩ = some (.slice A0_1 l0_1.length c0_1) ∧ w'.cell? ⟨gb419, 0, none⟩ = some (.slice (some ad424) l1_0.length c1_0) ∧ w'.cell? ⟨gb419, 1, none⟩ = some (.slice A1_1 l1_1.length c1_1) ∧ w'.cell? (ad423.add (x16_1).toNat) = some (.float .f64 (rdOf (0 : Nat) l0_0 x16_1)) ∧ w'.cell? (ad424.add (x16_1).toNat) = some (.float .f64 (rdOf (0 : Nat) l1_0 x16_1))) (ds := [16]) #[false, false, false, false, false, false, false, false, false, false, false, false, false, false, false, false, false] (by kernel_rfl) rfl rfl ⟨(blk_cell BK422.out 0).trans rfl, (blk_cell BK422.out 1).trans rfl, (blk_cell BK418.out 0).trans rfl, (blk_cell BK418.out 1).trans rfl, (blk_cell BK419.out 0).trans rfl, (blk_cell BK419.out 1).trans rfl, ((HB.out.cell (World.block_lt_of_cell? w _ hw423_0)).trans hw423_0), ((HB.out.cell (World.block_lt_of_cell? w _ hw424_0)).trans hw424_0)⟩ (fun hHeld => ?_); refine with_tabW impl_BoxMeet.tab7 impl_BoxMeet.bits7 (fun HT_ HW_ => ?_)
              generalize wr.drew = w27 at HO_423000 HO_423001 BK418 BK419 BK420 BK422 HB hx423_0 hx424_0 hHeld ⊢
              refine pure_ (i := 0) (N := some 19) (v := ?_) (a' := ?_) #[true, false, false, false, false, false, false, false, false, false, false, false, false, false, false, false, false] rfl rfl (any_of HT_.out (by kernel_rfl)) (fun _ _ _ h => h) (Or.inl ⟨by rfl, ?_⟩) ?_ ?_
              rotate_left
              ·intro w'
               go_simp
               with_reducible rfl
              rotate_left
              ·simp only [Act.put, sB, sC, sD, i64_w, i32_w]
               rfl
              refine pure_ (i := 2) (N := some 21) (v := ?_) (a' := ?_) #[true, false, true, false, false, false, false, false, false, false, false, false, false, false, false, false, false] rfl rfl (any_of HT_.out (by kernel_rfl)) (fun _ _ _ h => h) (Or.inl ⟨by rfl, ?_⟩) ?_ ?_
              rotate_left
              ·intro w'
               go_simp
               with_reducible rfl
              rotate_left
              ·simp only [Act.put, sB, sC, sD, i64_w, i32_w]
               rfl
              refine pure_ (i := 4) (N := some 23) (v := ?_) (a' := ?_) #[true, false, true, false, true, false, false, false, false, false, false, false, false, false, false, false, false] rfl rfl (any_of HT_.out (by kernel_rfl)) (fun _ _ _ h => h) (Or.inl ⟨by rfl, ?_⟩) ?_ ?_
              rotate_left
              ·intro w'
               go_simp
               with_reducible rfl
              rotate_left
              ·simp only [Act.put, sB, sC, sD, i64_w, i32_w]
               rfl
              refine pure_ (i := 7) (N := some 26) (v := ?_) (a' := ?_) #[true, false, true, false, true, false, false, true, false, false, false, false, false, false, false, false, false] rfl rfl (any_of HT_.out (by kernel_rfl)) (fun _ _ _ h => h) (Or.inl ⟨by rfl, ?_⟩) ?_ ?_
              rotate_left
              ·intro w'
               go_simp
               with_reducible rfl
              rotate_left
              ·simp only [Act.put, sB, sC, sD, i64_w, i32_w]
               rfl
              refine pure_ (i := 9) (N := some 28) (v := ?_) (a' := ?_) #[true, false, true, false, true, false, false, true, false, true, false, false, false, false, false, false, false] rfl rfl (any_of HT_.out (by kernel_rfl)) (fun _ _ _ h => h) (Or.inl ⟨by rfl, ?_⟩) ?_ ?_
              rotate_left
              ·intro w'
               go_simp
               with_reducible rfl
              rotate_left
              ·simp only [Act.put, sB, sC, sD, i64_w, i32_w]
               rfl
              refine take_ (i := 1) (N := some 20) (v := ?_) (a' := ?_) #[true, true, true, false, true, false, false, true, false, true, false, false, false, false, false, false, false] rfl rfl (take_ofW HT_.out HW_.out (by kernel_rfl)) (fun _ _ _ h => h) (Or.inl ⟨by rfl, ?_⟩) hHeld ?_ ?_
              rotate_left
              ·rintro w' ⟨s0, s1, s2, s3, s4, s5, s6, s7⟩
               go_simp
               with_reducible rfl
              rotate_left
              ·simp only [Act.put, sB, sC, sD, i64_w, i32_w]
               rfl
              refine take_ (i := 3) (N := some 22) (v := ?_) (a' := ?_) #[true, true, true, true, true, false, false, true, false, true, false, false, false, false, false, false, false] rfl rfl (take_ofW HT_.out HW_.out (by kernel_rfl)) (fun _ _ _ h => h) (Or.inl ⟨by rfl, ?_⟩) hHeld ?_ ?_
              rotate_left
              ·rintro w' ⟨s0, s1, s2, s3, s4, s5, s6, s7⟩
               go_simp
               with_reducible rfl
              rotate_left
              ·simp only [Act.put, sB, sC, sD, i64_w, i32_w]
               rfl
              refine pure_ (i := 5) (N := some 24) (v := ?_) (a' := ?_) #[true, true, true, true, true, true, false, true, false, true, false, false, false, false, false, false, false] rfl rfl (any_of HT_.out (by kernel_rfl)) (fun _ _ _ h => h) (Or.inl ⟨by rfl, ?_⟩) ?_ ?_
              rotate_left
              ·intro w'
               go_simp
               with_reducible rfl
              rotate_left
              ·simp only [Act.put, sB, sC, sD, i64_w, i32_w]
               rfl
              refine take_ (i := 6) (N := some 25) (v := ?_) (a' := ?_) #[true, true, true, true, true, true, true, true, false, true, false, false, false, false, false, false, false] rfl rfl (take_ofW HT_.out HW_.out (by kernel_rfl)) (fun _ _ _ h => h) (Or.inl ⟨by rfl, ?_⟩) hHeld ?_ ?_
              rotate_left
              ·rintro w' ⟨s0, s1, s2, s3, s4, s5, s6, s7⟩
               go_simp
               with_reducible rfl
              rotate_left
              ·simp only [Act.put, sB, sC, sD, i64_w, i32_w]
               rfl
              refine take_ (i := 8) (N := some 27) (v := ?_) (a' := ?_) #[true, true, true, true, true, true, true, true, true, true, false, false, false, false, false, false, false] rfl rfl (take_ofW HT_.out HW_.out (by kernel_rfl)) (fun _ _ _ h => h) (Or.inl ⟨by rfl, ?_⟩) hHeld ?_ ?_
              rotate_left
              ·rintro w' ⟨s0, s1, s2, s3, s4, s5, s6, s7⟩
               go_simp
               with_reducible rfl
              rotate_left
              ·simp only [Act.put, sB, sC, sD, i64_w, i32_w]
               rfl
              refine pure_ (i := 10) (N := some 29) (v := ?_) (a' := ?_) #[true, true, true, true, true, true, true, true, true, true, true, false, false, false, false, false, false] rfl rfl (any_of HT_.out (by kernel_rfl)) (fun _ _ _ h => h) (Or.inl ⟨by rfl, ?_⟩) ?_ ?_
              rotate_left
              ·intro w'
               go_simp
               with_reducible rfl
              rotate_left
              ·simp only [Act.put, sB, sC, sD, i64_w, i32_w]
               rfl
              refine take_ (i := 11) (N := some 30) (v := ?_) (a' := ?_) #[true, true, true, true, true, true, true, true, true, true, true, true, false, false, false, false, false] rfl rfl (take_ofW HT_.out HW_.out (by kernel_rfl)) (fun _ _ _ h => h) (Or.inl ⟨by rfl, ?_⟩) hHeld ?_ ?_
              rotate_left
              ·rintro w' ⟨s0, s1, s2, s3, s4, s5, s6, s7⟩
               go_simp
               with_reducible rfl
              rotate_left
              ·simp only [Act.put, sB, sC, sD, i64_w, i32_w]
               rfl
              refine pure_ (i := 12) (N := some 31) (v := ?_) (a' := ?_) #[true, true, true, true, true, true, true, true, true, true, true, true, true, false, false, false, false] rfl rfl (any_of HT_.out (by kernel_rfl)) (fun _ _ _ h => h) (Or.inl ⟨by rfl, ?_⟩) ?_ ?_
              rotate_left
              ·intro w'
               go_simp
               with_reducible rfl
              rotate_left
              ·simp only [Act.put, sB, sC, sD, i64_w, i32_w]
               rfl
              refine one_ (i := 13) (N := some 32) #[true, true, true, true, true, true, true, true, true, true, true, true, true, true, false, false, false] rfl rfl (one_of HT_.out (by kernel_rfl)) (by decide) (fun K hK => ?_)
              refine value_ (w1 := ?_) (v := ?_) (by rfl) rfl ?_ ?_
              rotate_left 2
              ·go_simp
               constructor
               ·rfl
               ·rfl
              refine hK.out _ _ ⟨(blk_cell (blk_alloc BK422.out _) 0).trans rfl, (blk_cell (blk_alloc BK422.out _) 1).trans rfl, (blk_cell (blk_alloc BK418.out _) 0).trans rfl, (blk_cell (blk_alloc BK418.out _) 1).trans rfl, (blk_cell (blk_alloc BK419.out _) 0).trans rfl, (blk_cell (blk_alloc BK419.out _) 1).trans rfl, (World.cell?_alloc_lt _ _ _ (World.block_lt_of_cell? _ _ (((HB.out.cell (World.block_lt_of_cell? w _ hw423_0)).trans hw423_0)))).trans (((HB.out.cell (World.block_lt_of_cell? w _ hw423_0)).trans hw423_0)), (World.cell?_alloc_lt _ _ _ (World.block_lt_of_cell? _ _ (((HB.out.cell (World.block_lt_of_cell? w _ hw424_0)).trans hw424_0)))).trans (((HB.out.cell (World.block_lt_of_cell? w _ hw424_0)).trans hw424_0))⟩ (fun hHeld => ?_)
              clear hK K
              refine norm_ (a' := ?_) ?_ ?_
              rotate_left
              ·show Act.put _ (some 32) _ = _
               simp only [Act.put, sB, sC, sD, i64_w, i32_w]
               rfl
              refine one_ (i := 14) (N := some 33) #[true, true, true, true, true, true, true, true, true, true, true, true, true, true, true, false, false] rfl rfl (one_of HT_.out (by kernel_rfl)) (by decide) (fun K hK => ?_)
              refine Kd.R_append_step Kd.flt (w0 := w) w.heap.size (by rfl) (.tmp 20) (.tmp 32) 23 33 (.float .f64 0) 8 rfl Try.underlying23 info33 rfl (by decide) (by omega) u423000 x423000_1 (fmax (rdOf (0 : Nat) l0_0 x16_1) (rdOf (0 : Nat) l1_0 x16_1)) [.float .f64 (fmax (rdOf (0 : Nat) l0_0 x16_1) (rdOf (0 : Nat) l1_0 x16_1))] (fun k_ => some k_ ≠ (u423001 : Value).ownBlock) (fun _ => False) rfl rfl ?aP (fun _ hk => hk.elim) ?aF ?aO ?aB ?aS ?aL ?_
              (case aP => exact rfl)
              (case aB => exact (by repeat (with_reducible first | exact HB.out | refine bz ?_ (by assumption) | apply bA | apply bN | apply bD)))
              (case aF => exact (fun k_ hk => Kd.fresh' (Kd.R_lt (rk HO_423001.out)) k_ hk))
              (case aO => exact (rk HO_423000.out))
              (case aS => exact (bs HB.out))
              (case aL => have := LMc22.out; omega)
              intro v426 w28 ho hb hg hat
              rw [← Ny425.out] at ho
              replace HO_423001 := a_ (Kd.R_after (ok := (fun _ => True)) (rk (Kd.R_mono HO_423001.out (fun _ hk => ⟨trivial, hk⟩))) hg hat)
              replace BK418 := a_ (blk_grown (pk BK418.out) hg (Kd.R_ne HO_423000.out BK418.out (by decide)))
              replace BK419 := a_ (blk_grown (pk BK419.out) hg (Kd.R_ne HO_423000.out BK419.out (by decide)))
              replace BK420 := a_ (blk_grown (pk BK420.out) hg (Kd.R_ne HO_423000.out BK420.out (by decide)))
              replace BK422 := a_ (blk_grown (pk BK422.out) hg (Kd.R_ne HO_423000.out BK422.out (by decide)))
              replace HB := a_ (hb)
              have HO427 := a_ (ho)
              clear HO_423000 ho hb hg hat
              obtain ⟨Ao29, co29, eo29⟩ := Kd.R_slice HO427.out
              (first | subst eo29 | (injection eo29 with f1_ f2_ f3_; obtain rfl := f1_.symm; obtain rfl := f3_.symm))
              refine hK.out _ _ ⟨(blk_cell BK422.out 0).trans rfl, (blk_cell BK422.out 1).trans rfl, (blk_cell BK418.out 0).trans rfl, (blk_cell BK418.out 1).trans rfl, (blk_cell BK419.out 0).trans rfl, (blk_cell BK419.out 1).trans rfl, ((HB.out.cell (World.block_lt_of_cell? w _ hw423_0)).trans hw423_0), ((HB.out.cell (World.block_lt_of_cell? w _ hw424_0)).trans hw424_0)⟩ (fun hHeld => ?_)
              clear hK K
              refine norm_ (a' := ?_) ?_ ?_
              rotate_left
              ·show Act.put _ (some 33) _ = _
               simp only [Act.put, sB, sC, sD, i64_w, i32_w]
               rfl
              refine pure_ (i := 15) (N := some 34) (v := ?_) (a' := ?_) #[true, true, true, true, true, true, true, true, true, true, true, true, true, true, true, true, false] rfl rfl (any_of HT_.out (by kernel_rfl)) (fun _ _ _ h => h) (Or.inl ⟨by rfl, ?_⟩) ?_ ?_
              rotate_left
              ·intro w'
               go_simp
               with_reducible rfl
              rotate_left
              ·simp only [Act.put, sB, sC, sD, i64_w, i32_w]
               rfl
              refine last_ (i := 16) (N := none) #[true, true, true, true, true, true, true, true, true, true, true, true, true, true, true, true, true] rfl rfl (one_of HT_.out (by kernel_rfl)) (by decide) (fun K hK => ?_)
              have hs30 : w28.cell? ⟨gb422, 0, none⟩ = some (u423000) := (blk_cell BK422.out 0).trans rfl
              have hfs30 := blk_frozen BK422.out 0
              have hns30_0 := NB418_422.out
              have hns30_1 := NB419_422.out
              have hns30_2 := NB420_422.out
              have hms30_0 := NB422_418.out
              have hms30_1 := NB422_419.out
              have hms30_2 := NB422_420.out
              refine skip_ (w1 := ?_) ?_ ?_ ?_ ?_
              rotate_left
              ·rfl
              ·rfl
              ·go_simp
               rfl
              refine hK.out _ _ ?_
              clear hK K
              refine done_ (done_of HT_.out (by kernel_rfl)) ?_
              try go_wp2
              have n0_ : Aside0 (Kd.R Kd.flt 33 (w28.setCell ⟨gb422, 0, none⟩ (.slice Ao29 y425.length co29)) w.heap.size (fun k_ => N_ (.slice Ao29 y425.length co29) k_) u423001 x423001_1) := ⟨rk (Kd.R_mono (fr1 HO_423001.out BK422.out (by decide) 0 (.slice Ao29 y425.length co29)) (fun _ hk => hk.1.2))⟩
              have n1_ : Aside0 (Kd.R Kd.flt 33 (w28.setCell ⟨gb422, 0, none⟩ (.slice Ao29 y425.length co29)) w.heap.size (fun k_ => some k_ ≠ (u423001 : Value).ownBlock) (.slice Ao29 y425.length co29) y425) := ⟨rk (Kd.R_mono (fr1 HO427.out BK422.out (by decide) 0 (.slice Ao29 y425.length co29)) (fun _ hk => hk.1))⟩
              have n2_ : Aside0 ((w28.setCell ⟨gb422, 0, none⟩ (.slice Ao29 y425.length co29)).heap[gb418]? = some (.cells #[.slice (some ad423) l0_0.length c0_0, .slice A0_1 l0_1.length c0_1] 25 (0, 0))) := ⟨by refine pk ?_; refine blk_far ?_ NB418_422.out _; refine pk ?_; exact BK418.out⟩
              have n3_ : Aside0 ((w28.setCell ⟨gb422, 0, none⟩ (.slice Ao29 y425.length co29)).heap[gb419]? = some (.cells #[.slice (some ad424) l1_0.length c1_0, .slice A1_1 l1_1.length c1_1] 25 (0, 0))) := ⟨by refine pk ?_; refine blk_far ?_ NB419_422.out _; refine pk ?_; exact BK419.out⟩
              have n4_ : Aside0 ((w28.setCell ⟨gb422, 0, none⟩ (.slice Ao29 y425.length co29)).heap[gb420]? = some (.cells #[.slice none 0 0, .slice none 0 0] 25 (0, 0))) := ⟨by refine pk ?_; refine blk_far ?_ NB420_422.out _; refine pk ?_; exact BK420.out⟩
              have n5_ : Aside0 ((w28.setCell ⟨gb422, 0, none⟩ (.slice Ao29 y425.length co29)).heap[gb422]? = some (.cells #[.slice Ao29 y425.length co29, u423001] 25 (0, 0))) := ⟨by refine pk ?_; refine blk_put (cs := #[u423000, u423001]) ?_ 0 _ rfl; refine pk ?_; exact BK422.out⟩
              have n6_ : Aside0 (Below w.heap.size w (w28.setCell ⟨gb422, 0, none⟩ (.slice Ao29 y425.length co29))) := ⟨by repeat (with_reducible first | exact HB.out | refine bz ?_ (by assumption) | apply bA | apply bN | apply bD)⟩
              (try clear HO_423001)
              (try clear HO427)
              (try clear BK418)
              (try clear BK419)
              (try clear BK420)
              (try clear BK422)
              (try clear HB)
              generalize (w28.setCell ⟨gb422, 0, none⟩ (.slice Ao29 y425.length co29)) = w31 at n0_ n1_ n2_ n3_ n4_ n5_ n6_ ⊢
              have HO_423001 := n0_
              have HO427 := n1_
              have BK418 := n2_
              have BK419 := n3_
              have BK420 := n4_
              have BK422 := n5_
              have HB := n6_
              clear n0_ n1_ n2_ n3_ n4_ n5_ n6_
              replace HO_423001 := a_ (Kd.R_drew HO_423001.out)
              replace HO427 := a_ (Kd.R_drew HO427.out)
              replace BK418 := a_ (blk_drew BK418.out)
              replace BK419 := a_ (blk_drew BK419.out)
              replace BK420 := a_ (blk_drew BK420.out)
              replace BK422 := a_ (blk_drew BK422.out)
              replace HB := a_ (below_drew1 HB.out)
              have p428 : 0 ≤ (x16_1 : Int) := of_decide_eq_true (by first | (with_reducible assumption) | assumption)
              have q428 : x16_1 < (l0_1.length : Int) := of_decide_eq_true (by first | (with_reducible assumption) | assumption)
              obtain ⟨ad428, e428, hx428_0⟩ := Kd.at_flt HR0_1.out x16_1 p428 q428
              have hw428_0 := hx428_0
              cases e428
              replace hx428_0 := (HB.out.cell (World.block_lt_of_cell? w _ hx428_0)).trans hx428_0
              replace p428 := eq_true p428
              replace q428 := eq_true q428
              have p429 : 0 ≤ (x16_1 : Int) := of_decide_eq_true (by first | (with_reducible assumption) | assumption)
              have q429 : x16_1 < (l1_1.length : Int) := of_decide_eq_true (by first | (with_reducible assumption) | assumption)
              obtain ⟨ad429, e429, hx429_0⟩ := Kd.at_flt HR1_1.out x16_1 p429 q429
              have hw429_0 := hx429_0
              cases e429
              replace hx429_0 := (HB.out.cell (World.block_lt_of_cell? w _ hx429_0)).trans hx429_0
              replace p429 := eq_true p429
              replace q429 := eq_true q429
              refine start_ (n := 17) (S := fun w' => w'.cell? ⟨gb422, 0, none⟩ = some (.slice Ao29 y425.length co29) ∧ w'.cell? ⟨gb422, 1, none⟩ = some (u423001) ∧ w'.cell? ⟨gb418, 0, none⟩ = some (.slice (some ad423) l0_0.length c0_0) ∧ w'.cell? ⟨gb418, 1, none⟩ = some (.slice (some ad428) l0_1.length c0_1) ∧ w'.cell? ⟨gb419, 0, none⟩ = some (.slice (some ad424) l1_0.length c1_0) ∧ w'.cell? ⟨gb419, 1, none⟩ = some (.slice (some ad429) l1_1.length c1_1) ∧ w'.cell? (ad428.add (x16_1).toNat) = some (.float .f64 (rdOf (0 : Nat) l0_1 x16_1)) ∧ w'.cell? (ad429.add (x16_1).toNat) = some (.float .f64 (rdOf (0 : Nat) l1_1 x16_1))) (ds := [16]) #[false, false, false, false, false, false, false, false, false, false, false, false, false, false, false, false, false] (by kernel_rfl) rfl rfl ⟨(blk_cell BK422.out 0).trans rfl, (blk_cell BK422.out 1).trans rfl, (blk_cell BK418.out 0).trans rfl, (blk_cell BK418.out 1).trans rfl, (blk_cell BK419.out 0).trans rfl, (blk_cell BK419.out 1).trans rfl, ((HB.out.cell (World.block_lt_of_cell? w _ hw428_0)).trans hw428_0), ((HB.out.cell (World.block_lt_of_cell? w _ hw429_0)).trans hw429_0)⟩ (fun hHeld => ?_); refine with_tabW impl_BoxMeet.tab8 impl_BoxMeet.bits8 (fun HT_ HW_ => ?_)
              generalize w31.drew = w32 at HO_423001 HO427 BK418 BK419 BK420 BK422 HB hx428_0 hx429_0 hHeld ⊢
              refine pure_ (i := 0) (N := some 35) (v := ?_) (a' := ?_) #[true, false, false, false, false, false, false, false, false, false, false, false, false, false, false, false, false] rfl rfl (any_of HT_.out (by kernel_rfl)) (fun _ _ _ h => h) (Or.inl ⟨by rfl, ?_⟩) ?_ ?_
              rotate_left
              ·intro w'
               go_simp
               with_reducible rfl
              rotate_left
              ·simp only [Act.put, sB, sC, sD, i64_w, i32_w]
               rfl
              refine pure_ (i := 2) (N := some 37) (v := ?_) (a' := ?_) #[true, false, true, false, false, false, false, false, false, false, false, false, false, false, false, false, false] rfl rfl (any_of HT_.out (by kernel_rfl)) (fun _ _ _ h => h) (Or.inl ⟨by rfl, ?_⟩) ?_ ?_
              rotate_left
              ·intro w'
               go_simp
               with_reducible rfl
              rotate_left
              ·simp only [Act.put, sB, sC, sD, i64_w, i32_w]
               rfl
              refine pure_ (i := 4) (N := some 39) (v := ?_) (a' := ?_) #[true, false, true, false, true, false, false, false, false, false, false, false, false, false, false, false, false] rfl rfl (any_of HT_.out (by kernel_rfl)) (fun _ _ _ h => h) (Or.inl ⟨by rfl, ?_⟩) ?_ ?_
              rotate_left
              ·intro w'
               go_simp
               with_reducible rfl
              rotate_left
              ·simp only [Act.put, sB, sC, sD, i64_w, i32_w]
               rfl
              refine pure_ (i := 7) (N := some 42) (v := ?_) (a' := ?_) #[true, false, true, false, true, false, false, true, false, false, false, false, false, false, false, false, false] rfl rfl (any_of HT_.out (by kernel_rfl)) (fun _ _ _ h => h) (Or.inl ⟨by rfl, ?_⟩) ?_ ?_
              rotate_left
              ·intro w'
               go_simp
               with_reducible rfl
              rotate_left
              ·simp only [Act.put, sB, sC, sD, i64_w, i32_w]
               rfl
              refine pure_ (i := 9) (N := some 44) (v := ?_) (a' := ?_) #[true, false, true, false, true, false, false, true, false, true, false, false, false, false, false, false, false] rfl rfl (any_of HT_.out (by kernel_rfl)) (fun _ _ _ h => h) (Or.inl ⟨by rfl, ?_⟩) ?_ ?_
              rotate_left
              ·intro w'
               go_simp
               with_reducible rfl
              rotate_left
              ·simp only [Act.put, sB, sC, sD, i64_w, i32_w]
               rfl
              refine take_ (i := 1) (N := some 36) (v := ?_) (a' := ?_) #[true, true, true, false, true, false, false, true, false, true, false, false, false, false, false, false, false] rfl rfl (take_ofW HT_.out HW_.out (by kernel_rfl)) (fun _ _ _ h => h) (Or.inl ⟨by rfl, ?_⟩) hHeld ?_ ?_
              rotate_left
              ·rintro w' ⟨s0, s1, s2, s3, s4, s5, s6, s7⟩
               go_simp
               with_reducible rfl
              rotate_left
              ·simp only [Act.put, sB, sC, sD, i64_w, i32_w]
               rfl
              refine take_ (i := 3) (N := some 38) (v := ?_) (a' := ?_) #[true, true, true, true, true, false, false, true, false, true, false, false, false, false, false, false, false] rfl rfl (take_ofW HT_.out HW_.out (by kernel_rfl)) (fun _ _ _ h => h) (Or.inl ⟨by rfl, ?_⟩) hHeld ?_ ?_
              rotate_left
              ·rintro w' ⟨s0, s1, s2, s3, s4, s5, s6, s7⟩
               go_simp
               with_reducible rfl
              rotate_left
              ·simp only [Act.put, sB, sC, sD, i64_w, i32_w]
               rfl
              refine pure_ (i := 5) (N := some 40) (v := ?_) (a' := ?_) #[true, true, true, true, true, true, false, true, false, true, false, false, false, false, false, false, false] rfl rfl (any_of HT_.out (by kernel_rfl)) (fun _ _ _ h => h) (Or.inl ⟨by rfl, ?_⟩) ?_ ?_
              rotate_left
              ·intro w'
               go_simp
               with_reducible rfl
              rotate_left
              ·simp only [Act.put, sB, sC, sD, i64_w, i32_w]
               rfl
              refine take_ (i := 6) (N := some 41) (v := ?_) (a' := ?_) #[true, true, true, true, true, true, true, true, false, true, false, false, false, false, false, false, false] rfl rfl (take_ofW HT_.out HW_.out (by kernel_rfl)) (fun _ _ _ h => h) (Or.inl ⟨by rfl, ?_⟩) hHeld ?_ ?_
              rotate_left
              ·rintro w' ⟨s0, s1, s2, s3, s4, s5, s6, s7⟩
               go_simp
               with_reducible rfl
              rotate_left
              ·simp only [Act.put, sB, sC, sD, i64_w, i32_w]
               rfl
              refine take_ (i := 8) (N := some 43) (v := ?_) (a' := ?_) #[true, true, true, true, true, true, true, true, true, true, false, false, false, false, false, false, false] rfl rfl (take_ofW HT_.out HW_.out (by kernel_rfl)) (fun _ _ _ h => h) (Or.inl ⟨by rfl, ?_⟩) hHeld ?_ ?_
              rotate_left
              ·rintro w' ⟨s0, s1, s2, s3, s4, s5, s6, s7⟩
               go_simp
               with_reducible rfl
              rotate_left
              ·simp only [Act.put, sB, sC, sD, i64_w, i32_w]
               rfl
              refine pure_ (i := 10) (N := some 45) (v := ?_) (a' := ?_) #[true, true, true, true, true, true, true, true, true, true, true, false, false, false, false, false, false] rfl rfl (any_of HT_.out (by kernel_rfl)) (fun _ _ _ h => h) (Or.inl ⟨by rfl, ?_⟩) ?_ ?_
              rotate_left
              ·intro w'
               go_simp
               with_reducible rfl
              rotate_left
              ·simp only [Act.put, sB, sC, sD, i64_w, i32_w]
               rfl
              refine take_ (i := 11) (N := some 46) (v := ?_) (a' := ?_) #[true, true, true, true, true, true, true, true, true, true, true, true, false, false, false, false, false] rfl rfl (take_ofW HT_.out HW_.out (by kernel_rfl)) (fun _ _ _ h => h) (Or.inl ⟨by rfl, ?_⟩) hHeld ?_ ?_
              rotate_left
              ·rintro w' ⟨s0, s1, s2, s3, s4, s5, s6, s7⟩
               go_simp
               with_reducible rfl
              rotate_left
              ·simp only [Act.put, sB, sC, sD, i64_w, i32_w]
               rfl
              refine pure_ (i := 12) (N := some 47) (v := ?_) (a' := ?_) #[true, true, true, true, true, true, true, true, true, true, true, true, true, false, false, false, false] rfl rfl (any_of HT_.out (by kernel_rfl)) (fun _ _ _ h => h) (Or.inl ⟨by rfl, ?_⟩) ?_ ?_
              rotate_left
              ·intro w'
               go_simp
               with_reducible rfl
              rotate_left
              ·simp only [Act.put, sB, sC, sD, i64_w, i32_w]
               rfl
              refine one_ (i := 13) (N := some 48) #[true, true, true, true, true, true, true, true, true, true, true, true, true, true, false, false, false] rfl rfl (one_of HT_.out (by kernel_rfl)) (by decide) (fun K hK => ?_)
              refine value_ (w1 := ?_) (v := ?_) (by rfl) rfl ?_ ?_
              rotate_left 2
              ·go_simp
               constructor
               ·rfl
               ·rfl
              refine hK.out _ _ ⟨(blk_cell (blk_alloc BK422.out _) 0).trans rfl, (blk_cell (blk_alloc BK422.out _) 1).trans rfl, (blk_cell (blk_alloc BK418.out _) 0).trans rfl, (blk_cell (blk_alloc BK418.out _) 1).trans rfl, (blk_cell (blk_alloc BK419.out _) 0).trans rfl, (blk_cell (blk_alloc BK419.out _) 1).trans rfl, (World.cell?_alloc_lt _ _ _ (World.block_lt_of_cell? _ _ (((HB.out.cell (World.block_lt_of_cell? w _ hw428_0)).trans hw428_0)))).trans (((HB.out.cell (World.block_lt_of_cell? w _ hw428_0)).trans hw428_0)), (World.cell?_alloc_lt _ _ _ (World.block_lt_of_cell? _ _ (((HB.out.cell (World.block_lt_of_cell? w _ hw429_0)).trans hw429_0)))).trans (((HB.out.cell (World.block_lt_of_cell? w _ hw429_0)).trans hw429_0))⟩ (fun hHeld => ?_)
              clear hK K
              refine norm_ (a' := ?_) ?_ ?_
              rotate_left
              ·show Act.put _ (some 48) _ = _
               simp only [Act.put, sB, sC, sD, i64_w, i32_w]
               rfl
              refine one_ (i := 14) (N := some 49) #[true, true, true, true, true, true, true, true, true, true, true, true, true, true, true, false, false] rfl rfl (one_of HT_.out (by kernel_rfl)) (by decide) (fun K hK => ?_)
              refine Kd.R_append_step Kd.flt (w0 := w) w.heap.size (by rfl) (.tmp 36) (.tmp 48) 23 33 (.float .f64 0) 8 rfl Try.underlying23 info33 rfl (by decide) (by omega) u423001 x423001_1 (fmin (rdOf (0 : Nat) l0_1 x16_1) (rdOf (0 : Nat) l1_1 x16_1)) [.float .f64 (fmin (rdOf (0 : Nat) l0_1 x16_1) (rdOf (0 : Nat) l1_1 x16_1))] (fun k_ => N_ (.slice Ao29 y425.length co29) k_) (fun _ => False) rfl rfl ?aP (fun _ hk => hk.elim) ?aF ?aO ?aB ?aS ?aL ?_
              (case aP => exact rfl)
              (case aB => exact (by repeat (with_reducible first | exact HB.out | refine bz ?_ (by assumption) | apply bA | apply bN | apply bD)))
              (case aF => exact (fun k_ hk => Kd.fresh' (Kd.R_lt (rk HO427.out)) k_ hk))
              (case aO => exact (rk HO_423001.out))
              (case aS => exact (bs HB.out))
              (case aL => have := LMc26.out; omega)
              intro v431 w33 ho hb hg hat
              rw [← Ny430.out] at ho
              replace BK418 := a_ (blk_grown (pk BK418.out) hg (Kd.R_ne HO_423001.out BK418.out (by decide)))
              replace BK419 := a_ (blk_grown (pk BK419.out) hg (Kd.R_ne HO_423001.out BK419.out (by decide)))
              replace BK420 := a_ (blk_grown (pk BK420.out) hg (Kd.R_ne HO_423001.out BK420.out (by decide)))
              replace BK422 := a_ (blk_grown (pk BK422.out) hg (Kd.R_ne HO_423001.out BK422.out (by decide)))
              replace HO427 := a_ (Kd.R_after (ok := (fun _ => True)) (rk (Kd.R_mono HO427.out (fun _ hk => ⟨trivial, hk⟩))) hg hat)
              replace HB := a_ (hb)
              have HO432 := a_ (ho)
              clear HO_423001 ho hb hg hat
              obtain ⟨Ao34, co34, eo34⟩ := Kd.R_slice HO432.out
              (first | subst eo34 | (injection eo34 with f1_ f2_ f3_; obtain rfl := f1_.symm; obtain rfl := f3_.symm))
              refine hK.out _ _ ⟨(blk_cell BK422.out 0).trans rfl, (blk_cell BK422.out 1).trans rfl, (blk_cell BK418.out 0).trans rfl, (blk_cell BK418.out 1).trans rfl, (blk_cell BK419.out 0).trans rfl, (blk_cell BK419.out 1).trans rfl, ((HB.out.cell (World.block_lt_of_cell? w _ hw428_0)).trans hw428_0), ((HB.out.cell (World.block_lt_of_cell? w _ hw429_0)).trans hw429_0)⟩ (fun hHeld => ?_)
              clear hK K
              refine norm_ (a' := ?_) ?_ ?_
              rotate_left
              ·show Act.put _ (some 49) _ = _
               simp only [Act.put, sB, sC, sD, i64_w, i32_w]
               rfl
              refine pure_ (i := 15) (N := some 50) (v := ?_) (a' := ?_) #[true, true, true, true, true, true, true, true, true, true, true, true, true, true, true, true, false] rfl rfl (any_of HT_.out (by kernel_rfl)) (fun _ _ _ h => h) (Or.inl ⟨by rfl, ?_⟩) ?_ ?_
              rotate_left
              ·intro w'
               go_simp
               with_reducible rfl
              rotate_left
              ·simp only [Act.put, sB, sC, sD, i64_w, i32_w]
               rfl
              refine last_ (i := 16) (N := none) #[true, true, true, true, true, true, true, true, true, true, true, true, true, true, true, true, true] rfl rfl (one_of HT_.out (by kernel_rfl)) (by decide) (fun K hK => ?_)
              have hs35 : w33.cell? ⟨gb422, 1, none⟩ = some (u423001) := (blk_cell BK422.out 1).trans rfl
              have hfs35 := blk_frozen BK422.out 1
              have hns35_0 := NB418_422.out
              have hns35_1 := NB419_422.out
              have hns35_2 := NB420_422.out
              have hms35_0 := NB422_418.out
              have hms35_1 := NB422_419.out
              have hms35_2 := NB422_420.out
              refine skip_ (w1 := ?_) ?_ ?_ ?_ ?_
              rotate_left
              ·rfl
              ·rfl
              ·go_simp
               rfl
              refine hK.out _ _ ?_
              clear hK K
              refine done_ (done_of HT_.out (by kernel_rfl)) ?_
              try go_wp2
              go_roundg k1
              case measure => have := HK1.out; omega
              case rel => exact ⟨(wrap64 (x16_1 + 1)), (y425), (y430), (.slice Ao29 y425.length co29), (.slice Ao34 y430.length co34), (by first | rfl | (simp; done) | (simp [*]; done)), H', ⟨by have := HK1.out; omega⟩, ⟨rk (Kd.R_mono (fr1 HO427.out BK422.out (by decide) 1 (.slice Ao34 y430.length co34)) (fun _ hk => hk.1.2))⟩, ⟨rk (Kd.R_mono (fr1 HO432.out BK422.out (by decide) 1 (.slice Ao34 y430.length co34)) (fun _ hk => hk.1))⟩, ⟨by refine pk ?_; refine blk_far ?_ NB418_422.out _; refine pk ?_; exact BK418.out⟩, ⟨by refine pk ?_; refine blk_far ?_ NB419_422.out _; refine pk ?_; exact BK419.out⟩, ⟨by refine pk ?_; refine blk_far ?_ NB420_422.out _; refine pk ?_; exact BK420.out⟩, ⟨by refine pk ?_; refine blk_put (cs := #[.slice Ao29 y425.length co29, u423001]) ?_ 1 _ rfl; refine pk ?_; exact BK422.out⟩, ⟨by repeat (with_reducible first | exact HB.out | refine bz ?_ (by assumption) | apply bA | apply bN | apply bD)⟩⟩
             ·rw [if_neg c26] at H
              exact absurd H (by simp)
            ·rw [if_neg c25] at H
             exact absurd H (by simp)
           ·rw [if_neg c24] at H
            exact absurd H (by simp)
          ·rw [if_neg c23] at H
           exact absurd H (by simp)
         ·rw [if_neg c22] at H
          exact absurd H (by simp)
        ·rw [if_neg c21] at H
         exact absurd H (by simp)
       ·rw [if_neg c20] at H
        exact absurd H (by simp)
      ·rw [if_neg c19] at H
       exact absurd H (by simp)
     ·rw [if_neg c18] at H
      exact absurd H (by simp)
    ·rw [if_neg c17] at H
     have c17b0 : decide (x16_1 < (l0_0.length : Int)) = false := decide_eq_false c17
     clear c17
     replace H := Option.bind_eq_some_iff.mp H
     obtain ⟨t433, A360, H⟩ := H
     replace H : (if t433 = true then (some (x423000_1, x423001_1, true)) else (some (([] : List Nat), ([] : List Nat), false))) = some (r1, r2, r3) := H
     have A36 := Aside0.mk A360
     clear A360
     by_cases c37 : t433 = true
     ·subst c37
      have H1 : (some (x423000_1, x423001_1, true)) = some (r1, r2, r3) := by rw [if_pos rfl] at H; exact H
      clear H
      have H := H1
      clear H1
      simp only [Option.some.injEq, Prod.mk.injEq] at H
      obtain ⟨rfl, rfl, rfl⟩ := H
      have hnb38 := NB422_418.out
      have hnc38 := NB418_422.out
      have hnb39 := NB422_419.out
      have hnc39 := NB419_422.out
      have hnb40 := NB422_420.out
      have hnc40 := NB420_422.out
      have hcz41_0 : wr.cell? ⟨gb422, 0, none⟩ = some (u423000) := (blk_cell BK422.out 0).trans rfl
      have hcz41_1 : wr.cell? ⟨gb422, 1, none⟩ = some (u423001) := (blk_cell BK422.out 1).trans rfl
      have hfz41_0 := blk_frozen BK422.out 0
      have hfz41_1 := blk_frozen BK422.out 1
      obtain ⟨Ao42, co42, eo42⟩ := Kd.R_slice HO_423000.out
      subst eo42
      obtain ⟨Ao43, co43, eo43⟩ := Kd.R_slice HO_423001.out
      subst eo43
      go_wp2_with (first | ((with_reducible refine gate_callee (f := 14) rfl ?_); refine goesL_ (some 53) rfl rfl Try.func14 (by kernel_rfl) rfl #[.agg #[.slice Ao42 x423000_1.length co42, .slice Ao43 x423001_1.length co43]] rfl (by (try simp only [lA, lB, lC]); first | done | rfl | (simp only [lD, lE]; rfl)) ?_; (with_reducible refine (impl_GoodBox.calls k1 _ _ x423000_1 _ _ x423001_1 true _ ?side1 ?side2 ?side3 ?side4 A36.out).mono ?_); (case side1 => exact cu (Kd.R_reads' HO_423000.out).2.2); (case side2 => exact (Kd.R_reads' HO_423000.out).2.1); (case side3 => exact cu (Kd.R_reads' HO_423001.out).2.2); (case side4 => exact (Kd.R_reads' HO_423001.out).2.1); rintro e w44 ⟨rfl, hb⟩; refine ⟨_, rfl, ?_⟩; replace HO_423000 := a_ (Kd.R_below (rk HO_423000.out) hb); replace HO_423001 := a_ (Kd.R_below (rk HO_423001.out) hb); replace BK418 := a_ (blk_below (pk BK418.out) hb); replace BK419 := a_ (blk_below (pk BK419.out) hb); replace BK420 := a_ (blk_below (pk BK420.out) hb); replace BK422 := a_ (blk_below (pk BK422.out) hb); replace HB := a_ (below_step (by repeat (with_reducible first | exact HB.out | refine bz ?_ (by assumption) | apply bA | apply bN | apply bD)) hb); clear hb; have hcz45_0 : _ = some (Value.slice Ao42 x423000_1.length co42) := (blk_cell BK422.out 0).trans rfl; have hcz45_1 : _ = some (Value.slice Ao43 x423001_1.length co43) := (blk_cell BK422.out 1).trans rfl; have hfz45_0 := blk_frozen BK422.out 0; have hfz45_1 := blk_frozen BK422.out 1; have hnb46 := NB420_418.out; have hnc46 := NB418_420.out; have hnb47 := NB420_419.out; have hnc47 := NB419_420.out; have hcz48_0 : _ = some (Value.slice none 0 0) := (blk_cell BK420.out 0).trans rfl; have hcz48_1 : _ = some (Value.slice none 0 0) := (blk_cell BK420.out 1).trans rfl; have hfz48_0 := blk_frozen BK420.out 0; have hfz48_1 := blk_frozen BK420.out 1))
      refine bodyPost_ret (results_ct rfl _ _ gb420 25 #[.slice Ao42 x423000_1.length co42, .slice Ao43 x423001_1.length co43] (0, 0) _ rfl (by refine pk ?_; refine blk_put (cs := #[.slice Ao42 x423000_1.length co42, .slice none 0 0]) ?_ 1 _ rfl; refine pk ?_; refine blk_put (cs := #[.slice none 0 0, .slice none 0 0]) ?_ 0 _ rfl; refine pk ?_; exact BK420.out) Try.underlying25 rfl (by kernel_rfl)) rfl ?_
      exact ⟨_, _, by first | rfl | (simp [errW_none, errW_some] <;> rfl) | (simp [*, errW_none, errW_some] <;> rfl), by refine rk ?_; exact Kd.R_mono (fr2 HO_423000.out BK420.out (by decide) 0 (.slice Ao42 x423000_1.length co42) 1 (.slice Ao43 x423001_1.length co43)) (fun _ hk => hk.1), by refine rk ?_; exact Kd.R_mono (fr2 HO_423001.out BK420.out (by decide) 0 (.slice Ao42 x423000_1.length co42) 1 (.slice Ao43 x423001_1.length co43)) (fun _ hk => hk.1), by repeat (with_reducible first | exact HB.out | refine bz ?_ (by assumption) | apply bA | apply bN | apply bD)⟩
     ·replace c37 := Bool.eq_false_iff.mpr c37
      subst c37
      have H1 : (some (([] : List Nat), ([] : List Nat), false)) = some (r1, r2, r3) := by rw [if_neg (show ¬ (false = true) by decide)] at H; exact H
      clear H
      have H := H1
      clear H1
      simp only [Option.some.injEq, Prod.mk.injEq] at H
      obtain ⟨rfl, rfl, rfl⟩ := H
      have hnb49 := NB422_418.out
      have hnc49 := NB418_422.out
      have hnb50 := NB422_419.out
      have hnc50 := NB419_422.out
      have hnb51 := NB422_420.out
      have hnc51 := NB420_422.out
      have hcz52_0 : wr.cell? ⟨gb422, 0, none⟩ = some (u423000) := (blk_cell BK422.out 0).trans rfl
      have hcz52_1 : wr.cell? ⟨gb422, 1, none⟩ = some (u423001) := (blk_cell BK422.out 1).trans rfl
      have hfz52_0 := blk_frozen BK422.out 0
      have hfz52_1 := blk_frozen BK422.out 1
      obtain ⟨Ao53, co53, eo53⟩ := Kd.R_slice HO_423000.out
      subst eo53
      obtain ⟨Ao54, co54, eo54⟩ := Kd.R_slice HO_423001.out
      subst eo54
      go_wp2_with (first | ((with_reducible refine gate_callee (f := 14) rfl ?_); refine goesL_ (some 53) rfl rfl Try.func14 (by kernel_rfl) rfl #[.agg #[.slice Ao53 x423000_1.length co53, .slice Ao54 x423001_1.length co54]] rfl (by (try simp only [lA, lB, lC]); first | done | rfl | (simp only [lD, lE]; rfl)) ?_; (with_reducible refine (impl_GoodBox.calls k1 _ _ x423000_1 _ _ x423001_1 false _ ?side1 ?side2 ?side3 ?side4 A36.out).mono ?_); (case side1 => exact cu (Kd.R_reads' HO_423000.out).2.2); (case side2 => exact (Kd.R_reads' HO_423000.out).2.1); (case side3 => exact cu (Kd.R_reads' HO_423001.out).2.2); (case side4 => exact (Kd.R_reads' HO_423001.out).2.1); rintro e w55 ⟨rfl, hb⟩; refine ⟨_, rfl, ?_⟩; replace HO_423000 := a_ (Kd.R_below (rk HO_423000.out) hb); replace HO_423001 := a_ (Kd.R_below (rk HO_423001.out) hb); replace BK418 := a_ (blk_below (pk BK418.out) hb); replace BK419 := a_ (blk_below (pk BK419.out) hb); replace BK420 := a_ (blk_below (pk BK420.out) hb); replace BK422 := a_ (blk_below (pk BK422.out) hb); replace HB := a_ (below_step (by repeat (with_reducible first | exact HB.out | refine bz ?_ (by assumption) | apply bA | apply bN | apply bD)) hb); clear hb; have hnb56 := NB420_418.out; have hnc56 := NB418_420.out; have hnb57 := NB420_419.out; have hnc57 := NB419_420.out; have hcz58_0 : _ = some (Value.slice none 0 0) := (blk_cell BK420.out 0).trans rfl; have hcz58_1 : _ = some (Value.slice none 0 0) := (blk_cell BK420.out 1).trans rfl; have hfz58_0 := blk_frozen BK420.out 0; have hfz58_1 := blk_frozen BK420.out 1))
      refine bodyPost_ret (results_ct rfl _ _ gb420 25 #[.slice none 0 0, .slice none 0 0] (0, 0) _ rfl (by refine pk ?_; refine blk_put (cs := #[.slice none 0 0, .slice none 0 0]) ?_ 1 _ rfl; refine pk ?_; refine blk_put (cs := #[.slice none 0 0, .slice none 0 0]) ?_ 0 _ rfl; refine pk ?_; exact BK420.out) Try.underlying25 rfl (by kernel_rfl)) rfl ?_
      exact ⟨_, _, by first | rfl | (simp [errW_none, errW_some] <;> rfl) | (simp [*, errW_none, errW_some] <;> rfl), by first | exact Kd.R_nil _ _ _ _ _ | exact Kd.N_nil _ _ _ _ _ | exact Kd.V_nil _ _ _ _ _ | exact Kd.Q_nil _ _ _ _ _ | exact Kd.S_nil _ _ _ _ _, by first | exact Kd.R_nil _ _ _ _ _ | exact Kd.N_nil _ _ _ _ _ | exact Kd.V_nil _ _ _ _ _ | exact Kd.Q_nil _ _ _ _ _ | exact Kd.S_nil _ _ _ _ _, by repeat (with_reducible first | exact HB.out | refine bz ?_ (by assumption) | apply bA | apply bN | apply bD)⟩
 ·replace c4 := Bool.eq_false_iff.mpr c4
  subst c4
  have H1 : (some (([] : List Nat), ([] : List Nat), false)) = some (r1, r2, r3) := by rw [if_neg (show ¬ (false = true) by decide)] at H; exact H
  clear H
  have H := H1
  clear H1
  simp only [Option.some.injEq, Prod.mk.injEq] at H
  obtain ⟨rfl, rfl, rfl⟩ := H
  go_enter Try.func9, Try.ntmps9
  go_wp2_with (first | ((with_reducible refine gate_dst (N := 2) rfl ?_); refine box_event ?hg (N := 2) ?hd (cs := #[.slice A0_0 l0_0.length c0_0, .slice A0_1 l0_1.length c0_1]) (t := 25) ?hr ?_; (case hd => rfl); (case hg => rfl); (case hr => first | (go_simp; done) | (go_simp; rfl)); intro gb418 hg w59 hbox hb; have BK418 := a_ (hbox); have GW418 := a_ (bsg hg HB.out); have GE418 := a_ (bsg hg HB.out); replace HB := a_ (below_step (un HB.out) hb); clear hb hbox hg) | ((with_reducible refine gate_dst (N := 3) rfl ?_); refine box_event ?hg (N := 3) ?hd (cs := #[.slice A1_0 l1_0.length c1_0, .slice A1_1 l1_1.length c1_1]) (t := 25) ?hr ?_; (case hd => rfl); (case hg => rfl); (case hr => first | (go_simp; done) | (go_simp; rfl)); intro gb419 hg w60 hbox hb; have BK419 := a_ (hbox); have GW419 := a_ (bsg hg HB.out); have GE419 := a_ (bsg hg HB.out); replace HB := a_ (below_step (by repeat (with_reducible first | exact HB.out | refine bz ?_ (by assumption) | apply bA | apply bN | apply bD)) hb); have NB418_419 := a_ (nel hg BK418.out); have NB419_418 := a_ (nle hg BK418.out); replace BK418 := a_ (blk_below (pk BK418.out) hb); clear hb hbox hg) | ((with_reducible refine gate_dst (N := 4) rfl ?_); refine box_event ?hg (N := 4) ?hd (cs := #[.slice none 0 0, .slice none 0 0]) (t := 25) ?hr ?_; (case hd => rfl); (case hg => rfl); (case hr => first | (go_simp; done) | (go_simp; rfl)); intro gb420 hg w61 hbox hb; have BK420 := a_ (hbox); have GW420 := a_ (bsg hg HB.out); have GE420 := a_ (bsg hg HB.out); replace HB := a_ (below_step (by repeat (with_reducible first | exact HB.out | refine bz ?_ (by assumption) | apply bA | apply bN | apply bD)) hb); have NB418_420 := a_ (nel hg BK418.out); have NB420_418 := a_ (nle hg BK418.out); replace BK418 := a_ (blk_below (pk BK418.out) hb); have NB419_420 := a_ (nel hg BK419.out); have NB420_419 := a_ (nle hg BK419.out); replace BK419 := a_ (blk_below (pk BK419.out) hb); clear hb hbox hg; have hnb62 := NB418_419.out; have hnc62 := NB419_418.out; have hnb63 := NB418_420.out; have hnc63 := NB420_418.out; have hcz64_0 : _ = some (Value.slice A0_0 l0_0.length c0_0) := (blk_cell BK418.out 0).trans rfl; have hcz64_1 : _ = some (Value.slice A0_1 l0_1.length c0_1) := (blk_cell BK418.out 1).trans rfl; have hfz64_0 := blk_frozen BK418.out 0; have hfz64_1 := blk_frozen BK418.out 1; have hnb65 := NB419_420.out; have hnc65 := NB420_419.out; have hcz66_0 : _ = some (Value.slice A1_0 l1_0.length c1_0) := (blk_cell BK419.out 0).trans rfl; have hcz66_1 : _ = some (Value.slice A1_1 l1_1.length c1_1) := (blk_cell BK419.out 1).trans rfl; have hfz66_0 := blk_frozen BK419.out 0; have hfz66_1 := blk_frozen BK419.out 1) | ((with_reducible refine gate_callee (f := 12) rfl ?_); refine goesL_ (some 10) rfl rfl Try.func12 (by kernel_rfl) rfl #[.agg #[.slice A0_0 l0_0.length c0_0, .slice A0_1 l0_1.length c0_1], .agg #[.slice A1_0 l1_0.length c1_0, .slice A1_1 l1_1.length c1_1]] rfl (by (try simp only [lA, lB, lC]); first | done | rfl | (simp only [lD, lE]; rfl)) ?_; (with_reducible refine (impl_alike.calls k _ _ l0_0 _ _ l0_1 _ _ l1_0 _ _ l1_1 false _ ?side1 ?side2 ?side3 ?side4 ?side5 ?side6 ?side7 ?side8 A3.out).mono ?_); (case side1 => exact Kd.C_below HR0_0.out (un HB.out)); (case side2 => exact HC0_0.out); (case side3 => exact Kd.C_below HR0_1.out (un HB.out)); (case side4 => exact HC0_1.out); (case side5 => exact Kd.C_below HR1_0.out (un HB.out)); (case side6 => exact HC1_0.out); (case side7 => exact Kd.C_below HR1_1.out (un HB.out)); (case side8 => exact HC1_1.out); rintro e w67 ⟨rfl, hb⟩; refine ⟨_, rfl, ?_⟩; replace BK418 := a_ (blk_below (pk BK418.out) hb); replace BK419 := a_ (blk_below (pk BK419.out) hb); replace BK420 := a_ (blk_below (pk BK420.out) hb); replace HB := a_ (below_step (by repeat (with_reducible first | exact HB.out | refine bz ?_ (by assumption) | apply bA | apply bN | apply bD)) hb); clear hb; have hcz68_0 : _ = some (Value.slice none 0 0) := (blk_cell BK420.out 0).trans rfl; have hcz68_1 : _ = some (Value.slice none 0 0) := (blk_cell BK420.out 1).trans rfl; have hfz68_0 := blk_frozen BK420.out 0; have hfz68_1 := blk_frozen BK420.out 1))
  refine bodyPost_ret (results_ct rfl _ _ gb420 25 #[.slice none 0 0, .slice none 0 0] (0, 0) _ rfl (by refine pk ?_; refine blk_put (cs := #[.slice none 0 0, .slice none 0 0]) ?_ 1 _ rfl; refine pk ?_; refine blk_put (cs := #[.slice none 0 0, .slice none 0 0]) ?_ 0 _ rfl; refine pk ?_; exact BK420.out) Try.underlying25 rfl (by kernel_rfl)) rfl ?_
  exact ⟨_, _, by first | rfl | (simp [errW_none, errW_some] <;> rfl) | (simp [*, errW_none, errW_some] <;> rfl), by first | exact Kd.R_nil _ _ _ _ _ | exact Kd.N_nil _ _ _ _ _ | exact Kd.V_nil _ _ _ _ _ | exact Kd.Q_nil _ _ _ _ _ | exact Kd.S_nil _ _ _ _ _, by first | exact Kd.R_nil _ _ _ _ _ | exact Kd.N_nil _ _ _ _ _ | exact Kd.V_nil _ _ _ _ _ | exact Kd.Q_nil _ _ _ _ _ | exact Kd.S_nil _ _ _ _ _, by repeat (with_reducible first | exact HB.out | refine bz ?_ (by assumption) | apply bA | apply bN | apply bD)⟩

end Go.Proofs.Ytbhnnobpjmnngaa.PFnJoins
