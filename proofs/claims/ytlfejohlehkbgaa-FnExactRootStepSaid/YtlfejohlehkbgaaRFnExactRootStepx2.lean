-- Written by a program of this session out of the loaded functions' print; helper lemmas as print.sh lays them.
import Derived.Test.YtlfejohlehkbgaaUp2
import Derived.Test.YtlfejohlehkbgaaUp
import Derived.Test.YtlfejohlehkbgaaRel
import Derived.Test.YtlfejohlehkbgaaRFnExactRootStepx0
import Derived.Test.YtlfejohlehkbgaaRFnExactRootStepx1
namespace Go.Proofs.Ytlfejohlehkbgaa.PFnExactRootStep
open Go.RowKit Go.Proofs.YtlfejohlehkbgaaW.PrintWords Go.Proofs.YtlfejohlehkbgaaW.PrintLast Go.Proofs.YtlfejohlehkbgaaW.PrintMore
attribute [local go_sem] max2_int min2_int max_two min_two max_three min_three max_four min_four go_fstore go_fneg go_fadd go_fsub go_fmul go_fquo go_fmax go_fmin go_fconv go_bits go_frombits  -- for this text's walks alone
set_option linter.unusedVariables false
set_option linter.unusedSimpArgs false

/-! ### spec_l3At: function 32 -/
def spec_l3At.T6 : Bool × List (List Nat × List Nat) := (true, [([], []), ([0], [0]), ([], []), ([], []), ([2, 3], [2, 3]), ([4], [4]), ([1, 5], [1, 5]), ([0, 1, 2, 3, 4, 5, 6], []), ([7, 6, 0, 1, 2, 3, 4, 5, 6], [6, 7])])
def spec_l3At.B6 : List Nat := [0, 1, 0, 0, 12, 28, 63, 127, 255]
theorem spec_l3At.tab6 : rtab .any (opsOf Try.f32 6) = spec_l3At.T6 := by kernel_rfl
theorem spec_l3At.bits6 : waitsOk spec_l3At.T6.2 spec_l3At.B6 = true := by kernel_rfl
section
open Go.Proofs.Ytlfejohlehkbgaa.Flo (Rt Rp Rq Rd Sp Vt mRe mIm dRe dIm den denBad al toldS)
attribute [local go_sem] go_tadd go_tsub go_tmul go_tquo
set_option maxHeartbeats 8000000 in
set_option maxRecDepth 100000 in
theorem spec_l3At.rel (k : Nat) (A0 : Option Addr) (c0 : Nat) (l0 : List Nat) (a1_0 : Nat) (a1_1 : Nat) (X : Option Nat) (Y : Option Nat) (w : World) (hr0 : Kd.C Kd.flt w A0 l0.length l0) (hc0 : l0.length ≤ c0) (h : (Flo.hornS k l0 (wrap64 ((l0.length : Int) - 1)) (Flo.al a1_0) (Flo.al a1_1) (some 0) (some 0)) = some (X, Y)) :
  Calls Try.prog 32 #[.slice A0 l0.length c0, .agg #[.float .f64 a1_0, .float .f64 a1_1]] w fun e w' => ∃ r1 r2, Sp X Y r1 r2 ∧ e = .returned (.agg #[.float .f64 r1, .float .f64 r2]) ∧ Below w.heap.size w w' := by
 have hu42 := Try.underlying42
 have HR0 := Aside0.mk hr0
 have HC0 := Aside0.mk hc0
 clear hr0 hc0
 have HB := a_ (Below.refl w.heap.size w)
 have H : (Flo.hornS k l0 (wrap64 ((l0.length : Int) - 1)) (Flo.al a1_0) (Flo.al a1_1) (some 0) (some 0)) = some (X, Y) := h
 clear h
 have H' := Aside0.mk H
 clear H
 go_enter Try.func32, Try.ntmps32
 go_wp2_with (first | ((with_reducible refine gate_dst (N := 3) rfl ?_); refine box_event ?hg (N := 3) ?hd (cs := #[.float .f64 a1_0, .float .f64 a1_1]) (t := 42) ?hr ?_; (case hd => rfl); (case hg => rfl); (case hr => first | (go_simp; done) | (go_simp; rfl)); intro gb119 hg w3 hbox hb; have BK119 := a_ (hbox); have GW119 := a_ (bsg hg HB.out); have GE119 := a_ (bsg hg HB.out); replace HB := a_ (below_step (un HB.out) hb); clear hb hbox hg) | ((with_reducible refine gate_dst (N := 4) rfl ?_); refine box_event ?hg (N := 4) ?hd (cs := #[.float .f64 (0 : Nat), .float .f64 (0 : Nat)]) (t := 42) ?hr ?_; (case hd => rfl); (case hg => rfl); (case hr => first | (go_simp; done) | (go_simp; rfl)); intro gb120 hg w4 hbox hb; have BK120 := a_ (hbox); have GW120 := a_ (bsg hg HB.out); have GE120 := a_ (bsg hg HB.out); replace HB := a_ (below_step (by repeat (with_reducible first | exact HB.out | refine bz ?_ (by assumption) | apply bA | apply bN | apply bD)) hb); have NB119_120 := a_ (nel hg BK119.out); have NB120_119 := a_ (nle hg BK119.out); replace BK119 := a_ (blk_below (pk BK119.out) hb); clear hb hbox hg) | ((with_reducible refine gate_dst (N := 5) rfl ?_); refine box_event ?hg (N := 5) ?hd (cs := #[.float .f64 (0 : Nat), .float .f64 (0 : Nat)]) (t := 42) ?hr ?_; (case hd => rfl); (case hg => rfl); (case hr => first | (go_simp; done) | (go_simp; rfl)); intro gb121 hg w5 hbox hb; have BK121 := a_ (hbox); have GW121 := a_ (bsg hg HB.out); have GE121 := a_ (bsg hg HB.out); replace HB := a_ (below_step (by repeat (with_reducible first | exact HB.out | refine bz ?_ (by assumption) | apply bA | apply bN | apply bD)) hb); have NB119_121 := a_ (nel hg BK119.out); have NB121_119 := a_ (nle hg BK119.out); replace BK119 := a_ (blk_below (pk BK119.out) hb); have NB120_121 := a_ (nel hg BK120.out); have NB121_120 := a_ (nle hg BK120.out); replace BK120 := a_ (blk_below (pk BK120.out) hb); clear hb hbox hg; have hnb6 := NB121_119.out; have hnc6 := NB119_121.out; have hnb7 := NB121_120.out; have hnc7 := NB120_121.out; have hcz8_0 : _ = some (Value.float .f64 (0 : Nat)) := (blk_cell BK121.out 0).trans rfl; have hcz8_1 : _ = some (Value.float .f64 (0 : Nat)) := (blk_cell BK121.out 1).trans rfl; have hfz8_0 := blk_frozen BK121.out 0; have hfz8_1 := blk_frozen BK121.out 1))
 go_loopg [6] k (fun kq v6 w' => ∃ (x6_1 : Int) (x122000_1 : Nat) (x122001_1 : Nat) (W0 : Option Nat) (W1 : Option Nat), v6 = .int .i64 x6_1 ∧ Aside0 (Flo.hornS kq l0 x6_1 (al a1_0) (al a1_1) W0 W1 = some (X, Y)) ∧ Aside0 (Sp W0 W1 x122000_1 x122001_1) ∧ Aside0 (kq ≤ k) ∧ Aside0 (w'.heap[gb119]? = some (.cells #[.float .f64 a1_0, .float .f64 a1_1] 42 (0, 0))) ∧ Aside0 (w'.heap[gb120]? = some (.cells #[.float .f64 (0 : Nat), .float .f64 (0 : Nat)] 42 (0, 0))) ∧ Aside0 (w'.heap[gb121]? = some (.cells #[.float .f64 x122000_1, .float .f64 x122001_1] 42 (0, 0))) ∧ Aside0 (Below w.heap.size w w'))
 case atStart => exact ⟨(wrap64 ((l0.length : Int) - 1)), ((0 : Nat)), ((0 : Nat)), some 0, some 0, (by first | rfl | (simp; done) | (simp [*]; done)), H', ⟨Flo.sp_zero⟩, ⟨Nat.le_refl _⟩, ⟨by refine pk ?_; refine blk_far ?_ NB119_121.out _; refine pk ?_; refine blk_far ?_ NB119_121.out _; refine pk ?_; exact BK119.out⟩, ⟨by refine pk ?_; refine blk_far ?_ NB120_121.out _; refine pk ?_; refine blk_far ?_ NB120_121.out _; refine pk ?_; exact BK120.out⟩, ⟨by refine pk ?_; refine blk_put (cs := #[.float .f64 (0 : Nat), .float .f64 (0 : Nat)]) ?_ 1 _ rfl; refine pk ?_; refine blk_put (cs := #[.float .f64 (0 : Nat), .float .f64 (0 : Nat)]) ?_ 0 _ rfl; refine pk ?_; exact BK121.out⟩, ⟨by repeat (with_reducible first | exact HB.out | refine bz ?_ (by assumption) | apply bA | apply bN | apply bD)⟩⟩
 case round =>
  clear H'
  try clear p2; try clear c3; try clear c6; try clear p6; try clear c7; try clear hcz8_0; try clear hcz8_1; try clear hfz8_0; try clear hfz8_1
  obtain ⟨x6_1, x122000_1, x122001_1, W0, W1, rfl, HA, HS_, HK1, BK119, BK120, BK121, HB⟩ := hrel
  cases gk with
  | zero => exact absurd HA.out (by simp [Flo.hornS])
  | succ k1 =>
   have H := HA.out
   clear HA
   simp only [Flo.hornS] at H
   by_cases c9 : x6_1 ≥ 0
   ·rw [if_pos c9] at H
    have c9b0 : decide (0 ≤ x6_1) = true := decide_eq_true c9
    clear c9
    by_cases c11 : 0 ≤ x6_1
    ·rw [if_pos c11] at H
     have c11b0 : decide (0 ≤ x6_1) = true := decide_eq_true c11
     clear c11
     by_cases c12 : x6_1 < (l0.length : Int)
     ·rw [if_pos c12] at H
      have c12b0 : decide (x6_1 < (l0.length : Int)) = true := decide_eq_true c12
      clear c12
      have H' := Aside0.mk H
      clear H
      have hnb14 := NB121_119.out
      have hnc14 := NB119_121.out
      have hnb15 := NB121_120.out
      have hnc15 := NB120_121.out
      have hcz16_0 : wr.cell? ⟨gb121, 0, none⟩ = some (.float .f64 x122000_1) := (blk_cell BK121.out 0).trans rfl
      have hcz16_1 : wr.cell? ⟨gb121, 1, none⟩ = some (.float .f64 x122001_1) := (blk_cell BK121.out 1).trans rfl
      have hfz16_0 := blk_frozen BK121.out 0
      have hfz16_1 := blk_frozen BK121.out 1
      have hnb17 := NB119_120.out
      have hnc17 := NB120_119.out
      have hcz18_0 : wr.cell? ⟨gb119, 0, none⟩ = some (.float .f64 a1_0) := (blk_cell BK119.out 0).trans rfl
      have hcz18_1 : wr.cell? ⟨gb119, 1, none⟩ = some (.float .f64 a1_1) := (blk_cell BK119.out 1).trans rfl
      have hfz18_0 := blk_frozen BK119.out 0
      have hfz18_1 := blk_frozen BK119.out 1
      try go_wp2_with (first | ((with_reducible refine gate_callee (f := 44) rfl ?_); refine goesL_ (some 17) rfl rfl Try.func44 (by kernel_rfl) rfl #[.agg #[.float .f64 x122000_1, .float .f64 x122001_1], .agg #[.float .f64 a1_0, .float .f64 a1_1]] rfl (by (try simp only [lA, lB, lC]); first | done | rfl | (simp only [lD, lE]; rfl)) ?_; (with_reducible refine (spec_l3Mul.rel x122000_1 x122001_1 a1_0 a1_1 _).mono ?_); rintro e w19 ⟨t122, t123, A10, rfl, hb⟩; refine ⟨_, rfl, ?_⟩; replace BK119 := a_ (blk_below (pk BK119.out) hb); replace BK120 := a_ (blk_below (pk BK120.out) hb); replace BK121 := a_ (blk_below (pk BK121.out) hb); replace HB := a_ (below_step (by repeat (with_reducible first | exact HB.out | refine bz ?_ (by assumption) | apply bA | apply bN | apply bD)) hb); clear hb; have hcz20_0 : _ = some (Value.float .f64 x122000_1) := (blk_cell BK121.out 0).trans rfl; have hcz20_1 : _ = some (Value.float .f64 x122001_1) := (blk_cell BK121.out 1).trans rfl; have hfz20_0 := blk_frozen BK121.out 0; have hfz20_1 := blk_frozen BK121.out 1))
      have n0_ : Aside0 (((w19.setCell ⟨gb121, 0, none⟩ (.float .f64 t122)).setCell ⟨gb121, 1, none⟩ (.float .f64 t123)).heap[gb119]? = some (.cells #[.float .f64 a1_0, .float .f64 a1_1] 42 (0, 0))) := ⟨by refine pk ?_; refine blk_far ?_ NB119_121.out _; refine pk ?_; refine blk_far ?_ NB119_121.out _; refine pk ?_; exact BK119.out⟩
      have n1_ : Aside0 (((w19.setCell ⟨gb121, 0, none⟩ (.float .f64 t122)).setCell ⟨gb121, 1, none⟩ (.float .f64 t123)).heap[gb120]? = some (.cells #[.float .f64 (0 : Nat), .float .f64 (0 : Nat)] 42 (0, 0))) := ⟨by refine pk ?_; refine blk_far ?_ NB120_121.out _; refine pk ?_; refine blk_far ?_ NB120_121.out _; refine pk ?_; exact BK120.out⟩
      have n2_ : Aside0 (((w19.setCell ⟨gb121, 0, none⟩ (.float .f64 t122)).setCell ⟨gb121, 1, none⟩ (.float .f64 t123)).heap[gb121]? = some (.cells #[.float .f64 t122, .float .f64 t123] 42 (0, 0))) := ⟨by refine pk ?_; refine blk_put (cs := #[.float .f64 t122, .float .f64 x122001_1]) ?_ 1 _ rfl; refine pk ?_; refine blk_put (cs := #[.float .f64 x122000_1, .float .f64 x122001_1]) ?_ 0 _ rfl; refine pk ?_; exact BK121.out⟩
      have n3_ : Aside0 (Below w.heap.size w ((w19.setCell ⟨gb121, 0, none⟩ (.float .f64 t122)).setCell ⟨gb121, 1, none⟩ (.float .f64 t123))) := ⟨by repeat (with_reducible first | exact HB.out | refine bz ?_ (by assumption) | apply bA | apply bN | apply bD)⟩
      (try clear BK119)
      (try clear BK120)
      (try clear BK121)
      (try clear HB)
      generalize ((w19.setCell ⟨gb121, 0, none⟩ (.float .f64 t122)).setCell ⟨gb121, 1, none⟩ (.float .f64 t123)) = w21 at n0_ n1_ n2_ n3_ ⊢
      have BK119 := n0_
      have BK120 := n1_
      have BK121 := n2_
      have HB := n3_
      clear n0_ n1_ n2_ n3_
      replace BK119 := a_ (blk_drew BK119.out)
      replace BK120 := a_ (blk_drew BK120.out)
      replace BK121 := a_ (blk_drew BK121.out)
      replace HB := a_ (below_drew1 HB.out)
      have p124 : 0 ≤ (x6_1 : Int) := of_decide_eq_true (by first | (with_reducible assumption) | assumption)
      have q124 : x6_1 < (l0.length : Int) := of_decide_eq_true (by first | (with_reducible assumption) | assumption)
      obtain ⟨ad124, e124, hx124_0⟩ := Kd.at_flt HR0.out x6_1 p124 q124
      have hw124_0 := hx124_0
      cases e124
      replace hx124_0 := (HB.out.cell (World.block_lt_of_cell? w _ hx124_0)).trans hx124_0
      replace p124 := eq_true p124
      replace q124 := eq_true q124
      refine start_ (n := 9) (S := fun w' => w'.cell? ⟨gb121, 0, none⟩ = some (.float .f64 t122) ∧ w'.cell? ⟨gb121, 1, none⟩ = some (.float .f64 t123) ∧ w'.cell? (ad124.add (x6_1).toNat) = some (.float .f64 (rdOf (0 : Nat) l0 x6_1))) (ds := [8]) #[false, false, false, false, false, false, false, false, false] (by kernel_rfl) rfl rfl ⟨(blk_cell BK121.out 0).trans rfl, (blk_cell BK121.out 1).trans rfl, ((HB.out.cell (World.block_lt_of_cell? w _ hw124_0)).trans hw124_0)⟩ (fun hHeld => ?_); refine with_tabW spec_l3At.tab6 spec_l3At.bits6 (fun HT_ HW_ => ?_)
      generalize w21.drew = w22 at BK119 BK120 BK121 HB hx124_0 hHeld ⊢
      refine pure_ (i := 0) (N := some 18) (v := ?_) (a' := ?_) #[true, false, false, false, false, false, false, false, false] rfl rfl (any_of HT_.out (by kernel_rfl)) (fun _ _ _ h => h) (Or.inl ⟨by rfl, ?_⟩) ?_ ?_
      rotate_left
      ·intro w'
       go_simp
       with_reducible rfl
      rotate_left
      ·simp only [Act.put, sB, sC, sD, i64_w, i32_w]
       rfl
      refine pure_ (i := 2) (N := some 20) (v := ?_) (a' := ?_) #[true, false, true, false, false, false, false, false, false] rfl rfl (any_of HT_.out (by kernel_rfl)) (fun _ _ _ h => h) (Or.inl ⟨by rfl, ?_⟩) ?_ ?_
      rotate_left
      ·intro w'
       go_simp
       with_reducible rfl
      rotate_left
      ·simp only [Act.put, sB, sC, sD, i64_w, i32_w]
       rfl
      refine pure_ (i := 3) (N := some 21) (v := ?_) (a' := ?_) #[true, false, true, true, false, false, false, false, false] rfl rfl (any_of HT_.out (by kernel_rfl)) (fun _ _ _ h => h) (Or.inl ⟨by rfl, ?_⟩) ?_ ?_
      rotate_left
      ·intro w'
       go_simp
       with_reducible rfl
      rotate_left
      ·simp only [Act.put, sB, sC, sD, i64_w, i32_w]
       rfl
      refine pure_ (i := 4) (N := some 22) (v := ?_) (a' := ?_) #[true, false, true, true, true, false, false, false, false] rfl rfl (any_of HT_.out (by kernel_rfl)) (fun _ _ _ h => h) (Or.inl ⟨by rfl, ?_⟩) ?_ ?_
      rotate_left
      ·intro w'
       go_simp
       with_reducible rfl
      rotate_left
      ·simp only [Act.put, sB, sC, sD, i64_w, i32_w]
       rfl
      refine take_ (i := 1) (N := some 19) (v := ?_) (a' := ?_) #[true, true, true, true, true, false, false, false, false] rfl rfl (take_ofW HT_.out HW_.out (by kernel_rfl)) (fun _ _ _ h => h) (Or.inl ⟨by rfl, ?_⟩) hHeld ?_ ?_
      rotate_left
      ·rintro w' ⟨s0, s1, s2⟩
       go_simp
       with_reducible rfl
      rotate_left
      ·simp only [Act.put, sB, sC, sD, i64_w, i32_w]
       rfl
      refine take_ (i := 5) (N := some 23) (v := ?_) (a' := ?_) #[true, true, true, true, true, true, false, false, false] rfl rfl (take_ofW HT_.out HW_.out (by kernel_rfl)) (fun _ _ _ h => h) (Or.inl ⟨by rfl, ?_⟩) hHeld ?_ ?_
      rotate_left
      ·rintro w' ⟨s0, s1, s2⟩
       go_simp
       with_reducible rfl
      rotate_left
      ·simp only [Act.put, sB, sC, sD, i64_w, i32_w]
       rfl
      refine one_ (i := 6) (N := some 24) #[true, true, true, true, true, true, true, false, false] rfl rfl (one_of HT_.out (by kernel_rfl)) (by decide) (fun K hK => ?_)
      have V1 := Flo.vt_add t122 (rdOf (0 : Nat) l0 x6_1) w22
      refine event_step (v := .float .f64 (flw .add t122 (rdOf (0 : Nat) l0 x6_1) w22)) (w1 := w22.drewN (fln .add t122 (rdOf (0 : Nat) l0 x6_1))) (by rfl) ?_ ?_
      ·go_simp
       try rfl
      generalize flw .add t122 (rdOf (0 : Nat) l0 x6_1) w22 = v1 at V1 ⊢
      have n0_ := a_ (blk_drewN BK119.out (fln .add t122 (rdOf (0 : Nat) l0 x6_1)))
      have n1_ := a_ (blk_drewN BK120.out (fln .add t122 (rdOf (0 : Nat) l0 x6_1)))
      have n2_ := a_ (blk_drewN BK121.out (fln .add t122 (rdOf (0 : Nat) l0 x6_1)))
      have nB_ := a_ (pw_below_drewN HB.out (fln .add t122 (rdOf (0 : Nat) l0 x6_1)))
      clear BK119 BK120 BK121 HB hHeld
      have BK119 := n0_
      have BK120 := n1_
      have BK121 := n2_
      have HB := nB_
      clear nB_ n0_ n1_ n2_
      generalize w22.drewN (fln .add t122 (rdOf (0 : Nat) l0 x6_1)) = w22a at BK119 BK120 BK121 HB ⊢
      refine hK.out _ _ ⟨(blk_cell BK121.out 0).trans rfl, (blk_cell BK121.out 1).trans rfl, ((HB.out.cell (World.block_lt_of_cell? w _ hw124_0)).trans hw124_0)⟩ (fun hHeld => ?_)
      clear hK K
      refine norm_ (a' := ?_) ?_ ?_
      rotate_left
      ·show Act.put _ (some 24) _ = _
       simp only [Act.put, sB, sC, sD, i64_w, i32_w]
       rfl
      refine pure_ (i := 7) (N := some 25) (v := ?_) (a' := ?_) #[true, true, true, true, true, true, true, true, false] rfl rfl (any_of HT_.out (by kernel_rfl)) (fun _ _ _ h => h) (Or.inl ⟨by rfl, ?_⟩) ?_ ?_
      rotate_left
      ·intro w'
       go_simp
       with_reducible rfl
      rotate_left
      ·simp only [Act.put, sB, sC, sD, i64_w, i32_w]
       rfl
      refine last_ (i := 8) (N := none) #[true, true, true, true, true, true, true, true, true] rfl rfl (one_of HT_.out (by kernel_rfl)) (by decide) (fun K hK => ?_)
      have hs23 : w22a.cell? ⟨gb121, 0, none⟩ = some (.float .f64 t122) := (blk_cell BK121.out 0).trans rfl
      have hfs23 := blk_frozen BK121.out 0
      have hns23_0 := NB119_121.out
      have hns23_1 := NB120_121.out
      have hms23_0 := NB121_119.out
      have hms23_1 := NB121_120.out
      refine skip_ (w1 := ?_) ?_ ?_ ?_ ?_
      rotate_left
      ·rfl
      ·rfl
      ·go_simp
       rfl
      refine hK.out _ _ ?_
      clear hK K
      refine done_ (done_of HT_.out (by kernel_rfl)) ?_
      try go_wp2
      go_roundg k1
      case measure => have := HK1.out; omega
      case rel => exact ⟨(wrap64 (x6_1 - 1)), (v1), (t123), _, _, (by first | rfl | (simp; done) | (simp [*]; done)), H', ⟨Flo.sp_step HS_.out A10 V1⟩, ⟨by have := HK1.out; omega⟩, ⟨by refine pk ?_; refine blk_far ?_ NB119_121.out _; refine pk ?_; exact BK119.out⟩, ⟨by refine pk ?_; refine blk_far ?_ NB120_121.out _; refine pk ?_; exact BK120.out⟩, ⟨by refine pk ?_; refine blk_put (cs := #[.float .f64 t122, .float .f64 t123]) ?_ 0 _ rfl; refine pk ?_; exact BK121.out⟩, ⟨by repeat (with_reducible first | exact HB.out | refine bz ?_ (by assumption) | apply bA | apply bN | apply bD)⟩⟩
     ·rw [if_neg c12] at H
      exact absurd H (by simp)
    ·rw [if_neg c11] at H
     exact absurd H (by simp)
   ·rw [if_neg c9] at H
    have c9b0 : decide (0 ≤ x6_1) = false := decide_eq_false c9
    clear c9
    simp only [Option.some.injEq, Prod.mk.injEq] at H
    obtain ⟨rfl, rfl⟩ := H
    have hnb24 := NB121_119.out
    have hnc24 := NB119_121.out
    have hnb25 := NB121_120.out
    have hnc25 := NB120_121.out
    have hcz26_0 : wr.cell? ⟨gb121, 0, none⟩ = some (.float .f64 x122000_1) := (blk_cell BK121.out 0).trans rfl
    have hcz26_1 : wr.cell? ⟨gb121, 1, none⟩ = some (.float .f64 x122001_1) := (blk_cell BK121.out 1).trans rfl
    have hfz26_0 := blk_frozen BK121.out 0
    have hfz26_1 := blk_frozen BK121.out 1
    have hnb27 := NB120_119.out
    have hnc27 := NB119_120.out
    have hcz28_0 : wr.cell? ⟨gb120, 0, none⟩ = some (.float .f64 (0 : Nat)) := (blk_cell BK120.out 0).trans rfl
    have hcz28_1 : wr.cell? ⟨gb120, 1, none⟩ = some (.float .f64 (0 : Nat)) := (blk_cell BK120.out 1).trans rfl
    have hfz28_0 := blk_frozen BK120.out 0
    have hfz28_1 := blk_frozen BK120.out 1
    go_wp2
    refine bodyPost_ret (results_cell_row rfl _ _ gb120 42 #[.float .f64 x122000_1, .float .f64 x122001_1] (0, 0) _ rfl (by refine pk ?_; refine blk_put (cs := #[.float .f64 x122000_1, .float .f64 (0 : Nat)]) ?_ 1 _ rfl; refine pk ?_; refine blk_put (cs := #[.float .f64 (0 : Nat), .float .f64 (0 : Nat)]) ?_ 0 _ rfl; refine pk ?_; exact BK120.out) Try.underlying42 rfl (by kernel_rfl)) rfl ?_
    exact ⟨_, _, HS_.out, by first | rfl | (simp [errW_none, errW_some] <;> rfl) | (simp [*, errW_none, errW_some] <;> rfl), by repeat (with_reducible first | exact HB.out | refine bz ?_ (by assumption) | apply bA | apply bN | apply bD)⟩
end

/-! ### spec_l2Finite: function 33 -/
def spec_l2Finite.f (a0 : Nat) : Option (Bool) := (math_IsNaN.f a0).bind fun t125 => (if t125 = true then (some false) else ((math_IsInf.f a0 0).bind fun t126 => (some (!t126))))
set_option maxHeartbeats 8000000 in
set_option maxRecDepth 100000 in
theorem spec_l2Finite.calls (a0 : Nat) (r : Bool) (w : World) (h : spec_l2Finite.f a0 = some r) :
  Calls Try.prog 33 #[.float .f64 a0] w fun e w' => e = .returned (.bool r) ∧ Drawn0 w w' := by
 have H : ((math_IsNaN.f a0).bind fun t125 => (if t125 = true then (some false) else ((math_IsInf.f a0 0).bind fun t126 => (some (!t126))))) = some r := h
 clear h
 replace H := Option.bind_eq_some_iff.mp H
 obtain ⟨t125, A20, H⟩ := H
 have A2 := Aside0.mk A20
 clear A20
 by_cases c3 : t125 = true
 ·subst c3
  have H1 : (some false) = some r := by rw [if_pos rfl] at H; exact H
  clear H
  have H := H1
  clear H1
  obtain rfl := Option.some.inj H
  go_enter Try.func33, Try.ntmps33
  go_wp2_with (first | ((with_reducible refine gate_callee (f := 47) rfl ?_); refine goesL_ (some 4) rfl rfl Try.func47 (by kernel_rfl) rfl #[.float .f64 a0] rfl (by (try simp only [lA, lB, lC]); first | done | rfl | (simp only [lD, lE]; rfl)) ?_; (with_reducible refine (math_IsNaN.calls a0 true _ A2.out).mono ?_); rintro e w' ⟨rfl, ⟨nd, rfl⟩⟩; refine ⟨_, rfl, ?_⟩))
  go_ret
  exact ⟨by first | rfl | (simp; done) | (simp [*]; done), by repeat (first | exact Drawn0.refl _ | apply Drawn0.step)⟩
 ·replace c3 := Bool.eq_false_iff.mpr c3
  subst c3
  have H1 : ((math_IsInf.f a0 0).bind fun t126 => (some (!t126))) = some r := by rw [if_neg (show ¬ (false = true) by decide)] at H; exact H
  clear H
  have H := H1
  clear H1
  replace H := Option.bind_eq_some_iff.mp H
  obtain ⟨t126, A40, H⟩ := H
  have A4 := Aside0.mk A40
  clear A40
  obtain rfl := Option.some.inj H
  go_enter Try.func33, Try.ntmps33
  go_wp2_with (first | ((with_reducible refine gate_callee (f := 47) rfl ?_); refine goesL_ (some 4) rfl rfl Try.func47 (by kernel_rfl) rfl #[.float .f64 a0] rfl (by (try simp only [lA, lB, lC]); first | done | rfl | (simp only [lD, lE]; rfl)) ?_; (with_reducible refine (math_IsNaN.calls a0 false _ A2.out).mono ?_); rintro e w' ⟨rfl, ⟨nd, rfl⟩⟩; refine ⟨_, rfl, ?_⟩) | (go_at_call 48; (with_reducible refine (math_IsInf.calls a0 0 t126 _ A4.out).mono ?_); rintro e w' ⟨rfl, ⟨nd, rfl⟩⟩))
  go_ret
  exact ⟨by first | rfl | (simp; done) | (simp [*]; done), by repeat (first | exact Drawn0.refl _ | apply Drawn0.step)⟩

/-! ### spec_l3Finite: function 34 -/
def spec_l3Finite.f (a0_0 : Nat) (a0_1 : Nat) : Option (Bool) := (spec_l2Finite.f a0_0).bind fun t128 => (if t128 = true then ((spec_l2Finite.f a0_1).bind fun t129 => (some t129)) else (some false))
set_option maxHeartbeats 8000000 in
set_option maxRecDepth 100000 in
theorem spec_l3Finite.calls (a0_0 : Nat) (a0_1 : Nat) (r : Bool) (w : World) (h : spec_l3Finite.f a0_0 a0_1 = some r) :
  Calls Try.prog 34 #[.agg #[.float .f64 a0_0, .float .f64 a0_1]] w fun e w' => e = .returned (.bool r) ∧ Below w.heap.size w w' := by
 have hu42 := Try.underlying42
 have HB := a_ (Below.refl w.heap.size w)
 have H : ((spec_l2Finite.f a0_0).bind fun t128 => (if t128 = true then ((spec_l2Finite.f a0_1).bind fun t129 => (some t129)) else (some false))) = some r := h
 clear h
 replace H := Option.bind_eq_some_iff.mp H
 obtain ⟨t128, A20, H⟩ := H
 have A2 := Aside0.mk A20
 clear A20
 by_cases c3 : t128 = true
 ·subst c3
  have H1 : ((spec_l2Finite.f a0_1).bind fun t129 => (some t129)) = some r := by rw [if_pos rfl] at H; exact H
  clear H
  have H := H1
  clear H1
  replace H := Option.bind_eq_some_iff.mp H
  obtain ⟨t129, A40, H⟩ := H
  have A4 := Aside0.mk A40
  clear A40
  obtain rfl := Option.some.inj H
  go_enter Try.func34, Try.ntmps34
  go_wp2_with (first | ((with_reducible refine gate_dst (N := 1) rfl ?_); refine box_event ?hg (N := 1) ?hd (cs := #[.float .f64 a0_0, .float .f64 a0_1]) (t := 42) ?hr ?_; (case hd => rfl); (case hg => rfl); (case hr => first | (go_simp; done) | (go_simp; rfl)); intro gb127 hg w5 hbox hb; have BK127 := a_ (hbox); have GW127 := a_ (bsg hg HB.out); have GE127 := a_ (bsg hg HB.out); replace HB := a_ (below_step (un HB.out) hb); clear hb hbox hg; have hcz6_0 : _ = some (Value.float .f64 a0_0) := (blk_cell BK127.out 0).trans rfl; have hcz6_1 : _ = some (Value.float .f64 a0_1) := (blk_cell BK127.out 1).trans rfl; have hfz6_0 := blk_frozen BK127.out 0; have hfz6_1 := blk_frozen BK127.out 1) | ((with_reducible refine gate_callee (f := 33) rfl ?_); refine goesL_ (some 5) rfl rfl Try.func33 (by kernel_rfl) rfl #[.float .f64 a0_0] rfl (by (try simp only [lA, lB, lC]); first | done | rfl | (simp only [lD, lE]; rfl)) ?_; (with_reducible refine (spec_l2Finite.calls a0_0 true _ A2.out).mono ?_); rintro e w' ⟨rfl, ⟨nd, rfl⟩⟩; refine ⟨_, rfl, ?_⟩) | (go_at_call 33; (with_reducible refine (spec_l2Finite.calls a0_1 t129 _ A4.out).mono ?_); rintro e w' ⟨rfl, ⟨nd, rfl⟩⟩))
  go_ret
  exact ⟨by first | rfl | (simp [errW_none, errW_some] <;> rfl) | (simp [*, errW_none, errW_some] <;> rfl), by repeat (with_reducible first | exact HB.out | refine bz ?_ (by assumption) | apply bA | apply bN | apply bD)⟩
 ·replace c3 := Bool.eq_false_iff.mpr c3
  subst c3
  have H1 : (some false) = some r := by rw [if_neg (show ¬ (false = true) by decide)] at H; exact H
  clear H
  have H := H1
  clear H1
  obtain rfl := Option.some.inj H
  go_enter Try.func34, Try.ntmps34
  go_wp2_with (first | ((with_reducible refine gate_dst (N := 1) rfl ?_); refine box_event ?hg (N := 1) ?hd (cs := #[.float .f64 a0_0, .float .f64 a0_1]) (t := 42) ?hr ?_; (case hd => rfl); (case hg => rfl); (case hr => first | (go_simp; done) | (go_simp; rfl)); intro gb127 hg w7 hbox hb; have BK127 := a_ (hbox); have GW127 := a_ (bsg hg HB.out); have GE127 := a_ (bsg hg HB.out); replace HB := a_ (below_step (un HB.out) hb); clear hb hbox hg; have hcz8_0 : _ = some (Value.float .f64 a0_0) := (blk_cell BK127.out 0).trans rfl; have hcz8_1 : _ = some (Value.float .f64 a0_1) := (blk_cell BK127.out 1).trans rfl; have hfz8_0 := blk_frozen BK127.out 0; have hfz8_1 := blk_frozen BK127.out 1) | ((with_reducible refine gate_callee (f := 33) rfl ?_); refine goesL_ (some 5) rfl rfl Try.func33 (by kernel_rfl) rfl #[.float .f64 a0_0] rfl (by (try simp only [lA, lB, lC]); first | done | rfl | (simp only [lD, lE]; rfl)) ?_; (with_reducible refine (spec_l2Finite.calls a0_0 false _ A2.out).mono ?_); rintro e w' ⟨rfl, ⟨nd, rfl⟩⟩; refine ⟨_, rfl, ?_⟩))
  go_ret
  exact ⟨by first | rfl | (simp [errW_none, errW_some] <;> rfl) | (simp [*, errW_none, errW_some] <;> rfl), by repeat (with_reducible first | exact HB.out | refine bz ?_ (by assumption) | apply bA | apply bN | apply bD)⟩

/-! ### spec_l3Div: function 35 -/
section
open Go.Proofs.Ytlfejohlehkbgaa.Flo (Rt Rp Rq Rd Sp Vt mRe mIm dRe dIm den denBad al toldS)
attribute [local go_sem] go_tadd go_tsub go_tmul go_tquo
set_option maxHeartbeats 8000000 in
set_option maxRecDepth 100000 in
theorem spec_l3Div.rel (a0_0 : Nat) (a0_1 : Nat) (a1_0 : Nat) (a1_1 : Nat) (w : World) (hD : Flo.denBad (Flo.den (al a1_0) (al a1_1)) = false) :
  Calls Try.prog 35 #[.agg #[.float .f64 a0_0, .float .f64 a0_1], .agg #[.float .f64 a1_0, .float .f64 a1_1]] w fun e w' => ∃ r1 r2, Sp (dRe (al a0_0) (al a0_1) (al a1_0) (al a1_1)) (dIm (al a0_0) (al a0_1) (al a1_0) (al a1_1)) r1 r2 ∧ e = .returned (.agg #[.float .f64 r1, .float .f64 r2]) ∧ Below w.heap.size w w' := by
 have hu42 := Try.underlying42
 have HB := a_ (Below.refl w.heap.size w)
 go_enter Try.func35, Try.ntmps35
 go_wp2_with (first | ((with_reducible refine gate_dst (N := 2) rfl ?_); refine box_event ?hg (N := 2) ?hd (cs := #[.float .f64 a0_0, .float .f64 a0_1]) (t := 42) ?hr ?_; (case hd => rfl); (case hg => rfl); (case hr => first | (go_simp; done) | (go_simp; rfl)); intro gb130 hg w14 hbox hb; have BK130 := a_ (hbox); have GW130 := a_ (bsg hg HB.out); have GE130 := a_ (bsg hg HB.out); replace HB := a_ (below_step (un HB.out) hb); clear hb hbox hg) | ((with_reducible refine gate_dst (N := 3) rfl ?_); refine box_event ?hg (N := 3) ?hd (cs := #[.float .f64 a1_0, .float .f64 a1_1]) (t := 42) ?hr ?_; (case hd => rfl); (case hg => rfl); (case hr => first | (go_simp; done) | (go_simp; rfl)); intro gb131 hg w15 hbox hb; have BK131 := a_ (hbox); have GW131 := a_ (bsg hg HB.out); have GE131 := a_ (bsg hg HB.out); replace HB := a_ (below_step (by repeat (with_reducible first | exact HB.out | refine bz ?_ (by assumption) | apply bA | apply bN | apply bD)) hb); have NB130_131 := a_ (nel hg BK130.out); have NB131_130 := a_ (nle hg BK130.out); replace BK130 := a_ (blk_below (pk BK130.out) hb); clear hb hbox hg) | ((with_reducible refine gate_dst (N := 4) rfl ?_); refine box_event ?hg (N := 4) ?hd (cs := #[.float .f64 (0 : Nat), .float .f64 (0 : Nat)]) (t := 42) ?hr ?_; (case hd => rfl); (case hg => rfl); (case hr => first | (go_simp; done) | (go_simp; rfl)); intro gb132 hg w16 hbox hb; have BK132 := a_ (hbox); have GW132 := a_ (bsg hg HB.out); have GE132 := a_ (bsg hg HB.out); replace HB := a_ (below_step (by repeat (with_reducible first | exact HB.out | refine bz ?_ (by assumption) | apply bA | apply bN | apply bD)) hb); have NB130_132 := a_ (nel hg BK130.out); have NB132_130 := a_ (nle hg BK130.out); replace BK130 := a_ (blk_below (pk BK130.out) hb); have NB131_132 := a_ (nel hg BK131.out); have NB132_131 := a_ (nle hg BK131.out); replace BK131 := a_ (blk_below (pk BK131.out) hb); clear hb hbox hg; have hnb17 := NB131_130.out; have hnc17 := NB130_131.out; have hnb18 := NB131_132.out; have hnc18 := NB132_131.out; have hcz19_0 : _ = some (Value.float .f64 a1_0) := (blk_cell BK131.out 0).trans rfl; have hcz19_1 : _ = some (Value.float .f64 a1_1) := (blk_cell BK131.out 1).trans rfl; have hfz19_0 := blk_frozen BK131.out 0; have hfz19_1 := blk_frozen BK131.out 1; have hnb20 := NB130_132.out; have hnc20 := NB132_130.out; have hcz21_0 : _ = some (Value.float .f64 a0_0) := (blk_cell BK130.out 0).trans rfl; have hcz21_1 : _ = some (Value.float .f64 a0_1) := (blk_cell BK130.out 1).trans rfl; have hfz21_0 := blk_frozen BK130.out 0; have hfz21_1 := blk_frozen BK130.out 1; have hcz22_0 : _ = some (Value.float .f64 (0 : Nat)) := (blk_cell BK132.out 0).trans rfl; have hcz22_1 : _ = some (Value.float .f64 (0 : Nat)) := (blk_cell BK132.out 1).trans rfl; have hfz22_0 := blk_frozen BK132.out 0; have hfz22_1 := blk_frozen BK132.out 1))
 have V1 := Flo.vt_mul a1_0 a1_0 w16
 generalize flw .mul a1_0 a1_0 w16 = v1 at V1 ⊢
 have V2 := Flo.vt_mul a1_1 a1_1 (w16.drewN (fln .mul a1_0 a1_0))
 generalize flw .mul a1_1 a1_1 (w16.drewN (fln .mul a1_0 a1_0)) = v2 at V2 ⊢
 have V3 := Flo.vt_add v1 v2 (w16.drewN (fln .mul a1_0 a1_0 + fln .mul a1_1 a1_1))
 generalize flw .add v1 v2 (w16.drewN (fln .mul a1_0 a1_0 + fln .mul a1_1 a1_1)) = v3 at V3 ⊢
 have V4 := Flo.vt_mul a0_0 a1_0 (w16.drewN (fln .mul a1_0 a1_0 + fln .mul a1_1 a1_1 + fln .add v1 v2))
 generalize flw .mul a0_0 a1_0 (w16.drewN (fln .mul a1_0 a1_0 + fln .mul a1_1 a1_1 + fln .add v1 v2)) = v4 at V4 ⊢
 have V5 := Flo.vt_mul a0_1 a1_1 (w16.drewN (fln .mul a1_0 a1_0 + fln .mul a1_1 a1_1 + fln .add v1 v2 + fln .mul a0_0 a1_0))
 generalize flw .mul a0_1 a1_1 (w16.drewN (fln .mul a1_0 a1_0 + fln .mul a1_1 a1_1 + fln .add v1 v2 + fln .mul a0_0 a1_0)) = v5 at V5 ⊢
 have V6 := Flo.vt_add v4 v5 (w16.drewN (fln .mul a1_0 a1_0 + fln .mul a1_1 a1_1 + fln .add v1 v2 + fln .mul a0_0 a1_0 + fln .mul a0_1 a1_1))
 generalize flw .add v4 v5 (w16.drewN (fln .mul a1_0 a1_0 + fln .mul a1_1 a1_1 + fln .add v1 v2 + fln .mul a0_0 a1_0 + fln .mul a0_1 a1_1)) = v6 at V6 ⊢
 have V7 := Flo.vt_mul a0_1 a1_0 (w16.drewN (fln .mul a1_0 a1_0 + fln .mul a1_1 a1_1 + fln .add v1 v2 + fln .mul a0_0 a1_0 + fln .mul a0_1 a1_1 + fln .add v4 v5))
 generalize flw .mul a0_1 a1_0 (w16.drewN (fln .mul a1_0 a1_0 + fln .mul a1_1 a1_1 + fln .add v1 v2 + fln .mul a0_0 a1_0 + fln .mul a0_1 a1_1 + fln .add v4 v5)) = v7 at V7 ⊢
 have V8 := Flo.vt_mul a0_0 a1_1 (w16.drewN (fln .mul a1_0 a1_0 + fln .mul a1_1 a1_1 + fln .add v1 v2 + fln .mul a0_0 a1_0 + fln .mul a0_1 a1_1 + fln .add v4 v5 + fln .mul a0_1 a1_0))
 generalize flw .mul a0_0 a1_1 (w16.drewN (fln .mul a1_0 a1_0 + fln .mul a1_1 a1_1 + fln .add v1 v2 + fln .mul a0_0 a1_0 + fln .mul a0_1 a1_1 + fln .add v4 v5 + fln .mul a0_1 a1_0)) = v8 at V8 ⊢
 have V9 := Flo.vt_sub v7 v8 (w16.drewN (fln .mul a1_0 a1_0 + fln .mul a1_1 a1_1 + fln .add v1 v2 + fln .mul a0_0 a1_0 + fln .mul a0_1 a1_1 + fln .add v4 v5 + fln .mul a0_1 a1_0 + fln .mul a0_0 a1_1))
 generalize flw .sub v7 v8 (w16.drewN (fln .mul a1_0 a1_0 + fln .mul a1_1 a1_1 + fln .add v1 v2 + fln .mul a0_0 a1_0 + fln .mul a0_1 a1_1 + fln .add v4 v5 + fln .mul a0_1 a1_0 + fln .mul a0_0 a1_1)) = v9 at V9 ⊢
 generalize V10 : flw .quo v6 v3 (w16.drewN (fln .mul a1_0 a1_0 + fln .mul a1_1 a1_1 + fln .add v1 v2 + fln .mul a0_0 a1_0 + fln .mul a0_1 a1_1 + fln .add v4 v5 + fln .mul a0_1 a1_0 + fln .mul a0_0 a1_1 + fln .sub v7 v8)) = v10
 generalize V11 : flw .quo v9 v3 (w16.drewN (fln .mul a1_0 a1_0 + fln .mul a1_1 a1_1 + fln .add v1 v2 + fln .mul a0_0 a1_0 + fln .mul a0_1 a1_1 + fln .add v4 v5 + fln .mul a0_1 a1_0 + fln .mul a0_0 a1_1 + fln .sub v7 v8 + fln .quo v6 v3)) = v11
 refine bodyPost_ret (results_cell_row rfl _ _ gb132 42 #[.float .f64 v10, .float .f64 v11] (0, 0) _ rfl (by refine pk ?_; refine blk_put (cs := #[.float .f64 v10, .float .f64 (0 : Nat)]) ?_ 1 _ rfl; refine pk ?_; refine blk_put (cs := #[.float .f64 (0 : Nat), .float .f64 (0 : Nat)]) ?_ 0 _ rfl; refine pk ?_; exact BK132.out) Try.underlying42 rfl (by kernel_rfl)) rfl ?_
 exact ⟨_, _, Flo.sp_div hD V1 V2 V3 V4 V5 V6 V7 V8 V9 V10 V11, by first | rfl | (simp [errW_none, errW_some] <;> rfl) | (simp [*, errW_none, errW_some] <;> rfl), by repeat (with_reducible first | exact HB.out | refine bz ?_ (by assumption) | apply bA | apply bN | apply bD)⟩
end

/-! ### spec_l2Plain: function 49 -/
def spec_l2Plain.f (a0 : Nat) : Option (Nat) := if (FloatKind.f64.format.order a0 (0 : Nat) == some Ordering.eq) = true then (some (0 : Nat)) else (some a0)
set_option maxHeartbeats 8000000 in
set_option maxRecDepth 100000 in
theorem spec_l2Plain.calls (a0 : Nat) (r : Nat) (w : World) (h : spec_l2Plain.f a0 = some r) :
  Calls Try.prog 49 #[.float .f64 a0] w fun e w' => e = .returned (.float .f64 r) ∧ Drawn0 w w' := by
 have H : (if (FloatKind.f64.format.order a0 (0 : Nat) == some Ordering.eq) = true then (some (0 : Nat)) else (some a0)) = some r := h
 clear h
 by_cases c2 : (FloatKind.f64.format.order a0 (0 : Nat) == some Ordering.eq) = true
 ·rw [if_pos c2] at H
  have c2b0 : (FloatKind.f64.format.order a0 (0 : Nat) == some Ordering.eq) = true := c2
  (try (have c2b1 : decide (FloatKind.f64.format.order a0 (0 : Nat) = some Ordering.eq) = true := by simpa using c2))
  (try (have c2b2 : (FloatKind.f64.format.order a0 (0 : Nat) == some Ordering.eq) = true := by simpa using c2))
  clear c2
  obtain rfl := Option.some.inj H
  go_enter Try.func49, Try.ntmps49
  go_wp2
  go_ret
  exact ⟨by first | rfl | (simp; done) | (simp [*]; done), by repeat (first | exact Drawn0.refl _ | apply Drawn0.step)⟩
 ·rw [if_neg c2] at H
  have c2b0 : (FloatKind.f64.format.order a0 (0 : Nat) == some Ordering.eq) = false := by simpa using c2
  (try (have c2b1 : decide (FloatKind.f64.format.order a0 (0 : Nat) = some Ordering.eq) = false := by simpa using c2))
  (try (have c2b2 : (FloatKind.f64.format.order a0 (0 : Nat) == some Ordering.eq) = false := by simpa using c2))
  (try (have c2b3 : ¬ (FloatKind.f64.format.order a0 (0 : Nat) = some Ordering.eq) := by simpa using c2))
  clear c2
  obtain rfl := Option.some.inj H
  go_enter Try.func49, Try.ntmps49
  go_wp2
  go_ret
  exact ⟨by first | rfl | (simp; done) | (simp [*]; done), by repeat (first | exact Drawn0.refl _ | apply Drawn0.step)⟩

/-! ### spec_l3Told: function 36 -/
def spec_l3Told.j0 : Nat → Bool → Nat → Nat → Option (Nat × Nat × Bool)
 | 0, _, _, _ => none
 | k + 1, x13, x134000, x134001 => if x13 = true then (some ((0 : Nat), (0 : Nat), false)) else ((spec_l2Plain.f x134000).bind fun t137 => ((spec_l2Plain.f x134001).bind fun t138 => (some (t137, t138, true))))
def spec_l3Told.f (k : Nat) (a0_0 : Nat) (a0_1 : Nat) : Option (Nat × Nat × Bool) := (spec_l2Finite.f a0_0).bind fun t135 => (if t135 = true then ((spec_l2Finite.f a0_1).bind fun t136 => (spec_l3Told.j0 k (!t136) a0_0 a0_1)) else (spec_l3Told.j0 k true a0_0 a0_1))
theorem spec_l3Told.mono_l : ∀ k, (∀ y0 y1 y2, LeO (spec_l3Told.j0 k y0 y1 y2) (spec_l3Told.j0 (k + 1) y0 y1 y2))
 | 0 => fun _ _ _ r h => by simp [spec_l3Told.j0] at h
 | k + 1 => by
  have ih0 := spec_l3Told.mono_l k
  ·intro y0 y1 y2
   unfold spec_l3Told.j0
   repeat' first
   | (with_reducible exact ih0 _ _ _)
   | (with_reducible exact LeO.refl _)
   | (with_reducible exact LeO.none _)
   | (with_reducible refine LeO.ite ?_ ?_)
   | (with_reducible refine LeO.bind ?_ (fun _ => ?_))
   | exact ih0 _ _ _
   | exact LeO.none _
   | refine LeO.ite ?_ ?_
   | refine LeO.bind ?_ (fun _ => ?_)
theorem spec_l3Told.mono : ∀ a0 a1 k, LeO (spec_l3Told.f k a0 a1) (spec_l3Told.f (k + 1) a0 a1) := by
 intro a0 a1 k
 have ih0 := spec_l3Told.mono_l k
 unfold spec_l3Told.f
 repeat' first
   | (with_reducible exact ih0 _ _ _)
   | (with_reducible exact LeO.refl _)
   | (with_reducible exact LeO.none _)
   | (with_reducible refine LeO.ite ?_ ?_)
   | (with_reducible refine LeO.bind ?_ (fun _ => ?_))
   | exact ih0 _ _ _
   | exact LeO.none _
   | refine LeO.ite ?_ ?_
   | refine LeO.bind ?_ (fun _ => ?_)
def spec_l3Told.T3 : Bool × List (List Nat × List Nat) := (true, [([], []), ([0], [0]), ([1], [1]), ([], []), ([3], [3]), ([4, 2], [4]), ([2, 5], [2, 5]), ([6, 5, 0, 1, 2, 3, 4, 5, 6], [6]), ([7, 0, 1, 2, 3, 4, 5, 6, 7], [])])
def spec_l3Told.B3 : List Nat := [0, 1, 3, 0, 8, 31, 63, 127, 255]
theorem spec_l3Told.tab3 : rtab .any (opsOf Try.f36 3) = spec_l3Told.T3 := by kernel_rfl
theorem spec_l3Told.bits3 : waitsOk spec_l3Told.T3.2 spec_l3Told.B3 = true := by kernel_rfl
set_option maxHeartbeats 8000000 in
set_option maxRecDepth 100000 in
theorem spec_l3Told.calls (k : Nat) (a0_0 : Nat) (a0_1 : Nat) (r1 : Nat) (r2 : Nat) (r3 : Bool) (w : World) (h : spec_l3Told.f k a0_0 a0_1 = some (r1, r2, r3)) :
  Calls Try.prog 36 #[.agg #[.float .f64 a0_0, .float .f64 a0_1]] w fun e w' => e = .returned (.tuple #[.agg #[.float .f64 r1, .float .f64 r2], .bool r3]) ∧ Below w.heap.size w w' := by
 have hu42 := Try.underlying42
 have HB := a_ (Below.refl w.heap.size w)
 have H : ((spec_l2Finite.f a0_0).bind fun t135 => (if t135 = true then ((spec_l2Finite.f a0_1).bind fun t136 => (spec_l3Told.j0 k (!t136) a0_0 a0_1)) else (spec_l3Told.j0 k true a0_0 a0_1))) = some (r1, r2, r3) := h
 clear h
 have HC2 := Aside0.mk H
 clear H
 go_enter Try.func36, Try.ntmps36
 go_upto_region 1 with (first | ((with_reducible refine gate_dst (N := 1) rfl ?_); refine box_event ?hg (N := 1) ?hd (cs := #[.float .f64 a0_0, .float .f64 a0_1]) (t := 42) ?hr ?_; (case hd => rfl); (case hg => rfl); (case hr => first | (go_simp; done) | (go_simp; rfl)); intro gb133 hg w3 hbox hb; have BK133 := a_ (hbox); have GW133 := a_ (bsg hg HB.out); have GE133 := a_ (bsg hg HB.out); replace HB := a_ (below_step (un HB.out) hb); clear hb hbox hg) | ((with_reducible refine gate_dst (N := 2) rfl ?_); refine box_event ?hg (N := 2) ?hd (cs := #[.float .f64 (0 : Nat), .float .f64 (0 : Nat)]) (t := 42) ?hr ?_; (case hd => rfl); (case hg => rfl); (case hr => first | (go_simp; done) | (go_simp; rfl)); intro gb134 hg w4 hbox hb; have BK134 := a_ (hbox); have GW134 := a_ (bsg hg HB.out); have GE134 := a_ (bsg hg HB.out); replace HB := a_ (below_step (by repeat (with_reducible first | exact HB.out | refine bz ?_ (by assumption) | apply bA | apply bN | apply bD)) hb); have NB133_134 := a_ (nel hg BK133.out); have NB134_133 := a_ (nle hg BK133.out); replace BK133 := a_ (blk_below (pk BK133.out) hb); clear hb hbox hg))
 (try simp only [Act.put, sB, sC, sD])
 go_cut [13] (fun v13 wc => ∃ (kq : Nat) (x13_1 : Bool), v13 = .bool x13_1 ∧ Aside0 (spec_l3Told.j0 kq x13_1 a0_0 a0_1 = some (r1, r2, r3)) ∧ Aside0 (kq ≤ k) ∧ Aside0 (wc.heap[gb133]? = some (.cells #[.float .f64 a0_0, .float .f64 a0_1] 42 (0, 0))) ∧ Aside0 (wc.heap[gb134]? = some (.cells #[.float .f64 (0 : Nat), .float .f64 (0 : Nat)] 42 (0, 0))) ∧ Aside0 (Below w.heap.size w wc))
 case first =>
  have H := HC2.out
  clear HC2
  replace H := Option.bind_eq_some_iff.mp H
  obtain ⟨t135, A50, H⟩ := H
  replace H : (if t135 = true then ((spec_l2Finite.f a0_1).bind fun t136 => (spec_l3Told.j0 k (!t136) a0_0 a0_1)) else (spec_l3Told.j0 k true a0_0 a0_1)) = some (r1, r2, r3) := H
  have A5 := Aside0.mk A50
  clear A50
  by_cases c6 : t135 = true
  ·subst c6
   have H1 : ((spec_l2Finite.f a0_1).bind fun t136 => (spec_l3Told.j0 k (!t136) a0_0 a0_1)) = some (r1, r2, r3) := by rw [if_pos rfl] at H; exact H
   clear H
   have H := H1
   clear H1
   replace H := Option.bind_eq_some_iff.mp H
   obtain ⟨t136, A70, H⟩ := H
   replace H : (spec_l3Told.j0 k (!t136) a0_0 a0_1) = some (r1, r2, r3) := H
   have A7 := Aside0.mk A70
   clear A70
   have H' := Aside0.mk H
   clear H
   have hnb8 := NB133_134.out
   have hnc8 := NB134_133.out
   have hcz9_0 : _ = some (Value.float .f64 a0_0) := (blk_cell BK133.out 0).trans rfl
   have hcz9_1 : _ = some (Value.float .f64 a0_1) := (blk_cell BK133.out 1).trans rfl
   have hfz9_0 := blk_frozen BK133.out 0
   have hfz9_1 := blk_frozen BK133.out 1
   go_wp2_with (first | ((with_reducible refine gate_callee (f := 33) rfl ?_); refine goesL_ (some 6) rfl rfl Try.func33 (by kernel_rfl) rfl #[.float .f64 a0_0] rfl (by (try simp only [lA, lB, lC]); first | done | rfl | (simp only [lD, lE]; rfl)) ?_; (with_reducible refine (spec_l2Finite.calls a0_0 true _ A5.out).mono ?_); rintro e w' ⟨rfl, ⟨nd, rfl⟩⟩; refine ⟨_, rfl, ?_⟩) | (go_at_call 33; (with_reducible refine (spec_l2Finite.calls a0_1 t136 _ A7.out).mono ?_); rintro e w' ⟨rfl, ⟨nd, rfl⟩⟩))
   go_meet
   case rel => exact ⟨_, (!t136), (by first | rfl | (simp; done) | (simp [*]; done)), H', ⟨by first | omega | exact Nat.le_refl _⟩, ⟨pk BK133.out⟩, ⟨pk BK134.out⟩, ⟨by repeat (with_reducible first | exact HB.out | refine bz ?_ (by assumption) | apply bA | apply bN | apply bD)⟩⟩
  ·replace c6 := Bool.eq_false_iff.mpr c6
   subst c6
   have H1 : (spec_l3Told.j0 k true a0_0 a0_1) = some (r1, r2, r3) := by rw [if_neg (show ¬ (false = true) by decide)] at H; exact H
   clear H
   have H := H1
   clear H1
   have H' := Aside0.mk H
   clear H
   have hnb10 := NB133_134.out
   have hnc10 := NB134_133.out
   have hcz11_0 : _ = some (Value.float .f64 a0_0) := (blk_cell BK133.out 0).trans rfl
   have hcz11_1 : _ = some (Value.float .f64 a0_1) := (blk_cell BK133.out 1).trans rfl
   have hfz11_0 := blk_frozen BK133.out 0
   have hfz11_1 := blk_frozen BK133.out 1
   go_wp2_with (first | ((with_reducible refine gate_callee (f := 33) rfl ?_); refine goesL_ (some 6) rfl rfl Try.func33 (by kernel_rfl) rfl #[.float .f64 a0_0] rfl (by (try simp only [lA, lB, lC]); first | done | rfl | (simp only [lD, lE]; rfl)) ?_; (with_reducible refine (spec_l2Finite.calls a0_0 false _ A5.out).mono ?_); rintro e w' ⟨rfl, ⟨nd, rfl⟩⟩; refine ⟨_, rfl, ?_⟩))
   go_meet
   case rel => exact ⟨_, (true), (by first | rfl | (simp; done) | (simp [*]; done)), H', ⟨by first | omega | exact Nat.le_refl _⟩, ⟨pk BK133.out⟩, ⟨pk BK134.out⟩, ⟨by repeat (with_reducible first | exact HB.out | refine bz ?_ (by assumption) | apply bA | apply bN | apply bD)⟩⟩
 case rest =>
  clear HC2
  try clear c1; try clear p2; try clear c3; try clear c6; try clear c8; try clear c10; try clear hcz11_0; try clear hcz11_1; try clear hcz9_0; try clear hcz9_1; try clear hfz11_0; try clear hfz11_1; try clear hfz9_0; try clear hfz9_1
  obtain ⟨kq, x13_1, rfl, HA, HJ1, BK133, BK134, HB⟩ := hcut
  cases kq with
  | zero => exact absurd HA.out (by simp [spec_l3Told.j0])
  | succ kj1 =>
   have H := HA.out
   clear HA
   simp only [spec_l3Told.j0] at H
   by_cases c12 : x13_1 = true
   ·subst c12
    have H1 : (some ((0 : Nat), (0 : Nat), false)) = some (r1, r2, r3) := by rw [if_pos rfl] at H; exact H
    clear H
    have H := H1
    clear H1
    simp only [Option.some.injEq, Prod.mk.injEq] at H
    obtain ⟨rfl, rfl, rfl⟩ := H
    have hnb13 := NB134_133.out
    have hnc13 := NB133_134.out
    have hcz14_0 : wc.cell? ⟨gb134, 0, none⟩ = some (.float .f64 (0 : Nat)) := (blk_cell BK134.out 0).trans rfl
    have hcz14_1 : wc.cell? ⟨gb134, 1, none⟩ = some (.float .f64 (0 : Nat)) := (blk_cell BK134.out 1).trans rfl
    have hfz14_0 := blk_frozen BK134.out 0
    have hfz14_1 := blk_frozen BK134.out 1
    go_wp2
    refine bodyPost_ret (results_ct rfl _ _ gb134 42 #[.float .f64 (0 : Nat), .float .f64 (0 : Nat)] (0, 0) _ rfl (by refine pk ?_; refine blk_put (cs := #[.float .f64 (0 : Nat), .float .f64 (0 : Nat)]) ?_ 1 _ rfl; refine pk ?_; refine blk_put (cs := #[.float .f64 (0 : Nat), .float .f64 (0 : Nat)]) ?_ 0 _ rfl; refine pk ?_; exact BK134.out) Try.underlying42 rfl (by kernel_rfl)) rfl ?_
    exact ⟨by first | rfl | (simp [errW_none, errW_some] <;> rfl) | (simp [*, errW_none, errW_some] <;> rfl), by repeat (with_reducible first | exact HB.out | refine bz ?_ (by assumption) | apply bA | apply bN | apply bD)⟩
   ·replace c12 := Bool.eq_false_iff.mpr c12
    subst c12
    have H1 : ((spec_l2Plain.f a0_0).bind fun t137 => ((spec_l2Plain.f a0_1).bind fun t138 => (some (t137, t138, true)))) = some (r1, r2, r3) := by rw [if_neg (show ¬ (false = true) by decide)] at H; exact H
    clear H
    have H := H1
    clear H1
    replace H := Option.bind_eq_some_iff.mp H
    obtain ⟨t137, A150, H⟩ := H
    replace H : ((spec_l2Plain.f a0_1).bind fun t138 => (some (t137, t138, true))) = some (r1, r2, r3) := H
    have A15 := Aside0.mk A150
    clear A150
    replace H := Option.bind_eq_some_iff.mp H
    obtain ⟨t138, A160, H⟩ := H
    replace H : (some (t137, t138, true)) = some (r1, r2, r3) := H
    have A16 := Aside0.mk A160
    clear A160
    simp only [Option.some.injEq, Prod.mk.injEq] at H
    obtain ⟨rfl, rfl, rfl⟩ := H
    try go_wp2
    replace BK133 := a_ (blk_drew BK133.out)
    replace BK134 := a_ (blk_drew BK134.out)
    replace HB := a_ (below_drew1 HB.out)
    refine start_ (n := 9) (S := fun w' => w'.cell? ⟨gb133, 0, none⟩ = some (.float .f64 a0_0) ∧ w'.cell? ⟨gb133, 1, none⟩ = some (.float .f64 a0_1)) (ds := []) #[false, false, false, false, false, false, false, false, false] (by kernel_rfl) rfl rfl ⟨(blk_cell BK133.out 0).trans rfl, (blk_cell BK133.out 1).trans rfl⟩ (fun hHeld => ?_); refine with_tabW spec_l3Told.tab3 spec_l3Told.bits3 (fun HT_ HW_ => ?_)
    generalize wc.drew = w17 at BK133 BK134 HB hHeld ⊢
    refine pure_ (i := 0) (N := some 15) (v := ?_) (a' := ?_) #[true, false, false, false, false, false, false, false, false] rfl rfl (any_of HT_.out (by kernel_rfl)) (fun _ _ _ h => h) (Or.inl ⟨by rfl, ?_⟩) ?_ ?_
    rotate_left
    ·intro w'
     go_simp
     with_reducible rfl
    rotate_left
    ·simp only [Act.put, sB, sC, sD, i64_w, i32_w]
     rfl
    refine pure_ (i := 3) (N := some 18) (v := ?_) (a' := ?_) #[true, false, false, true, false, false, false, false, false] rfl rfl (any_of HT_.out (by kernel_rfl)) (fun _ _ _ h => h) (Or.inl ⟨by rfl, ?_⟩) ?_ ?_
    rotate_left
    ·intro w'
     go_simp
     with_reducible rfl
    rotate_left
    ·simp only [Act.put, sB, sC, sD, i64_w, i32_w]
     rfl
    refine take_ (i := 1) (N := some 16) (v := ?_) (a' := ?_) #[true, true, false, true, false, false, false, false, false] rfl rfl (take_ofW HT_.out HW_.out (by kernel_rfl)) (fun _ _ _ h => h) (Or.inl ⟨by rfl, ?_⟩) hHeld ?_ ?_
    rotate_left
    ·rintro w' ⟨s0, s1⟩
     go_simp
     with_reducible rfl
    rotate_left
    ·simp only [Act.put, sB, sC, sD, i64_w, i32_w]
     rfl
    refine take_ (i := 4) (N := some 19) (v := ?_) (a' := ?_) #[true, true, false, true, true, false, false, false, false] rfl rfl (take_ofW HT_.out HW_.out (by kernel_rfl)) (fun _ _ _ h => h) (Or.inl ⟨by rfl, ?_⟩) hHeld ?_ ?_
    rotate_left
    ·rintro w' ⟨s0, s1⟩
     go_simp
     with_reducible rfl
    rotate_left
    ·simp only [Act.put, sB, sC, sD, i64_w, i32_w]
     rfl
    refine one_ (i := 2) (N := some 17) #[true, true, true, true, true, false, false, false, false] rfl rfl (one_of HT_.out (by kernel_rfl)) (by decide) (fun K hK => ?_)
    refine goes_ Try.func49 (by kernel_rfl) rfl #[.float .f64 a0_0] (by rfl) rfl rfl (by (try simp only [lA, lB, lC]); first | done | rfl | (simp only [lD, lE]; rfl)) ?_
    with_reducible refine (spec_l2Plain.calls a0_0 t137 _ A15.out).mono ?_
    rintro e w' ⟨rfl, ⟨nd, rfl⟩⟩
    refine ⟨_, rfl, ?_⟩
    refine hK.out _ _ ⟨(blk_cell BK133.out 0).trans rfl, (blk_cell BK133.out 1).trans rfl⟩ (fun hHeld => ?_)
    clear hK K
    refine norm_ (a' := ?_) ?_ ?_
    rotate_left
    ·show Act.put _ (some 17) _ = _
     simp only [Act.put, sB, sC, sD, i64_w, i32_w]
     rfl
    refine one_ (i := 5) (N := some 20) #[true, true, true, true, true, true, false, false, false] rfl rfl (one_of HT_.out (by kernel_rfl)) (by decide) (fun K hK => ?_)
    refine goes_ Try.func49 (by kernel_rfl) rfl #[.float .f64 a0_1] (by rfl) rfl rfl (by (try simp only [lA, lB, lC]); first | done | rfl | (simp only [lD, lE]; rfl)) ?_
    with_reducible refine (spec_l2Plain.calls a0_1 t138 _ A16.out).mono ?_
    rintro e w' ⟨rfl, ⟨nd, rfl⟩⟩
    refine ⟨_, rfl, ?_⟩
    refine hK.out _ _ ⟨(blk_cell BK133.out 0).trans rfl, (blk_cell BK133.out 1).trans rfl⟩ (fun hHeld => ?_)
    clear hK K
    refine norm_ (a' := ?_) ?_ ?_
    rotate_left
    ·show Act.put _ (some 20) _ = _
     simp only [Act.put, sB, sC, sD, i64_w, i32_w]
     rfl
    refine pure_ (i := 6) (N := some 21) (v := ?_) (a' := ?_) #[true, true, true, true, true, true, true, false, false] rfl rfl (any_of HT_.out (by kernel_rfl)) (fun _ _ _ h => h) (Or.inl ⟨by rfl, ?_⟩) ?_ ?_
    rotate_left
    ·intro w'
     go_simp
     with_reducible rfl
    rotate_left
    ·simp only [Act.put, sB, sC, sD, i64_w, i32_w]
     rfl
    refine one_ (i := 7) (N := none) #[true, true, true, true, true, true, true, true, false] rfl rfl (one_of HT_.out (by kernel_rfl)) (by decide) (fun K hK => ?_)
    have hs18 : w17.cell? ⟨gb134, 0, none⟩ = some (.float .f64 (0 : Nat)) := (blk_cell BK134.out 0).trans rfl
    have hfs18 := blk_frozen BK134.out 0
    have hns18_0 := NB133_134.out
    have hms18_0 := NB134_133.out
    have hs19 : w17.cell? ⟨gb134, 1, none⟩ = some (.float .f64 (0 : Nat)) := (blk_cell BK134.out 1).trans rfl
    have hfs19 := blk_frozen BK134.out 1
    have hns19_0 := NB133_134.out
    have hms19_0 := NB134_133.out
    refine skip_ (w1 := ?_) ?_ ?_ ?_ ?_
    rotate_left
    ·rfl
    ·rfl
    ·go_simp
     rfl
    refine hK.out _ _ ⟨((cell_far (p := ⟨gb134, _, none⟩) NB133_134.out _).trans (((cell_far (p := ⟨gb134, _, none⟩) NB133_134.out _).trans (hHeld.1)))), ((cell_far (p := ⟨gb134, _, none⟩) NB133_134.out _).trans (((cell_far (p := ⟨gb134, _, none⟩) NB133_134.out _).trans (hHeld.2))))⟩ (fun hHeld => ?_)
    clear hK K
    refine pure_ (i := 8) (N := some 3) (v := ?_) (a' := ?_) #[true, true, true, true, true, true, true, true, true] rfl rfl (any_of HT_.out (by kernel_rfl)) (fun _ _ _ h => h) (Or.inl ⟨by rfl, ?_⟩) ?_ ?_
    rotate_left
    ·intro w'
     go_simp
     with_reducible rfl
    rotate_left
    ·simp only [Act.put, sB, sC, sD, i64_w, i32_w]
     rfl
    refine done_ (done_of HT_.out (by kernel_rfl)) ?_
    try go_wp2
    refine bodyPost_ret (results_ct rfl _ _ gb134 42 #[.float .f64 t137, .float .f64 t138] (0, 0) _ rfl (by refine pk ?_; refine blk_put (cs := #[.float .f64 t137, .float .f64 (0 : Nat)]) ?_ 1 _ rfl; refine pk ?_; refine blk_put (cs := #[.float .f64 (0 : Nat), .float .f64 (0 : Nat)]) ?_ 0 _ rfl; refine pk ?_; exact BK134.out) Try.underlying42 rfl (by kernel_rfl)) rfl ?_
    exact ⟨by first | rfl | (simp [errW_none, errW_some] <;> rfl) | (simp [*, errW_none, errW_some] <;> rfl), by repeat (with_reducible first | exact HB.out | refine bz ?_ (by assumption) | apply bA | apply bN | apply bD)⟩
theorem R_isInfS (a : Nat) (h : a < 18446744073709551616) : math_IsInf.f a 0 = some (Flo.F.order (Flo.rung a) 9218868437227405311 == some .gt) := by
 unfold math_IsInf.f
 rw [if_pos rfl]
 show some (FloatKind.f64.format.order (Go.bits .andNot .u64 (a : Int) 9223372036854775808 : Int).toNat (9218868437227405311 : Nat) == some Ordering.gt) = _
 rw [Flo.abs_word a h]
theorem R_l2Finite (a : Nat) (h : a < 18446744073709551616) : spec_l2Finite.f a = some (Flo.fin a) := by
 unfold spec_l2Finite.f
 show (some (Flo.isN a)).bind _ = _
 rw [Option.bind_some]
 cases e : Flo.isN a
 ·rw [if_neg (by decide), R_isInfS a h, Option.bind_some]
  cases e' : Flo.fin a
  ·rw [Flo.gt_inf e' e]; rfl
  ·rw [Flo.gt_fin e']; rfl
 ·rw [if_pos rfl]
  cases e' : Flo.fin a
  ·rfl
  ·rw [Flo.isN_fin e'] at e; cases e
theorem R_l2Plain (a : Nat) : spec_l2Plain.f a = some (Flo.plus a) := by
 unfold spec_l2Plain.f
 have e0 : (FloatKind.f64.format.order a (0 : Nat) == some Ordering.eq) = decide (Flo.rung a = 0) := Flo.order_zero a
 rw [e0]
 unfold Flo.plus
 by_cases z : Flo.rung a = 0
 ·rw [if_pos (by simpa using z), if_pos z]
 ·rw [if_neg (by simpa using z), if_neg z]
theorem R_told {X Y : Option Nat} {r1 r2 t1 t2 : Nat} {t3 : Bool} (h : Flo.Sp X Y r1 r2) (hT : Flo.toldS X Y = (t1, t2, t3)) : spec_l3Told.f 1 r1 r2 = some (t1, t2, t3) := by
 have e := Flo.sp_told h
 rw [hT] at e
 rw [e]
 unfold spec_l3Told.f
 rw [R_l2Finite _ h.w1, Option.bind_some]
 cases Flo.fin r1
 ·rw [if_neg (by decide), if_neg (by decide)]; simp [spec_l3Told.j0]
 ·rw [if_pos rfl, if_pos rfl, R_l2Finite _ h.w2, Option.bind_some]
  cases Flo.fin r2
  ·rw [if_neg (by decide)]; simp [spec_l3Told.j0]
  ·rw [if_pos rfl]; simp [spec_l3Told.j0, R_l2Plain]

end Go.Proofs.Ytlfejohlehkbgaa.PFnExactRootStep
