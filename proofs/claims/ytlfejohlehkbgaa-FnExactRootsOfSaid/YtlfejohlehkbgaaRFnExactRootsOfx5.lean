-- Written by a program of this session out of the loaded functions' print; helper lemmas as print.sh lays them.
import Derived.Test.YtlfejohlehkbgaaUp2
import Derived.Test.YtlfejohlehkbgaaUp
import Derived.Test.YtlfejohlehkbgaaRel
import Derived.Test.YtlfejohlehkbgaaRFnExactRootsOfx0
import Derived.Test.YtlfejohlehkbgaaRFnExactRootsOfx3
import Derived.Test.YtlfejohlehkbgaaRFnExactRootsOfx4
namespace Go.Proofs.Ytlfejohlehkbgaa.PFnExactRootsOf
open Go.RowKit Go.Proofs.YtlfejohlehkbgaaW.PrintWords Go.Proofs.YtlfejohlehkbgaaW.PrintLast Go.Proofs.YtlfejohlehkbgaaW.PrintMore
attribute [local go_sem] max2_int min2_int max_two min_two max_three min_three max_four min_four go_fstore go_fneg go_fadd go_fsub go_fmul go_fquo go_fmax go_fmin go_fconv go_bits go_frombits  -- for this text's walks alone
set_option linter.unusedVariables false
set_option linter.unusedSimpArgs false

/-! ### spec_l3Step: function 19 -/
theorem R_l3Finite {Z0 Z1 : Option Nat} {x y : Nat} {t : Bool} (h : Flo.Sp Z0 Z1 x y) (ht : some (Z0.isSome && Z1.isSome) = some t) : spec_l3Finite.f x y = some t := by
 have e0 : Z0.isSome = Flo.fin x := by rw [← h.al1]; unfold Flo.al; cases Flo.fin x <;> rfl
 have e1 : Z1.isSome = Flo.fin y := by rw [← h.al2]; unfold Flo.al; cases Flo.fin y <;> rfl
 rw [← ht, e0, e1]
 unfold spec_l3Finite.f
 rw [R_l2Finite _ h.w1, Option.bind_some]
 cases Flo.fin x
 ·rfl
 ·rw [if_pos rfl, R_l2Finite _ h.w2]; rfl
theorem hD_of {b0 b1 : Nat} (c1 : (floatBits .mul .f64 b0 b0).isSome = true) (c2 : (floatBits .mul .f64 b1 b1).isSome = true) (c3 : (floatBits .add .f64 (fl2 .mul b0 b0) (fl2 .mul b1 b1)).isSome = true)
  (c4 : (FloatKind.f64.format.order (fl2 .add (fl2 .mul b0 b0) (fl2 .mul b1 b1)) (0 : Nat) == some Ordering.eq) = false) (h : spec_l2Finite.f (fl2 .add (fl2 .mul b0 b0) (fl2 .mul b1 b1)) = some true) :
  Flo.denBad (Flo.den (Flo.al b0) (Flo.al b1)) = false := by
 have v3 := Flo.vt_fl (.inl rfl) c3
 rw [Flo.den_of (Flo.vt_fl (.inr (.inr rfl)) c1) (Flo.vt_fl (.inr (.inr rfl)) c2) v3, Flo.denBad_fin c4]
 rw [R_l2Finite _ v3.wd] at h
 rw [Option.some.inj h]; rfl
section
open Go.Proofs.Ytlfejohlehkbgaa.Flo (Rt Rp Rq Rd Sp Vt mRe mIm dRe dIm den denBad al toldS opS)
mutual
def spec_l3Step.l0 : Nat → List Nat → List (S42) → Int → Int → Option (Bool × (List (S42)))
 | 0, _, _, _, _ => none
 | k + 1, x0, x1, x13, x14 => if x14 < x13 then (if 0 ≤ x14 then (if x14 < (x1.length : Int) then ((Flo.hornS k x0 (wrap64 ((x0.length : Int) - 1)) (al ((rd_T42 x1 x14).f0)) (al ((rd_T42 x1 x14).f1)) (some 0) (some 0)).bind fun bt140 => (spec_l3Step.l1 k x0 x1 x14 x13 x14 (x1.length : Int) 0 bt140.1 bt140.2)) else (none)) else (none)) else (some (true, x1))
def spec_l3Step.l1 : Nat → List Nat → List (S42) → Int → Int → Int → Int → Int → Option Nat → Option Nat → Option (Bool × (List (S42)))
 | 0, _, _, _, _, _, _, _, _, _ => none
 | k + 1, x0, x1, x5, x13, x14, x24, x25, x143000, x143001 => if x25 < x24 then (if x25 = x5 then (spec_l3Step.l1 k x0 x1 x5 x13 x14 x24 (wrap64 (x25 + 1)) x143000 x143001) else (if 0 ≤ x5 then (if x5 < (x1.length : Int) then (if 0 ≤ x25 then (if x25 < (x1.length : Int) then (if (floatBits .sub .f64 ((rd_T42 x1 x5).f0) ((rd_T42 x1 x25).f0)).isSome = true then (if (floatBits .sub .f64 ((rd_T42 x1 x5).f1) ((rd_T42 x1 x25).f1)).isSome = true then (if (floatBits .mul .f64 (fl2 .sub ((rd_T42 x1 x5).f0) ((rd_T42 x1 x25).f0)) (fl2 .sub ((rd_T42 x1 x5).f0) ((rd_T42 x1 x25).f0))).isSome = true then (if (floatBits .mul .f64 (fl2 .sub ((rd_T42 x1 x5).f1) ((rd_T42 x1 x25).f1)) (fl2 .sub ((rd_T42 x1 x5).f1) ((rd_T42 x1 x25).f1))).isSome = true then (if (floatBits .add .f64 (fl2 .mul (fl2 .sub ((rd_T42 x1 x5).f0) ((rd_T42 x1 x25).f0)) (fl2 .sub ((rd_T42 x1 x5).f0) ((rd_T42 x1 x25).f0))) (fl2 .mul (fl2 .sub ((rd_T42 x1 x5).f1) ((rd_T42 x1 x25).f1)) (fl2 .sub ((rd_T42 x1 x5).f1) ((rd_T42 x1 x25).f1)))).isSome = true then (if (FloatKind.f64.format.order (fl2 .add (fl2 .mul (fl2 .sub ((rd_T42 x1 x5).f0) ((rd_T42 x1 x25).f0)) (fl2 .sub ((rd_T42 x1 x5).f0) ((rd_T42 x1 x25).f0))) (fl2 .mul (fl2 .sub ((rd_T42 x1 x5).f1) ((rd_T42 x1 x25).f1)) (fl2 .sub ((rd_T42 x1 x5).f1) ((rd_T42 x1 x25).f1)))) (0 : Nat) == some Ordering.eq) = true then (some (false, x1)) else ((spec_l2Finite.f (fl2 .add (fl2 .mul (fl2 .sub ((rd_T42 x1 x5).f0) ((rd_T42 x1 x25).f0)) (fl2 .sub ((rd_T42 x1 x5).f0) ((rd_T42 x1 x25).f0))) (fl2 .mul (fl2 .sub ((rd_T42 x1 x5).f1) ((rd_T42 x1 x25).f1)) (fl2 .sub ((rd_T42 x1 x5).f1) ((rd_T42 x1 x25).f1))))).bind fun t155 => (if t155 = true then ((some (x143000.isSome && x143001.isSome)).bind fun t156 => (if t156 = true then ((some (dRe x143000 x143001 (al (fl2 .sub ((rd_T42 x1 x5).f0) ((rd_T42 x1 x25).f0))) (al (fl2 .sub ((rd_T42 x1 x5).f1) ((rd_T42 x1 x25).f1))), dIm x143000 x143001 (al (fl2 .sub ((rd_T42 x1 x5).f0) ((rd_T42 x1 x25).f0))) (al (fl2 .sub ((rd_T42 x1 x5).f1) ((rd_T42 x1 x25).f1))))).bind fun bt157 => (spec_l3Step.l1 k x0 x1 x5 x13 x14 x24 (wrap64 (x25 + 1)) bt157.1 bt157.2)) else (some (false, x1)))) else (some (false, x1))))) else (none)) else (none)) else (none)) else (none)) else (none)) else (none)) else (none)) else (none)) else (none))) else (if 0 ≤ x5 then (if x5 < (x1.length : Int) then ((some (toldS (opS .sub (al ((rd_T42 x1 x5).f0)) x143000) (opS .sub (al ((rd_T42 x1 x5).f1)) x143001))).bind fun bt145 => (if bt145.2.2 = true then (spec_l3Step.l0 k x0 (x1.set (x5 : Int).toNat (⟨bt145.1, bt145.2.1⟩ : S42)) x13 (wrap64 (x14 + 1))) else (some (false, x1)))) else (none)) else (none))
end
def spec_l3Step.f (k : Nat) (l0 : List Nat) (l1 : List (S42)) : Option (Bool × (List (S42))) := spec_l3Step.l0 k l0 l1 (l1.length : Int) 0
theorem spec_l3Step.mono_l : ∀ k, (∀ y0 y1 y2 y3, LeO (spec_l3Step.l0 k y0 y1 y2 y3) (spec_l3Step.l0 (k + 1) y0 y1 y2 y3)) ∧ (∀ y0 y1 y2 y3 y4 y5 y6 y7 y8, LeO (spec_l3Step.l1 k y0 y1 y2 y3 y4 y5 y6 y7 y8) (spec_l3Step.l1 (k + 1) y0 y1 y2 y3 y4 y5 y6 y7 y8))
 | 0 => ⟨fun _ _ _ _ r h => by simp [spec_l3Step.l0] at h, fun _ _ _ _ _ _ _ _ _ r h => by simp [spec_l3Step.l1] at h⟩
 | k + 1 => by
  obtain ⟨ih0, ih1⟩ := spec_l3Step.mono_l k
  refine ⟨?_, ?_⟩
  ·intro y0 y1 y2 y3
   unfold spec_l3Step.l0
   repeat' first
   | (with_reducible exact ih0 _ _ _ _)
   | (with_reducible exact ih1 _ _ _ _ _ _ _ _ _)
   | (with_reducible exact fun r h => Flo.hornS_mono _ _ _ _ _ _ _ r h)
   | (with_reducible exact LeO.refl _)
   | (with_reducible exact LeO.none _)
   | (with_reducible refine LeO.ite ?_ ?_)
   | (with_reducible refine LeO.bind ?_ (fun _ => ?_))
   | exact ih0 _ _ _ _
   | exact ih1 _ _ _ _ _ _ _ _ _
   | exact fun r h => Flo.hornS_mono _ _ _ _ _ _ _ r h
   | exact LeO.none _
   | refine LeO.ite ?_ ?_
   | refine LeO.bind ?_ (fun _ => ?_)
  ·intro y0 y1 y2 y3 y4 y5 y6 y7 y8
   unfold spec_l3Step.l1
   repeat' first
   | (with_reducible exact ih0 _ _ _ _)
   | (with_reducible exact ih1 _ _ _ _ _ _ _ _ _)
   | (with_reducible exact fun r h => Flo.hornS_mono _ _ _ _ _ _ _ r h)
   | (with_reducible exact LeO.refl _)
   | (with_reducible exact LeO.none _)
   | (with_reducible refine LeO.ite ?_ ?_)
   | (with_reducible refine LeO.bind ?_ (fun _ => ?_))
   | exact ih0 _ _ _ _
   | exact ih1 _ _ _ _ _ _ _ _ _
   | exact fun r h => Flo.hornS_mono _ _ _ _ _ _ _ r h
   | exact LeO.none _
   | refine LeO.ite ?_ ?_
   | refine LeO.bind ?_ (fun _ => ?_)
theorem spec_l3Step.mono : ∀ a0 a1 k, LeO (spec_l3Step.f k a0 a1) (spec_l3Step.f (k + 1) a0 a1) := by
 intro a0 a1 k
 obtain ⟨ih0, ih1⟩ := spec_l3Step.mono_l k
 unfold spec_l3Step.f
 repeat' first
   | (with_reducible exact ih0 _ _ _ _)
   | (with_reducible exact ih1 _ _ _ _ _ _ _ _ _)
   | (with_reducible exact fun r h => Flo.hornS_mono _ _ _ _ _ _ _ r h)
   | (with_reducible exact LeO.refl _)
   | (with_reducible exact LeO.none _)
   | (with_reducible refine LeO.ite ?_ ?_)
   | (with_reducible refine LeO.bind ?_ (fun _ => ?_))
   | exact ih0 _ _ _ _
   | exact ih1 _ _ _ _ _ _ _ _ _
   | exact fun r h => Flo.hornS_mono _ _ _ _ _ _ _ r h
   | exact LeO.none _
   | refine LeO.ite ?_ ?_
   | refine LeO.bind ?_ (fun _ => ?_)
def spec_l3Step.T9 : Bool × List (List Nat × List Nat) := (true, [([], []), ([], []), ([0, 1], [0, 1]), ([2], [2]), ([3], [3]), ([], []), ([], []), ([5, 6], [5, 6]), ([7], [7]), ([8], [8]), ([4, 9], [4, 9]), ([], []), ([], []), ([11, 12], [11, 12]), ([13], [13]), ([14], [14]), ([], []), ([], []), ([16, 17], [16, 17]), ([18], [18]), ([19], [19]), ([15, 20], [15, 20]), ([10, 21], [10, 21]), ([], []), ([23, 22, 0, 1, 2, 3, 4, 5, 6, 7, 8, 9, 10, 11, 12, 13, 14, 15, 16, 17, 18, 19, 20, 21, 22, 23], [22, 23])])
def spec_l3Step.B9 : List Nat := [0, 0, 3, 7, 15, 0, 0, 96, 224, 480, 1023, 0, 0, 6144, 14336, 30720, 0, 0, 196608, 458752, 983040, 2095104, 4194303, 0, 16777215]
theorem spec_l3Step.tab9 : rtab .any (opsOf Try.f19 9) = spec_l3Step.T9 := by kernel_rfl
theorem spec_l3Step.bits9 : waitsOk spec_l3Step.T9.2 spec_l3Step.B9 = true := by kernel_rfl
def spec_l3Step.T15 : Bool × List (List Nat × List Nat) := (true, [([], []), ([], []), ([0, 1], [0, 1]), ([2], [2]), ([3], [3]), ([], []), ([5], [5]), ([4, 6], [4, 6]), ([], []), ([], []), ([8, 9], [8, 9]), ([10], [10]), ([11], [11]), ([], []), ([13], [13]), ([12, 14], [12, 14]), ([7, 15], [7, 15]), ([16], [16]), ([17], [17]), ([18], [18]), ([18], [18]), ([], []), ([21, 19, 17, 0, 1, 2, 3, 4, 5, 6, 7, 8, 9, 10, 11, 12, 13, 14, 15, 16, 17, 18, 19, 21], [19, 21]), ([20, 22, 0, 1, 2, 3, 4, 5, 6, 7, 8, 9, 10, 11, 12, 13, 14, 15, 16, 17, 18, 19, 20, 21, 22], [20])])
def spec_l3Step.B15 : List Nat := [0, 0, 3, 7, 15, 0, 32, 127, 0, 0, 768, 1792, 3840, 0, 8192, 32512, 65535, 131071, 262143, 524287, 524287, 0, 3145727, 8388607]
theorem spec_l3Step.tab15 : rtab .any (opsOf Try.f19 15) = spec_l3Step.T15 := by kernel_rfl
theorem spec_l3Step.bits15 : waitsOk spec_l3Step.T15.2 spec_l3Step.B15 = true := by kernel_rfl
set_option maxHeartbeats 8000000 in
set_option maxRecDepth 100000 in
theorem spec_l3Step.calls (k : Nat) (A0 : Option Addr) (c0 : Nat) (l0 : List Nat) (P1_ : Nat → Prop) (u9000_ : Value) (l1 : List (S42)) (r1 : Bool) (r2 : List (S42)) (w0 w : World) (hB : Below w0.heap.size w0 w) (hr0 : ∀ W_, Kept w W_ (fun k_ => P1_ k_) → Kd.C Kd.flt W_ A0 l0.length l0) (hc0 : l0.length ≤ c0) (ho1 : Kd.R k42 42 w w0.heap.size P1_ u9000_ l1) (h : spec_l3Step.f k l0 l1 = some (r1, r2)) :
  Calls Try.prog 19 #[.slice A0 l0.length c0, u9000_] w fun e w' => e = .returned (.bool r1) ∧ Kd.R k42 42 w' w0.heap.size (fun k_ => (P1_ k_ ∨ w.heap.size ≤ k_)) u9000_ r2 ∧ Below w0.heap.size w0 w' ∧ Kept w w' (fun k_ => P1_ k_) := by
 have hu42 := Try.underlying42
 have HR0 := Aside0.mk hr0
 have HC0 := Aside0.mk hc0
 clear hr0 hc0
 have m0 := a_ (show Kd.R k42 42 w w0.heap.size (fun k_ => (P1_ k_ ∨ w.heap.size ≤ k_)) u9000_ l1 from Kd.R_mono ho1 (fun k_ hk => (.inl hk)))
 have HK := a_ (Kept.refl w (fun k_ => P1_ k_))
 have HW0 := Aside0.mk hB.size
 have HB := Aside0.mk hB
 clear hB
 have H : (spec_l3Step.l0 k l0 l1 (l1.length : Int) 0) = some (r1, r2) := h
 clear h
 have H' := Aside0.mk H
 clear H
 obtain ⟨p0, d8, p3⟩ := Kd.R_slice m0.out
 subst p3
 go_enter Try.func19, Try.ntmps19
 go_wp2
 go_loopg [14] k (fun kq v14 w' => ∃ (x1_1 : List (S42)) (x14_1 : Int), v14 = .int .i64 x14_1 ∧ Aside0 (spec_l3Step.l0 kq l0 x1_1 (l1.length : Int) x14_1 = some (r1, r2)) ∧ Aside0 (kq ≤ k) ∧ Aside0 (Kd.R k42 42 w' w0.heap.size (fun k_ => (P1_ k_ ∨ w.heap.size ≤ k_)) (.slice p0 l1.length d8) x1_1) ∧ Aside0 (Kept w w' (fun k_ => P1_ k_)) ∧ Aside0 (Below w0.heap.size w0 w'))
 case atStart => exact ⟨(l1), (0), (by first | rfl | (simp; done) | (simp [*]; done)), H', ⟨Nat.le_refl _⟩, ⟨rk (m0.out)⟩, ⟨by repeat (first | (with_reducible first | exact HK.out | apply Kept.alloc | apply Kept.drewN | apply Kept.drew) | exact HK.out)⟩, ⟨un HB.out⟩⟩
 case round =>
  clear H'
  try clear c1; try clear p2
  obtain ⟨x1_1, x14_1, rfl, HA, HK1, a3, HK, HB⟩ := hrel
  have c8 := (Kd.R_reads' a3.out).1
  rw [c8] at a3
  (try simp only [c8])
  cases gk with
  | zero => exact absurd HA.out (by simp [spec_l3Step.l0])
  | succ k1 =>
   have H := HA.out
   clear HA
   simp only [spec_l3Step.l0] at H
   by_cases c4 : x14_1 < (l1.length : Int)
   ·rw [if_pos c4] at H
    have e3 : decide (x14_1 < (l1.length : Int)) = true := decide_eq_true c4
    clear c4
    by_cases c5 : 0 ≤ x14_1
    ·rw [if_pos c5] at H
     have l7 : decide (0 ≤ x14_1) = true := decide_eq_true c5
     clear c5
     by_cases c6 : x14_1 < (x1_1.length : Int)
     ·rw [if_pos c6] at H
      have l8 : decide (x14_1 < (x1_1.length : Int)) = true := decide_eq_true c6
      clear c6
      replace H := Option.bind_eq_some_iff.mp H
      obtain ⟨⟨T140, T141⟩, m1, H⟩ := H
      replace H : (spec_l3Step.l1 k1 l0 x1_1 x14_1 (l1.length : Int) x14_1 (x1_1.length : Int) 0 T140 T141) = some (r1, r2) := H
      have A7 := Aside0.mk m1
      clear m1
      have H' := Aside0.mk H
      clear H
      have p139 : 0 ≤ (x14_1 : Int) := of_decide_eq_true (by first | (with_reducible assumption) | assumption)
      have q139 : x14_1 < (x1_1.length : Int) := of_decide_eq_true (by first | (with_reducible assumption) | assumption)
      obtain ⟨ad139, e139, hx139_0, hx139_1⟩ := at_T42 (Kd.R_reads' a3.out).2.2 x14_1 p139 q139
      cases e139
      replace p139 := eq_true p139
      replace q139 := eq_true q139
      go_wp2_with (first | ((with_reducible refine gate_callee (f := 32) rfl ?_); refine goesL_ (some 22) rfl rfl Try.func32 (by kernel_rfl) rfl #[.slice A0 l0.length c0, .agg #[.float .f64 ((rd_T42 x1_1 x14_1).f0), .float .f64 ((rd_T42 x1_1 x14_1).f1)]] rfl (by (try simp only [lA, lB, lC]); first | done | rfl | (simp only [lD, lE]; rfl)) ?_; (with_reducible refine (spec_l3At.rel k1 _ _ l0 ((rd_T42 x1_1 x14_1).f0) ((rd_T42 x1_1 x14_1).f1) T140 T141 _ ?side1 ?side2 A7.out).mono ?_); (case side1 => exact Kd.C_kept_now HR0.out (by repeat (first | (with_reducible first | exact HK.out | apply Kept.alloc | apply Kept.drewN | apply Kept.drew) | exact HK.out))); (case side2 => exact HC0.out); rintro e w8 ⟨e9, f5, S140, rfl, hb⟩; refine ⟨_, rfl, ?_⟩; replace a3 := a_ (Kd.R_below (rk a3.out) hb); replace HK := a_ (Kept.below (S := (fun k_ => P1_ k_)) (by repeat (first | (with_reducible first | exact HK.out | apply Kept.alloc | apply Kept.drewN | apply Kept.drew) | exact HK.out)) hb); replace HB := a_ (below_step (un HB.out) hb); clear hb) | ((with_reducible refine gate_dst (N := 6) rfl ?_); refine box_event ?hg (N := 6) ?hd (cs := #[.float .f64 (0 : Nat), .float .f64 (0 : Nat)]) (t := 42) ?hr ?_; (case hd => rfl); (case hg => rfl); (case hr => first | (go_simp; done) | (go_simp; rfl)); intro a9 hg w9 hbox hb; replace a3 := a_ (Kd.R_below (Kd.R_elderB (rk a3.out) a9 (Nat.le_of_eq hg.symm)) hb); have a4 := a_ (hbox); have b2 := a_ (by rw [hg]; exact (by first | exact HK.out.1 | exact (show Kept w _ (fun k_ => P1_ k_) from by repeat (first | (with_reducible first | exact HK.out | apply Kept.alloc | apply Kept.drewN | apply Kept.drew) | exact HK.out)).1) : w.heap.size ≤ a9); replace HK := a_ (Kept.below (S := (fun k_ => P1_ k_)) (by repeat (first | (with_reducible first | exact HK.out | apply Kept.alloc | apply Kept.drewN | apply Kept.drew) | exact HK.out)) hb); have d6 := a_ (by rw [hg]; exact (bs HB.out) : w0.heap.size ≤ a9); replace HB := a_ (below_step (un HB.out) hb); clear hb hbox hg; have e4 : _ = some (Value.float .f64 (0 : Nat)) := (blk_cell a4.out 0).trans rfl; have e5 : _ = some (Value.float .f64 (0 : Nat)) := (blk_cell a4.out 1).trans rfl; have e6 := blk_frozen a4.out 0; have e7 := blk_frozen a4.out 1))
      go_loopg [25] k1 (fun kq v25 w' => ∃ (x25_2 : Int) (Z0 : Option Nat) (Z1 : Option Nat) (x143000_2 : Nat) (x143001_2 : Nat), v25 = .int .i64 x25_2 ∧ Aside0 (spec_l3Step.l1 kq l0 x1_1 x14_1 (l1.length : Int) x14_1 (x1_1.length : Int) x25_2 Z0 Z1 = some (r1, r2)) ∧ Aside0 (kq ≤ k1) ∧ Aside0 (Sp Z0 Z1 x143000_2 x143001_2) ∧ Aside0 (Kd.R k42 42 w' w0.heap.size (fun k_ => (P1_ k_ ∨ w.heap.size ≤ k_) ∧ k_ ≠ a9) (.slice (some ad139) x1_1.length d8) x1_1) ∧ Aside0 (w'.heap[a9]? = some (.cells #[.float .f64 x143000_2, .float .f64 x143001_2] 42 (0, 0))) ∧ Aside0 (Kept w w' (fun k_ => P1_ k_)) ∧ Aside0 (Below w0.heap.size w0 w'))
      case atStart => exact ⟨(0), (T140), (T141), (e9), (f5), (by first | rfl | (simp; done) | (simp [*]; done)), H', ⟨Nat.le_refl _⟩, ⟨S140⟩, ⟨by (try simp only [c8]); refine rk ?_; exact Kd.R_mono (Kd.R_far (p := ⟨a9, 1, none⟩) (Kd.R_far (p := ⟨a9, 0, none⟩) (Kd.R_mono a3.out (fun k_ hk => (⟨hk, hk.2⟩ : _ ∧ k_ ≠ a9))) (fun _ hk => hk.2) (.float .f64 e9)) (fun _ hk => hk.2) (.float .f64 f5)) (fun _ hk => hk.1)⟩, ⟨by (try simp only [c8]); refine pk ?_; refine blk_put (cs := #[.float .f64 e9, .float .f64 (0 : Nat)]) ?_ 1 _ rfl; refine pk ?_; refine blk_put (cs := #[.float .f64 (0 : Nat), .float .f64 (0 : Nat)]) ?_ 0 _ rfl; refine pk ?_; exact a4.out⟩, ⟨by repeat (first | (with_reducible first | exact HK.out | apply Kept.alloc | apply Kept.drewN | apply Kept.drew | refine Kept.setCell ?_ (.inr b2.out) _) | exact HK.out)⟩, ⟨by repeat (with_reducible first | exact HB.out | refine bz ?_ (by assumption) | apply bA | apply bN | apply bD)⟩⟩
      case round =>
       clear H'
       try clear c1; try clear p1; try clear q1; try clear hx1; try clear p2; try clear c3; try clear c4; try clear e3; try clear c5; try clear l7; try clear c6; try clear l8; try clear e4; try clear e5; try clear e6; try clear e7; try clear hx139_0; try clear hx139_1; try clear p139; try clear p2; try clear q139
       obtain ⟨x25_2, Z0, Z1, x143000_2, x143001_2, rfl, HA, HK2, HS, a3, a4, HK, HB⟩ := hrel
       cases gk with
       | zero => exact absurd HA.out (by simp [spec_l3Step.l1])
       | succ k2 =>
        have H := HA.out
        clear HA
        simp only [spec_l3Step.l1] at H
        by_cases c11 : x25_2 < (x1_1.length : Int)
        ·rw [if_pos c11] at H
         have f6 : decide (x25_2 < (x1_1.length : Int)) = true := decide_eq_true c11
         clear c11
         by_cases c12 : x25_2 = x14_1
         ·rw [if_pos c12] at H
          have f7 : (x25_2 == x14_1) = true := beq_iff_eq.mpr c12
          have f8 : (x25_2 != x14_1) = false := bne_eq_false_iff_eq.mpr c12
          clear c12
          have H' := Aside0.mk H
          clear H
          go_wp2
          go_roundg k2
          case measure => have := HK1.out; have := HK2.out; omega
          case rel => exact ⟨(wrap64 (x25_2 + 1)), (Z0), (Z1), (x143000_2), (x143001_2), (by first | rfl | (simp; done) | (simp [*]; done)), H', ⟨by have := HK1.out; have := HK2.out; omega⟩, HS, ⟨by (try simp only [c8]); refine rk ?_; exact a3.out⟩, ⟨by (try simp only [c8]); refine pk ?_; exact a4.out⟩, ⟨by repeat (first | (with_reducible first | exact HK.out | apply Kept.alloc | apply Kept.drewN | apply Kept.drew | refine Kept.setCell ?_ (.inr b2.out) _) | exact HK.out)⟩, ⟨by repeat (with_reducible first | exact HB.out | refine bz ?_ (by assumption) | apply bA | apply bN | apply bD)⟩⟩
         ·rw [if_neg c12] at H
          have f7 : (x25_2 == x14_1) = false := beq_eq_false_iff_ne.mpr c12
          have f8 : (x25_2 != x14_1) = true := bne_iff_ne.mpr c12
          by_cases c13 : 0 ≤ x14_1
          ·rw [if_pos c13] at H
           have m2 : decide (0 ≤ x14_1) = true := decide_eq_true c13
           clear c13
           by_cases c14 : x14_1 < (x1_1.length : Int)
           ·rw [if_pos c14] at H
            have m3 : decide (x14_1 < (x1_1.length : Int)) = true := decide_eq_true c14
            clear c14
            by_cases c15 : 0 ≤ x25_2
            ·rw [if_pos c15] at H
             have m4 : decide (0 ≤ x25_2) = true := decide_eq_true c15
             clear c15
             by_cases c16 : x25_2 < (x1_1.length : Int)
             ·rw [if_pos c16] at H
              have m5 : decide (x25_2 < (x1_1.length : Int)) = true := decide_eq_true c16
              clear c16
              by_cases c17 : (floatBits .sub .f64 ((rd_T42 x1_1 x14_1).f0) ((rd_T42 x1_1 x25_2).f0)).isSome = true
              ·rw [if_pos c17] at H
               have m6 : (floatBits .sub .f64 ((rd_T42 x1_1 x14_1).f0) ((rd_T42 x1_1 x25_2).f0)).isSome = true := c17
               clear c17
               by_cases c18 : (floatBits .sub .f64 ((rd_T42 x1_1 x14_1).f1) ((rd_T42 x1_1 x25_2).f1)).isSome = true
               ·rw [if_pos c18] at H
                have m7 : (floatBits .sub .f64 ((rd_T42 x1_1 x14_1).f1) ((rd_T42 x1_1 x25_2).f1)).isSome = true := c18
                clear c18
                by_cases c19 : (floatBits .mul .f64 (fl2 .sub ((rd_T42 x1_1 x14_1).f0) ((rd_T42 x1_1 x25_2).f0)) (fl2 .sub ((rd_T42 x1_1 x14_1).f0) ((rd_T42 x1_1 x25_2).f0))).isSome = true
                ·rw [if_pos c19] at H
                 have f9 : (floatBits .mul .f64 (fl2 .sub ((rd_T42 x1_1 x14_1).f0) ((rd_T42 x1_1 x25_2).f0)) (fl2 .sub ((rd_T42 x1_1 x14_1).f0) ((rd_T42 x1_1 x25_2).f0))).isSome = true := c19
                 clear c19
                 by_cases c20 : (floatBits .mul .f64 (fl2 .sub ((rd_T42 x1_1 x14_1).f1) ((rd_T42 x1_1 x25_2).f1)) (fl2 .sub ((rd_T42 x1_1 x14_1).f1) ((rd_T42 x1_1 x25_2).f1))).isSome = true
                 ·rw [if_pos c20] at H
                  have g0 : (floatBits .mul .f64 (fl2 .sub ((rd_T42 x1_1 x14_1).f1) ((rd_T42 x1_1 x25_2).f1)) (fl2 .sub ((rd_T42 x1_1 x14_1).f1) ((rd_T42 x1_1 x25_2).f1))).isSome = true := c20
                  clear c20
                  by_cases c21 : (floatBits .add .f64 (fl2 .mul (fl2 .sub ((rd_T42 x1_1 x14_1).f0) ((rd_T42 x1_1 x25_2).f0)) (fl2 .sub ((rd_T42 x1_1 x14_1).f0) ((rd_T42 x1_1 x25_2).f0))) (fl2 .mul (fl2 .sub ((rd_T42 x1_1 x14_1).f1) ((rd_T42 x1_1 x25_2).f1)) (fl2 .sub ((rd_T42 x1_1 x14_1).f1) ((rd_T42 x1_1 x25_2).f1)))).isSome = true
                  ·rw [if_pos c21] at H
                   have g1 : (floatBits .add .f64 (fl2 .mul (fl2 .sub ((rd_T42 x1_1 x14_1).f0) ((rd_T42 x1_1 x25_2).f0)) (fl2 .sub ((rd_T42 x1_1 x14_1).f0) ((rd_T42 x1_1 x25_2).f0))) (fl2 .mul (fl2 .sub ((rd_T42 x1_1 x14_1).f1) ((rd_T42 x1_1 x25_2).f1)) (fl2 .sub ((rd_T42 x1_1 x14_1).f1) ((rd_T42 x1_1 x25_2).f1)))).isSome = true := c21
                   clear c21
                   by_cases c22 : (FloatKind.f64.format.order (fl2 .add (fl2 .mul (fl2 .sub ((rd_T42 x1_1 x14_1).f0) ((rd_T42 x1_1 x25_2).f0)) (fl2 .sub ((rd_T42 x1_1 x14_1).f0) ((rd_T42 x1_1 x25_2).f0))) (fl2 .mul (fl2 .sub ((rd_T42 x1_1 x14_1).f1) ((rd_T42 x1_1 x25_2).f1)) (fl2 .sub ((rd_T42 x1_1 x14_1).f1) ((rd_T42 x1_1 x25_2).f1)))) (0 : Nat) == some Ordering.eq) = true
                   ·rw [if_pos c22] at H
                    have e8 : (FloatKind.f64.format.order (fl2 .add (fl2 .mul (fl2 .sub ((rd_T42 x1_1 x14_1).f0) ((rd_T42 x1_1 x25_2).f0)) (fl2 .sub ((rd_T42 x1_1 x14_1).f0) ((rd_T42 x1_1 x25_2).f0))) (fl2 .mul (fl2 .sub ((rd_T42 x1_1 x14_1).f1) ((rd_T42 x1_1 x25_2).f1)) (fl2 .sub ((rd_T42 x1_1 x14_1).f1) ((rd_T42 x1_1 x25_2).f1)))) (0 : Nat) == some Ordering.eq) = true := c22
                    (try (have g2 : decide (FloatKind.f64.format.order (fl2 .add (fl2 .mul (fl2 .sub ((rd_T42 x1_1 x14_1).f0) ((rd_T42 x1_1 x25_2).f0)) (fl2 .sub ((rd_T42 x1_1 x14_1).f0) ((rd_T42 x1_1 x25_2).f0))) (fl2 .mul (fl2 .sub ((rd_T42 x1_1 x14_1).f1) ((rd_T42 x1_1 x25_2).f1)) (fl2 .sub ((rd_T42 x1_1 x14_1).f1) ((rd_T42 x1_1 x25_2).f1)))) (0 : Nat) = some Ordering.eq) = true := by simpa using c22))
                    (try (have g3 : (FloatKind.f64.format.order (fl2 .add (fl2 .mul (fl2 .sub ((rd_T42 x1_1 x14_1).f0) ((rd_T42 x1_1 x25_2).f0)) (fl2 .sub ((rd_T42 x1_1 x14_1).f0) ((rd_T42 x1_1 x25_2).f0))) (fl2 .mul (fl2 .sub ((rd_T42 x1_1 x14_1).f1) ((rd_T42 x1_1 x25_2).f1)) (fl2 .sub ((rd_T42 x1_1 x14_1).f1) ((rd_T42 x1_1 x25_2).f1)))) (0 : Nat) == some Ordering.eq) = true := by simpa using c22))
                    clear c22
                    simp only [Option.some.injEq, Prod.mk.injEq] at H
                    obtain ⟨rfl, rfl⟩ := H
                    try go_wp2
                    replace a3 := a_ (Kd.R_drew a3.out)
                    replace a4 := a_ (blk_drew a4.out)
                    replace HK := a_ (Kept.drew HK.out)
                    replace HB := a_ (below_drew1 HB.out)
                    have p150 : 0 ≤ (x14_1 : Int) := of_decide_eq_true (by first | (with_reducible assumption) | assumption)
                    have q150 : x14_1 < (x1_1.length : Int) := of_decide_eq_true (by first | (with_reducible assumption) | assumption)
                    obtain ⟨ad150, e150, hx150_0, hx150_1⟩ := at_T42 (Kd.R_reads' a3.out).2.2 x14_1 p150 q150
                    obtain rfl : ad139 = ad150 := (by injection e150)
                    replace p150 := eq_true p150
                    replace q150 := eq_true q150
                    have p151 : 0 ≤ (x25_2 : Int) := of_decide_eq_true (by first | (with_reducible assumption) | assumption)
                    have q151 : x25_2 < (x1_1.length : Int) := of_decide_eq_true (by first | (with_reducible assumption) | assumption)
                    obtain ⟨ad151, e151, hx151_0, hx151_1⟩ := at_T42 (Kd.R_reads' a3.out).2.2 x25_2 p151 q151
                    obtain rfl : ad139 = ad151 := (by injection e151)
                    replace p151 := eq_true p151
                    replace q151 := eq_true q151
                    have p152 : 0 ≤ (x14_1 : Int) := of_decide_eq_true (by first | (with_reducible assumption) | assumption)
                    have q152 : x14_1 < (x1_1.length : Int) := of_decide_eq_true (by first | (with_reducible assumption) | assumption)
                    obtain ⟨ad152, e152, hx152_0, hx152_1⟩ := at_T42 (Kd.R_reads' a3.out).2.2 x14_1 p152 q152
                    obtain rfl : ad139 = ad152 := (by injection e152)
                    replace p152 := eq_true p152
                    replace q152 := eq_true q152
                    have p153 : 0 ≤ (x25_2 : Int) := of_decide_eq_true (by first | (with_reducible assumption) | assumption)
                    have q153 : x25_2 < (x1_1.length : Int) := of_decide_eq_true (by first | (with_reducible assumption) | assumption)
                    obtain ⟨ad153, e153, hx153_0, hx153_1⟩ := at_T42 (Kd.R_reads' a3.out).2.2 x25_2 p153 q153
                    obtain rfl : ad139 = ad153 := (by injection e153)
                    replace p153 := eq_true p153
                    replace q153 := eq_true q153
                    refine start_ (n := 25) (S := fun w' => w'.cell? (ad139.add ((x14_1).toNat * 2)) = some (.float .f64 ((rd_T42 x1_1 x14_1).f0)) ∧ w'.cell? ⟨(ad139.add ((x14_1).toNat * 2)).block, (ad139.add ((x14_1).toNat * 2)).off + 1, none⟩ = some (.float .f64 ((rd_T42 x1_1 x14_1).f1)) ∧ w'.cell? (ad139.add ((x25_2).toNat * 2)) = some (.float .f64 ((rd_T42 x1_1 x25_2).f0)) ∧ w'.cell? ⟨(ad139.add ((x25_2).toNat * 2)).block, (ad139.add ((x25_2).toNat * 2)).off + 1, none⟩ = some (.float .f64 ((rd_T42 x1_1 x25_2).f1)) ∧ w'.cell? (ad139.add ((x14_1).toNat * 2)) = some (.float .f64 ((rd_T42 x1_1 x14_1).f0)) ∧ w'.cell? ⟨(ad139.add ((x14_1).toNat * 2)).block, (ad139.add ((x14_1).toNat * 2)).off + 1, none⟩ = some (.float .f64 ((rd_T42 x1_1 x14_1).f1)) ∧ w'.cell? (ad139.add ((x25_2).toNat * 2)) = some (.float .f64 ((rd_T42 x1_1 x25_2).f0)) ∧ w'.cell? ⟨(ad139.add ((x25_2).toNat * 2)).block, (ad139.add ((x25_2).toNat * 2)).off + 1, none⟩ = some (.float .f64 ((rd_T42 x1_1 x25_2).f1))) (ds := []) #[false, false, false, false, false, false, false, false, false, false, false, false, false, false, false, false, false, false, false, false, false, false, false, false, false] (by kernel_rfl) rfl rfl ⟨hx150_0, hx150_1, hx151_0, hx151_1, hx152_0, hx152_1, hx153_0, hx153_1⟩ (fun a2 => ?_); refine with_tabW spec_l3Step.tab9 spec_l3Step.bits9 (fun HT_ HW_ => ?_)
                    generalize wr.drew = p7 at a3 a4 HK HB hx150_0 hx150_1 hx151_0 hx151_1 hx152_0 hx152_1 hx153_0 hx153_1 a2 ⊢
                    refine pure_ (i := 0) (N := some 31) (v := ?_) (a' := ?_) #[true, false, false, false, false, false, false, false, false, false, false, false, false, false, false, false, false, false, false, false, false, false, false, false, false] rfl rfl (any_of HT_.out (by kernel_rfl)) (fun _ _ _ h => h) (Or.inl ⟨by rfl, ?_⟩) ?_ ?_
                    rotate_left
                    ·intro w'
                     go_simp
                     with_reducible rfl
                    rotate_left
                    ·simp only [Act.put, sB, sC, sD, i64_w, i32_w]
                     rfl
                    refine pure_ (i := 1) (N := some 32) (v := ?_) (a' := ?_) #[true, true, false, false, false, false, false, false, false, false, false, false, false, false, false, false, false, false, false, false, false, false, false, false, false] rfl rfl (any_of HT_.out (by kernel_rfl)) (fun _ _ _ h => h) (Or.inl ⟨by rfl, ?_⟩) ?_ ?_
                    rotate_left
                    ·intro w'
                     go_simp
                     with_reducible rfl
                    rotate_left
                    ·simp only [Act.put, sB, sC, sD, i64_w, i32_w]
                     rfl
                    refine pure_ (i := 2) (N := some 33) (v := ?_) (a' := ?_) #[true, true, true, false, false, false, false, false, false, false, false, false, false, false, false, false, false, false, false, false, false, false, false, false, false] rfl rfl (any_of HT_.out (by kernel_rfl)) (fun _ _ _ h => h) (Or.inl ⟨by rfl, ?_⟩) ?_ ?_
                    rotate_left
                    ·intro w'
                     go_simp
                     with_reducible rfl
                    rotate_left
                    ·simp only [Act.put, sB, sC, sD, i64_w, i32_w]
                     rfl
                    refine pure_ (i := 3) (N := some 34) (v := ?_) (a' := ?_) #[true, true, true, true, false, false, false, false, false, false, false, false, false, false, false, false, false, false, false, false, false, false, false, false, false] rfl rfl (any_of HT_.out (by kernel_rfl)) (fun _ _ _ h => h) (Or.inl ⟨by rfl, ?_⟩) ?_ ?_
                    rotate_left
                    ·intro w'
                     go_simp
                     with_reducible rfl
                    rotate_left
                    ·simp only [Act.put, sB, sC, sD, i64_w, i32_w]
                     rfl
                    refine pure_ (i := 5) (N := some 36) (v := ?_) (a' := ?_) #[true, true, true, true, false, true, false, false, false, false, false, false, false, false, false, false, false, false, false, false, false, false, false, false, false] rfl rfl (any_of HT_.out (by kernel_rfl)) (fun _ _ _ h => h) (Or.inl ⟨by rfl, ?_⟩) ?_ ?_
                    rotate_left
                    ·intro w'
                     go_simp
                     with_reducible rfl
                    rotate_left
                    ·simp only [Act.put, sB, sC, sD, i64_w, i32_w]
                     rfl
                    refine pure_ (i := 6) (N := some 37) (v := ?_) (a' := ?_) #[true, true, true, true, false, true, true, false, false, false, false, false, false, false, false, false, false, false, false, false, false, false, false, false, false] rfl rfl (any_of HT_.out (by kernel_rfl)) (fun _ _ _ h => h) (Or.inl ⟨by rfl, ?_⟩) ?_ ?_
                    rotate_left
                    ·intro w'
                     go_simp
                     with_reducible rfl
                    rotate_left
                    ·simp only [Act.put, sB, sC, sD, i64_w, i32_w]
                     rfl
                    refine pure_ (i := 7) (N := some 38) (v := ?_) (a' := ?_) #[true, true, true, true, false, true, true, true, false, false, false, false, false, false, false, false, false, false, false, false, false, false, false, false, false] rfl rfl (any_of HT_.out (by kernel_rfl)) (fun _ _ _ h => h) (Or.inl ⟨by rfl, ?_⟩) ?_ ?_
                    rotate_left
                    ·intro w'
                     go_simp
                     with_reducible rfl
                    rotate_left
                    ·simp only [Act.put, sB, sC, sD, i64_w, i32_w]
                     rfl
                    refine pure_ (i := 8) (N := some 39) (v := ?_) (a' := ?_) #[true, true, true, true, false, true, true, true, true, false, false, false, false, false, false, false, false, false, false, false, false, false, false, false, false] rfl rfl (any_of HT_.out (by kernel_rfl)) (fun _ _ _ h => h) (Or.inl ⟨by rfl, ?_⟩) ?_ ?_
                    rotate_left
                    ·intro w'
                     go_simp
                     with_reducible rfl
                    rotate_left
                    ·simp only [Act.put, sB, sC, sD, i64_w, i32_w]
                     rfl
                    refine pure_ (i := 11) (N := some 42) (v := ?_) (a' := ?_) #[true, true, true, true, false, true, true, true, true, false, false, true, false, false, false, false, false, false, false, false, false, false, false, false, false] rfl rfl (any_of HT_.out (by kernel_rfl)) (fun _ _ _ h => h) (Or.inl ⟨by rfl, ?_⟩) ?_ ?_
                    rotate_left
                    ·intro w'
                     go_simp
                     with_reducible rfl
                    rotate_left
                    ·simp only [Act.put, sB, sC, sD, i64_w, i32_w]
                     rfl
                    refine pure_ (i := 12) (N := some 43) (v := ?_) (a' := ?_) #[true, true, true, true, false, true, true, true, true, false, false, true, true, false, false, false, false, false, false, false, false, false, false, false, false] rfl rfl (any_of HT_.out (by kernel_rfl)) (fun _ _ _ h => h) (Or.inl ⟨by rfl, ?_⟩) ?_ ?_
                    rotate_left
                    ·intro w'
                     go_simp
                     with_reducible rfl
                    rotate_left
                    ·simp only [Act.put, sB, sC, sD, i64_w, i32_w]
                     rfl
                    refine pure_ (i := 13) (N := some 44) (v := ?_) (a' := ?_) #[true, true, true, true, false, true, true, true, true, false, false, true, true, true, false, false, false, false, false, false, false, false, false, false, false] rfl rfl (any_of HT_.out (by kernel_rfl)) (fun _ _ _ h => h) (Or.inl ⟨by rfl, ?_⟩) ?_ ?_
                    rotate_left
                    ·intro w'
                     go_simp
                     with_reducible rfl
                    rotate_left
                    ·simp only [Act.put, sB, sC, sD, i64_w, i32_w]
                     rfl
                    refine pure_ (i := 14) (N := some 45) (v := ?_) (a' := ?_) #[true, true, true, true, false, true, true, true, true, false, false, true, true, true, true, false, false, false, false, false, false, false, false, false, false] rfl rfl (any_of HT_.out (by kernel_rfl)) (fun _ _ _ h => h) (Or.inl ⟨by rfl, ?_⟩) ?_ ?_
                    rotate_left
                    ·intro w'
                     go_simp
                     with_reducible rfl
                    rotate_left
                    ·simp only [Act.put, sB, sC, sD, i64_w, i32_w]
                     rfl
                    refine pure_ (i := 16) (N := some 47) (v := ?_) (a' := ?_) #[true, true, true, true, false, true, true, true, true, false, false, true, true, true, true, false, true, false, false, false, false, false, false, false, false] rfl rfl (any_of HT_.out (by kernel_rfl)) (fun _ _ _ h => h) (Or.inl ⟨by rfl, ?_⟩) ?_ ?_
                    rotate_left
                    ·intro w'
                     go_simp
                     with_reducible rfl
                    rotate_left
                    ·simp only [Act.put, sB, sC, sD, i64_w, i32_w]
                     rfl
                    refine pure_ (i := 17) (N := some 48) (v := ?_) (a' := ?_) #[true, true, true, true, false, true, true, true, true, false, false, true, true, true, true, false, true, true, false, false, false, false, false, false, false] rfl rfl (any_of HT_.out (by kernel_rfl)) (fun _ _ _ h => h) (Or.inl ⟨by rfl, ?_⟩) ?_ ?_
                    rotate_left
                    ·intro w'
                     go_simp
                     with_reducible rfl
                    rotate_left
                    ·simp only [Act.put, sB, sC, sD, i64_w, i32_w]
                     rfl
                    refine pure_ (i := 18) (N := some 49) (v := ?_) (a' := ?_) #[true, true, true, true, false, true, true, true, true, false, false, true, true, true, true, false, true, true, true, false, false, false, false, false, false] rfl rfl (any_of HT_.out (by kernel_rfl)) (fun _ _ _ h => h) (Or.inl ⟨by rfl, ?_⟩) ?_ ?_
                    rotate_left
                    ·intro w'
                     go_simp
                     with_reducible rfl
                    rotate_left
                    ·simp only [Act.put, sB, sC, sD, i64_w, i32_w]
                     rfl
                    refine pure_ (i := 19) (N := some 50) (v := ?_) (a' := ?_) #[true, true, true, true, false, true, true, true, true, false, false, true, true, true, true, false, true, true, true, true, false, false, false, false, false] rfl rfl (any_of HT_.out (by kernel_rfl)) (fun _ _ _ h => h) (Or.inl ⟨by rfl, ?_⟩) ?_ ?_
                    rotate_left
                    ·intro w'
                     go_simp
                     with_reducible rfl
                    rotate_left
                    ·simp only [Act.put, sB, sC, sD, i64_w, i32_w]
                     rfl
                    refine take_ (i := 4) (N := some 35) (v := ?_) (a' := ?_) #[true, true, true, true, true, true, true, true, true, false, false, true, true, true, true, false, true, true, true, true, false, false, false, false, false] rfl rfl (take_ofW HT_.out HW_.out (by kernel_rfl)) (fun _ _ _ h => h) (Or.inl ⟨by rfl, ?_⟩) a2 ?_ ?_
                    rotate_left
                    ·rintro w' ⟨s0, s1, s2, s3, s4, s5, s6, s7⟩
                     go_simp
                     with_reducible rfl
                    rotate_left
                    ·simp only [Act.put, sB, sC, sD, i64_w, i32_w]
                     rfl
                    refine take_ (i := 9) (N := some 40) (v := ?_) (a' := ?_) #[true, true, true, true, true, true, true, true, true, true, false, true, true, true, true, false, true, true, true, true, false, false, false, false, false] rfl rfl (take_ofW HT_.out HW_.out (by kernel_rfl)) (fun _ _ _ h => h) (Or.inl ⟨by rfl, ?_⟩) a2 ?_ ?_
                    rotate_left
                    ·rintro w' ⟨s0, s1, s2, s3, s4, s5, s6, s7⟩
                     go_simp
                     with_reducible rfl
                    rotate_left
                    ·simp only [Act.put, sB, sC, sD, i64_w, i32_w]
                     rfl
                    refine pure_ (i := 10) (N := some 41) (v := ?_) (a' := ?_) #[true, true, true, true, true, true, true, true, true, true, true, true, true, true, true, false, true, true, true, true, false, false, false, false, false] rfl rfl (any_of HT_.out (by kernel_rfl)) (fun _ _ _ h => h) (Or.inl ⟨by rfl, ?_⟩) ?_ ?_
                    rotate_left
                    ·intro w'
                     go_simp
                     with_reducible rfl
                    rotate_left
                    ·simp only [Act.put, sB, sC, sD, i64_w, i32_w]
                     rfl
                    refine take_ (i := 15) (N := some 46) (v := ?_) (a' := ?_) #[true, true, true, true, true, true, true, true, true, true, true, true, true, true, true, true, true, true, true, true, false, false, false, false, false] rfl rfl (take_ofW HT_.out HW_.out (by kernel_rfl)) (fun _ _ _ h => h) (Or.inl ⟨by rfl, ?_⟩) a2 ?_ ?_
                    rotate_left
                    ·rintro w' ⟨s0, s1, s2, s3, s4, s5, s6, s7⟩
                     go_simp
                     with_reducible rfl
                    rotate_left
                    ·simp only [Act.put, sB, sC, sD, i64_w, i32_w]
                     rfl
                    refine take_ (i := 20) (N := some 51) (v := ?_) (a' := ?_) #[true, true, true, true, true, true, true, true, true, true, true, true, true, true, true, true, true, true, true, true, true, false, false, false, false] rfl rfl (take_ofW HT_.out HW_.out (by kernel_rfl)) (fun _ _ _ h => h) (Or.inl ⟨by rfl, ?_⟩) a2 ?_ ?_
                    rotate_left
                    ·rintro w' ⟨s0, s1, s2, s3, s4, s5, s6, s7⟩
                     go_simp
                     with_reducible rfl
                    rotate_left
                    ·simp only [Act.put, sB, sC, sD, i64_w, i32_w]
                     rfl
                    refine pure_ (i := 21) (N := some 52) (v := ?_) (a' := ?_) #[true, true, true, true, true, true, true, true, true, true, true, true, true, true, true, true, true, true, true, true, true, true, false, false, false] rfl rfl (any_of HT_.out (by kernel_rfl)) (fun _ _ _ h => h) (Or.inl ⟨by rfl, ?_⟩) ?_ ?_
                    rotate_left
                    ·intro w'
                     go_simp
                     with_reducible rfl
                    rotate_left
                    ·simp only [Act.put, sB, sC, sD, i64_w, i32_w]
                     rfl
                    refine pure_ (i := 22) (N := some 53) (v := ?_) (a' := ?_) #[true, true, true, true, true, true, true, true, true, true, true, true, true, true, true, true, true, true, true, true, true, true, true, false, false] rfl rfl (any_of HT_.out (by kernel_rfl)) (fun _ _ _ h => h) (Or.inl ⟨by rfl, ?_⟩) ?_ ?_
                    rotate_left
                    ·intro w'
                     go_simp
                     with_reducible rfl
                    rotate_left
                    ·simp only [Act.put, sB, sC, sD, i64_w, i32_w]
                     rfl
                    refine one_ (i := 23) (N := some 8) #[true, true, true, true, true, true, true, true, true, true, true, true, true, true, true, true, true, true, true, true, true, true, true, true, false] rfl rfl (one_of HT_.out (by kernel_rfl)) (by decide) (fun K hK => ?_)
                    refine box_step ?hg (N := 8) ?hd (cs := #[.float .f64 (0 : Nat), .float .f64 (0 : Nat)]) (t := 42) ?hr ?_; (case hd => rfl); (case hg => rfl); (case hr => first | (go_simp; done) | (go_simp; rfl))
                    intro a6 hg m8 hbox hb
                    have HS0_ := (hb.cell (World.block_lt_of_cell? _ _ (a2.1))).trans (a2.1)
                    have HS1_ := (hb.cell (World.block_lt_of_cell? _ _ (a2.2.1))).trans (a2.2.1)
                    have HS2_ := (hb.cell (World.block_lt_of_cell? _ _ (a2.2.2.1))).trans (a2.2.2.1)
                    have HS3_ := (hb.cell (World.block_lt_of_cell? _ _ (a2.2.2.2.1))).trans (a2.2.2.2.1)
                    have HS4_ := (hb.cell (World.block_lt_of_cell? _ _ (a2.2.2.2.2.1))).trans (a2.2.2.2.2.1)
                    have HS5_ := (hb.cell (World.block_lt_of_cell? _ _ (a2.2.2.2.2.2.1))).trans (a2.2.2.2.2.2.1)
                    have HS6_ := (hb.cell (World.block_lt_of_cell? _ _ (a2.2.2.2.2.2.2.1))).trans (a2.2.2.2.2.2.2.1)
                    have HS7_ := (hb.cell (World.block_lt_of_cell? _ _ (a2.2.2.2.2.2.2.2))).trans (a2.2.2.2.2.2.2.2)
                    replace a3 := a_ (Kd.R_below (Kd.R_elderB (rk a3.out) a6 (Nat.le_of_eq hg.symm)) hb)
                    have b6 := a_ (hbox)
                    have d1 := a_ (by rw [hg]; exact (by first | exact HK.out.1 | exact (show Kept w _ (fun k_ => P1_ k_) from by repeat (first | (with_reducible first | exact HK.out | apply Kept.alloc | apply Kept.drewN | apply Kept.drew | refine Kept.setCell ?_ (.inr b2.out) _) | exact HK.out)).1) : w.heap.size ≤ a6)
                    replace HK := a_ (Kept.below (S := (fun k_ => P1_ k_)) (by repeat (first | (with_reducible first | exact HK.out | apply Kept.alloc | apply Kept.drewN | apply Kept.drew | refine Kept.setCell ?_ (.inr b2.out) _) | exact HK.out)) hb)
                    have d2 := a_ (by rw [hg]; exact (bs HB.out) : w0.heap.size ≤ a6)
                    replace HB := a_ (below_step (by repeat (with_reducible first | exact HB.out | refine bz ?_ (by assumption) | apply bA | apply bN | apply bD)) hb)
                    have b5 := a_ (nel hg a4.out)
                    have b7 := a_ (nle hg a4.out)
                    replace a4 := a_ (blk_below (pk a4.out) hb)
                    clear hb hbox hg
                    refine hK.out _ _ ⟨HS0_, HS1_, HS2_, HS3_, HS4_, HS5_, HS6_, HS7_⟩ (fun a2 => ?_)
                    clear hK K
                    refine norm_ (a' := ?_) ?_ ?_
                    rotate_left
                    ·show Act.put _ (some 8) _ = _
                     simp only [Act.put, sB, sC, sD, i64_w, i32_w]
                     rfl
                    refine one_ (i := 24) (N := none) #[true, true, true, true, true, true, true, true, true, true, true, true, true, true, true, true, true, true, true, true, true, true, true, true, true] rfl rfl (one_of HT_.out (by kernel_rfl)) (by decide) (fun K hK => ?_)
                    have hs25 : m8.cell? ⟨a6, 0, none⟩ = some (.float .f64 (0 : Nat)) := (blk_cell b6.out 0).trans rfl
                    have hfs25 := blk_frozen b6.out 0
                    have hns25_0 := b5.out
                    have hms25_0 := b7.out
                    have hs26 : m8.cell? ⟨a6, 1, none⟩ = some (.float .f64 (0 : Nat)) := (blk_cell b6.out 1).trans rfl
                    have hfs26 := blk_frozen b6.out 1
                    have hns26_0 := b5.out
                    have hms26_0 := b7.out
                    refine skip_ (w1 := ?_) ?_ ?_ ?_ ?_
                    rotate_left
                    ·rfl
                    ·rfl
                    ·go_simp
                     rfl
                    refine hK.out _ _ ⟨((cell_far (p := ⟨a6, _, none⟩) (by first | exact Kd.own_blk (Kd.R_away a3.out (fun _ hk => hk.2)) | (rw [add_block]; exact Kd.own_blk (Kd.R_away a3.out (fun _ hk => hk.2))) | (show (Addr.add _ _).block ≠ _; rw [add_block]; exact Kd.own_blk (Kd.R_away a3.out (fun _ hk => hk.2))) | (dsimp only; exact Kd.own_blk (Kd.R_away a3.out (fun _ hk => hk.2)))) _).trans (((cell_far (p := ⟨a6, _, none⟩) (by first | exact Kd.own_blk (Kd.R_away a3.out (fun _ hk => hk.2)) | (rw [add_block]; exact Kd.own_blk (Kd.R_away a3.out (fun _ hk => hk.2))) | (show (Addr.add _ _).block ≠ _; rw [add_block]; exact Kd.own_blk (Kd.R_away a3.out (fun _ hk => hk.2))) | (dsimp only; exact Kd.own_blk (Kd.R_away a3.out (fun _ hk => hk.2)))) _).trans (a2.1)))), ((cell_far (p := ⟨a6, _, none⟩) (by first | exact Kd.own_blk (Kd.R_away a3.out (fun _ hk => hk.2)) | (rw [add_block]; exact Kd.own_blk (Kd.R_away a3.out (fun _ hk => hk.2))) | (show (Addr.add _ _).block ≠ _; rw [add_block]; exact Kd.own_blk (Kd.R_away a3.out (fun _ hk => hk.2))) | (dsimp only; exact Kd.own_blk (Kd.R_away a3.out (fun _ hk => hk.2)))) _).trans (((cell_far (p := ⟨a6, _, none⟩) (by first | exact Kd.own_blk (Kd.R_away a3.out (fun _ hk => hk.2)) | (rw [add_block]; exact Kd.own_blk (Kd.R_away a3.out (fun _ hk => hk.2))) | (show (Addr.add _ _).block ≠ _; rw [add_block]; exact Kd.own_blk (Kd.R_away a3.out (fun _ hk => hk.2))) | (dsimp only; exact Kd.own_blk (Kd.R_away a3.out (fun _ hk => hk.2)))) _).trans (a2.2.1)))), ((cell_far (p := ⟨a6, _, none⟩) (by first | exact Kd.own_blk (Kd.R_away a3.out (fun _ hk => hk.2)) | (rw [add_block]; exact Kd.own_blk (Kd.R_away a3.out (fun _ hk => hk.2))) | (show (Addr.add _ _).block ≠ _; rw [add_block]; exact Kd.own_blk (Kd.R_away a3.out (fun _ hk => hk.2))) | (dsimp only; exact Kd.own_blk (Kd.R_away a3.out (fun _ hk => hk.2)))) _).trans (((cell_far (p := ⟨a6, _, none⟩) (by first | exact Kd.own_blk (Kd.R_away a3.out (fun _ hk => hk.2)) | (rw [add_block]; exact Kd.own_blk (Kd.R_away a3.out (fun _ hk => hk.2))) | (show (Addr.add _ _).block ≠ _; rw [add_block]; exact Kd.own_blk (Kd.R_away a3.out (fun _ hk => hk.2))) | (dsimp only; exact Kd.own_blk (Kd.R_away a3.out (fun _ hk => hk.2)))) _).trans (a2.2.2.1)))), ((cell_far (p := ⟨a6, _, none⟩) (by first | exact Kd.own_blk (Kd.R_away a3.out (fun _ hk => hk.2)) | (rw [add_block]; exact Kd.own_blk (Kd.R_away a3.out (fun _ hk => hk.2))) | (show (Addr.add _ _).block ≠ _; rw [add_block]; exact Kd.own_blk (Kd.R_away a3.out (fun _ hk => hk.2))) | (dsimp only; exact Kd.own_blk (Kd.R_away a3.out (fun _ hk => hk.2)))) _).trans (((cell_far (p := ⟨a6, _, none⟩) (by first | exact Kd.own_blk (Kd.R_away a3.out (fun _ hk => hk.2)) | (rw [add_block]; exact Kd.own_blk (Kd.R_away a3.out (fun _ hk => hk.2))) | (show (Addr.add _ _).block ≠ _; rw [add_block]; exact Kd.own_blk (Kd.R_away a3.out (fun _ hk => hk.2))) | (dsimp only; exact Kd.own_blk (Kd.R_away a3.out (fun _ hk => hk.2)))) _).trans (a2.2.2.2.1)))), ((cell_far (p := ⟨a6, _, none⟩) (by first | exact Kd.own_blk (Kd.R_away a3.out (fun _ hk => hk.2)) | (rw [add_block]; exact Kd.own_blk (Kd.R_away a3.out (fun _ hk => hk.2))) | (show (Addr.add _ _).block ≠ _; rw [add_block]; exact Kd.own_blk (Kd.R_away a3.out (fun _ hk => hk.2))) | (dsimp only; exact Kd.own_blk (Kd.R_away a3.out (fun _ hk => hk.2)))) _).trans (((cell_far (p := ⟨a6, _, none⟩) (by first | exact Kd.own_blk (Kd.R_away a3.out (fun _ hk => hk.2)) | (rw [add_block]; exact Kd.own_blk (Kd.R_away a3.out (fun _ hk => hk.2))) | (show (Addr.add _ _).block ≠ _; rw [add_block]; exact Kd.own_blk (Kd.R_away a3.out (fun _ hk => hk.2))) | (dsimp only; exact Kd.own_blk (Kd.R_away a3.out (fun _ hk => hk.2)))) _).trans (a2.2.2.2.2.1)))), ((cell_far (p := ⟨a6, _, none⟩) (by first | exact Kd.own_blk (Kd.R_away a3.out (fun _ hk => hk.2)) | (rw [add_block]; exact Kd.own_blk (Kd.R_away a3.out (fun _ hk => hk.2))) | (show (Addr.add _ _).block ≠ _; rw [add_block]; exact Kd.own_blk (Kd.R_away a3.out (fun _ hk => hk.2))) | (dsimp only; exact Kd.own_blk (Kd.R_away a3.out (fun _ hk => hk.2)))) _).trans (((cell_far (p := ⟨a6, _, none⟩) (by first | exact Kd.own_blk (Kd.R_away a3.out (fun _ hk => hk.2)) | (rw [add_block]; exact Kd.own_blk (Kd.R_away a3.out (fun _ hk => hk.2))) | (show (Addr.add _ _).block ≠ _; rw [add_block]; exact Kd.own_blk (Kd.R_away a3.out (fun _ hk => hk.2))) | (dsimp only; exact Kd.own_blk (Kd.R_away a3.out (fun _ hk => hk.2)))) _).trans (a2.2.2.2.2.2.1)))), ((cell_far (p := ⟨a6, _, none⟩) (by first | exact Kd.own_blk (Kd.R_away a3.out (fun _ hk => hk.2)) | (rw [add_block]; exact Kd.own_blk (Kd.R_away a3.out (fun _ hk => hk.2))) | (show (Addr.add _ _).block ≠ _; rw [add_block]; exact Kd.own_blk (Kd.R_away a3.out (fun _ hk => hk.2))) | (dsimp only; exact Kd.own_blk (Kd.R_away a3.out (fun _ hk => hk.2)))) _).trans (((cell_far (p := ⟨a6, _, none⟩) (by first | exact Kd.own_blk (Kd.R_away a3.out (fun _ hk => hk.2)) | (rw [add_block]; exact Kd.own_blk (Kd.R_away a3.out (fun _ hk => hk.2))) | (show (Addr.add _ _).block ≠ _; rw [add_block]; exact Kd.own_blk (Kd.R_away a3.out (fun _ hk => hk.2))) | (dsimp only; exact Kd.own_blk (Kd.R_away a3.out (fun _ hk => hk.2)))) _).trans (a2.2.2.2.2.2.2.1)))), ((cell_far (p := ⟨a6, _, none⟩) (by first | exact Kd.own_blk (Kd.R_away a3.out (fun _ hk => hk.2)) | (rw [add_block]; exact Kd.own_blk (Kd.R_away a3.out (fun _ hk => hk.2))) | (show (Addr.add _ _).block ≠ _; rw [add_block]; exact Kd.own_blk (Kd.R_away a3.out (fun _ hk => hk.2))) | (dsimp only; exact Kd.own_blk (Kd.R_away a3.out (fun _ hk => hk.2)))) _).trans (((cell_far (p := ⟨a6, _, none⟩) (by first | exact Kd.own_blk (Kd.R_away a3.out (fun _ hk => hk.2)) | (rw [add_block]; exact Kd.own_blk (Kd.R_away a3.out (fun _ hk => hk.2))) | (show (Addr.add _ _).block ≠ _; rw [add_block]; exact Kd.own_blk (Kd.R_away a3.out (fun _ hk => hk.2))) | (dsimp only; exact Kd.own_blk (Kd.R_away a3.out (fun _ hk => hk.2)))) _).trans (a2.2.2.2.2.2.2.2))))⟩ (fun a2 => ?_)
                    clear hK K
                    refine done_ (done_of HT_.out (by kernel_rfl)) ?_
                    have m9 := b7.out
                    have n0 := b5.out
                    have h2 : _ = some (Value.float .f64 (0 : Nat)) := (blk_cell b6.out 0).trans rfl
                    have h3 : _ = some (Value.float .f64 (0 : Nat)) := (blk_cell b6.out 1).trans rfl
                    have h4 := blk_frozen b6.out 0
                    have h5 := blk_frozen b6.out 1
                    try go_wp2
                    go_ret
                    exact ⟨by first | rfl | (simp [errW_none, errW_some] <;> rfl) | (simp [*, errW_none, errW_some] <;> rfl), (by first | exact (rk (Kd.R_mono (Kd.R_far (p := ⟨a6, 1, none⟩) (Kd.R_far (p := ⟨a6, 0, none⟩) (Kd.R_mono a3.out (fun k_ hk => (⟨hk, hk.2⟩ : _ ∧ k_ ≠ a6))) (fun _ hk => hk.2) (.float .f64 (fl2 .sub ((rd_T42 x1_1 x14_1).f0) ((rd_T42 x1_1 x25_2).f0)))) (fun _ hk => hk.2) (.float .f64 (fl2 .sub ((rd_T42 x1_1 x14_1).f1) ((rd_T42 x1_1 x25_2).f1)))) (fun _ hk => hk.1.1.1))) | (simp only [c8]; exact (rk (Kd.R_mono (Kd.R_far (p := ⟨a6, 1, none⟩) (Kd.R_far (p := ⟨a6, 0, none⟩) (Kd.R_mono a3.out (fun k_ hk => (⟨hk, hk.2⟩ : _ ∧ k_ ≠ a6))) (fun _ hk => hk.2) (.float .f64 (fl2 .sub ((rd_T42 x1_1 x14_1).f0) ((rd_T42 x1_1 x25_2).f0)))) (fun _ hk => hk.2) (.float .f64 (fl2 .sub ((rd_T42 x1_1 x14_1).f1) ((rd_T42 x1_1 x25_2).f1)))) (fun _ hk => hk.1.1.1))))), by repeat (first | (with_reducible first | exact HB.out | apply below_alloc | apply pw_below_drewN | apply below_drew1 | refine below_set ?_ d6.out | refine below_set ?_ d2.out) | exact HB.out), by repeat (first | (with_reducible first | exact HK.out | apply Kept.alloc | apply Kept.drewN | apply Kept.drew | refine Kept.setCell ?_ (.inr b2.out) _ | refine Kept.setCell ?_ (.inr d1.out) _) | exact HK.out)⟩
                   ·rw [if_neg c22] at H
                    have e8 : (FloatKind.f64.format.order (fl2 .add (fl2 .mul (fl2 .sub ((rd_T42 x1_1 x14_1).f0) ((rd_T42 x1_1 x25_2).f0)) (fl2 .sub ((rd_T42 x1_1 x14_1).f0) ((rd_T42 x1_1 x25_2).f0))) (fl2 .mul (fl2 .sub ((rd_T42 x1_1 x14_1).f1) ((rd_T42 x1_1 x25_2).f1)) (fl2 .sub ((rd_T42 x1_1 x14_1).f1) ((rd_T42 x1_1 x25_2).f1)))) (0 : Nat) == some Ordering.eq) = false := by simpa using c22
                    (try (have g2 : decide (FloatKind.f64.format.order (fl2 .add (fl2 .mul (fl2 .sub ((rd_T42 x1_1 x14_1).f0) ((rd_T42 x1_1 x25_2).f0)) (fl2 .sub ((rd_T42 x1_1 x14_1).f0) ((rd_T42 x1_1 x25_2).f0))) (fl2 .mul (fl2 .sub ((rd_T42 x1_1 x14_1).f1) ((rd_T42 x1_1 x25_2).f1)) (fl2 .sub ((rd_T42 x1_1 x14_1).f1) ((rd_T42 x1_1 x25_2).f1)))) (0 : Nat) = some Ordering.eq) = false := by simpa using c22))
                    (try (have g3 : (FloatKind.f64.format.order (fl2 .add (fl2 .mul (fl2 .sub ((rd_T42 x1_1 x14_1).f0) ((rd_T42 x1_1 x25_2).f0)) (fl2 .sub ((rd_T42 x1_1 x14_1).f0) ((rd_T42 x1_1 x25_2).f0))) (fl2 .mul (fl2 .sub ((rd_T42 x1_1 x14_1).f1) ((rd_T42 x1_1 x25_2).f1)) (fl2 .sub ((rd_T42 x1_1 x14_1).f1) ((rd_T42 x1_1 x25_2).f1)))) (0 : Nat) == some Ordering.eq) = false := by simpa using c22))
                    (try (have n3 : ¬ (FloatKind.f64.format.order (fl2 .add (fl2 .mul (fl2 .sub ((rd_T42 x1_1 x14_1).f0) ((rd_T42 x1_1 x25_2).f0)) (fl2 .sub ((rd_T42 x1_1 x14_1).f0) ((rd_T42 x1_1 x25_2).f0))) (fl2 .mul (fl2 .sub ((rd_T42 x1_1 x14_1).f1) ((rd_T42 x1_1 x25_2).f1)) (fl2 .sub ((rd_T42 x1_1 x14_1).f1) ((rd_T42 x1_1 x25_2).f1)))) (0 : Nat) = some Ordering.eq) := by simpa using c22))
                    clear c22
                    replace H := Option.bind_eq_some_iff.mp H
                    obtain ⟨t155, g4, H⟩ := H
                    replace H : (if t155 = true then ((some (Z0.isSome && Z1.isSome)).bind fun t156 => (if t156 = true then ((some (dRe Z0 Z1 (al (fl2 .sub ((rd_T42 x1_1 x14_1).f0) ((rd_T42 x1_1 x25_2).f0))) (al (fl2 .sub ((rd_T42 x1_1 x14_1).f1) ((rd_T42 x1_1 x25_2).f1))), dIm Z0 Z1 (al (fl2 .sub ((rd_T42 x1_1 x14_1).f0) ((rd_T42 x1_1 x25_2).f0))) (al (fl2 .sub ((rd_T42 x1_1 x14_1).f1) ((rd_T42 x1_1 x25_2).f1))))).bind fun bt157 => (spec_l3Step.l1 k2 l0 x1_1 x14_1 (l1.length : Int) x14_1 (x1_1.length : Int) (wrap64 (x25_2 + 1)) bt157.1 bt157.2)) else (some (false, x1_1)))) else (some (false, x1_1))) = some (r1, r2) := H
                    have h6 := Aside0.mk g4
                    clear g4
                    by_cases c30 : t155 = true
                    ·subst c30
                     have H1 : ((some (Z0.isSome && Z1.isSome)).bind fun t156 => (if t156 = true then ((some (dRe Z0 Z1 (al (fl2 .sub ((rd_T42 x1_1 x14_1).f0) ((rd_T42 x1_1 x25_2).f0))) (al (fl2 .sub ((rd_T42 x1_1 x14_1).f1) ((rd_T42 x1_1 x25_2).f1))), dIm Z0 Z1 (al (fl2 .sub ((rd_T42 x1_1 x14_1).f0) ((rd_T42 x1_1 x25_2).f0))) (al (fl2 .sub ((rd_T42 x1_1 x14_1).f1) ((rd_T42 x1_1 x25_2).f1))))).bind fun bt157 => (spec_l3Step.l1 k2 l0 x1_1 x14_1 (l1.length : Int) x14_1 (x1_1.length : Int) (wrap64 (x25_2 + 1)) bt157.1 bt157.2)) else (some (false, x1_1)))) = some (r1, r2) := by rw [if_pos rfl] at H; exact H
                     clear H
                     have H := H1
                     clear H1
                     replace H := Option.bind_eq_some_iff.mp H
                     obtain ⟨t156, g5, H⟩ := H
                     replace H : (if t156 = true then ((some (dRe Z0 Z1 (al (fl2 .sub ((rd_T42 x1_1 x14_1).f0) ((rd_T42 x1_1 x25_2).f0))) (al (fl2 .sub ((rd_T42 x1_1 x14_1).f1) ((rd_T42 x1_1 x25_2).f1))), dIm Z0 Z1 (al (fl2 .sub ((rd_T42 x1_1 x14_1).f0) ((rd_T42 x1_1 x25_2).f0))) (al (fl2 .sub ((rd_T42 x1_1 x14_1).f1) ((rd_T42 x1_1 x25_2).f1))))).bind fun bt157 => (spec_l3Step.l1 k2 l0 x1_1 x14_1 (l1.length : Int) x14_1 (x1_1.length : Int) (wrap64 (x25_2 + 1)) bt157.1 bt157.2)) else (some (false, x1_1))) = some (r1, r2) := H
                     have n4 := Aside0.mk g5
                     clear g5
                     by_cases c32 : t156 = true
                     ·subst c32
                      have H1 : ((some (dRe Z0 Z1 (al (fl2 .sub ((rd_T42 x1_1 x14_1).f0) ((rd_T42 x1_1 x25_2).f0))) (al (fl2 .sub ((rd_T42 x1_1 x14_1).f1) ((rd_T42 x1_1 x25_2).f1))), dIm Z0 Z1 (al (fl2 .sub ((rd_T42 x1_1 x14_1).f0) ((rd_T42 x1_1 x25_2).f0))) (al (fl2 .sub ((rd_T42 x1_1 x14_1).f1) ((rd_T42 x1_1 x25_2).f1))))).bind fun bt157 => (spec_l3Step.l1 k2 l0 x1_1 x14_1 (l1.length : Int) x14_1 (x1_1.length : Int) (wrap64 (x25_2 + 1)) bt157.1 bt157.2)) = some (r1, r2) := by rw [if_pos rfl] at H; exact H
                      clear H
                      have H := H1
                      clear H1
                      replace H := Option.bind_eq_some_iff.mp H
                      obtain ⟨⟨T157, T158⟩, g6, H⟩ := H
                      replace H : (spec_l3Step.l1 k2 l0 x1_1 x14_1 (l1.length : Int) x14_1 (x1_1.length : Int) (wrap64 (x25_2 + 1)) T157 T158) = some (r1, r2) := H
                      have p4 := Aside0.mk g6
                      clear g6
                      have H' := Aside0.mk H
                      clear H
                      try go_wp2
                      replace a3 := a_ (Kd.R_drew a3.out)
                      replace a4 := a_ (blk_drew a4.out)
                      replace HK := a_ (Kept.drew HK.out)
                      replace HB := a_ (below_drew1 HB.out)
                      have p150 : 0 ≤ (x14_1 : Int) := of_decide_eq_true (by first | (with_reducible assumption) | assumption)
                      have q150 : x14_1 < (x1_1.length : Int) := of_decide_eq_true (by first | (with_reducible assumption) | assumption)
                      obtain ⟨ad150, e150, hx150_0, hx150_1⟩ := at_T42 (Kd.R_reads' a3.out).2.2 x14_1 p150 q150
                      obtain rfl : ad139 = ad150 := (by injection e150)
                      replace p150 := eq_true p150
                      replace q150 := eq_true q150
                      have p151 : 0 ≤ (x25_2 : Int) := of_decide_eq_true (by first | (with_reducible assumption) | assumption)
                      have q151 : x25_2 < (x1_1.length : Int) := of_decide_eq_true (by first | (with_reducible assumption) | assumption)
                      obtain ⟨ad151, e151, hx151_0, hx151_1⟩ := at_T42 (Kd.R_reads' a3.out).2.2 x25_2 p151 q151
                      obtain rfl : ad139 = ad151 := (by injection e151)
                      replace p151 := eq_true p151
                      replace q151 := eq_true q151
                      have p152 : 0 ≤ (x14_1 : Int) := of_decide_eq_true (by first | (with_reducible assumption) | assumption)
                      have q152 : x14_1 < (x1_1.length : Int) := of_decide_eq_true (by first | (with_reducible assumption) | assumption)
                      obtain ⟨ad152, e152, hx152_0, hx152_1⟩ := at_T42 (Kd.R_reads' a3.out).2.2 x14_1 p152 q152
                      obtain rfl : ad139 = ad152 := (by injection e152)
                      replace p152 := eq_true p152
                      replace q152 := eq_true q152
                      have p153 : 0 ≤ (x25_2 : Int) := of_decide_eq_true (by first | (with_reducible assumption) | assumption)
                      have q153 : x25_2 < (x1_1.length : Int) := of_decide_eq_true (by first | (with_reducible assumption) | assumption)
                      obtain ⟨ad153, e153, hx153_0, hx153_1⟩ := at_T42 (Kd.R_reads' a3.out).2.2 x25_2 p153 q153
                      obtain rfl : ad139 = ad153 := (by injection e153)
                      replace p153 := eq_true p153
                      replace q153 := eq_true q153
                      refine start_ (n := 25) (S := fun w' => w'.cell? (ad139.add ((x14_1).toNat * 2)) = some (.float .f64 ((rd_T42 x1_1 x14_1).f0)) ∧ w'.cell? ⟨(ad139.add ((x14_1).toNat * 2)).block, (ad139.add ((x14_1).toNat * 2)).off + 1, none⟩ = some (.float .f64 ((rd_T42 x1_1 x14_1).f1)) ∧ w'.cell? (ad139.add ((x25_2).toNat * 2)) = some (.float .f64 ((rd_T42 x1_1 x25_2).f0)) ∧ w'.cell? ⟨(ad139.add ((x25_2).toNat * 2)).block, (ad139.add ((x25_2).toNat * 2)).off + 1, none⟩ = some (.float .f64 ((rd_T42 x1_1 x25_2).f1)) ∧ w'.cell? (ad139.add ((x14_1).toNat * 2)) = some (.float .f64 ((rd_T42 x1_1 x14_1).f0)) ∧ w'.cell? ⟨(ad139.add ((x14_1).toNat * 2)).block, (ad139.add ((x14_1).toNat * 2)).off + 1, none⟩ = some (.float .f64 ((rd_T42 x1_1 x14_1).f1)) ∧ w'.cell? (ad139.add ((x25_2).toNat * 2)) = some (.float .f64 ((rd_T42 x1_1 x25_2).f0)) ∧ w'.cell? ⟨(ad139.add ((x25_2).toNat * 2)).block, (ad139.add ((x25_2).toNat * 2)).off + 1, none⟩ = some (.float .f64 ((rd_T42 x1_1 x25_2).f1))) (ds := []) #[false, false, false, false, false, false, false, false, false, false, false, false, false, false, false, false, false, false, false, false, false, false, false, false, false] (by kernel_rfl) rfl rfl ⟨hx150_0, hx150_1, hx151_0, hx151_1, hx152_0, hx152_1, hx153_0, hx153_1⟩ (fun a2 => ?_); refine with_tabW spec_l3Step.tab9 spec_l3Step.bits9 (fun HT_ HW_ => ?_)
                      generalize wr.drew = p8 at a3 a4 HK HB hx150_0 hx150_1 hx151_0 hx151_1 hx152_0 hx152_1 hx153_0 hx153_1 a2 ⊢
                      refine pure_ (i := 0) (N := some 31) (v := ?_) (a' := ?_) #[true, false, false, false, false, false, false, false, false, false, false, false, false, false, false, false, false, false, false, false, false, false, false, false, false] rfl rfl (any_of HT_.out (by kernel_rfl)) (fun _ _ _ h => h) (Or.inl ⟨by rfl, ?_⟩) ?_ ?_
                      rotate_left
                      ·intro w'
                       go_simp
                       with_reducible rfl
                      rotate_left
                      ·simp only [Act.put, sB, sC, sD, i64_w, i32_w]
                       rfl
                      refine pure_ (i := 1) (N := some 32) (v := ?_) (a' := ?_) #[true, true, false, false, false, false, false, false, false, false, false, false, false, false, false, false, false, false, false, false, false, false, false, false, false] rfl rfl (any_of HT_.out (by kernel_rfl)) (fun _ _ _ h => h) (Or.inl ⟨by rfl, ?_⟩) ?_ ?_
                      rotate_left
                      ·intro w'
                       go_simp
                       with_reducible rfl
                      rotate_left
                      ·simp only [Act.put, sB, sC, sD, i64_w, i32_w]
                       rfl
                      refine pure_ (i := 2) (N := some 33) (v := ?_) (a' := ?_) #[true, true, true, false, false, false, false, false, false, false, false, false, false, false, false, false, false, false, false, false, false, false, false, false, false] rfl rfl (any_of HT_.out (by kernel_rfl)) (fun _ _ _ h => h) (Or.inl ⟨by rfl, ?_⟩) ?_ ?_
                      rotate_left
                      ·intro w'
                       go_simp
                       with_reducible rfl
                      rotate_left
                      ·simp only [Act.put, sB, sC, sD, i64_w, i32_w]
                       rfl
                      refine pure_ (i := 3) (N := some 34) (v := ?_) (a' := ?_) #[true, true, true, true, false, false, false, false, false, false, false, false, false, false, false, false, false, false, false, false, false, false, false, false, false] rfl rfl (any_of HT_.out (by kernel_rfl)) (fun _ _ _ h => h) (Or.inl ⟨by rfl, ?_⟩) ?_ ?_
                      rotate_left
                      ·intro w'
                       go_simp
                       with_reducible rfl
                      rotate_left
                      ·simp only [Act.put, sB, sC, sD, i64_w, i32_w]
                       rfl
                      refine pure_ (i := 5) (N := some 36) (v := ?_) (a' := ?_) #[true, true, true, true, false, true, false, false, false, false, false, false, false, false, false, false, false, false, false, false, false, false, false, false, false] rfl rfl (any_of HT_.out (by kernel_rfl)) (fun _ _ _ h => h) (Or.inl ⟨by rfl, ?_⟩) ?_ ?_
                      rotate_left
                      ·intro w'
                       go_simp
                       with_reducible rfl
                      rotate_left
                      ·simp only [Act.put, sB, sC, sD, i64_w, i32_w]
                       rfl
                      refine pure_ (i := 6) (N := some 37) (v := ?_) (a' := ?_) #[true, true, true, true, false, true, true, false, false, false, false, false, false, false, false, false, false, false, false, false, false, false, false, false, false] rfl rfl (any_of HT_.out (by kernel_rfl)) (fun _ _ _ h => h) (Or.inl ⟨by rfl, ?_⟩) ?_ ?_
                      rotate_left
                      ·intro w'
                       go_simp
                       with_reducible rfl
                      rotate_left
                      ·simp only [Act.put, sB, sC, sD, i64_w, i32_w]
                       rfl
                      refine pure_ (i := 7) (N := some 38) (v := ?_) (a' := ?_) #[true, true, true, true, false, true, true, true, false, false, false, false, false, false, false, false, false, false, false, false, false, false, false, false, false] rfl rfl (any_of HT_.out (by kernel_rfl)) (fun _ _ _ h => h) (Or.inl ⟨by rfl, ?_⟩) ?_ ?_
                      rotate_left
                      ·intro w'
                       go_simp
                       with_reducible rfl
                      rotate_left
                      ·simp only [Act.put, sB, sC, sD, i64_w, i32_w]
                       rfl
                      refine pure_ (i := 8) (N := some 39) (v := ?_) (a' := ?_) #[true, true, true, true, false, true, true, true, true, false, false, false, false, false, false, false, false, false, false, false, false, false, false, false, false] rfl rfl (any_of HT_.out (by kernel_rfl)) (fun _ _ _ h => h) (Or.inl ⟨by rfl, ?_⟩) ?_ ?_
                      rotate_left
                      ·intro w'
                       go_simp
                       with_reducible rfl
                      rotate_left
                      ·simp only [Act.put, sB, sC, sD, i64_w, i32_w]
                       rfl
                      refine pure_ (i := 11) (N := some 42) (v := ?_) (a' := ?_) #[true, true, true, true, false, true, true, true, true, false, false, true, false, false, false, false, false, false, false, false, false, false, false, false, false] rfl rfl (any_of HT_.out (by kernel_rfl)) (fun _ _ _ h => h) (Or.inl ⟨by rfl, ?_⟩) ?_ ?_
                      rotate_left
                      ·intro w'
                       go_simp
                       with_reducible rfl
                      rotate_left
                      ·simp only [Act.put, sB, sC, sD, i64_w, i32_w]
                       rfl
                      refine pure_ (i := 12) (N := some 43) (v := ?_) (a' := ?_) #[true, true, true, true, false, true, true, true, true, false, false, true, true, false, false, false, false, false, false, false, false, false, false, false, false] rfl rfl (any_of HT_.out (by kernel_rfl)) (fun _ _ _ h => h) (Or.inl ⟨by rfl, ?_⟩) ?_ ?_
                      rotate_left
                      ·intro w'
                       go_simp
                       with_reducible rfl
                      rotate_left
                      ·simp only [Act.put, sB, sC, sD, i64_w, i32_w]
                       rfl
                      refine pure_ (i := 13) (N := some 44) (v := ?_) (a' := ?_) #[true, true, true, true, false, true, true, true, true, false, false, true, true, true, false, false, false, false, false, false, false, false, false, false, false] rfl rfl (any_of HT_.out (by kernel_rfl)) (fun _ _ _ h => h) (Or.inl ⟨by rfl, ?_⟩) ?_ ?_
                      rotate_left
                      ·intro w'
                       go_simp
                       with_reducible rfl
                      rotate_left
                      ·simp only [Act.put, sB, sC, sD, i64_w, i32_w]
                       rfl
                      refine pure_ (i := 14) (N := some 45) (v := ?_) (a' := ?_) #[true, true, true, true, false, true, true, true, true, false, false, true, true, true, true, false, false, false, false, false, false, false, false, false, false] rfl rfl (any_of HT_.out (by kernel_rfl)) (fun _ _ _ h => h) (Or.inl ⟨by rfl, ?_⟩) ?_ ?_
                      rotate_left
                      ·intro w'
                       go_simp
                       with_reducible rfl
                      rotate_left
                      ·simp only [Act.put, sB, sC, sD, i64_w, i32_w]
                       rfl
                      refine pure_ (i := 16) (N := some 47) (v := ?_) (a' := ?_) #[true, true, true, true, false, true, true, true, true, false, false, true, true, true, true, false, true, false, false, false, false, false, false, false, false] rfl rfl (any_of HT_.out (by kernel_rfl)) (fun _ _ _ h => h) (Or.inl ⟨by rfl, ?_⟩) ?_ ?_
                      rotate_left
                      ·intro w'
                       go_simp
                       with_reducible rfl
                      rotate_left
                      ·simp only [Act.put, sB, sC, sD, i64_w, i32_w]
                       rfl
                      refine pure_ (i := 17) (N := some 48) (v := ?_) (a' := ?_) #[true, true, true, true, false, true, true, true, true, false, false, true, true, true, true, false, true, true, false, false, false, false, false, false, false] rfl rfl (any_of HT_.out (by kernel_rfl)) (fun _ _ _ h => h) (Or.inl ⟨by rfl, ?_⟩) ?_ ?_
                      rotate_left
                      ·intro w'
                       go_simp
                       with_reducible rfl
                      rotate_left
                      ·simp only [Act.put, sB, sC, sD, i64_w, i32_w]
                       rfl
                      refine pure_ (i := 18) (N := some 49) (v := ?_) (a' := ?_) #[true, true, true, true, false, true, true, true, true, false, false, true, true, true, true, false, true, true, true, false, false, false, false, false, false] rfl rfl (any_of HT_.out (by kernel_rfl)) (fun _ _ _ h => h) (Or.inl ⟨by rfl, ?_⟩) ?_ ?_
                      rotate_left
                      ·intro w'
                       go_simp
                       with_reducible rfl
                      rotate_left
                      ·simp only [Act.put, sB, sC, sD, i64_w, i32_w]
                       rfl
                      refine pure_ (i := 19) (N := some 50) (v := ?_) (a' := ?_) #[true, true, true, true, false, true, true, true, true, false, false, true, true, true, true, false, true, true, true, true, false, false, false, false, false] rfl rfl (any_of HT_.out (by kernel_rfl)) (fun _ _ _ h => h) (Or.inl ⟨by rfl, ?_⟩) ?_ ?_
                      rotate_left
                      ·intro w'
                       go_simp
                       with_reducible rfl
                      rotate_left
                      ·simp only [Act.put, sB, sC, sD, i64_w, i32_w]
                       rfl
                      refine take_ (i := 4) (N := some 35) (v := ?_) (a' := ?_) #[true, true, true, true, true, true, true, true, true, false, false, true, true, true, true, false, true, true, true, true, false, false, false, false, false] rfl rfl (take_ofW HT_.out HW_.out (by kernel_rfl)) (fun _ _ _ h => h) (Or.inl ⟨by rfl, ?_⟩) a2 ?_ ?_
                      rotate_left
                      ·rintro w' ⟨s0, s1, s2, s3, s4, s5, s6, s7⟩
                       go_simp
                       with_reducible rfl
                      rotate_left
                      ·simp only [Act.put, sB, sC, sD, i64_w, i32_w]
                       rfl
                      refine take_ (i := 9) (N := some 40) (v := ?_) (a' := ?_) #[true, true, true, true, true, true, true, true, true, true, false, true, true, true, true, false, true, true, true, true, false, false, false, false, false] rfl rfl (take_ofW HT_.out HW_.out (by kernel_rfl)) (fun _ _ _ h => h) (Or.inl ⟨by rfl, ?_⟩) a2 ?_ ?_
                      rotate_left
                      ·rintro w' ⟨s0, s1, s2, s3, s4, s5, s6, s7⟩
                       go_simp
                       with_reducible rfl
                      rotate_left
                      ·simp only [Act.put, sB, sC, sD, i64_w, i32_w]
                       rfl
                      refine pure_ (i := 10) (N := some 41) (v := ?_) (a' := ?_) #[true, true, true, true, true, true, true, true, true, true, true, true, true, true, true, false, true, true, true, true, false, false, false, false, false] rfl rfl (any_of HT_.out (by kernel_rfl)) (fun _ _ _ h => h) (Or.inl ⟨by rfl, ?_⟩) ?_ ?_
                      rotate_left
                      ·intro w'
                       go_simp
                       with_reducible rfl
                      rotate_left
                      ·simp only [Act.put, sB, sC, sD, i64_w, i32_w]
                       rfl
                      refine take_ (i := 15) (N := some 46) (v := ?_) (a' := ?_) #[true, true, true, true, true, true, true, true, true, true, true, true, true, true, true, true, true, true, true, true, false, false, false, false, false] rfl rfl (take_ofW HT_.out HW_.out (by kernel_rfl)) (fun _ _ _ h => h) (Or.inl ⟨by rfl, ?_⟩) a2 ?_ ?_
                      rotate_left
                      ·rintro w' ⟨s0, s1, s2, s3, s4, s5, s6, s7⟩
                       go_simp
                       with_reducible rfl
                      rotate_left
                      ·simp only [Act.put, sB, sC, sD, i64_w, i32_w]
                       rfl
                      refine take_ (i := 20) (N := some 51) (v := ?_) (a' := ?_) #[true, true, true, true, true, true, true, true, true, true, true, true, true, true, true, true, true, true, true, true, true, false, false, false, false] rfl rfl (take_ofW HT_.out HW_.out (by kernel_rfl)) (fun _ _ _ h => h) (Or.inl ⟨by rfl, ?_⟩) a2 ?_ ?_
                      rotate_left
                      ·rintro w' ⟨s0, s1, s2, s3, s4, s5, s6, s7⟩
                       go_simp
                       with_reducible rfl
                      rotate_left
                      ·simp only [Act.put, sB, sC, sD, i64_w, i32_w]
                       rfl
                      refine pure_ (i := 21) (N := some 52) (v := ?_) (a' := ?_) #[true, true, true, true, true, true, true, true, true, true, true, true, true, true, true, true, true, true, true, true, true, true, false, false, false] rfl rfl (any_of HT_.out (by kernel_rfl)) (fun _ _ _ h => h) (Or.inl ⟨by rfl, ?_⟩) ?_ ?_
                      rotate_left
                      ·intro w'
                       go_simp
                       with_reducible rfl
                      rotate_left
                      ·simp only [Act.put, sB, sC, sD, i64_w, i32_w]
                       rfl
                      refine pure_ (i := 22) (N := some 53) (v := ?_) (a' := ?_) #[true, true, true, true, true, true, true, true, true, true, true, true, true, true, true, true, true, true, true, true, true, true, true, false, false] rfl rfl (any_of HT_.out (by kernel_rfl)) (fun _ _ _ h => h) (Or.inl ⟨by rfl, ?_⟩) ?_ ?_
                      rotate_left
                      ·intro w'
                       go_simp
                       with_reducible rfl
                      rotate_left
                      ·simp only [Act.put, sB, sC, sD, i64_w, i32_w]
                       rfl
                      refine one_ (i := 23) (N := some 8) #[true, true, true, true, true, true, true, true, true, true, true, true, true, true, true, true, true, true, true, true, true, true, true, true, false] rfl rfl (one_of HT_.out (by kernel_rfl)) (by decide) (fun K hK => ?_)
                      refine box_step ?hg (N := 8) ?hd (cs := #[.float .f64 (0 : Nat), .float .f64 (0 : Nat)]) (t := 42) ?hr ?_; (case hd => rfl); (case hg => rfl); (case hr => first | (go_simp; done) | (go_simp; rfl))
                      intro a6 hg n5 hbox hb
                      have HS0_ := (hb.cell (World.block_lt_of_cell? _ _ (a2.1))).trans (a2.1)
                      have HS1_ := (hb.cell (World.block_lt_of_cell? _ _ (a2.2.1))).trans (a2.2.1)
                      have HS2_ := (hb.cell (World.block_lt_of_cell? _ _ (a2.2.2.1))).trans (a2.2.2.1)
                      have HS3_ := (hb.cell (World.block_lt_of_cell? _ _ (a2.2.2.2.1))).trans (a2.2.2.2.1)
                      have HS4_ := (hb.cell (World.block_lt_of_cell? _ _ (a2.2.2.2.2.1))).trans (a2.2.2.2.2.1)
                      have HS5_ := (hb.cell (World.block_lt_of_cell? _ _ (a2.2.2.2.2.2.1))).trans (a2.2.2.2.2.2.1)
                      have HS6_ := (hb.cell (World.block_lt_of_cell? _ _ (a2.2.2.2.2.2.2.1))).trans (a2.2.2.2.2.2.2.1)
                      have HS7_ := (hb.cell (World.block_lt_of_cell? _ _ (a2.2.2.2.2.2.2.2))).trans (a2.2.2.2.2.2.2.2)
                      replace a3 := a_ (Kd.R_below (Kd.R_elderB (rk a3.out) a6 (Nat.le_of_eq hg.symm)) hb)
                      have b6 := a_ (hbox)
                      have d1 := a_ (by rw [hg]; exact (by first | exact HK.out.1 | exact (show Kept w _ (fun k_ => P1_ k_) from by repeat (first | (with_reducible first | exact HK.out | apply Kept.alloc | apply Kept.drewN | apply Kept.drew | refine Kept.setCell ?_ (.inr b2.out) _) | exact HK.out)).1) : w.heap.size ≤ a6)
                      replace HK := a_ (Kept.below (S := (fun k_ => P1_ k_)) (by repeat (first | (with_reducible first | exact HK.out | apply Kept.alloc | apply Kept.drewN | apply Kept.drew | refine Kept.setCell ?_ (.inr b2.out) _) | exact HK.out)) hb)
                      have d2 := a_ (by rw [hg]; exact (bs HB.out) : w0.heap.size ≤ a6)
                      replace HB := a_ (below_step (by repeat (with_reducible first | exact HB.out | refine bz ?_ (by assumption) | apply bA | apply bN | apply bD)) hb)
                      have b5 := a_ (nel hg a4.out)
                      have b7 := a_ (nle hg a4.out)
                      replace a4 := a_ (blk_below (pk a4.out) hb)
                      clear hb hbox hg
                      refine hK.out _ _ ⟨HS0_, HS1_, HS2_, HS3_, HS4_, HS5_, HS6_, HS7_⟩ (fun a2 => ?_)
                      clear hK K
                      refine norm_ (a' := ?_) ?_ ?_
                      rotate_left
                      ·show Act.put _ (some 8) _ = _
                       simp only [Act.put, sB, sC, sD, i64_w, i32_w]
                       rfl
                      refine one_ (i := 24) (N := none) #[true, true, true, true, true, true, true, true, true, true, true, true, true, true, true, true, true, true, true, true, true, true, true, true, true] rfl rfl (one_of HT_.out (by kernel_rfl)) (by decide) (fun K hK => ?_)
                      have hs36 : n5.cell? ⟨a6, 0, none⟩ = some (.float .f64 (0 : Nat)) := (blk_cell b6.out 0).trans rfl
                      have hfs36 := blk_frozen b6.out 0
                      have hns36_0 := b5.out
                      have hms36_0 := b7.out
                      have hs37 : n5.cell? ⟨a6, 1, none⟩ = some (.float .f64 (0 : Nat)) := (blk_cell b6.out 1).trans rfl
                      have hfs37 := blk_frozen b6.out 1
                      have hns37_0 := b5.out
                      have hms37_0 := b7.out
                      refine skip_ (w1 := ?_) ?_ ?_ ?_ ?_
                      rotate_left
                      ·rfl
                      ·rfl
                      ·go_simp
                       rfl
                      refine hK.out _ _ ⟨((cell_far (p := ⟨a6, _, none⟩) (by first | exact Kd.own_blk (Kd.R_away a3.out (fun _ hk => hk.2)) | (rw [add_block]; exact Kd.own_blk (Kd.R_away a3.out (fun _ hk => hk.2))) | (show (Addr.add _ _).block ≠ _; rw [add_block]; exact Kd.own_blk (Kd.R_away a3.out (fun _ hk => hk.2))) | (dsimp only; exact Kd.own_blk (Kd.R_away a3.out (fun _ hk => hk.2)))) _).trans (((cell_far (p := ⟨a6, _, none⟩) (by first | exact Kd.own_blk (Kd.R_away a3.out (fun _ hk => hk.2)) | (rw [add_block]; exact Kd.own_blk (Kd.R_away a3.out (fun _ hk => hk.2))) | (show (Addr.add _ _).block ≠ _; rw [add_block]; exact Kd.own_blk (Kd.R_away a3.out (fun _ hk => hk.2))) | (dsimp only; exact Kd.own_blk (Kd.R_away a3.out (fun _ hk => hk.2)))) _).trans (a2.1)))), ((cell_far (p := ⟨a6, _, none⟩) (by first | exact Kd.own_blk (Kd.R_away a3.out (fun _ hk => hk.2)) | (rw [add_block]; exact Kd.own_blk (Kd.R_away a3.out (fun _ hk => hk.2))) | (show (Addr.add _ _).block ≠ _; rw [add_block]; exact Kd.own_blk (Kd.R_away a3.out (fun _ hk => hk.2))) | (dsimp only; exact Kd.own_blk (Kd.R_away a3.out (fun _ hk => hk.2)))) _).trans (((cell_far (p := ⟨a6, _, none⟩) (by first | exact Kd.own_blk (Kd.R_away a3.out (fun _ hk => hk.2)) | (rw [add_block]; exact Kd.own_blk (Kd.R_away a3.out (fun _ hk => hk.2))) | (show (Addr.add _ _).block ≠ _; rw [add_block]; exact Kd.own_blk (Kd.R_away a3.out (fun _ hk => hk.2))) | (dsimp only; exact Kd.own_blk (Kd.R_away a3.out (fun _ hk => hk.2)))) _).trans (a2.2.1)))), ((cell_far (p := ⟨a6, _, none⟩) (by first | exact Kd.own_blk (Kd.R_away a3.out (fun _ hk => hk.2)) | (rw [add_block]; exact Kd.own_blk (Kd.R_away a3.out (fun _ hk => hk.2))) | (show (Addr.add _ _).block ≠ _; rw [add_block]; exact Kd.own_blk (Kd.R_away a3.out (fun _ hk => hk.2))) | (dsimp only; exact Kd.own_blk (Kd.R_away a3.out (fun _ hk => hk.2)))) _).trans (((cell_far (p := ⟨a6, _, none⟩) (by first | exact Kd.own_blk (Kd.R_away a3.out (fun _ hk => hk.2)) | (rw [add_block]; exact Kd.own_blk (Kd.R_away a3.out (fun _ hk => hk.2))) | (show (Addr.add _ _).block ≠ _; rw [add_block]; exact Kd.own_blk (Kd.R_away a3.out (fun _ hk => hk.2))) | (dsimp only; exact Kd.own_blk (Kd.R_away a3.out (fun _ hk => hk.2)))) _).trans (a2.2.2.1)))), ((cell_far (p := ⟨a6, _, none⟩) (by first | exact Kd.own_blk (Kd.R_away a3.out (fun _ hk => hk.2)) | (rw [add_block]; exact Kd.own_blk (Kd.R_away a3.out (fun _ hk => hk.2))) | (show (Addr.add _ _).block ≠ _; rw [add_block]; exact Kd.own_blk (Kd.R_away a3.out (fun _ hk => hk.2))) | (dsimp only; exact Kd.own_blk (Kd.R_away a3.out (fun _ hk => hk.2)))) _).trans (((cell_far (p := ⟨a6, _, none⟩) (by first | exact Kd.own_blk (Kd.R_away a3.out (fun _ hk => hk.2)) | (rw [add_block]; exact Kd.own_blk (Kd.R_away a3.out (fun _ hk => hk.2))) | (show (Addr.add _ _).block ≠ _; rw [add_block]; exact Kd.own_blk (Kd.R_away a3.out (fun _ hk => hk.2))) | (dsimp only; exact Kd.own_blk (Kd.R_away a3.out (fun _ hk => hk.2)))) _).trans (a2.2.2.2.1)))), ((cell_far (p := ⟨a6, _, none⟩) (by first | exact Kd.own_blk (Kd.R_away a3.out (fun _ hk => hk.2)) | (rw [add_block]; exact Kd.own_blk (Kd.R_away a3.out (fun _ hk => hk.2))) | (show (Addr.add _ _).block ≠ _; rw [add_block]; exact Kd.own_blk (Kd.R_away a3.out (fun _ hk => hk.2))) | (dsimp only; exact Kd.own_blk (Kd.R_away a3.out (fun _ hk => hk.2)))) _).trans (((cell_far (p := ⟨a6, _, none⟩) (by first | exact Kd.own_blk (Kd.R_away a3.out (fun _ hk => hk.2)) | (rw [add_block]; exact Kd.own_blk (Kd.R_away a3.out (fun _ hk => hk.2))) | (show (Addr.add _ _).block ≠ _; rw [add_block]; exact Kd.own_blk (Kd.R_away a3.out (fun _ hk => hk.2))) | (dsimp only; exact Kd.own_blk (Kd.R_away a3.out (fun _ hk => hk.2)))) _).trans (a2.2.2.2.2.1)))), ((cell_far (p := ⟨a6, _, none⟩) (by first | exact Kd.own_blk (Kd.R_away a3.out (fun _ hk => hk.2)) | (rw [add_block]; exact Kd.own_blk (Kd.R_away a3.out (fun _ hk => hk.2))) | (show (Addr.add _ _).block ≠ _; rw [add_block]; exact Kd.own_blk (Kd.R_away a3.out (fun _ hk => hk.2))) | (dsimp only; exact Kd.own_blk (Kd.R_away a3.out (fun _ hk => hk.2)))) _).trans (((cell_far (p := ⟨a6, _, none⟩) (by first | exact Kd.own_blk (Kd.R_away a3.out (fun _ hk => hk.2)) | (rw [add_block]; exact Kd.own_blk (Kd.R_away a3.out (fun _ hk => hk.2))) | (show (Addr.add _ _).block ≠ _; rw [add_block]; exact Kd.own_blk (Kd.R_away a3.out (fun _ hk => hk.2))) | (dsimp only; exact Kd.own_blk (Kd.R_away a3.out (fun _ hk => hk.2)))) _).trans (a2.2.2.2.2.2.1)))), ((cell_far (p := ⟨a6, _, none⟩) (by first | exact Kd.own_blk (Kd.R_away a3.out (fun _ hk => hk.2)) | (rw [add_block]; exact Kd.own_blk (Kd.R_away a3.out (fun _ hk => hk.2))) | (show (Addr.add _ _).block ≠ _; rw [add_block]; exact Kd.own_blk (Kd.R_away a3.out (fun _ hk => hk.2))) | (dsimp only; exact Kd.own_blk (Kd.R_away a3.out (fun _ hk => hk.2)))) _).trans (((cell_far (p := ⟨a6, _, none⟩) (by first | exact Kd.own_blk (Kd.R_away a3.out (fun _ hk => hk.2)) | (rw [add_block]; exact Kd.own_blk (Kd.R_away a3.out (fun _ hk => hk.2))) | (show (Addr.add _ _).block ≠ _; rw [add_block]; exact Kd.own_blk (Kd.R_away a3.out (fun _ hk => hk.2))) | (dsimp only; exact Kd.own_blk (Kd.R_away a3.out (fun _ hk => hk.2)))) _).trans (a2.2.2.2.2.2.2.1)))), ((cell_far (p := ⟨a6, _, none⟩) (by first | exact Kd.own_blk (Kd.R_away a3.out (fun _ hk => hk.2)) | (rw [add_block]; exact Kd.own_blk (Kd.R_away a3.out (fun _ hk => hk.2))) | (show (Addr.add _ _).block ≠ _; rw [add_block]; exact Kd.own_blk (Kd.R_away a3.out (fun _ hk => hk.2))) | (dsimp only; exact Kd.own_blk (Kd.R_away a3.out (fun _ hk => hk.2)))) _).trans (((cell_far (p := ⟨a6, _, none⟩) (by first | exact Kd.own_blk (Kd.R_away a3.out (fun _ hk => hk.2)) | (rw [add_block]; exact Kd.own_blk (Kd.R_away a3.out (fun _ hk => hk.2))) | (show (Addr.add _ _).block ≠ _; rw [add_block]; exact Kd.own_blk (Kd.R_away a3.out (fun _ hk => hk.2))) | (dsimp only; exact Kd.own_blk (Kd.R_away a3.out (fun _ hk => hk.2)))) _).trans (a2.2.2.2.2.2.2.2))))⟩ (fun a2 => ?_)
                      clear hK K
                      refine done_ (done_of HT_.out (by kernel_rfl)) ?_
                      have n6 := b7.out
                      have n7 := b5.out
                      have h7 : _ = some (Value.float .f64 (0 : Nat)) := (blk_cell b6.out 0).trans rfl
                      have h8 : _ = some (Value.float .f64 (0 : Nat)) := (blk_cell b6.out 1).trans rfl
                      have h9 := blk_frozen b6.out 0
                      have i0 := blk_frozen b6.out 1
                      try go_wp2_with (first | (go_at_call 33; (with_reducible refine (spec_l2Finite.calls (fl2 .add (fl2 .mul (fl2 .sub ((rd_T42 x1_1 x14_1).f0) ((rd_T42 x1_1 x25_2).f0)) (fl2 .sub ((rd_T42 x1_1 x14_1).f0) ((rd_T42 x1_1 x25_2).f0))) (fl2 .mul (fl2 .sub ((rd_T42 x1_1 x14_1).f1) ((rd_T42 x1_1 x25_2).f1)) (fl2 .sub ((rd_T42 x1_1 x14_1).f1) ((rd_T42 x1_1 x25_2).f1)))) true _ h6.out).mono ?_); rintro e w' ⟨rfl, ⟨nd, rfl⟩⟩; have i1 : _ = some (Value.float .f64 x143000_2) := (blk_cell a4.out 0).trans rfl; have i2 : _ = some (Value.float .f64 x143001_2) := (blk_cell a4.out 1).trans rfl; have i3 := blk_frozen a4.out 0; have i4 := blk_frozen a4.out 1) | (go_at_call 34; (with_reducible refine (spec_l3Finite.calls x143000_2 x143001_2 true _ (R_l3Finite HS.out n4.out)).mono ?_); rintro e p9 ⟨rfl, hb⟩; replace a3 := a_ (Kd.R_below (rk (Kd.R_mono (Kd.R_far (p := ⟨a6, 1, none⟩) (Kd.R_far (p := ⟨a6, 0, none⟩) (Kd.R_mono a3.out (fun k_ hk => (⟨hk, hk.2⟩ : _ ∧ k_ ≠ a6))) (fun _ hk => hk.2) (.float .f64 (fl2 .sub ((rd_T42 x1_1 x14_1).f0) ((rd_T42 x1_1 x25_2).f0)))) (fun _ hk => hk.2) (.float .f64 (fl2 .sub ((rd_T42 x1_1 x14_1).f1) ((rd_T42 x1_1 x25_2).f1)))) (fun _ h_ => h_.1))) hb); replace a4 := a_ (blk_below (g := a9) (o := .cells #[.float .f64 x143000_2, .float .f64 x143001_2] 42 (0, 0)) (by refine pk ?_; refine blk_far ?_ b5.out _; refine pk ?_; refine blk_far ?_ b5.out _; refine pk ?_; exact a4.out) hb); replace b6 := a_ (blk_below (g := a6) (o := .cells #[.float .f64 (fl2 .sub ((rd_T42 x1_1 x14_1).f0) ((rd_T42 x1_1 x25_2).f0)), .float .f64 (fl2 .sub ((rd_T42 x1_1 x14_1).f1) ((rd_T42 x1_1 x25_2).f1))] 42 (0, 0)) (by refine pk ?_; refine blk_put (cs := #[.float .f64 (fl2 .sub ((rd_T42 x1_1 x14_1).f0) ((rd_T42 x1_1 x25_2).f0)), .float .f64 (0 : Nat)]) ?_ 1 _ rfl; refine pk ?_; refine blk_put (cs := #[.float .f64 (0 : Nat), .float .f64 (0 : Nat)]) ?_ 0 _ rfl; refine pk ?_; exact b6.out) hb); replace HK := a_ (Kept.below (S := (fun k_ => P1_ k_)) (by repeat (first | (with_reducible first | exact HK.out | apply Kept.alloc | apply Kept.drewN | apply Kept.drew | refine Kept.setCell ?_ (.inr b2.out) _ | refine Kept.setCell ?_ (.inr d1.out) _) | exact HK.out)) hb); replace HB := a_ (below_step (by repeat (with_reducible first | exact HB.out | refine bz ?_ (by assumption) | apply bA | apply bN | apply bD)) hb); clear hb; have i5 : _ = some (Value.float .f64 x143000_2) := (blk_cell a4.out 0).trans rfl; have i6 : _ = some (Value.float .f64 x143001_2) := (blk_cell a4.out 1).trans rfl; have i7 := blk_frozen a4.out 0; have i8 := blk_frozen a4.out 1; have i9 : _ = some (Value.float .f64 (fl2 .sub ((rd_T42 x1_1 x14_1).f0) ((rd_T42 x1_1 x25_2).f0))) := (blk_cell b6.out 0).trans rfl; have j0 : _ = some (Value.float .f64 (fl2 .sub ((rd_T42 x1_1 x14_1).f1) ((rd_T42 x1_1 x25_2).f1))) := (blk_cell b6.out 1).trans rfl; have j1 := blk_frozen b6.out 0; have j2 := blk_frozen b6.out 1) | ((with_reducible refine gate_callee (f := 35) rfl ?_); refine goesL_ (some 79) rfl rfl Try.func35 (by kernel_rfl) rfl #[.agg #[.float .f64 x143000_2, .float .f64 x143001_2], .agg #[.float .f64 (fl2 .sub ((rd_T42 x1_1 x14_1).f0) ((rd_T42 x1_1 x25_2).f0)), .float .f64 (fl2 .sub ((rd_T42 x1_1 x14_1).f1) ((rd_T42 x1_1 x25_2).f1))]] rfl (by (try simp only [lA, lB, lC]); first | done | rfl | (simp only [lD, lE]; rfl)) ?_; (with_reducible refine (spec_l3Div.rel x143000_2 x143001_2 (fl2 .sub ((rd_T42 x1_1 x14_1).f0) ((rd_T42 x1_1 x25_2).f0)) (fl2 .sub ((rd_T42 x1_1 x14_1).f1) ((rd_T42 x1_1 x25_2).f1)) _ (hD_of f9 g0 g1 e8 h6.out)).mono ?_); rintro e q0 ⟨f2, g7, S157, rfl, hb⟩; refine ⟨_, rfl, ?_⟩; replace a3 := a_ (Kd.R_below (rk a3.out) hb); replace a4 := a_ (blk_below (pk a4.out) hb); replace b6 := a_ (blk_below (pk b6.out) hb); replace HK := a_ (Kept.below (S := (fun k_ => P1_ k_)) (by repeat (first | (with_reducible first | exact HK.out | apply Kept.alloc | apply Kept.drewN | apply Kept.drew | refine Kept.setCell ?_ (.inr b2.out) _ | refine Kept.setCell ?_ (.inr d1.out) _) | exact HK.out)) hb); replace HB := a_ (below_step (by repeat (with_reducible first | exact HB.out | refine bz ?_ (by assumption) | apply bA | apply bN | apply bD)) hb); clear hb; have j3 : _ = some (Value.float .f64 x143000_2) := (blk_cell a4.out 0).trans rfl; have j4 : _ = some (Value.float .f64 x143001_2) := (blk_cell a4.out 1).trans rfl; have j5 := blk_frozen a4.out 0; have j6 := blk_frozen a4.out 1))
                      go_roundg k2
                      case measure => have := HK1.out; have := HK2.out; omega
                      case rel => exact ⟨(wrap64 (x25_2 + 1)), (T157), (T158), (f2), (g7), (by first | rfl | (simp; done) | (simp [*]; done)), H', ⟨by have := HK1.out; have := HK2.out; omega⟩, ⟨Flo.sp_via HS.out p4.out S157⟩, ⟨by (try simp only [c8]); refine rk ?_; exact Kd.R_mono (Kd.R_far (p := ⟨a9, 1, none⟩) (Kd.R_far (p := ⟨a9, 0, none⟩) (Kd.R_mono a3.out (fun k_ hk => (⟨hk, hk.1.2⟩ : _ ∧ k_ ≠ a9))) (fun _ hk => hk.2) (.float .f64 f2)) (fun _ hk => hk.2) (.float .f64 g7)) (fun _ hk => hk.1.1)⟩, ⟨by (try simp only [c8]); refine pk ?_; refine blk_put (cs := #[.float .f64 f2, .float .f64 x143001_2]) ?_ 1 _ rfl; refine pk ?_; refine blk_put (cs := #[.float .f64 x143000_2, .float .f64 x143001_2]) ?_ 0 _ rfl; refine pk ?_; exact a4.out⟩, ⟨by repeat (first | (with_reducible first | exact HK.out | apply Kept.alloc | apply Kept.drewN | apply Kept.drew | refine Kept.setCell ?_ (.inr b2.out) _ | refine Kept.setCell ?_ (.inr d1.out) _) | exact HK.out)⟩, ⟨by repeat (with_reducible first | exact HB.out | refine bz ?_ (by assumption) | apply bA | apply bN | apply bD)⟩⟩
                     ·replace c32 := Bool.eq_false_iff.mpr c32
                      subst c32
                      have H1 : (some (false, x1_1)) = some (r1, r2) := by rw [if_neg (show ¬ (false = true) by decide)] at H; exact H
                      clear H
                      have H := H1
                      clear H1
                      simp only [Option.some.injEq, Prod.mk.injEq] at H
                      obtain ⟨rfl, rfl⟩ := H
                      try go_wp2
                      replace a3 := a_ (Kd.R_drew a3.out)
                      replace a4 := a_ (blk_drew a4.out)
                      replace HK := a_ (Kept.drew HK.out)
                      replace HB := a_ (below_drew1 HB.out)
                      have p150 : 0 ≤ (x14_1 : Int) := of_decide_eq_true (by first | (with_reducible assumption) | assumption)
                      have q150 : x14_1 < (x1_1.length : Int) := of_decide_eq_true (by first | (with_reducible assumption) | assumption)
                      obtain ⟨ad150, e150, hx150_0, hx150_1⟩ := at_T42 (Kd.R_reads' a3.out).2.2 x14_1 p150 q150
                      obtain rfl : ad139 = ad150 := (by injection e150)
                      replace p150 := eq_true p150
                      replace q150 := eq_true q150
                      have p151 : 0 ≤ (x25_2 : Int) := of_decide_eq_true (by first | (with_reducible assumption) | assumption)
                      have q151 : x25_2 < (x1_1.length : Int) := of_decide_eq_true (by first | (with_reducible assumption) | assumption)
                      obtain ⟨ad151, e151, hx151_0, hx151_1⟩ := at_T42 (Kd.R_reads' a3.out).2.2 x25_2 p151 q151
                      obtain rfl : ad139 = ad151 := (by injection e151)
                      replace p151 := eq_true p151
                      replace q151 := eq_true q151
                      have p152 : 0 ≤ (x14_1 : Int) := of_decide_eq_true (by first | (with_reducible assumption) | assumption)
                      have q152 : x14_1 < (x1_1.length : Int) := of_decide_eq_true (by first | (with_reducible assumption) | assumption)
                      obtain ⟨ad152, e152, hx152_0, hx152_1⟩ := at_T42 (Kd.R_reads' a3.out).2.2 x14_1 p152 q152
                      obtain rfl : ad139 = ad152 := (by injection e152)
                      replace p152 := eq_true p152
                      replace q152 := eq_true q152
                      have p153 : 0 ≤ (x25_2 : Int) := of_decide_eq_true (by first | (with_reducible assumption) | assumption)
                      have q153 : x25_2 < (x1_1.length : Int) := of_decide_eq_true (by first | (with_reducible assumption) | assumption)
                      obtain ⟨ad153, e153, hx153_0, hx153_1⟩ := at_T42 (Kd.R_reads' a3.out).2.2 x25_2 p153 q153
                      obtain rfl : ad139 = ad153 := (by injection e153)
                      replace p153 := eq_true p153
                      replace q153 := eq_true q153
                      refine start_ (n := 25) (S := fun w' => w'.cell? (ad139.add ((x14_1).toNat * 2)) = some (.float .f64 ((rd_T42 x1_1 x14_1).f0)) ∧ w'.cell? ⟨(ad139.add ((x14_1).toNat * 2)).block, (ad139.add ((x14_1).toNat * 2)).off + 1, none⟩ = some (.float .f64 ((rd_T42 x1_1 x14_1).f1)) ∧ w'.cell? (ad139.add ((x25_2).toNat * 2)) = some (.float .f64 ((rd_T42 x1_1 x25_2).f0)) ∧ w'.cell? ⟨(ad139.add ((x25_2).toNat * 2)).block, (ad139.add ((x25_2).toNat * 2)).off + 1, none⟩ = some (.float .f64 ((rd_T42 x1_1 x25_2).f1)) ∧ w'.cell? (ad139.add ((x14_1).toNat * 2)) = some (.float .f64 ((rd_T42 x1_1 x14_1).f0)) ∧ w'.cell? ⟨(ad139.add ((x14_1).toNat * 2)).block, (ad139.add ((x14_1).toNat * 2)).off + 1, none⟩ = some (.float .f64 ((rd_T42 x1_1 x14_1).f1)) ∧ w'.cell? (ad139.add ((x25_2).toNat * 2)) = some (.float .f64 ((rd_T42 x1_1 x25_2).f0)) ∧ w'.cell? ⟨(ad139.add ((x25_2).toNat * 2)).block, (ad139.add ((x25_2).toNat * 2)).off + 1, none⟩ = some (.float .f64 ((rd_T42 x1_1 x25_2).f1))) (ds := []) #[false, false, false, false, false, false, false, false, false, false, false, false, false, false, false, false, false, false, false, false, false, false, false, false, false] (by kernel_rfl) rfl rfl ⟨hx150_0, hx150_1, hx151_0, hx151_1, hx152_0, hx152_1, hx153_0, hx153_1⟩ (fun a2 => ?_); refine with_tabW spec_l3Step.tab9 spec_l3Step.bits9 (fun HT_ HW_ => ?_)
                      generalize wr.drew = q2 at a3 a4 HK HB hx150_0 hx150_1 hx151_0 hx151_1 hx152_0 hx152_1 hx153_0 hx153_1 a2 ⊢
                      refine pure_ (i := 0) (N := some 31) (v := ?_) (a' := ?_) #[true, false, false, false, false, false, false, false, false, false, false, false, false, false, false, false, false, false, false, false, false, false, false, false, false] rfl rfl (any_of HT_.out (by kernel_rfl)) (fun _ _ _ h => h) (Or.inl ⟨by rfl, ?_⟩) ?_ ?_
                      rotate_left
                      ·intro w'
                       go_simp
                       with_reducible rfl
                      rotate_left
                      ·simp only [Act.put, sB, sC, sD, i64_w, i32_w]
                       rfl
                      refine pure_ (i := 1) (N := some 32) (v := ?_) (a' := ?_) #[true, true, false, false, false, false, false, false, false, false, false, false, false, false, false, false, false, false, false, false, false, false, false, false, false] rfl rfl (any_of HT_.out (by kernel_rfl)) (fun _ _ _ h => h) (Or.inl ⟨by rfl, ?_⟩) ?_ ?_
                      rotate_left
                      ·intro w'
                       go_simp
                       with_reducible rfl
                      rotate_left
                      ·simp only [Act.put, sB, sC, sD, i64_w, i32_w]
                       rfl
                      refine pure_ (i := 2) (N := some 33) (v := ?_) (a' := ?_) #[true, true, true, false, false, false, false, false, false, false, false, false, false, false, false, false, false, false, false, false, false, false, false, false, false] rfl rfl (any_of HT_.out (by kernel_rfl)) (fun _ _ _ h => h) (Or.inl ⟨by rfl, ?_⟩) ?_ ?_
                      rotate_left
                      ·intro w'
                       go_simp
                       with_reducible rfl
                      rotate_left
                      ·simp only [Act.put, sB, sC, sD, i64_w, i32_w]
                       rfl
                      refine pure_ (i := 3) (N := some 34) (v := ?_) (a' := ?_) #[true, true, true, true, false, false, false, false, false, false, false, false, false, false, false, false, false, false, false, false, false, false, false, false, false] rfl rfl (any_of HT_.out (by kernel_rfl)) (fun _ _ _ h => h) (Or.inl ⟨by rfl, ?_⟩) ?_ ?_
                      rotate_left
                      ·intro w'
                       go_simp
                       with_reducible rfl
                      rotate_left
                      ·simp only [Act.put, sB, sC, sD, i64_w, i32_w]
                       rfl
                      refine pure_ (i := 5) (N := some 36) (v := ?_) (a' := ?_) #[true, true, true, true, false, true, false, false, false, false, false, false, false, false, false, false, false, false, false, false, false, false, false, false, false] rfl rfl (any_of HT_.out (by kernel_rfl)) (fun _ _ _ h => h) (Or.inl ⟨by rfl, ?_⟩) ?_ ?_
                      rotate_left
                      ·intro w'
                       go_simp
                       with_reducible rfl
                      rotate_left
                      ·simp only [Act.put, sB, sC, sD, i64_w, i32_w]
                       rfl
                      refine pure_ (i := 6) (N := some 37) (v := ?_) (a' := ?_) #[true, true, true, true, false, true, true, false, false, false, false, false, false, false, false, false, false, false, false, false, false, false, false, false, false] rfl rfl (any_of HT_.out (by kernel_rfl)) (fun _ _ _ h => h) (Or.inl ⟨by rfl, ?_⟩) ?_ ?_
                      rotate_left
                      ·intro w'
                       go_simp
                       with_reducible rfl
                      rotate_left
                      ·simp only [Act.put, sB, sC, sD, i64_w, i32_w]
                       rfl
                      refine pure_ (i := 7) (N := some 38) (v := ?_) (a' := ?_) #[true, true, true, true, false, true, true, true, false, false, false, false, false, false, false, false, false, false, false, false, false, false, false, false, false] rfl rfl (any_of HT_.out (by kernel_rfl)) (fun _ _ _ h => h) (Or.inl ⟨by rfl, ?_⟩) ?_ ?_
                      rotate_left
                      ·intro w'
                       go_simp
                       with_reducible rfl
                      rotate_left
                      ·simp only [Act.put, sB, sC, sD, i64_w, i32_w]
                       rfl
                      refine pure_ (i := 8) (N := some 39) (v := ?_) (a' := ?_) #[true, true, true, true, false, true, true, true, true, false, false, false, false, false, false, false, false, false, false, false, false, false, false, false, false] rfl rfl (any_of HT_.out (by kernel_rfl)) (fun _ _ _ h => h) (Or.inl ⟨by rfl, ?_⟩) ?_ ?_
                      rotate_left
                      ·intro w'
                       go_simp
                       with_reducible rfl
                      rotate_left
                      ·simp only [Act.put, sB, sC, sD, i64_w, i32_w]
                       rfl
                      refine pure_ (i := 11) (N := some 42) (v := ?_) (a' := ?_) #[true, true, true, true, false, true, true, true, true, false, false, true, false, false, false, false, false, false, false, false, false, false, false, false, false] rfl rfl (any_of HT_.out (by kernel_rfl)) (fun _ _ _ h => h) (Or.inl ⟨by rfl, ?_⟩) ?_ ?_
                      rotate_left
                      ·intro w'
                       go_simp
                       with_reducible rfl
                      rotate_left
                      ·simp only [Act.put, sB, sC, sD, i64_w, i32_w]
                       rfl
                      refine pure_ (i := 12) (N := some 43) (v := ?_) (a' := ?_) #[true, true, true, true, false, true, true, true, true, false, false, true, true, false, false, false, false, false, false, false, false, false, false, false, false] rfl rfl (any_of HT_.out (by kernel_rfl)) (fun _ _ _ h => h) (Or.inl ⟨by rfl, ?_⟩) ?_ ?_
                      rotate_left
                      ·intro w'
                       go_simp
                       with_reducible rfl
                      rotate_left
                      ·simp only [Act.put, sB, sC, sD, i64_w, i32_w]
                       rfl
                      refine pure_ (i := 13) (N := some 44) (v := ?_) (a' := ?_) #[true, true, true, true, false, true, true, true, true, false, false, true, true, true, false, false, false, false, false, false, false, false, false, false, false] rfl rfl (any_of HT_.out (by kernel_rfl)) (fun _ _ _ h => h) (Or.inl ⟨by rfl, ?_⟩) ?_ ?_
                      rotate_left
                      ·intro w'
                       go_simp
                       with_reducible rfl
                      rotate_left
                      ·simp only [Act.put, sB, sC, sD, i64_w, i32_w]
                       rfl
                      refine pure_ (i := 14) (N := some 45) (v := ?_) (a' := ?_) #[true, true, true, true, false, true, true, true, true, false, false, true, true, true, true, false, false, false, false, false, false, false, false, false, false] rfl rfl (any_of HT_.out (by kernel_rfl)) (fun _ _ _ h => h) (Or.inl ⟨by rfl, ?_⟩) ?_ ?_
                      rotate_left
                      ·intro w'
                       go_simp
                       with_reducible rfl
                      rotate_left
                      ·simp only [Act.put, sB, sC, sD, i64_w, i32_w]
                       rfl
                      refine pure_ (i := 16) (N := some 47) (v := ?_) (a' := ?_) #[true, true, true, true, false, true, true, true, true, false, false, true, true, true, true, false, true, false, false, false, false, false, false, false, false] rfl rfl (any_of HT_.out (by kernel_rfl)) (fun _ _ _ h => h) (Or.inl ⟨by rfl, ?_⟩) ?_ ?_
                      rotate_left
                      ·intro w'
                       go_simp
                       with_reducible rfl
                      rotate_left
                      ·simp only [Act.put, sB, sC, sD, i64_w, i32_w]
                       rfl
                      refine pure_ (i := 17) (N := some 48) (v := ?_) (a' := ?_) #[true, true, true, true, false, true, true, true, true, false, false, true, true, true, true, false, true, true, false, false, false, false, false, false, false] rfl rfl (any_of HT_.out (by kernel_rfl)) (fun _ _ _ h => h) (Or.inl ⟨by rfl, ?_⟩) ?_ ?_
                      rotate_left
                      ·intro w'
                       go_simp
                       with_reducible rfl
                      rotate_left
                      ·simp only [Act.put, sB, sC, sD, i64_w, i32_w]
                       rfl
                      refine pure_ (i := 18) (N := some 49) (v := ?_) (a' := ?_) #[true, true, true, true, false, true, true, true, true, false, false, true, true, true, true, false, true, true, true, false, false, false, false, false, false] rfl rfl (any_of HT_.out (by kernel_rfl)) (fun _ _ _ h => h) (Or.inl ⟨by rfl, ?_⟩) ?_ ?_
                      rotate_left
                      ·intro w'
                       go_simp
                       with_reducible rfl
                      rotate_left
                      ·simp only [Act.put, sB, sC, sD, i64_w, i32_w]
                       rfl
                      refine pure_ (i := 19) (N := some 50) (v := ?_) (a' := ?_) #[true, true, true, true, false, true, true, true, true, false, false, true, true, true, true, false, true, true, true, true, false, false, false, false, false] rfl rfl (any_of HT_.out (by kernel_rfl)) (fun _ _ _ h => h) (Or.inl ⟨by rfl, ?_⟩) ?_ ?_
                      rotate_left
                      ·intro w'
                       go_simp
                       with_reducible rfl
                      rotate_left
                      ·simp only [Act.put, sB, sC, sD, i64_w, i32_w]
                       rfl
                      refine take_ (i := 4) (N := some 35) (v := ?_) (a' := ?_) #[true, true, true, true, true, true, true, true, true, false, false, true, true, true, true, false, true, true, true, true, false, false, false, false, false] rfl rfl (take_ofW HT_.out HW_.out (by kernel_rfl)) (fun _ _ _ h => h) (Or.inl ⟨by rfl, ?_⟩) a2 ?_ ?_
                      rotate_left
                      ·rintro w' ⟨s0, s1, s2, s3, s4, s5, s6, s7⟩
                       go_simp
                       with_reducible rfl
                      rotate_left
                      ·simp only [Act.put, sB, sC, sD, i64_w, i32_w]
                       rfl
                      refine take_ (i := 9) (N := some 40) (v := ?_) (a' := ?_) #[true, true, true, true, true, true, true, true, true, true, false, true, true, true, true, false, true, true, true, true, false, false, false, false, false] rfl rfl (take_ofW HT_.out HW_.out (by kernel_rfl)) (fun _ _ _ h => h) (Or.inl ⟨by rfl, ?_⟩) a2 ?_ ?_
                      rotate_left
                      ·rintro w' ⟨s0, s1, s2, s3, s4, s5, s6, s7⟩
                       go_simp
                       with_reducible rfl
                      rotate_left
                      ·simp only [Act.put, sB, sC, sD, i64_w, i32_w]
                       rfl
                      refine pure_ (i := 10) (N := some 41) (v := ?_) (a' := ?_) #[true, true, true, true, true, true, true, true, true, true, true, true, true, true, true, false, true, true, true, true, false, false, false, false, false] rfl rfl (any_of HT_.out (by kernel_rfl)) (fun _ _ _ h => h) (Or.inl ⟨by rfl, ?_⟩) ?_ ?_
                      rotate_left
                      ·intro w'
                       go_simp
                       with_reducible rfl
                      rotate_left
                      ·simp only [Act.put, sB, sC, sD, i64_w, i32_w]
                       rfl
                      refine take_ (i := 15) (N := some 46) (v := ?_) (a' := ?_) #[true, true, true, true, true, true, true, true, true, true, true, true, true, true, true, true, true, true, true, true, false, false, false, false, false] rfl rfl (take_ofW HT_.out HW_.out (by kernel_rfl)) (fun _ _ _ h => h) (Or.inl ⟨by rfl, ?_⟩) a2 ?_ ?_
                      rotate_left
                      ·rintro w' ⟨s0, s1, s2, s3, s4, s5, s6, s7⟩
                       go_simp
                       with_reducible rfl
                      rotate_left
                      ·simp only [Act.put, sB, sC, sD, i64_w, i32_w]
                       rfl
                      refine take_ (i := 20) (N := some 51) (v := ?_) (a' := ?_) #[true, true, true, true, true, true, true, true, true, true, true, true, true, true, true, true, true, true, true, true, true, false, false, false, false] rfl rfl (take_ofW HT_.out HW_.out (by kernel_rfl)) (fun _ _ _ h => h) (Or.inl ⟨by rfl, ?_⟩) a2 ?_ ?_
                      rotate_left
                      ·rintro w' ⟨s0, s1, s2, s3, s4, s5, s6, s7⟩
                       go_simp
                       with_reducible rfl
                      rotate_left
                      ·simp only [Act.put, sB, sC, sD, i64_w, i32_w]
                       rfl
                      refine pure_ (i := 21) (N := some 52) (v := ?_) (a' := ?_) #[true, true, true, true, true, true, true, true, true, true, true, true, true, true, true, true, true, true, true, true, true, true, false, false, false] rfl rfl (any_of HT_.out (by kernel_rfl)) (fun _ _ _ h => h) (Or.inl ⟨by rfl, ?_⟩) ?_ ?_
                      rotate_left
                      ·intro w'
                       go_simp
                       with_reducible rfl
                      rotate_left
                      ·simp only [Act.put, sB, sC, sD, i64_w, i32_w]
                       rfl
                      refine pure_ (i := 22) (N := some 53) (v := ?_) (a' := ?_) #[true, true, true, true, true, true, true, true, true, true, true, true, true, true, true, true, true, true, true, true, true, true, true, false, false] rfl rfl (any_of HT_.out (by kernel_rfl)) (fun _ _ _ h => h) (Or.inl ⟨by rfl, ?_⟩) ?_ ?_
                      rotate_left
                      ·intro w'
                       go_simp
                       with_reducible rfl
                      rotate_left
                      ·simp only [Act.put, sB, sC, sD, i64_w, i32_w]
                       rfl
                      refine one_ (i := 23) (N := some 8) #[true, true, true, true, true, true, true, true, true, true, true, true, true, true, true, true, true, true, true, true, true, true, true, true, false] rfl rfl (one_of HT_.out (by kernel_rfl)) (by decide) (fun K hK => ?_)
                      refine box_step ?hg (N := 8) ?hd (cs := #[.float .f64 (0 : Nat), .float .f64 (0 : Nat)]) (t := 42) ?hr ?_; (case hd => rfl); (case hg => rfl); (case hr => first | (go_simp; done) | (go_simp; rfl))
                      intro a6 hg n8 hbox hb
                      have HS0_ := (hb.cell (World.block_lt_of_cell? _ _ (a2.1))).trans (a2.1)
                      have HS1_ := (hb.cell (World.block_lt_of_cell? _ _ (a2.2.1))).trans (a2.2.1)
                      have HS2_ := (hb.cell (World.block_lt_of_cell? _ _ (a2.2.2.1))).trans (a2.2.2.1)
                      have HS3_ := (hb.cell (World.block_lt_of_cell? _ _ (a2.2.2.2.1))).trans (a2.2.2.2.1)
                      have HS4_ := (hb.cell (World.block_lt_of_cell? _ _ (a2.2.2.2.2.1))).trans (a2.2.2.2.2.1)
                      have HS5_ := (hb.cell (World.block_lt_of_cell? _ _ (a2.2.2.2.2.2.1))).trans (a2.2.2.2.2.2.1)
                      have HS6_ := (hb.cell (World.block_lt_of_cell? _ _ (a2.2.2.2.2.2.2.1))).trans (a2.2.2.2.2.2.2.1)
                      have HS7_ := (hb.cell (World.block_lt_of_cell? _ _ (a2.2.2.2.2.2.2.2))).trans (a2.2.2.2.2.2.2.2)
                      replace a3 := a_ (Kd.R_below (Kd.R_elderB (rk a3.out) a6 (Nat.le_of_eq hg.symm)) hb)
                      have b6 := a_ (hbox)
                      have d1 := a_ (by rw [hg]; exact (by first | exact HK.out.1 | exact (show Kept w _ (fun k_ => P1_ k_) from by repeat (first | (with_reducible first | exact HK.out | apply Kept.alloc | apply Kept.drewN | apply Kept.drew | refine Kept.setCell ?_ (.inr b2.out) _) | exact HK.out)).1) : w.heap.size ≤ a6)
                      replace HK := a_ (Kept.below (S := (fun k_ => P1_ k_)) (by repeat (first | (with_reducible first | exact HK.out | apply Kept.alloc | apply Kept.drewN | apply Kept.drew | refine Kept.setCell ?_ (.inr b2.out) _) | exact HK.out)) hb)
                      have d2 := a_ (by rw [hg]; exact (bs HB.out) : w0.heap.size ≤ a6)
                      replace HB := a_ (below_step (by repeat (with_reducible first | exact HB.out | refine bz ?_ (by assumption) | apply bA | apply bN | apply bD)) hb)
                      have b5 := a_ (nel hg a4.out)
                      have b7 := a_ (nle hg a4.out)
                      replace a4 := a_ (blk_below (pk a4.out) hb)
                      clear hb hbox hg
                      refine hK.out _ _ ⟨HS0_, HS1_, HS2_, HS3_, HS4_, HS5_, HS6_, HS7_⟩ (fun a2 => ?_)
                      clear hK K
                      refine norm_ (a' := ?_) ?_ ?_
                      rotate_left
                      ·show Act.put _ (some 8) _ = _
                       simp only [Act.put, sB, sC, sD, i64_w, i32_w]
                       rfl
                      refine one_ (i := 24) (N := none) #[true, true, true, true, true, true, true, true, true, true, true, true, true, true, true, true, true, true, true, true, true, true, true, true, true] rfl rfl (one_of HT_.out (by kernel_rfl)) (by decide) (fun K hK => ?_)
                      have hs48 : n8.cell? ⟨a6, 0, none⟩ = some (.float .f64 (0 : Nat)) := (blk_cell b6.out 0).trans rfl
                      have hfs48 := blk_frozen b6.out 0
                      have hns48_0 := b5.out
                      have hms48_0 := b7.out
                      have hs49 : n8.cell? ⟨a6, 1, none⟩ = some (.float .f64 (0 : Nat)) := (blk_cell b6.out 1).trans rfl
                      have hfs49 := blk_frozen b6.out 1
                      have hns49_0 := b5.out
                      have hms49_0 := b7.out
                      refine skip_ (w1 := ?_) ?_ ?_ ?_ ?_
                      rotate_left
                      ·rfl
                      ·rfl
                      ·go_simp
                       rfl
                      refine hK.out _ _ ⟨((cell_far (p := ⟨a6, _, none⟩) (by first | exact Kd.own_blk (Kd.R_away a3.out (fun _ hk => hk.2)) | (rw [add_block]; exact Kd.own_blk (Kd.R_away a3.out (fun _ hk => hk.2))) | (show (Addr.add _ _).block ≠ _; rw [add_block]; exact Kd.own_blk (Kd.R_away a3.out (fun _ hk => hk.2))) | (dsimp only; exact Kd.own_blk (Kd.R_away a3.out (fun _ hk => hk.2)))) _).trans (((cell_far (p := ⟨a6, _, none⟩) (by first | exact Kd.own_blk (Kd.R_away a3.out (fun _ hk => hk.2)) | (rw [add_block]; exact Kd.own_blk (Kd.R_away a3.out (fun _ hk => hk.2))) | (show (Addr.add _ _).block ≠ _; rw [add_block]; exact Kd.own_blk (Kd.R_away a3.out (fun _ hk => hk.2))) | (dsimp only; exact Kd.own_blk (Kd.R_away a3.out (fun _ hk => hk.2)))) _).trans (a2.1)))), ((cell_far (p := ⟨a6, _, none⟩) (by first | exact Kd.own_blk (Kd.R_away a3.out (fun _ hk => hk.2)) | (rw [add_block]; exact Kd.own_blk (Kd.R_away a3.out (fun _ hk => hk.2))) | (show (Addr.add _ _).block ≠ _; rw [add_block]; exact Kd.own_blk (Kd.R_away a3.out (fun _ hk => hk.2))) | (dsimp only; exact Kd.own_blk (Kd.R_away a3.out (fun _ hk => hk.2)))) _).trans (((cell_far (p := ⟨a6, _, none⟩) (by first | exact Kd.own_blk (Kd.R_away a3.out (fun _ hk => hk.2)) | (rw [add_block]; exact Kd.own_blk (Kd.R_away a3.out (fun _ hk => hk.2))) | (show (Addr.add _ _).block ≠ _; rw [add_block]; exact Kd.own_blk (Kd.R_away a3.out (fun _ hk => hk.2))) | (dsimp only; exact Kd.own_blk (Kd.R_away a3.out (fun _ hk => hk.2)))) _).trans (a2.2.1)))), ((cell_far (p := ⟨a6, _, none⟩) (by first | exact Kd.own_blk (Kd.R_away a3.out (fun _ hk => hk.2)) | (rw [add_block]; exact Kd.own_blk (Kd.R_away a3.out (fun _ hk => hk.2))) | (show (Addr.add _ _).block ≠ _; rw [add_block]; exact Kd.own_blk (Kd.R_away a3.out (fun _ hk => hk.2))) | (dsimp only; exact Kd.own_blk (Kd.R_away a3.out (fun _ hk => hk.2)))) _).trans (((cell_far (p := ⟨a6, _, none⟩) (by first | exact Kd.own_blk (Kd.R_away a3.out (fun _ hk => hk.2)) | (rw [add_block]; exact Kd.own_blk (Kd.R_away a3.out (fun _ hk => hk.2))) | (show (Addr.add _ _).block ≠ _; rw [add_block]; exact Kd.own_blk (Kd.R_away a3.out (fun _ hk => hk.2))) | (dsimp only; exact Kd.own_blk (Kd.R_away a3.out (fun _ hk => hk.2)))) _).trans (a2.2.2.1)))), ((cell_far (p := ⟨a6, _, none⟩) (by first | exact Kd.own_blk (Kd.R_away a3.out (fun _ hk => hk.2)) | (rw [add_block]; exact Kd.own_blk (Kd.R_away a3.out (fun _ hk => hk.2))) | (show (Addr.add _ _).block ≠ _; rw [add_block]; exact Kd.own_blk (Kd.R_away a3.out (fun _ hk => hk.2))) | (dsimp only; exact Kd.own_blk (Kd.R_away a3.out (fun _ hk => hk.2)))) _).trans (((cell_far (p := ⟨a6, _, none⟩) (by first | exact Kd.own_blk (Kd.R_away a3.out (fun _ hk => hk.2)) | (rw [add_block]; exact Kd.own_blk (Kd.R_away a3.out (fun _ hk => hk.2))) | (show (Addr.add _ _).block ≠ _; rw [add_block]; exact Kd.own_blk (Kd.R_away a3.out (fun _ hk => hk.2))) | (dsimp only; exact Kd.own_blk (Kd.R_away a3.out (fun _ hk => hk.2)))) _).trans (a2.2.2.2.1)))), ((cell_far (p := ⟨a6, _, none⟩) (by first | exact Kd.own_blk (Kd.R_away a3.out (fun _ hk => hk.2)) | (rw [add_block]; exact Kd.own_blk (Kd.R_away a3.out (fun _ hk => hk.2))) | (show (Addr.add _ _).block ≠ _; rw [add_block]; exact Kd.own_blk (Kd.R_away a3.out (fun _ hk => hk.2))) | (dsimp only; exact Kd.own_blk (Kd.R_away a3.out (fun _ hk => hk.2)))) _).trans (((cell_far (p := ⟨a6, _, none⟩) (by first | exact Kd.own_blk (Kd.R_away a3.out (fun _ hk => hk.2)) | (rw [add_block]; exact Kd.own_blk (Kd.R_away a3.out (fun _ hk => hk.2))) | (show (Addr.add _ _).block ≠ _; rw [add_block]; exact Kd.own_blk (Kd.R_away a3.out (fun _ hk => hk.2))) | (dsimp only; exact Kd.own_blk (Kd.R_away a3.out (fun _ hk => hk.2)))) _).trans (a2.2.2.2.2.1)))), ((cell_far (p := ⟨a6, _, none⟩) (by first | exact Kd.own_blk (Kd.R_away a3.out (fun _ hk => hk.2)) | (rw [add_block]; exact Kd.own_blk (Kd.R_away a3.out (fun _ hk => hk.2))) | (show (Addr.add _ _).block ≠ _; rw [add_block]; exact Kd.own_blk (Kd.R_away a3.out (fun _ hk => hk.2))) | (dsimp only; exact Kd.own_blk (Kd.R_away a3.out (fun _ hk => hk.2)))) _).trans (((cell_far (p := ⟨a6, _, none⟩) (by first | exact Kd.own_blk (Kd.R_away a3.out (fun _ hk => hk.2)) | (rw [add_block]; exact Kd.own_blk (Kd.R_away a3.out (fun _ hk => hk.2))) | (show (Addr.add _ _).block ≠ _; rw [add_block]; exact Kd.own_blk (Kd.R_away a3.out (fun _ hk => hk.2))) | (dsimp only; exact Kd.own_blk (Kd.R_away a3.out (fun _ hk => hk.2)))) _).trans (a2.2.2.2.2.2.1)))), ((cell_far (p := ⟨a6, _, none⟩) (by first | exact Kd.own_blk (Kd.R_away a3.out (fun _ hk => hk.2)) | (rw [add_block]; exact Kd.own_blk (Kd.R_away a3.out (fun _ hk => hk.2))) | (show (Addr.add _ _).block ≠ _; rw [add_block]; exact Kd.own_blk (Kd.R_away a3.out (fun _ hk => hk.2))) | (dsimp only; exact Kd.own_blk (Kd.R_away a3.out (fun _ hk => hk.2)))) _).trans (((cell_far (p := ⟨a6, _, none⟩) (by first | exact Kd.own_blk (Kd.R_away a3.out (fun _ hk => hk.2)) | (rw [add_block]; exact Kd.own_blk (Kd.R_away a3.out (fun _ hk => hk.2))) | (show (Addr.add _ _).block ≠ _; rw [add_block]; exact Kd.own_blk (Kd.R_away a3.out (fun _ hk => hk.2))) | (dsimp only; exact Kd.own_blk (Kd.R_away a3.out (fun _ hk => hk.2)))) _).trans (a2.2.2.2.2.2.2.1)))), ((cell_far (p := ⟨a6, _, none⟩) (by first | exact Kd.own_blk (Kd.R_away a3.out (fun _ hk => hk.2)) | (rw [add_block]; exact Kd.own_blk (Kd.R_away a3.out (fun _ hk => hk.2))) | (show (Addr.add _ _).block ≠ _; rw [add_block]; exact Kd.own_blk (Kd.R_away a3.out (fun _ hk => hk.2))) | (dsimp only; exact Kd.own_blk (Kd.R_away a3.out (fun _ hk => hk.2)))) _).trans (((cell_far (p := ⟨a6, _, none⟩) (by first | exact Kd.own_blk (Kd.R_away a3.out (fun _ hk => hk.2)) | (rw [add_block]; exact Kd.own_blk (Kd.R_away a3.out (fun _ hk => hk.2))) | (show (Addr.add _ _).block ≠ _; rw [add_block]; exact Kd.own_blk (Kd.R_away a3.out (fun _ hk => hk.2))) | (dsimp only; exact Kd.own_blk (Kd.R_away a3.out (fun _ hk => hk.2)))) _).trans (a2.2.2.2.2.2.2.2))))⟩ (fun a2 => ?_)
                      clear hK K
                      refine done_ (done_of HT_.out (by kernel_rfl)) ?_
                      have n9 := b7.out
                      have o0 := b5.out
                      have j7 : _ = some (Value.float .f64 (0 : Nat)) := (blk_cell b6.out 0).trans rfl
                      have j8 : _ = some (Value.float .f64 (0 : Nat)) := (blk_cell b6.out 1).trans rfl
                      have j9 := blk_frozen b6.out 0
                      have k0 := blk_frozen b6.out 1
                      try go_wp2_with (first | (go_at_call 33; (with_reducible refine (spec_l2Finite.calls (fl2 .add (fl2 .mul (fl2 .sub ((rd_T42 x1_1 x14_1).f0) ((rd_T42 x1_1 x25_2).f0)) (fl2 .sub ((rd_T42 x1_1 x14_1).f0) ((rd_T42 x1_1 x25_2).f0))) (fl2 .mul (fl2 .sub ((rd_T42 x1_1 x14_1).f1) ((rd_T42 x1_1 x25_2).f1)) (fl2 .sub ((rd_T42 x1_1 x14_1).f1) ((rd_T42 x1_1 x25_2).f1)))) true _ h6.out).mono ?_); rintro e w' ⟨rfl, ⟨nd, rfl⟩⟩; have k3 : _ = some (Value.float .f64 x143000_2) := (blk_cell a4.out 0).trans rfl; have k4 : _ = some (Value.float .f64 x143001_2) := (blk_cell a4.out 1).trans rfl; have k5 := blk_frozen a4.out 0; have k6 := blk_frozen a4.out 1) | (go_at_call 34; (with_reducible refine (spec_l3Finite.calls x143000_2 x143001_2 false _ (R_l3Finite HS.out n4.out)).mono ?_); rintro e q3 ⟨rfl, hb⟩; replace a3 := a_ (Kd.R_below (rk (Kd.R_mono (Kd.R_far (p := ⟨a6, 1, none⟩) (Kd.R_far (p := ⟨a6, 0, none⟩) (Kd.R_mono a3.out (fun k_ hk => (⟨hk, hk.2⟩ : _ ∧ k_ ≠ a6))) (fun _ hk => hk.2) (.float .f64 (fl2 .sub ((rd_T42 x1_1 x14_1).f0) ((rd_T42 x1_1 x25_2).f0)))) (fun _ hk => hk.2) (.float .f64 (fl2 .sub ((rd_T42 x1_1 x14_1).f1) ((rd_T42 x1_1 x25_2).f1)))) (fun _ h_ => h_.1))) hb); replace a4 := a_ (blk_below (g := a9) (o := .cells #[.float .f64 x143000_2, .float .f64 x143001_2] 42 (0, 0)) (by refine pk ?_; refine blk_far ?_ b5.out _; refine pk ?_; refine blk_far ?_ b5.out _; refine pk ?_; exact a4.out) hb); replace b6 := a_ (blk_below (g := a6) (o := .cells #[.float .f64 (fl2 .sub ((rd_T42 x1_1 x14_1).f0) ((rd_T42 x1_1 x25_2).f0)), .float .f64 (fl2 .sub ((rd_T42 x1_1 x14_1).f1) ((rd_T42 x1_1 x25_2).f1))] 42 (0, 0)) (by refine pk ?_; refine blk_put (cs := #[.float .f64 (fl2 .sub ((rd_T42 x1_1 x14_1).f0) ((rd_T42 x1_1 x25_2).f0)), .float .f64 (0 : Nat)]) ?_ 1 _ rfl; refine pk ?_; refine blk_put (cs := #[.float .f64 (0 : Nat), .float .f64 (0 : Nat)]) ?_ 0 _ rfl; refine pk ?_; exact b6.out) hb); replace HK := a_ (Kept.below (S := (fun k_ => P1_ k_)) (by repeat (first | (with_reducible first | exact HK.out | apply Kept.alloc | apply Kept.drewN | apply Kept.drew | refine Kept.setCell ?_ (.inr b2.out) _ | refine Kept.setCell ?_ (.inr d1.out) _) | exact HK.out)) hb); replace HB := a_ (below_step (by repeat (with_reducible first | exact HB.out | refine bz ?_ (by assumption) | apply bA | apply bN | apply bD)) hb); clear hb))
                      go_ret
                      exact ⟨by first | rfl | (simp [errW_none, errW_some] <;> rfl) | (simp [*, errW_none, errW_some] <;> rfl), (by first | exact (rk (Kd.R_mono a3.out (fun _ hk => hk.1.1))) | (simp only [c8]; exact (rk (Kd.R_mono a3.out (fun _ hk => hk.1.1))))), by repeat (first | (with_reducible first | exact HB.out | apply below_alloc | apply pw_below_drewN | apply below_drew1 | refine below_set ?_ d6.out | refine below_set ?_ d2.out) | exact HB.out), by repeat (first | (with_reducible first | exact HK.out | apply Kept.alloc | apply Kept.drewN | apply Kept.drew | refine Kept.setCell ?_ (.inr b2.out) _ | refine Kept.setCell ?_ (.inr d1.out) _) | exact HK.out)⟩
                    ·replace c30 := Bool.eq_false_iff.mpr c30
                     subst c30
                     have H1 : (some (false, x1_1)) = some (r1, r2) := by rw [if_neg (show ¬ (false = true) by decide)] at H; exact H
                     clear H
                     have H := H1
                     clear H1
                     simp only [Option.some.injEq, Prod.mk.injEq] at H
                     obtain ⟨rfl, rfl⟩ := H
                     try go_wp2
                     replace a3 := a_ (Kd.R_drew a3.out)
                     replace a4 := a_ (blk_drew a4.out)
                     replace HK := a_ (Kept.drew HK.out)
                     replace HB := a_ (below_drew1 HB.out)
                     have p150 : 0 ≤ (x14_1 : Int) := of_decide_eq_true (by first | (with_reducible assumption) | assumption)
                     have q150 : x14_1 < (x1_1.length : Int) := of_decide_eq_true (by first | (with_reducible assumption) | assumption)
                     obtain ⟨ad150, e150, hx150_0, hx150_1⟩ := at_T42 (Kd.R_reads' a3.out).2.2 x14_1 p150 q150
                     obtain rfl : ad139 = ad150 := (by injection e150)
                     replace p150 := eq_true p150
                     replace q150 := eq_true q150
                     have p151 : 0 ≤ (x25_2 : Int) := of_decide_eq_true (by first | (with_reducible assumption) | assumption)
                     have q151 : x25_2 < (x1_1.length : Int) := of_decide_eq_true (by first | (with_reducible assumption) | assumption)
                     obtain ⟨ad151, e151, hx151_0, hx151_1⟩ := at_T42 (Kd.R_reads' a3.out).2.2 x25_2 p151 q151
                     obtain rfl : ad139 = ad151 := (by injection e151)
                     replace p151 := eq_true p151
                     replace q151 := eq_true q151
                     have p152 : 0 ≤ (x14_1 : Int) := of_decide_eq_true (by first | (with_reducible assumption) | assumption)
                     have q152 : x14_1 < (x1_1.length : Int) := of_decide_eq_true (by first | (with_reducible assumption) | assumption)
                     obtain ⟨ad152, e152, hx152_0, hx152_1⟩ := at_T42 (Kd.R_reads' a3.out).2.2 x14_1 p152 q152
                     obtain rfl : ad139 = ad152 := (by injection e152)
                     replace p152 := eq_true p152
                     replace q152 := eq_true q152
                     have p153 : 0 ≤ (x25_2 : Int) := of_decide_eq_true (by first | (with_reducible assumption) | assumption)
                     have q153 : x25_2 < (x1_1.length : Int) := of_decide_eq_true (by first | (with_reducible assumption) | assumption)
                     obtain ⟨ad153, e153, hx153_0, hx153_1⟩ := at_T42 (Kd.R_reads' a3.out).2.2 x25_2 p153 q153
                     obtain rfl : ad139 = ad153 := (by injection e153)
                     replace p153 := eq_true p153
                     replace q153 := eq_true q153
                     refine start_ (n := 25) (S := fun w' => w'.cell? (ad139.add ((x14_1).toNat * 2)) = some (.float .f64 ((rd_T42 x1_1 x14_1).f0)) ∧ w'.cell? ⟨(ad139.add ((x14_1).toNat * 2)).block, (ad139.add ((x14_1).toNat * 2)).off + 1, none⟩ = some (.float .f64 ((rd_T42 x1_1 x14_1).f1)) ∧ w'.cell? (ad139.add ((x25_2).toNat * 2)) = some (.float .f64 ((rd_T42 x1_1 x25_2).f0)) ∧ w'.cell? ⟨(ad139.add ((x25_2).toNat * 2)).block, (ad139.add ((x25_2).toNat * 2)).off + 1, none⟩ = some (.float .f64 ((rd_T42 x1_1 x25_2).f1)) ∧ w'.cell? (ad139.add ((x14_1).toNat * 2)) = some (.float .f64 ((rd_T42 x1_1 x14_1).f0)) ∧ w'.cell? ⟨(ad139.add ((x14_1).toNat * 2)).block, (ad139.add ((x14_1).toNat * 2)).off + 1, none⟩ = some (.float .f64 ((rd_T42 x1_1 x14_1).f1)) ∧ w'.cell? (ad139.add ((x25_2).toNat * 2)) = some (.float .f64 ((rd_T42 x1_1 x25_2).f0)) ∧ w'.cell? ⟨(ad139.add ((x25_2).toNat * 2)).block, (ad139.add ((x25_2).toNat * 2)).off + 1, none⟩ = some (.float .f64 ((rd_T42 x1_1 x25_2).f1))) (ds := []) #[false, false, false, false, false, false, false, false, false, false, false, false, false, false, false, false, false, false, false, false, false, false, false, false, false] (by kernel_rfl) rfl rfl ⟨hx150_0, hx150_1, hx151_0, hx151_1, hx152_0, hx152_1, hx153_0, hx153_1⟩ (fun a2 => ?_); refine with_tabW spec_l3Step.tab9 spec_l3Step.bits9 (fun HT_ HW_ => ?_)
                     generalize wr.drew = q4 at a3 a4 HK HB hx150_0 hx150_1 hx151_0 hx151_1 hx152_0 hx152_1 hx153_0 hx153_1 a2 ⊢
                     refine pure_ (i := 0) (N := some 31) (v := ?_) (a' := ?_) #[true, false, false, false, false, false, false, false, false, false, false, false, false, false, false, false, false, false, false, false, false, false, false, false, false] rfl rfl (any_of HT_.out (by kernel_rfl)) (fun _ _ _ h => h) (Or.inl ⟨by rfl, ?_⟩) ?_ ?_
                     rotate_left
                     ·intro w'
                      go_simp
                      with_reducible rfl
                     rotate_left
                     ·simp only [Act.put, sB, sC, sD, i64_w, i32_w]
                      rfl
                     refine pure_ (i := 1) (N := some 32) (v := ?_) (a' := ?_) #[true, true, false, false, false, false, false, false, false, false, false, false, false, false, false, false, false, false, false, false, false, false, false, false, false] rfl rfl (any_of HT_.out (by kernel_rfl)) (fun _ _ _ h => h) (Or.inl ⟨by rfl, ?_⟩) ?_ ?_
                     rotate_left
                     ·intro w'
                      go_simp
                      with_reducible rfl
                     rotate_left
                     ·simp only [Act.put, sB, sC, sD, i64_w, i32_w]
                      rfl
                     refine pure_ (i := 2) (N := some 33) (v := ?_) (a' := ?_) #[true, true, true, false, false, false, false, false, false, false, false, false, false, false, false, false, false, false, false, false, false, false, false, false, false] rfl rfl (any_of HT_.out (by kernel_rfl)) (fun _ _ _ h => h) (Or.inl ⟨by rfl, ?_⟩) ?_ ?_
                     rotate_left
                     ·intro w'
                      go_simp
                      with_reducible rfl
                     rotate_left
                     ·simp only [Act.put, sB, sC, sD, i64_w, i32_w]
                      rfl
                     refine pure_ (i := 3) (N := some 34) (v := ?_) (a' := ?_) #[true, true, true, true, false, false, false, false, false, false, false, false, false, false, false, false, false, false, false, false, false, false, false, false, false] rfl rfl (any_of HT_.out (by kernel_rfl)) (fun _ _ _ h => h) (Or.inl ⟨by rfl, ?_⟩) ?_ ?_
                     rotate_left
                     ·intro w'
                      go_simp
                      with_reducible rfl
                     rotate_left
                     ·simp only [Act.put, sB, sC, sD, i64_w, i32_w]
                      rfl
                     refine pure_ (i := 5) (N := some 36) (v := ?_) (a' := ?_) #[true, true, true, true, false, true, false, false, false, false, false, false, false, false, false, false, false, false, false, false, false, false, false, false, false] rfl rfl (any_of HT_.out (by kernel_rfl)) (fun _ _ _ h => h) (Or.inl ⟨by rfl, ?_⟩) ?_ ?_
                     rotate_left
                     ·intro w'
                      go_simp
                      with_reducible rfl
                     rotate_left
                     ·simp only [Act.put, sB, sC, sD, i64_w, i32_w]
                      rfl
                     refine pure_ (i := 6) (N := some 37) (v := ?_) (a' := ?_) #[true, true, true, true, false, true, true, false, false, false, false, false, false, false, false, false, false, false, false, false, false, false, false, false, false] rfl rfl (any_of HT_.out (by kernel_rfl)) (fun _ _ _ h => h) (Or.inl ⟨by rfl, ?_⟩) ?_ ?_
                     rotate_left
                     ·intro w'
                      go_simp
                      with_reducible rfl
                     rotate_left
                     ·simp only [Act.put, sB, sC, sD, i64_w, i32_w]
                      rfl
                     refine pure_ (i := 7) (N := some 38) (v := ?_) (a' := ?_) #[true, true, true, true, false, true, true, true, false, false, false, false, false, false, false, false, false, false, false, false, false, false, false, false, false] rfl rfl (any_of HT_.out (by kernel_rfl)) (fun _ _ _ h => h) (Or.inl ⟨by rfl, ?_⟩) ?_ ?_
                     rotate_left
                     ·intro w'
                      go_simp
                      with_reducible rfl
                     rotate_left
                     ·simp only [Act.put, sB, sC, sD, i64_w, i32_w]
                      rfl
                     refine pure_ (i := 8) (N := some 39) (v := ?_) (a' := ?_) #[true, true, true, true, false, true, true, true, true, false, false, false, false, false, false, false, false, false, false, false, false, false, false, false, false] rfl rfl (any_of HT_.out (by kernel_rfl)) (fun _ _ _ h => h) (Or.inl ⟨by rfl, ?_⟩) ?_ ?_
                     rotate_left
                     ·intro w'
                      go_simp
                      with_reducible rfl
                     rotate_left
                     ·simp only [Act.put, sB, sC, sD, i64_w, i32_w]
                      rfl
                     refine pure_ (i := 11) (N := some 42) (v := ?_) (a' := ?_) #[true, true, true, true, false, true, true, true, true, false, false, true, false, false, false, false, false, false, false, false, false, false, false, false, false] rfl rfl (any_of HT_.out (by kernel_rfl)) (fun _ _ _ h => h) (Or.inl ⟨by rfl, ?_⟩) ?_ ?_
                     rotate_left
                     ·intro w'
                      go_simp
                      with_reducible rfl
                     rotate_left
                     ·simp only [Act.put, sB, sC, sD, i64_w, i32_w]
                      rfl
                     refine pure_ (i := 12) (N := some 43) (v := ?_) (a' := ?_) #[true, true, true, true, false, true, true, true, true, false, false, true, true, false, false, false, false, false, false, false, false, false, false, false, false] rfl rfl (any_of HT_.out (by kernel_rfl)) (fun _ _ _ h => h) (Or.inl ⟨by rfl, ?_⟩) ?_ ?_
                     rotate_left
                     ·intro w'
                      go_simp
                      with_reducible rfl
                     rotate_left
                     ·simp only [Act.put, sB, sC, sD, i64_w, i32_w]
                      rfl
                     refine pure_ (i := 13) (N := some 44) (v := ?_) (a' := ?_) #[true, true, true, true, false, true, true, true, true, false, false, true, true, true, false, false, false, false, false, false, false, false, false, false, false] rfl rfl (any_of HT_.out (by kernel_rfl)) (fun _ _ _ h => h) (Or.inl ⟨by rfl, ?_⟩) ?_ ?_
                     rotate_left
                     ·intro w'
                      go_simp
                      with_reducible rfl
                     rotate_left
                     ·simp only [Act.put, sB, sC, sD, i64_w, i32_w]
                      rfl
                     refine pure_ (i := 14) (N := some 45) (v := ?_) (a' := ?_) #[true, true, true, true, false, true, true, true, true, false, false, true, true, true, true, false, false, false, false, false, false, false, false, false, false] rfl rfl (any_of HT_.out (by kernel_rfl)) (fun _ _ _ h => h) (Or.inl ⟨by rfl, ?_⟩) ?_ ?_
                     rotate_left
                     ·intro w'
                      go_simp
                      with_reducible rfl
                     rotate_left
                     ·simp only [Act.put, sB, sC, sD, i64_w, i32_w]
                      rfl
                     refine pure_ (i := 16) (N := some 47) (v := ?_) (a' := ?_) #[true, true, true, true, false, true, true, true, true, false, false, true, true, true, true, false, true, false, false, false, false, false, false, false, false] rfl rfl (any_of HT_.out (by kernel_rfl)) (fun _ _ _ h => h) (Or.inl ⟨by rfl, ?_⟩) ?_ ?_
                     rotate_left
                     ·intro w'
                      go_simp
                      with_reducible rfl
                     rotate_left
                     ·simp only [Act.put, sB, sC, sD, i64_w, i32_w]
                      rfl
                     refine pure_ (i := 17) (N := some 48) (v := ?_) (a' := ?_) #[true, true, true, true, false, true, true, true, true, false, false, true, true, true, true, false, true, true, false, false, false, false, false, false, false] rfl rfl (any_of HT_.out (by kernel_rfl)) (fun _ _ _ h => h) (Or.inl ⟨by rfl, ?_⟩) ?_ ?_
                     rotate_left
                     ·intro w'
                      go_simp
                      with_reducible rfl
                     rotate_left
                     ·simp only [Act.put, sB, sC, sD, i64_w, i32_w]
                      rfl
                     refine pure_ (i := 18) (N := some 49) (v := ?_) (a' := ?_) #[true, true, true, true, false, true, true, true, true, false, false, true, true, true, true, false, true, true, true, false, false, false, false, false, false] rfl rfl (any_of HT_.out (by kernel_rfl)) (fun _ _ _ h => h) (Or.inl ⟨by rfl, ?_⟩) ?_ ?_
                     rotate_left
                     ·intro w'
                      go_simp
                      with_reducible rfl
                     rotate_left
                     ·simp only [Act.put, sB, sC, sD, i64_w, i32_w]
                      rfl
                     refine pure_ (i := 19) (N := some 50) (v := ?_) (a' := ?_) #[true, true, true, true, false, true, true, true, true, false, false, true, true, true, true, false, true, true, true, true, false, false, false, false, false] rfl rfl (any_of HT_.out (by kernel_rfl)) (fun _ _ _ h => h) (Or.inl ⟨by rfl, ?_⟩) ?_ ?_
                     rotate_left
                     ·intro w'
                      go_simp
                      with_reducible rfl
                     rotate_left
                     ·simp only [Act.put, sB, sC, sD, i64_w, i32_w]
                      rfl
                     refine take_ (i := 4) (N := some 35) (v := ?_) (a' := ?_) #[true, true, true, true, true, true, true, true, true, false, false, true, true, true, true, false, true, true, true, true, false, false, false, false, false] rfl rfl (take_ofW HT_.out HW_.out (by kernel_rfl)) (fun _ _ _ h => h) (Or.inl ⟨by rfl, ?_⟩) a2 ?_ ?_
                     rotate_left
                     ·rintro w' ⟨s0, s1, s2, s3, s4, s5, s6, s7⟩
                      go_simp
                      with_reducible rfl
                     rotate_left
                     ·simp only [Act.put, sB, sC, sD, i64_w, i32_w]
                      rfl
                     refine take_ (i := 9) (N := some 40) (v := ?_) (a' := ?_) #[true, true, true, true, true, true, true, true, true, true, false, true, true, true, true, false, true, true, true, true, false, false, false, false, false] rfl rfl (take_ofW HT_.out HW_.out (by kernel_rfl)) (fun _ _ _ h => h) (Or.inl ⟨by rfl, ?_⟩) a2 ?_ ?_
                     rotate_left
                     ·rintro w' ⟨s0, s1, s2, s3, s4, s5, s6, s7⟩
                      go_simp
                      with_reducible rfl
                     rotate_left
                     ·simp only [Act.put, sB, sC, sD, i64_w, i32_w]
                      rfl
                     refine pure_ (i := 10) (N := some 41) (v := ?_) (a' := ?_) #[true, true, true, true, true, true, true, true, true, true, true, true, true, true, true, false, true, true, true, true, false, false, false, false, false] rfl rfl (any_of HT_.out (by kernel_rfl)) (fun _ _ _ h => h) (Or.inl ⟨by rfl, ?_⟩) ?_ ?_
                     rotate_left
                     ·intro w'
                      go_simp
                      with_reducible rfl
                     rotate_left
                     ·simp only [Act.put, sB, sC, sD, i64_w, i32_w]
                      rfl
                     refine take_ (i := 15) (N := some 46) (v := ?_) (a' := ?_) #[true, true, true, true, true, true, true, true, true, true, true, true, true, true, true, true, true, true, true, true, false, false, false, false, false] rfl rfl (take_ofW HT_.out HW_.out (by kernel_rfl)) (fun _ _ _ h => h) (Or.inl ⟨by rfl, ?_⟩) a2 ?_ ?_
                     rotate_left
                     ·rintro w' ⟨s0, s1, s2, s3, s4, s5, s6, s7⟩
                      go_simp
                      with_reducible rfl
                     rotate_left
                     ·simp only [Act.put, sB, sC, sD, i64_w, i32_w]
                      rfl
                     refine take_ (i := 20) (N := some 51) (v := ?_) (a' := ?_) #[true, true, true, true, true, true, true, true, true, true, true, true, true, true, true, true, true, true, true, true, true, false, false, false, false] rfl rfl (take_ofW HT_.out HW_.out (by kernel_rfl)) (fun _ _ _ h => h) (Or.inl ⟨by rfl, ?_⟩) a2 ?_ ?_
                     rotate_left
                     ·rintro w' ⟨s0, s1, s2, s3, s4, s5, s6, s7⟩
                      go_simp
                      with_reducible rfl
                     rotate_left
                     ·simp only [Act.put, sB, sC, sD, i64_w, i32_w]
                      rfl
                     refine pure_ (i := 21) (N := some 52) (v := ?_) (a' := ?_) #[true, true, true, true, true, true, true, true, true, true, true, true, true, true, true, true, true, true, true, true, true, true, false, false, false] rfl rfl (any_of HT_.out (by kernel_rfl)) (fun _ _ _ h => h) (Or.inl ⟨by rfl, ?_⟩) ?_ ?_
                     rotate_left
                     ·intro w'
                      go_simp
                      with_reducible rfl
                     rotate_left
                     ·simp only [Act.put, sB, sC, sD, i64_w, i32_w]
                      rfl
                     refine pure_ (i := 22) (N := some 53) (v := ?_) (a' := ?_) #[true, true, true, true, true, true, true, true, true, true, true, true, true, true, true, true, true, true, true, true, true, true, true, false, false] rfl rfl (any_of HT_.out (by kernel_rfl)) (fun _ _ _ h => h) (Or.inl ⟨by rfl, ?_⟩) ?_ ?_
                     rotate_left
                     ·intro w'
                      go_simp
                      with_reducible rfl
                     rotate_left
                     ·simp only [Act.put, sB, sC, sD, i64_w, i32_w]
                      rfl
                     refine one_ (i := 23) (N := some 8) #[true, true, true, true, true, true, true, true, true, true, true, true, true, true, true, true, true, true, true, true, true, true, true, true, false] rfl rfl (one_of HT_.out (by kernel_rfl)) (by decide) (fun K hK => ?_)
                     refine box_step ?hg (N := 8) ?hd (cs := #[.float .f64 (0 : Nat), .float .f64 (0 : Nat)]) (t := 42) ?hr ?_; (case hd => rfl); (case hg => rfl); (case hr => first | (go_simp; done) | (go_simp; rfl))
                     intro a6 hg o1 hbox hb
                     have HS0_ := (hb.cell (World.block_lt_of_cell? _ _ (a2.1))).trans (a2.1)
                     have HS1_ := (hb.cell (World.block_lt_of_cell? _ _ (a2.2.1))).trans (a2.2.1)
                     have HS2_ := (hb.cell (World.block_lt_of_cell? _ _ (a2.2.2.1))).trans (a2.2.2.1)
                     have HS3_ := (hb.cell (World.block_lt_of_cell? _ _ (a2.2.2.2.1))).trans (a2.2.2.2.1)
                     have HS4_ := (hb.cell (World.block_lt_of_cell? _ _ (a2.2.2.2.2.1))).trans (a2.2.2.2.2.1)
                     have HS5_ := (hb.cell (World.block_lt_of_cell? _ _ (a2.2.2.2.2.2.1))).trans (a2.2.2.2.2.2.1)
                     have HS6_ := (hb.cell (World.block_lt_of_cell? _ _ (a2.2.2.2.2.2.2.1))).trans (a2.2.2.2.2.2.2.1)
                     have HS7_ := (hb.cell (World.block_lt_of_cell? _ _ (a2.2.2.2.2.2.2.2))).trans (a2.2.2.2.2.2.2.2)
                     replace a3 := a_ (Kd.R_below (Kd.R_elderB (rk a3.out) a6 (Nat.le_of_eq hg.symm)) hb)
                     have b6 := a_ (hbox)
                     have d1 := a_ (by rw [hg]; exact (by first | exact HK.out.1 | exact (show Kept w _ (fun k_ => P1_ k_) from by repeat (first | (with_reducible first | exact HK.out | apply Kept.alloc | apply Kept.drewN | apply Kept.drew | refine Kept.setCell ?_ (.inr b2.out) _) | exact HK.out)).1) : w.heap.size ≤ a6)
                     replace HK := a_ (Kept.below (S := (fun k_ => P1_ k_)) (by repeat (first | (with_reducible first | exact HK.out | apply Kept.alloc | apply Kept.drewN | apply Kept.drew | refine Kept.setCell ?_ (.inr b2.out) _) | exact HK.out)) hb)
                     have d2 := a_ (by rw [hg]; exact (bs HB.out) : w0.heap.size ≤ a6)
                     replace HB := a_ (below_step (by repeat (with_reducible first | exact HB.out | refine bz ?_ (by assumption) | apply bA | apply bN | apply bD)) hb)
                     have b5 := a_ (nel hg a4.out)
                     have b7 := a_ (nle hg a4.out)
                     replace a4 := a_ (blk_below (pk a4.out) hb)
                     clear hb hbox hg
                     refine hK.out _ _ ⟨HS0_, HS1_, HS2_, HS3_, HS4_, HS5_, HS6_, HS7_⟩ (fun a2 => ?_)
                     clear hK K
                     refine norm_ (a' := ?_) ?_ ?_
                     rotate_left
                     ·show Act.put _ (some 8) _ = _
                      simp only [Act.put, sB, sC, sD, i64_w, i32_w]
                      rfl
                     refine one_ (i := 24) (N := none) #[true, true, true, true, true, true, true, true, true, true, true, true, true, true, true, true, true, true, true, true, true, true, true, true, true] rfl rfl (one_of HT_.out (by kernel_rfl)) (by decide) (fun K hK => ?_)
                     have hs56 : o1.cell? ⟨a6, 0, none⟩ = some (.float .f64 (0 : Nat)) := (blk_cell b6.out 0).trans rfl
                     have hfs56 := blk_frozen b6.out 0
                     have hns56_0 := b5.out
                     have hms56_0 := b7.out
                     have hs57 : o1.cell? ⟨a6, 1, none⟩ = some (.float .f64 (0 : Nat)) := (blk_cell b6.out 1).trans rfl
                     have hfs57 := blk_frozen b6.out 1
                     have hns57_0 := b5.out
                     have hms57_0 := b7.out
                     refine skip_ (w1 := ?_) ?_ ?_ ?_ ?_
                     rotate_left
                     ·rfl
                     ·rfl
                     ·go_simp
                      rfl
                     refine hK.out _ _ ⟨((cell_far (p := ⟨a6, _, none⟩) (by first | exact Kd.own_blk (Kd.R_away a3.out (fun _ hk => hk.2)) | (rw [add_block]; exact Kd.own_blk (Kd.R_away a3.out (fun _ hk => hk.2))) | (show (Addr.add _ _).block ≠ _; rw [add_block]; exact Kd.own_blk (Kd.R_away a3.out (fun _ hk => hk.2))) | (dsimp only; exact Kd.own_blk (Kd.R_away a3.out (fun _ hk => hk.2)))) _).trans (((cell_far (p := ⟨a6, _, none⟩) (by first | exact Kd.own_blk (Kd.R_away a3.out (fun _ hk => hk.2)) | (rw [add_block]; exact Kd.own_blk (Kd.R_away a3.out (fun _ hk => hk.2))) | (show (Addr.add _ _).block ≠ _; rw [add_block]; exact Kd.own_blk (Kd.R_away a3.out (fun _ hk => hk.2))) | (dsimp only; exact Kd.own_blk (Kd.R_away a3.out (fun _ hk => hk.2)))) _).trans (a2.1)))), ((cell_far (p := ⟨a6, _, none⟩) (by first | exact Kd.own_blk (Kd.R_away a3.out (fun _ hk => hk.2)) | (rw [add_block]; exact Kd.own_blk (Kd.R_away a3.out (fun _ hk => hk.2))) | (show (Addr.add _ _).block ≠ _; rw [add_block]; exact Kd.own_blk (Kd.R_away a3.out (fun _ hk => hk.2))) | (dsimp only; exact Kd.own_blk (Kd.R_away a3.out (fun _ hk => hk.2)))) _).trans (((cell_far (p := ⟨a6, _, none⟩) (by first | exact Kd.own_blk (Kd.R_away a3.out (fun _ hk => hk.2)) | (rw [add_block]; exact Kd.own_blk (Kd.R_away a3.out (fun _ hk => hk.2))) | (show (Addr.add _ _).block ≠ _; rw [add_block]; exact Kd.own_blk (Kd.R_away a3.out (fun _ hk => hk.2))) | (dsimp only; exact Kd.own_blk (Kd.R_away a3.out (fun _ hk => hk.2)))) _).trans (a2.2.1)))), ((cell_far (p := ⟨a6, _, none⟩) (by first | exact Kd.own_blk (Kd.R_away a3.out (fun _ hk => hk.2)) | (rw [add_block]; exact Kd.own_blk (Kd.R_away a3.out (fun _ hk => hk.2))) | (show (Addr.add _ _).block ≠ _; rw [add_block]; exact Kd.own_blk (Kd.R_away a3.out (fun _ hk => hk.2))) | (dsimp only; exact Kd.own_blk (Kd.R_away a3.out (fun _ hk => hk.2)))) _).trans (((cell_far (p := ⟨a6, _, none⟩) (by first | exact Kd.own_blk (Kd.R_away a3.out (fun _ hk => hk.2)) | (rw [add_block]; exact Kd.own_blk (Kd.R_away a3.out (fun _ hk => hk.2))) | (show (Addr.add _ _).block ≠ _; rw [add_block]; exact Kd.own_blk (Kd.R_away a3.out (fun _ hk => hk.2))) | (dsimp only; exact Kd.own_blk (Kd.R_away a3.out (fun _ hk => hk.2)))) _).trans (a2.2.2.1)))), ((cell_far (p := ⟨a6, _, none⟩) (by first | exact Kd.own_blk (Kd.R_away a3.out (fun _ hk => hk.2)) | (rw [add_block]; exact Kd.own_blk (Kd.R_away a3.out (fun _ hk => hk.2))) | (show (Addr.add _ _).block ≠ _; rw [add_block]; exact Kd.own_blk (Kd.R_away a3.out (fun _ hk => hk.2))) | (dsimp only; exact Kd.own_blk (Kd.R_away a3.out (fun _ hk => hk.2)))) _).trans (((cell_far (p := ⟨a6, _, none⟩) (by first | exact Kd.own_blk (Kd.R_away a3.out (fun _ hk => hk.2)) | (rw [add_block]; exact Kd.own_blk (Kd.R_away a3.out (fun _ hk => hk.2))) | (show (Addr.add _ _).block ≠ _; rw [add_block]; exact Kd.own_blk (Kd.R_away a3.out (fun _ hk => hk.2))) | (dsimp only; exact Kd.own_blk (Kd.R_away a3.out (fun _ hk => hk.2)))) _).trans (a2.2.2.2.1)))), ((cell_far (p := ⟨a6, _, none⟩) (by first | exact Kd.own_blk (Kd.R_away a3.out (fun _ hk => hk.2)) | (rw [add_block]; exact Kd.own_blk (Kd.R_away a3.out (fun _ hk => hk.2))) | (show (Addr.add _ _).block ≠ _; rw [add_block]; exact Kd.own_blk (Kd.R_away a3.out (fun _ hk => hk.2))) | (dsimp only; exact Kd.own_blk (Kd.R_away a3.out (fun _ hk => hk.2)))) _).trans (((cell_far (p := ⟨a6, _, none⟩) (by first | exact Kd.own_blk (Kd.R_away a3.out (fun _ hk => hk.2)) | (rw [add_block]; exact Kd.own_blk (Kd.R_away a3.out (fun _ hk => hk.2))) | (show (Addr.add _ _).block ≠ _; rw [add_block]; exact Kd.own_blk (Kd.R_away a3.out (fun _ hk => hk.2))) | (dsimp only; exact Kd.own_blk (Kd.R_away a3.out (fun _ hk => hk.2)))) _).trans (a2.2.2.2.2.1)))), ((cell_far (p := ⟨a6, _, none⟩) (by first | exact Kd.own_blk (Kd.R_away a3.out (fun _ hk => hk.2)) | (rw [add_block]; exact Kd.own_blk (Kd.R_away a3.out (fun _ hk => hk.2))) | (show (Addr.add _ _).block ≠ _; rw [add_block]; exact Kd.own_blk (Kd.R_away a3.out (fun _ hk => hk.2))) | (dsimp only; exact Kd.own_blk (Kd.R_away a3.out (fun _ hk => hk.2)))) _).trans (((cell_far (p := ⟨a6, _, none⟩) (by first | exact Kd.own_blk (Kd.R_away a3.out (fun _ hk => hk.2)) | (rw [add_block]; exact Kd.own_blk (Kd.R_away a3.out (fun _ hk => hk.2))) | (show (Addr.add _ _).block ≠ _; rw [add_block]; exact Kd.own_blk (Kd.R_away a3.out (fun _ hk => hk.2))) | (dsimp only; exact Kd.own_blk (Kd.R_away a3.out (fun _ hk => hk.2)))) _).trans (a2.2.2.2.2.2.1)))), ((cell_far (p := ⟨a6, _, none⟩) (by first | exact Kd.own_blk (Kd.R_away a3.out (fun _ hk => hk.2)) | (rw [add_block]; exact Kd.own_blk (Kd.R_away a3.out (fun _ hk => hk.2))) | (show (Addr.add _ _).block ≠ _; rw [add_block]; exact Kd.own_blk (Kd.R_away a3.out (fun _ hk => hk.2))) | (dsimp only; exact Kd.own_blk (Kd.R_away a3.out (fun _ hk => hk.2)))) _).trans (((cell_far (p := ⟨a6, _, none⟩) (by first | exact Kd.own_blk (Kd.R_away a3.out (fun _ hk => hk.2)) | (rw [add_block]; exact Kd.own_blk (Kd.R_away a3.out (fun _ hk => hk.2))) | (show (Addr.add _ _).block ≠ _; rw [add_block]; exact Kd.own_blk (Kd.R_away a3.out (fun _ hk => hk.2))) | (dsimp only; exact Kd.own_blk (Kd.R_away a3.out (fun _ hk => hk.2)))) _).trans (a2.2.2.2.2.2.2.1)))), ((cell_far (p := ⟨a6, _, none⟩) (by first | exact Kd.own_blk (Kd.R_away a3.out (fun _ hk => hk.2)) | (rw [add_block]; exact Kd.own_blk (Kd.R_away a3.out (fun _ hk => hk.2))) | (show (Addr.add _ _).block ≠ _; rw [add_block]; exact Kd.own_blk (Kd.R_away a3.out (fun _ hk => hk.2))) | (dsimp only; exact Kd.own_blk (Kd.R_away a3.out (fun _ hk => hk.2)))) _).trans (((cell_far (p := ⟨a6, _, none⟩) (by first | exact Kd.own_blk (Kd.R_away a3.out (fun _ hk => hk.2)) | (rw [add_block]; exact Kd.own_blk (Kd.R_away a3.out (fun _ hk => hk.2))) | (show (Addr.add _ _).block ≠ _; rw [add_block]; exact Kd.own_blk (Kd.R_away a3.out (fun _ hk => hk.2))) | (dsimp only; exact Kd.own_blk (Kd.R_away a3.out (fun _ hk => hk.2)))) _).trans (a2.2.2.2.2.2.2.2))))⟩ (fun a2 => ?_)
                     clear hK K
                     refine done_ (done_of HT_.out (by kernel_rfl)) ?_
                     have o2 := b7.out
                     have o3 := b5.out
                     have k7 : _ = some (Value.float .f64 (0 : Nat)) := (blk_cell b6.out 0).trans rfl
                     have k8 : _ = some (Value.float .f64 (0 : Nat)) := (blk_cell b6.out 1).trans rfl
                     have k9 := blk_frozen b6.out 0
                     have l2 := blk_frozen b6.out 1
                     try go_wp2_with (first | (go_at_call 33; (with_reducible refine (spec_l2Finite.calls (fl2 .add (fl2 .mul (fl2 .sub ((rd_T42 x1_1 x14_1).f0) ((rd_T42 x1_1 x25_2).f0)) (fl2 .sub ((rd_T42 x1_1 x14_1).f0) ((rd_T42 x1_1 x25_2).f0))) (fl2 .mul (fl2 .sub ((rd_T42 x1_1 x14_1).f1) ((rd_T42 x1_1 x25_2).f1)) (fl2 .sub ((rd_T42 x1_1 x14_1).f1) ((rd_T42 x1_1 x25_2).f1)))) false _ h6.out).mono ?_); rintro e w' ⟨rfl, ⟨nd, rfl⟩⟩))
                     go_ret
                     exact ⟨by first | rfl | (simp [errW_none, errW_some] <;> rfl) | (simp [*, errW_none, errW_some] <;> rfl), (by first | exact (rk (Kd.R_mono (Kd.R_far (p := ⟨a6, 1, none⟩) (Kd.R_far (p := ⟨a6, 0, none⟩) (Kd.R_mono a3.out (fun k_ hk => (⟨hk, hk.2⟩ : _ ∧ k_ ≠ a6))) (fun _ hk => hk.2) (.float .f64 (fl2 .sub ((rd_T42 x1_1 x14_1).f0) ((rd_T42 x1_1 x25_2).f0)))) (fun _ hk => hk.2) (.float .f64 (fl2 .sub ((rd_T42 x1_1 x14_1).f1) ((rd_T42 x1_1 x25_2).f1)))) (fun _ hk => hk.1.1.1))) | (simp only [c8]; exact (rk (Kd.R_mono (Kd.R_far (p := ⟨a6, 1, none⟩) (Kd.R_far (p := ⟨a6, 0, none⟩) (Kd.R_mono a3.out (fun k_ hk => (⟨hk, hk.2⟩ : _ ∧ k_ ≠ a6))) (fun _ hk => hk.2) (.float .f64 (fl2 .sub ((rd_T42 x1_1 x14_1).f0) ((rd_T42 x1_1 x25_2).f0)))) (fun _ hk => hk.2) (.float .f64 (fl2 .sub ((rd_T42 x1_1 x14_1).f1) ((rd_T42 x1_1 x25_2).f1)))) (fun _ hk => hk.1.1.1))))), by repeat (first | (with_reducible first | exact HB.out | apply below_alloc | apply pw_below_drewN | apply below_drew1 | refine below_set ?_ d6.out | refine below_set ?_ d2.out) | exact HB.out), by repeat (first | (with_reducible first | exact HK.out | apply Kept.alloc | apply Kept.drewN | apply Kept.drew | refine Kept.setCell ?_ (.inr b2.out) _ | refine Kept.setCell ?_ (.inr d1.out) _) | exact HK.out)⟩
                  ·rw [if_neg c21] at H
                   exact absurd H (by simp)
                 ·rw [if_neg c20] at H
                  exact absurd H (by simp)
                ·rw [if_neg c19] at H
                 exact absurd H (by simp)
               ·rw [if_neg c18] at H
                exact absurd H (by simp)
              ·rw [if_neg c17] at H
               exact absurd H (by simp)
             ·rw [if_neg c16] at H
              exact absurd H (by simp)
            ·rw [if_neg c15] at H
             exact absurd H (by simp)
           ·rw [if_neg c14] at H
            exact absurd H (by simp)
          ·rw [if_neg c13] at H
           exact absurd H (by simp)
        ·rw [if_neg c11] at H
         have f6 : decide (x25_2 < (x1_1.length : Int)) = false := decide_eq_false c11
         clear c11
         by_cases c60 : 0 ≤ x14_1
         ·rw [if_pos c60] at H
          have o4 : decide (0 ≤ x14_1) = true := decide_eq_true c60
          clear c60
          by_cases c61 : x14_1 < (x1_1.length : Int)
          ·rw [if_pos c61] at H
           have o5 : decide (x14_1 < (x1_1.length : Int)) = true := decide_eq_true c61
           clear c61
           have c62 : True := trivial
           ·skip
            clear c62
            have c63 : True := trivial
            ·skip
             clear c63
             replace H := Option.bind_eq_some_iff.mp H
             obtain ⟨⟨b9, c7, g8⟩, g9, H⟩ := H
             replace H : (if g8 = true then (spec_l3Step.l0 k2 l0 (x1_1.set (x14_1 : Int).toNat (⟨b9, c7⟩ : S42)) (l1.length : Int) (wrap64 (x14_1 + 1))) else (some (false, x1_1))) = some (r1, r2) := H
             have f4 := Aside0.mk g9
             clear g9
             by_cases c65 : g8 = true
             ·subst c65
              have H1 : (spec_l3Step.l0 k2 l0 (x1_1.set (x14_1 : Int).toNat (⟨b9, c7⟩ : S42)) (l1.length : Int) (wrap64 (x14_1 + 1))) = some (r1, r2) := by rw [if_pos rfl] at H; exact H
              clear H
              have H := H1
              clear H1
              obtain ⟨y149, hy149⟩ : ∃ y_ : List (S42), y_ = (x1_1.set (x14_1 : Int).toNat (⟨b9, c7⟩ : S42)) := ⟨_, rfl⟩
              replace H : (spec_l3Step.l0 k2 l0 y149 (l1.length : Int) (wrap64 (x14_1 + 1))) = some (r1, r2) := by first | (rw [hy149]; with_reducible exact H) | (have H2_ := (Option.bind_some _ _).symm.trans H; rw [hy149]; with_reducible exact H2_) | (have H2_ := (Option.bind_some _ _).symm.trans H; with_reducible exact H2_) | with_reducible exact H | (rw [hy149]; exact H) | exact H
              have Ny149 := Aside0.mk hy149
              clear hy149
              have H' := Aside0.mk H
              clear H
              try go_wp2
              replace a3 := a_ (Kd.R_drew a3.out)
              replace a4 := a_ (blk_drew a4.out)
              replace HK := a_ (Kept.drew HK.out)
              replace HB := a_ (below_drew1 HB.out)
              have p143 : 0 ≤ (x14_1 : Int) := of_decide_eq_true (by first | (with_reducible assumption) | assumption)
              have q143 : x14_1 < (x1_1.length : Int) := of_decide_eq_true (by first | (with_reducible assumption) | assumption)
              obtain ⟨ad143, e143, hx143_0, hx143_1⟩ := at_T42 (Kd.R_reads' a3.out).2.2 x14_1 p143 q143
              obtain rfl : ad139 = ad143 := (by injection e143)
              replace p143 := eq_true p143
              replace q143 := eq_true q143
              have p144 : 0 ≤ (x14_1 : Int) := of_decide_eq_true (by first | (with_reducible assumption) | assumption)
              have q144 : x14_1 < (x1_1.length : Int) := of_decide_eq_true (by first | (with_reducible assumption) | assumption)
              obtain ⟨ad144, e144, hx144_0, hx144_1⟩ := at_T42 (Kd.R_reads' a3.out).2.2 x14_1 p144 q144
              obtain rfl : ad139 = ad144 := (by injection e144)
              replace p144 := eq_true p144
              replace q144 := eq_true q144
              refine start_ (n := 24) (S := fun w' => w'.cell? ⟨a9, 0, none⟩ = some (.float .f64 x143000_2) ∧ w'.cell? ⟨a9, 1, none⟩ = some (.float .f64 x143001_2) ∧ w'.cell? (ad139.add ((x14_1).toNat * 2)) = some (.float .f64 ((rd_T42 x1_1 x14_1).f0)) ∧ w'.cell? ⟨(ad139.add ((x14_1).toNat * 2)).block, (ad139.add ((x14_1).toNat * 2)).off + 1, none⟩ = some (.float .f64 ((rd_T42 x1_1 x14_1).f1)) ∧ w'.cell? (ad139.add ((x14_1).toNat * 2)) = some (.float .f64 ((rd_T42 x1_1 x14_1).f0)) ∧ w'.cell? ⟨(ad139.add ((x14_1).toNat * 2)).block, (ad139.add ((x14_1).toNat * 2)).off + 1, none⟩ = some (.float .f64 ((rd_T42 x1_1 x14_1).f1))) (ds := []) #[false, false, false, false, false, false, false, false, false, false, false, false, false, false, false, false, false, false, false, false, false, false, false, false] (by kernel_rfl) rfl rfl ⟨(blk_cell a4.out 0).trans rfl, (blk_cell a4.out 1).trans rfl, hx143_0, hx143_1, hx144_0, hx144_1⟩ (fun a2 => ?_); refine with_tabW spec_l3Step.tab15 spec_l3Step.bits15 (fun HT_ HW_ => ?_)
              generalize wr.drew = d4 at a3 a4 HK HB hx143_0 hx143_1 hx144_0 hx144_1 a2 ⊢
              refine pure_ (i := 0) (N := some 82) (v := ?_) (a' := ?_) #[true, false, false, false, false, false, false, false, false, false, false, false, false, false, false, false, false, false, false, false, false, false, false, false] rfl rfl (any_of HT_.out (by kernel_rfl)) (fun _ _ _ h => h) (Or.inl ⟨by rfl, ?_⟩) ?_ ?_
              rotate_left
              ·intro w'
               go_simp
               with_reducible rfl
              rotate_left
              ·simp only [Act.put, sB, sC, sD, i64_w, i32_w]
               rfl
              refine pure_ (i := 1) (N := some 83) (v := ?_) (a' := ?_) #[true, true, false, false, false, false, false, false, false, false, false, false, false, false, false, false, false, false, false, false, false, false, false, false] rfl rfl (any_of HT_.out (by kernel_rfl)) (fun _ _ _ h => h) (Or.inl ⟨by rfl, ?_⟩) ?_ ?_
              rotate_left
              ·intro w'
               go_simp
               with_reducible rfl
              rotate_left
              ·simp only [Act.put, sB, sC, sD, i64_w, i32_w]
               rfl
              refine pure_ (i := 2) (N := some 84) (v := ?_) (a' := ?_) #[true, true, true, false, false, false, false, false, false, false, false, false, false, false, false, false, false, false, false, false, false, false, false, false] rfl rfl (any_of HT_.out (by kernel_rfl)) (fun _ _ _ h => h) (Or.inl ⟨by rfl, ?_⟩) ?_ ?_
              rotate_left
              ·intro w'
               go_simp
               with_reducible rfl
              rotate_left
              ·simp only [Act.put, sB, sC, sD, i64_w, i32_w]
               rfl
              refine pure_ (i := 3) (N := some 85) (v := ?_) (a' := ?_) #[true, true, true, true, false, false, false, false, false, false, false, false, false, false, false, false, false, false, false, false, false, false, false, false] rfl rfl (any_of HT_.out (by kernel_rfl)) (fun _ _ _ h => h) (Or.inl ⟨by rfl, ?_⟩) ?_ ?_
              rotate_left
              ·intro w'
               go_simp
               with_reducible rfl
              rotate_left
              ·simp only [Act.put, sB, sC, sD, i64_w, i32_w]
               rfl
              refine pure_ (i := 5) (N := some 87) (v := ?_) (a' := ?_) #[true, true, true, true, false, true, false, false, false, false, false, false, false, false, false, false, false, false, false, false, false, false, false, false] rfl rfl (any_of HT_.out (by kernel_rfl)) (fun _ _ _ h => h) (Or.inl ⟨by rfl, ?_⟩) ?_ ?_
              rotate_left
              ·intro w'
               go_simp
               with_reducible rfl
              rotate_left
              ·simp only [Act.put, sB, sC, sD, i64_w, i32_w]
               rfl
              refine pure_ (i := 8) (N := some 90) (v := ?_) (a' := ?_) #[true, true, true, true, false, true, false, false, true, false, false, false, false, false, false, false, false, false, false, false, false, false, false, false] rfl rfl (any_of HT_.out (by kernel_rfl)) (fun _ _ _ h => h) (Or.inl ⟨by rfl, ?_⟩) ?_ ?_
              rotate_left
              ·intro w'
               go_simp
               with_reducible rfl
              rotate_left
              ·simp only [Act.put, sB, sC, sD, i64_w, i32_w]
               rfl
              refine pure_ (i := 9) (N := some 91) (v := ?_) (a' := ?_) #[true, true, true, true, false, true, false, false, true, true, false, false, false, false, false, false, false, false, false, false, false, false, false, false] rfl rfl (any_of HT_.out (by kernel_rfl)) (fun _ _ _ h => h) (Or.inl ⟨by rfl, ?_⟩) ?_ ?_
              rotate_left
              ·intro w'
               go_simp
               with_reducible rfl
              rotate_left
              ·simp only [Act.put, sB, sC, sD, i64_w, i32_w]
               rfl
              refine pure_ (i := 10) (N := some 92) (v := ?_) (a' := ?_) #[true, true, true, true, false, true, false, false, true, true, true, false, false, false, false, false, false, false, false, false, false, false, false, false] rfl rfl (any_of HT_.out (by kernel_rfl)) (fun _ _ _ h => h) (Or.inl ⟨by rfl, ?_⟩) ?_ ?_
              rotate_left
              ·intro w'
               go_simp
               with_reducible rfl
              rotate_left
              ·simp only [Act.put, sB, sC, sD, i64_w, i32_w]
               rfl
              refine pure_ (i := 11) (N := some 93) (v := ?_) (a' := ?_) #[true, true, true, true, false, true, false, false, true, true, true, true, false, false, false, false, false, false, false, false, false, false, false, false] rfl rfl (any_of HT_.out (by kernel_rfl)) (fun _ _ _ h => h) (Or.inl ⟨by rfl, ?_⟩) ?_ ?_
              rotate_left
              ·intro w'
               go_simp
               with_reducible rfl
              rotate_left
              ·simp only [Act.put, sB, sC, sD, i64_w, i32_w]
               rfl
              refine pure_ (i := 13) (N := some 95) (v := ?_) (a' := ?_) #[true, true, true, true, false, true, false, false, true, true, true, true, false, true, false, false, false, false, false, false, false, false, false, false] rfl rfl (any_of HT_.out (by kernel_rfl)) (fun _ _ _ h => h) (Or.inl ⟨by rfl, ?_⟩) ?_ ?_
              rotate_left
              ·intro w'
               go_simp
               with_reducible rfl
              rotate_left
              ·simp only [Act.put, sB, sC, sD, i64_w, i32_w]
               rfl
              refine take_ (i := 4) (N := some 86) (v := ?_) (a' := ?_) #[true, true, true, true, true, true, false, false, true, true, true, true, false, true, false, false, false, false, false, false, false, false, false, false] rfl rfl (take_ofW HT_.out HW_.out (by kernel_rfl)) (fun _ _ _ h => h) (Or.inl ⟨by rfl, ?_⟩) a2 ?_ ?_
              rotate_left
              ·rintro w' ⟨s0, s1, s2, s3, s4, s5⟩
               go_simp
               with_reducible rfl
              rotate_left
              ·simp only [Act.put, sB, sC, sD, i64_w, i32_w]
               rfl
              refine take_ (i := 6) (N := some 88) (v := ?_) (a' := ?_) #[true, true, true, true, true, true, true, false, true, true, true, true, false, true, false, false, false, false, false, false, false, false, false, false] rfl rfl (take_ofW HT_.out HW_.out (by kernel_rfl)) (fun _ _ _ h => h) (Or.inl ⟨by rfl, ?_⟩) a2 ?_ ?_
              rotate_left
              ·rintro w' ⟨s0, s1, s2, s3, s4, s5⟩
               go_simp
               with_reducible rfl
              rotate_left
              ·simp only [Act.put, sB, sC, sD, i64_w, i32_w]
               rfl
              refine take_ (i := 12) (N := some 94) (v := ?_) (a' := ?_) #[true, true, true, true, true, true, true, false, true, true, true, true, true, true, false, false, false, false, false, false, false, false, false, false] rfl rfl (take_ofW HT_.out HW_.out (by kernel_rfl)) (fun _ _ _ h => h) (Or.inl ⟨by rfl, ?_⟩) a2 ?_ ?_
              rotate_left
              ·rintro w' ⟨s0, s1, s2, s3, s4, s5⟩
               go_simp
               with_reducible rfl
              rotate_left
              ·simp only [Act.put, sB, sC, sD, i64_w, i32_w]
               rfl
              refine take_ (i := 14) (N := some 96) (v := ?_) (a' := ?_) #[true, true, true, true, true, true, true, false, true, true, true, true, true, true, true, false, false, false, false, false, false, false, false, false] rfl rfl (take_ofW HT_.out HW_.out (by kernel_rfl)) (fun _ _ _ h => h) (Or.inl ⟨by rfl, ?_⟩) a2 ?_ ?_
              rotate_left
              ·rintro w' ⟨s0, s1, s2, s3, s4, s5⟩
               go_simp
               with_reducible rfl
              rotate_left
              ·simp only [Act.put, sB, sC, sD, i64_w, i32_w]
               rfl
              refine join_ (σ := Nat × Nat × Nat) 2 #[true, true, true, true, true, true, true, true, true, true, true, true, true, true, true, true, true, true, true, true, true, true, false, false] (fun s_ => [(89, .float .f64 s_.2.1), (97, .float .f64 s_.2.2), (98, .agg #[.float .f64 s_.2.1, .float .f64 s_.2.2]), (99, .tuple #[.agg #[.float .f64 b9, .float .f64 c7], .bool true]), (10, .pointer (some ⟨s_.1, 0, none⟩)), (81, .tuple #[.agg #[.float .f64 b9, .float .f64 c7], .bool true]), (100, .agg #[.float .f64 b9, .float .f64 c7]), (101, .bool true)]) (fun s_ w' => (w'.cell? ⟨a9, 0, none⟩ = some (.float .f64 x143000_2) ∧ w'.cell? ⟨a9, 1, none⟩ = some (.float .f64 x143001_2) ∧ w'.cell? (ad139.add ((x14_1).toNat * 2)) = some (.float .f64 ((rd_T42 x1_1 x14_1).f0)) ∧ w'.cell? ⟨(ad139.add ((x14_1).toNat * 2)).block, (ad139.add ((x14_1).toNat * 2)).off + 1, none⟩ = some (.float .f64 ((rd_T42 x1_1 x14_1).f1)) ∧ w'.cell? (ad139.add ((x14_1).toNat * 2)) = some (.float .f64 ((rd_T42 x1_1 x14_1).f0)) ∧ w'.cell? ⟨(ad139.add ((x14_1).toNat * 2)).block, (ad139.add ((x14_1).toNat * 2)).off + 1, none⟩ = some (.float .f64 ((rd_T42 x1_1 x14_1).f1))) ∧ (Kd.R k42 42 w' w0.heap.size (fun k_ => (P1_ k_ ∨ w.heap.size ≤ k_) ∧ k_ ≠ a9 ∧ k_ ≠ s_.1) (.slice (some ad139) x1_1.length d8) x1_1) ∧ (w'.heap[a9]? = some (.cells #[.float .f64 x143000_2, .float .f64 x143001_2] 42 (0, 0))) ∧ (w'.heap[s_.1]? = some (.cells #[.float .f64 (0 : Nat), .float .f64 (0 : Nat)] 42 (0, 0))) ∧ (w.heap.size ≤ s_.1) ∧ (w0.heap.size ≤ s_.1) ∧ (a9 ≠ s_.1) ∧ (s_.1 ≠ a9) ∧ (Kept w w' (fun k_ => P1_ k_)) ∧ (Below w0.heap.size w0 w')) ?_ ?_
              rotate_left
              ·intro hCont
               refine join_ (σ := Nat × Nat) 8 #[true, true, true, true, true, true, true, true, true, true, true, true, true, true, true, true, false, false, false, false, false, false, false, false] (fun s_ => [(89, .float .f64 s_.1), (97, .float .f64 s_.2)]) (fun s_ w' => Vt .sub ((rd_T42 x1_1 x14_1).f0) x143000_2 s_.1 ∧ Vt .sub ((rd_T42 x1_1 x14_1).f1) x143001_2 s_.2 ∧ (∃ n1 n2, w' = World.drewN (World.drewN d4 n1) n2) ∧ (w'.cell? ⟨a9, 0, none⟩ = some (.float .f64 x143000_2) ∧ w'.cell? ⟨a9, 1, none⟩ = some (.float .f64 x143001_2) ∧ w'.cell? (ad139.add ((x14_1).toNat * 2)) = some (.float .f64 ((rd_T42 x1_1 x14_1).f0)) ∧ w'.cell? ⟨(ad139.add ((x14_1).toNat * 2)).block, (ad139.add ((x14_1).toNat * 2)).off + 1, none⟩ = some (.float .f64 ((rd_T42 x1_1 x14_1).f1)) ∧ w'.cell? (ad139.add ((x14_1).toNat * 2)) = some (.float .f64 ((rd_T42 x1_1 x14_1).f0)) ∧ w'.cell? ⟨(ad139.add ((x14_1).toNat * 2)).block, (ad139.add ((x14_1).toNat * 2)).off + 1, none⟩ = some (.float .f64 ((rd_T42 x1_1 x14_1).f1)))) ?_ ?_
               rotate_left
               ·intro hA
                refine join_ (σ := Nat × Nat × Nat) 7 #[true, true, true, true, true, true, true, true, true, true, true, true, true, true, true, true, false, false, false, false, false, true, false, false] (fun s_ => [(89, .float .f64 s_.2.1), (97, .float .f64 s_.2.2), (10, .pointer (some ⟨s_.1, 0, none⟩))]) (fun s_ w' => Vt .sub ((rd_T42 x1_1 x14_1).f0) x143000_2 s_.2.1 ∧ Vt .sub ((rd_T42 x1_1 x14_1).f1) x143001_2 s_.2.2 ∧ (w'.cell? ⟨a9, 0, none⟩ = some (.float .f64 x143000_2) ∧ w'.cell? ⟨a9, 1, none⟩ = some (.float .f64 x143001_2) ∧ w'.cell? (ad139.add ((x14_1).toNat * 2)) = some (.float .f64 ((rd_T42 x1_1 x14_1).f0)) ∧ w'.cell? ⟨(ad139.add ((x14_1).toNat * 2)).block, (ad139.add ((x14_1).toNat * 2)).off + 1, none⟩ = some (.float .f64 ((rd_T42 x1_1 x14_1).f1)) ∧ w'.cell? (ad139.add ((x14_1).toNat * 2)) = some (.float .f64 ((rd_T42 x1_1 x14_1).f0)) ∧ w'.cell? ⟨(ad139.add ((x14_1).toNat * 2)).block, (ad139.add ((x14_1).toNat * 2)).off + 1, none⟩ = some (.float .f64 ((rd_T42 x1_1 x14_1).f1))) ∧ (Kd.R k42 42 w' w0.heap.size (fun k_ => (P1_ k_ ∨ w.heap.size ≤ k_) ∧ k_ ≠ a9 ∧ k_ ≠ s_.1) (.slice (some ad139) x1_1.length d8) x1_1) ∧ (w'.heap[a9]? = some (.cells #[.float .f64 x143000_2, .float .f64 x143001_2] 42 (0, 0))) ∧ (w'.heap[s_.1]? = some (.cells #[.float .f64 (0 : Nat), .float .f64 (0 : Nat)] 42 (0, 0))) ∧ (w.heap.size ≤ s_.1) ∧ (w0.heap.size ≤ s_.1) ∧ (a9 ≠ s_.1) ∧ (s_.1 ≠ a9) ∧ (Kept w w' (fun k_ => P1_ k_)) ∧ (Below w0.heap.size w0 w')) ?_ ?_
                rotate_left
                ·intro hB
                 refine three_ (i := 7) (j := 15) (k := 21) (Ni := some 89) (Nj := some 97) (Nk := some 10) #[true, true, true, true, true, true, true, true, true, true, true, true, true, true, true, false, false, false, false, false, false, false, false, false] #[true, true, true, true, true, true, true, false, true, true, true, true, true, true, true, true, false, false, false, false, false, false, false, false] #[true, true, true, true, true, true, true, false, true, true, true, true, true, true, true, false, false, false, false, false, false, true, false, false] rfl rfl rfl rfl rfl rfl (three_of HT_.out (by kernel_rfl)) (by decide) (by decide) (by decide) (fun K hK => ?_) (fun K hK => ?_) (fun K hK => ?_)
                 ·skip
                  refine event_step (w1 := World.drewN d4 (fln .sub ((rd_T42 x1_1 x14_1).f0) x143000_2)) (v := .float .f64 (flw .sub ((rd_T42 x1_1 x14_1).f0) x143000_2 d4)) (by rfl) (by have ht_ := @go_tsub; first | (go_simp; done) | (go_simp; rfl)) ?_
                  have V1 := Flo.vt_sub ((rd_T42 x1_1 x14_1).f0) x143000_2 d4
                  generalize flw .sub ((rd_T42 x1_1 x14_1).f0) x143000_2 d4 = v1 at V1 ⊢
                  refine hK.out _ _ a2 (fun a2 => ?_)
                  clear hK K
                  refine norm_ (a' := ?_) ?_ ?_
                  rotate_left
                  ·show Act.put _ (some 89) _ = _
                   simp only [Act.put, sB, sC, sD, i64_w, i32_w]
                   rfl
                  refine two_ (i := 15) (j := 21) (Ni := some 97) (Nj := some 10) #[true, true, true, true, true, true, true, true, true, true, true, true, true, true, true, true, false, false, false, false, false, false, false, false] #[true, true, true, true, true, true, true, true, true, true, true, true, true, true, true, false, false, false, false, false, false, true, false, false] rfl rfl rfl rfl (two_of HT_.out (by kernel_rfl)) (by decide) (by decide) (fun K hK => ?_) (fun K hK => ?_)
                  ·skip
                   refine event_step (w1 := World.drewN (World.drewN d4 (fln .sub ((rd_T42 x1_1 x14_1).f0) x143000_2)) (fln .sub ((rd_T42 x1_1 x14_1).f1) x143001_2)) (v := .float .f64 (flw .sub ((rd_T42 x1_1 x14_1).f1) x143001_2 (World.drewN d4 (fln .sub ((rd_T42 x1_1 x14_1).f0) x143000_2)))) (by rfl) (by have ht_ := @go_tsub; first | (go_simp; done) | (go_simp; rfl)) ?_
                   have V2 := Flo.vt_sub ((rd_T42 x1_1 x14_1).f1) x143001_2 (World.drewN d4 (fln .sub ((rd_T42 x1_1 x14_1).f0) x143000_2))
                   generalize flw .sub ((rd_T42 x1_1 x14_1).f1) x143001_2 (World.drewN d4 (fln .sub ((rd_T42 x1_1 x14_1).f0) x143000_2)) = v2 at V2 ⊢
                   refine hK.out _ _ a2 (fun a2 => ?_)
                   clear hK K
                   refine norm_ (a' := ?_) ?_ ?_
                   rotate_left
                   ·show Act.put _ (some 97) _ = _
                    simp only [Act.put, sB, sC, sD, i64_w, i32_w]
                    rfl
                   exact norm_ (by simp only [putAll, Act.put, sB, sC, sD]) (hA (v1, v2) _ ⟨V1, V2, ⟨_, _, rfl⟩, a2⟩)
                  ·skip
                   refine box_step ?hg (N := 10) ?hd (cs := #[.float .f64 (0 : Nat), .float .f64 (0 : Nat)]) (t := 42) ?hr ?_; (case hd => rfl); (case hg => rfl); (case hr => first | (go_simp; done) | (go_simp; rfl))
                   intro a5 hg c9 hbox hb
                   have HS2_ := (hb.cell (World.block_lt_of_cell? _ _ (a2.2.2.1))).trans (a2.2.2.1)
                   have HS3_ := (hb.cell (World.block_lt_of_cell? _ _ (a2.2.2.2.1))).trans (a2.2.2.2.1)
                   have HS4_ := (hb.cell (World.block_lt_of_cell? _ _ (a2.2.2.2.2.1))).trans (a2.2.2.2.2.1)
                   have HS5_ := (hb.cell (World.block_lt_of_cell? _ _ (a2.2.2.2.2.2))).trans (a2.2.2.2.2.2)
                   replace a3 := a_ (Kd.R_below (Kd.R_elderB (rk a3.out) a5 (Nat.le_of_eq hg.symm)) hb)
                   have b3 := a_ (hbox)
                   have b4 := a_ (by rw [hg]; exact (by first | exact HK.out.1 | exact (show Kept w _ (fun k_ => P1_ k_) from by repeat (first | (with_reducible first | exact HK.out | apply Kept.alloc | apply Kept.drewN | apply Kept.drew | refine Kept.setCell ?_ (.inr b2.out) _) | exact HK.out)).1) : w.heap.size ≤ a5)
                   replace HK := a_ (Kept.below (S := (fun k_ => P1_ k_)) (by repeat (first | (with_reducible first | exact HK.out | apply Kept.alloc | apply Kept.drewN | apply Kept.drew | refine Kept.setCell ?_ (.inr b2.out) _) | exact HK.out)) hb)
                   have b8 := a_ (by rw [hg]; exact (bs HB.out) : w0.heap.size ≤ a5)
                   replace HB := a_ (below_step (by repeat (with_reducible first | exact HB.out | refine bz ?_ (by assumption) | apply bA | apply bN | apply bD)) hb)
                   have a7 := a_ (nel hg a4.out)
                   have a8 := a_ (nle hg a4.out)
                   replace a4 := a_ (blk_below (pk a4.out) hb)
                   clear hb hbox hg
                   refine hK.out _ _ ⟨(blk_cell a4.out 0).trans rfl, (blk_cell a4.out 1).trans rfl, HS2_, HS3_, HS4_, HS5_⟩ (fun a2 => ?_)
                   clear hK K
                   refine norm_ (a' := ?_) ?_ ?_
                   rotate_left
                   ·show Act.put _ (some 10) _ = _
                    simp only [Act.put, sB, sC, sD, i64_w, i32_w]
                    rfl
                   refine one_ (i := 15) (N := some 97) #[true, true, true, true, true, true, true, true, true, true, true, true, true, true, true, true, false, false, false, false, false, true, false, false] rfl rfl (one_of HT_.out (by kernel_rfl)) (by decide) (fun K hK => ?_)
                   refine event_step (w1 := World.drewN c9 (fln .sub ((rd_T42 x1_1 x14_1).f1) x143001_2)) (v := .float .f64 (flw .sub ((rd_T42 x1_1 x14_1).f1) x143001_2 c9)) (by rfl) (by have ht_ := @go_tsub; first | (go_simp; done) | (go_simp; rfl)) ?_
                   have V2 := Flo.vt_sub ((rd_T42 x1_1 x14_1).f1) x143001_2 c9
                   generalize flw .sub ((rd_T42 x1_1 x14_1).f1) x143001_2 c9 = v2 at V2 ⊢
                   refine hK.out _ _ a2 (fun a2 => ?_)
                   clear hK K
                   refine norm_ (a' := ?_) ?_ ?_
                   rotate_left
                   ·show Act.put _ (some 97) _ = _
                    simp only [Act.put, sB, sC, sD, i64_w, i32_w]
                    rfl
                   exact norm_ (by simp only [putAll, Act.put, sB, sC, sD]) (hB (a5, v1, v2) _ ⟨V1, V2, a2, (rk (Kd.R_mono a3.out (fun _ hk => ⟨hk.1.1, hk.1.2, hk.2⟩))), (pk a4.out), (pk b3.out), b4.out, b8.out, a7.out, a8.out, (by repeat (first | (with_reducible first | exact HK.out | apply Kept.alloc | apply Kept.drewN | apply Kept.drew | refine Kept.setCell ?_ (.inr b2.out) _ | refine Kept.setCell ?_ (.inr b4.out) _) | exact HK.out)), (by repeat (with_reducible first | exact HB.out | refine bz ?_ (by assumption) | apply bA | apply bN | apply bD))⟩)
                 ·skip
                  refine event_step (w1 := World.drewN d4 (fln .sub ((rd_T42 x1_1 x14_1).f1) x143001_2)) (v := .float .f64 (flw .sub ((rd_T42 x1_1 x14_1).f1) x143001_2 d4)) (by rfl) (by have ht_ := @go_tsub; first | (go_simp; done) | (go_simp; rfl)) ?_
                  have V2 := Flo.vt_sub ((rd_T42 x1_1 x14_1).f1) x143001_2 d4
                  generalize flw .sub ((rd_T42 x1_1 x14_1).f1) x143001_2 d4 = v2 at V2 ⊢
                  refine hK.out _ _ a2 (fun a2 => ?_)
                  clear hK K
                  refine norm_ (a' := ?_) ?_ ?_
                  rotate_left
                  ·show Act.put _ (some 97) _ = _
                   simp only [Act.put, sB, sC, sD, i64_w, i32_w]
                   rfl
                  refine two_ (i := 7) (j := 21) (Ni := some 89) (Nj := some 10) #[true, true, true, true, true, true, true, true, true, true, true, true, true, true, true, true, false, false, false, false, false, false, false, false] #[true, true, true, true, true, true, true, false, true, true, true, true, true, true, true, true, false, false, false, false, false, true, false, false] rfl rfl rfl rfl (two_of HT_.out (by kernel_rfl)) (by decide) (by decide) (fun K hK => ?_) (fun K hK => ?_)
                  ·skip
                   refine event_step (w1 := World.drewN (World.drewN d4 (fln .sub ((rd_T42 x1_1 x14_1).f1) x143001_2)) (fln .sub ((rd_T42 x1_1 x14_1).f0) x143000_2)) (v := .float .f64 (flw .sub ((rd_T42 x1_1 x14_1).f0) x143000_2 (World.drewN d4 (fln .sub ((rd_T42 x1_1 x14_1).f1) x143001_2)))) (by rfl) (by have ht_ := @go_tsub; first | (go_simp; done) | (go_simp; rfl)) ?_
                   have V1 := Flo.vt_sub ((rd_T42 x1_1 x14_1).f0) x143000_2 (World.drewN d4 (fln .sub ((rd_T42 x1_1 x14_1).f1) x143001_2))
                   generalize flw .sub ((rd_T42 x1_1 x14_1).f0) x143000_2 (World.drewN d4 (fln .sub ((rd_T42 x1_1 x14_1).f1) x143001_2)) = v1 at V1 ⊢
                   refine hK.out _ _ a2 (fun a2 => ?_)
                   clear hK K
                   refine norm_ (a' := ?_) ?_ ?_
                   rotate_left
                   ·show Act.put _ (some 89) _ = _
                    simp only [Act.put, sB, sC, sD, i64_w, i32_w]
                    rfl
                   exact norm_ (by simp only [putAll, Act.put, sB, sC, sD]) (hA (v1, v2) _ ⟨V1, V2, ⟨_, _, rfl⟩, a2⟩)
                  ·skip
                   refine box_step ?hg (N := 10) ?hd (cs := #[.float .f64 (0 : Nat), .float .f64 (0 : Nat)]) (t := 42) ?hr ?_; (case hd => rfl); (case hg => rfl); (case hr => first | (go_simp; done) | (go_simp; rfl))
                   intro a5 hg c9 hbox hb
                   have HS2_ := (hb.cell (World.block_lt_of_cell? _ _ (a2.2.2.1))).trans (a2.2.2.1)
                   have HS3_ := (hb.cell (World.block_lt_of_cell? _ _ (a2.2.2.2.1))).trans (a2.2.2.2.1)
                   have HS4_ := (hb.cell (World.block_lt_of_cell? _ _ (a2.2.2.2.2.1))).trans (a2.2.2.2.2.1)
                   have HS5_ := (hb.cell (World.block_lt_of_cell? _ _ (a2.2.2.2.2.2))).trans (a2.2.2.2.2.2)
                   replace a3 := a_ (Kd.R_below (Kd.R_elderB (rk a3.out) a5 (Nat.le_of_eq hg.symm)) hb)
                   have b3 := a_ (hbox)
                   have b4 := a_ (by rw [hg]; exact (by first | exact HK.out.1 | exact (show Kept w _ (fun k_ => P1_ k_) from by repeat (first | (with_reducible first | exact HK.out | apply Kept.alloc | apply Kept.drewN | apply Kept.drew | refine Kept.setCell ?_ (.inr b2.out) _) | exact HK.out)).1) : w.heap.size ≤ a5)
                   replace HK := a_ (Kept.below (S := (fun k_ => P1_ k_)) (by repeat (first | (with_reducible first | exact HK.out | apply Kept.alloc | apply Kept.drewN | apply Kept.drew | refine Kept.setCell ?_ (.inr b2.out) _) | exact HK.out)) hb)
                   have b8 := a_ (by rw [hg]; exact (bs HB.out) : w0.heap.size ≤ a5)
                   replace HB := a_ (below_step (by repeat (with_reducible first | exact HB.out | refine bz ?_ (by assumption) | apply bA | apply bN | apply bD)) hb)
                   have a7 := a_ (nel hg a4.out)
                   have a8 := a_ (nle hg a4.out)
                   replace a4 := a_ (blk_below (pk a4.out) hb)
                   clear hb hbox hg
                   refine hK.out _ _ ⟨(blk_cell a4.out 0).trans rfl, (blk_cell a4.out 1).trans rfl, HS2_, HS3_, HS4_, HS5_⟩ (fun a2 => ?_)
                   clear hK K
                   refine norm_ (a' := ?_) ?_ ?_
                   rotate_left
                   ·show Act.put _ (some 10) _ = _
                    simp only [Act.put, sB, sC, sD, i64_w, i32_w]
                    rfl
                   refine one_ (i := 7) (N := some 89) #[true, true, true, true, true, true, true, true, true, true, true, true, true, true, true, true, false, false, false, false, false, true, false, false] rfl rfl (one_of HT_.out (by kernel_rfl)) (by decide) (fun K hK => ?_)
                   refine event_step (w1 := World.drewN c9 (fln .sub ((rd_T42 x1_1 x14_1).f0) x143000_2)) (v := .float .f64 (flw .sub ((rd_T42 x1_1 x14_1).f0) x143000_2 c9)) (by rfl) (by have ht_ := @go_tsub; first | (go_simp; done) | (go_simp; rfl)) ?_
                   have V1 := Flo.vt_sub ((rd_T42 x1_1 x14_1).f0) x143000_2 c9
                   generalize flw .sub ((rd_T42 x1_1 x14_1).f0) x143000_2 c9 = v1 at V1 ⊢
                   refine hK.out _ _ a2 (fun a2 => ?_)
                   clear hK K
                   refine norm_ (a' := ?_) ?_ ?_
                   rotate_left
                   ·show Act.put _ (some 89) _ = _
                    simp only [Act.put, sB, sC, sD, i64_w, i32_w]
                    rfl
                   exact norm_ (by simp only [putAll, Act.put, sB, sC, sD]) (hB (a5, v1, v2) _ ⟨V1, V2, a2, (rk (Kd.R_mono a3.out (fun _ hk => ⟨hk.1.1, hk.1.2, hk.2⟩))), (pk a4.out), (pk b3.out), b4.out, b8.out, a7.out, a8.out, (by repeat (first | (with_reducible first | exact HK.out | apply Kept.alloc | apply Kept.drewN | apply Kept.drew | refine Kept.setCell ?_ (.inr b2.out) _ | refine Kept.setCell ?_ (.inr b4.out) _) | exact HK.out)), (by repeat (with_reducible first | exact HB.out | refine bz ?_ (by assumption) | apply bA | apply bN | apply bD))⟩)
                 ·skip
                  refine box_step ?hg (N := 10) ?hd (cs := #[.float .f64 (0 : Nat), .float .f64 (0 : Nat)]) (t := 42) ?hr ?_; (case hd => rfl); (case hg => rfl); (case hr => first | (go_simp; done) | (go_simp; rfl))
                  intro a5 hg c9 hbox hb
                  have HS2_ := (hb.cell (World.block_lt_of_cell? _ _ (a2.2.2.1))).trans (a2.2.2.1)
                  have HS3_ := (hb.cell (World.block_lt_of_cell? _ _ (a2.2.2.2.1))).trans (a2.2.2.2.1)
                  have HS4_ := (hb.cell (World.block_lt_of_cell? _ _ (a2.2.2.2.2.1))).trans (a2.2.2.2.2.1)
                  have HS5_ := (hb.cell (World.block_lt_of_cell? _ _ (a2.2.2.2.2.2))).trans (a2.2.2.2.2.2)
                  replace a3 := a_ (Kd.R_below (Kd.R_elderB (rk a3.out) a5 (Nat.le_of_eq hg.symm)) hb)
                  have b3 := a_ (hbox)
                  have b4 := a_ (by rw [hg]; exact (by first | exact HK.out.1 | exact (show Kept w _ (fun k_ => P1_ k_) from by repeat (first | (with_reducible first | exact HK.out | apply Kept.alloc | apply Kept.drewN | apply Kept.drew | refine Kept.setCell ?_ (.inr b2.out) _) | exact HK.out)).1) : w.heap.size ≤ a5)
                  replace HK := a_ (Kept.below (S := (fun k_ => P1_ k_)) (by repeat (first | (with_reducible first | exact HK.out | apply Kept.alloc | apply Kept.drewN | apply Kept.drew | refine Kept.setCell ?_ (.inr b2.out) _) | exact HK.out)) hb)
                  have b8 := a_ (by rw [hg]; exact (bs HB.out) : w0.heap.size ≤ a5)
                  replace HB := a_ (below_step (by repeat (with_reducible first | exact HB.out | refine bz ?_ (by assumption) | apply bA | apply bN | apply bD)) hb)
                  have a7 := a_ (nel hg a4.out)
                  have a8 := a_ (nle hg a4.out)
                  replace a4 := a_ (blk_below (pk a4.out) hb)
                  clear hb hbox hg
                  refine hK.out _ _ ⟨(blk_cell a4.out 0).trans rfl, (blk_cell a4.out 1).trans rfl, HS2_, HS3_, HS4_, HS5_⟩ (fun a2 => ?_)
                  clear hK K
                  refine norm_ (a' := ?_) ?_ ?_
                  rotate_left
                  ·show Act.put _ (some 10) _ = _
                   simp only [Act.put, sB, sC, sD, i64_w, i32_w]
                   rfl
                  refine two_ (i := 7) (j := 15) (Ni := some 89) (Nj := some 97) #[true, true, true, true, true, true, true, true, true, true, true, true, true, true, true, false, false, false, false, false, false, true, false, false] #[true, true, true, true, true, true, true, false, true, true, true, true, true, true, true, true, false, false, false, false, false, true, false, false] rfl rfl rfl rfl (two_of HT_.out (by kernel_rfl)) (by decide) (by decide) (fun K hK => ?_) (fun K hK => ?_)
                  ·skip
                   refine event_step (w1 := World.drewN c9 (fln .sub ((rd_T42 x1_1 x14_1).f0) x143000_2)) (v := .float .f64 (flw .sub ((rd_T42 x1_1 x14_1).f0) x143000_2 c9)) (by rfl) (by have ht_ := @go_tsub; first | (go_simp; done) | (go_simp; rfl)) ?_
                   have V1 := Flo.vt_sub ((rd_T42 x1_1 x14_1).f0) x143000_2 c9
                   generalize flw .sub ((rd_T42 x1_1 x14_1).f0) x143000_2 c9 = v1 at V1 ⊢
                   refine hK.out _ _ a2 (fun a2 => ?_)
                   clear hK K
                   refine norm_ (a' := ?_) ?_ ?_
                   rotate_left
                   ·show Act.put _ (some 89) _ = _
                    simp only [Act.put, sB, sC, sD, i64_w, i32_w]
                    rfl
                   refine one_ (i := 15) (N := some 97) #[true, true, true, true, true, true, true, true, true, true, true, true, true, true, true, true, false, false, false, false, false, true, false, false] rfl rfl (one_of HT_.out (by kernel_rfl)) (by decide) (fun K hK => ?_)
                   refine event_step (w1 := World.drewN (World.drewN c9 (fln .sub ((rd_T42 x1_1 x14_1).f0) x143000_2)) (fln .sub ((rd_T42 x1_1 x14_1).f1) x143001_2)) (v := .float .f64 (flw .sub ((rd_T42 x1_1 x14_1).f1) x143001_2 (World.drewN c9 (fln .sub ((rd_T42 x1_1 x14_1).f0) x143000_2)))) (by rfl) (by have ht_ := @go_tsub; first | (go_simp; done) | (go_simp; rfl)) ?_
                   have V2 := Flo.vt_sub ((rd_T42 x1_1 x14_1).f1) x143001_2 (World.drewN c9 (fln .sub ((rd_T42 x1_1 x14_1).f0) x143000_2))
                   generalize flw .sub ((rd_T42 x1_1 x14_1).f1) x143001_2 (World.drewN c9 (fln .sub ((rd_T42 x1_1 x14_1).f0) x143000_2)) = v2 at V2 ⊢
                   refine hK.out _ _ a2 (fun a2 => ?_)
                   clear hK K
                   refine norm_ (a' := ?_) ?_ ?_
                   rotate_left
                   ·show Act.put _ (some 97) _ = _
                    simp only [Act.put, sB, sC, sD, i64_w, i32_w]
                    rfl
                   exact norm_ (by simp only [putAll, Act.put, sB, sC, sD]) (hB (a5, v1, v2) _ ⟨V1, V2, a2, (rk (Kd.R_mono a3.out (fun _ hk => ⟨hk.1.1, hk.1.2, hk.2⟩))), (pk a4.out), (pk b3.out), b4.out, b8.out, a7.out, a8.out, (by repeat (first | (with_reducible first | exact HK.out | apply Kept.alloc | apply Kept.drewN | apply Kept.drew | refine Kept.setCell ?_ (.inr b2.out) _ | refine Kept.setCell ?_ (.inr b4.out) _) | exact HK.out)), (by repeat (with_reducible first | exact HB.out | refine bz ?_ (by assumption) | apply bA | apply bN | apply bD))⟩)
                  ·skip
                   refine event_step (w1 := World.drewN c9 (fln .sub ((rd_T42 x1_1 x14_1).f1) x143001_2)) (v := .float .f64 (flw .sub ((rd_T42 x1_1 x14_1).f1) x143001_2 c9)) (by rfl) (by have ht_ := @go_tsub; first | (go_simp; done) | (go_simp; rfl)) ?_
                   have V2 := Flo.vt_sub ((rd_T42 x1_1 x14_1).f1) x143001_2 c9
                   generalize flw .sub ((rd_T42 x1_1 x14_1).f1) x143001_2 c9 = v2 at V2 ⊢
                   refine hK.out _ _ a2 (fun a2 => ?_)
                   clear hK K
                   refine norm_ (a' := ?_) ?_ ?_
                   rotate_left
                   ·show Act.put _ (some 97) _ = _
                    simp only [Act.put, sB, sC, sD, i64_w, i32_w]
                    rfl
                   refine one_ (i := 7) (N := some 89) #[true, true, true, true, true, true, true, true, true, true, true, true, true, true, true, true, false, false, false, false, false, true, false, false] rfl rfl (one_of HT_.out (by kernel_rfl)) (by decide) (fun K hK => ?_)
                   refine event_step (w1 := World.drewN (World.drewN c9 (fln .sub ((rd_T42 x1_1 x14_1).f1) x143001_2)) (fln .sub ((rd_T42 x1_1 x14_1).f0) x143000_2)) (v := .float .f64 (flw .sub ((rd_T42 x1_1 x14_1).f0) x143000_2 (World.drewN c9 (fln .sub ((rd_T42 x1_1 x14_1).f1) x143001_2)))) (by rfl) (by have ht_ := @go_tsub; first | (go_simp; done) | (go_simp; rfl)) ?_
                   have V1 := Flo.vt_sub ((rd_T42 x1_1 x14_1).f0) x143000_2 (World.drewN c9 (fln .sub ((rd_T42 x1_1 x14_1).f1) x143001_2))
                   generalize flw .sub ((rd_T42 x1_1 x14_1).f0) x143000_2 (World.drewN c9 (fln .sub ((rd_T42 x1_1 x14_1).f1) x143001_2)) = v1 at V1 ⊢
                   refine hK.out _ _ a2 (fun a2 => ?_)
                   clear hK K
                   refine norm_ (a' := ?_) ?_ ?_
                   rotate_left
                   ·show Act.put _ (some 89) _ = _
                    simp only [Act.put, sB, sC, sD, i64_w, i32_w]
                    rfl
                   exact norm_ (by simp only [putAll, Act.put, sB, sC, sD]) (hB (a5, v1, v2) _ ⟨V1, V2, a2, (rk (Kd.R_mono a3.out (fun _ hk => ⟨hk.1.1, hk.1.2, hk.2⟩))), (pk a4.out), (pk b3.out), b4.out, b8.out, a7.out, a8.out, (by repeat (first | (with_reducible first | exact HK.out | apply Kept.alloc | apply Kept.drewN | apply Kept.drew | refine Kept.setCell ?_ (.inr b2.out) _ | refine Kept.setCell ?_ (.inr b4.out) _) | exact HK.out)), (by repeat (with_reducible first | exact HB.out | refine bz ?_ (by assumption) | apply bA | apply bN | apply bD))⟩)
                rintro ⟨a5, v1, v2⟩ c9 ⟨V1, V2, hS_, h0_, h1_, h2_, h3_, h4_, h5_, h6_, h7_, h8_⟩
                have n0_ : Aside0 (Kd.R k42 42 c9 w0.heap.size (fun k_ => (P1_ k_ ∨ w.heap.size ≤ k_) ∧ k_ ≠ a9 ∧ k_ ≠ a5) (.slice (some ad139) x1_1.length d8) x1_1) := ⟨h0_⟩
                have n1_ : Aside0 (c9.heap[a9]? = some (.cells #[.float .f64 x143000_2, .float .f64 x143001_2] 42 (0, 0))) := ⟨h1_⟩
                have n2_ : Aside0 (c9.heap[a5]? = some (.cells #[.float .f64 (0 : Nat), .float .f64 (0 : Nat)] 42 (0, 0))) := ⟨h2_⟩
                have n3_ : Aside0 (w.heap.size ≤ a5) := ⟨h3_⟩
                have n4_ : Aside0 (w0.heap.size ≤ a5) := ⟨h4_⟩
                have n5_ : Aside0 (a9 ≠ a5) := ⟨h5_⟩
                have n6_ : Aside0 (a5 ≠ a9) := ⟨h6_⟩
                have n7_ : Aside0 (Kept w c9 (fun k_ => P1_ k_)) := ⟨h7_⟩
                have n8_ : Aside0 (Below w0.heap.size w0 c9) := ⟨h8_⟩
                clear a3
                clear a4
                clear HK
                clear HB
                clear h0_ h1_ h2_ h3_ h4_ h5_ h6_ h7_ h8_
                have a3 := n0_
                have a4 := n1_
                have b3 := n2_
                have b4 := n3_
                have b8 := n4_
                have a7 := n5_
                have a8 := n6_
                have HK := n7_
                have HB := n8_
                clear n0_ n1_ n2_ n3_ n4_ n5_ n6_ n7_ n8_
                have a2 : c9.cell? ⟨a9, 0, none⟩ = some (.float .f64 x143000_2) ∧ c9.cell? ⟨a9, 1, none⟩ = some (.float .f64 x143001_2) ∧ c9.cell? (ad139.add ((x14_1).toNat * 2)) = some (.float .f64 ((rd_T42 x1_1 x14_1).f0)) ∧ c9.cell? ⟨(ad139.add ((x14_1).toNat * 2)).block, (ad139.add ((x14_1).toNat * 2)).off + 1, none⟩ = some (.float .f64 ((rd_T42 x1_1 x14_1).f1)) ∧ c9.cell? (ad139.add ((x14_1).toNat * 2)) = some (.float .f64 ((rd_T42 x1_1 x14_1).f0)) ∧ c9.cell? ⟨(ad139.add ((x14_1).toNat * 2)).block, (ad139.add ((x14_1).toNat * 2)).off + 1, none⟩ = some (.float .f64 ((rd_T42 x1_1 x14_1).f1)) := hS_
                refine norm_ (a' := ?_) ?_ ?_
                rotate_left
                ·simp only [putAll, Act.put, sB, sC, sD]
                 rfl
                refine pure_ (i := 16) (N := some 98) (v := ?_) (a' := ?_) #[true, true, true, true, true, true, true, true, true, true, true, true, true, true, true, true, true, false, false, false, false, true, false, false] rfl rfl (any_of HT_.out (by kernel_rfl)) (fun _ _ _ h => h) (Or.inl ⟨by rfl, ?_⟩) ?_ ?_
                rotate_left
                ·intro w'
                 go_simp
                 with_reducible rfl
                rotate_left
                ·simp only [Act.put, sB, sC, sD, i64_w, i32_w]
                 rfl
                refine one_ (i := 17) (N := some 99) #[true, true, true, true, true, true, true, true, true, true, true, true, true, true, true, true, true, true, false, false, false, true, false, false] rfl rfl (one_of HT_.out (by kernel_rfl)) (by decide) (fun K hK => ?_)
                refine goes_ Try.func36 (by kernel_rfl) rfl #[.agg #[.float .f64 v1, .float .f64 v2]] (by rfl) rfl rfl (by (try simp only [lA, lB, lC]); first | done | rfl | (simp only [lD, lE]; rfl)) ?_
                with_reducible refine (spec_l3Told.calls 1 v1 v2 b9 c7 true _ (R_told (Flo.sp_sub HS.out V1 V2) (Option.some.inj f4.out))).mono ?_
                rintro e o6 ⟨rfl, hb⟩
                have HS2_ := (hb.cell (World.block_lt_of_cell? _ _ (a2.2.2.1))).trans (a2.2.2.1)
                have HS3_ := (hb.cell (World.block_lt_of_cell? _ _ (a2.2.2.2.1))).trans (a2.2.2.2.1)
                have HS4_ := (hb.cell (World.block_lt_of_cell? _ _ (a2.2.2.2.2.1))).trans (a2.2.2.2.2.1)
                have HS5_ := (hb.cell (World.block_lt_of_cell? _ _ (a2.2.2.2.2.2))).trans (a2.2.2.2.2.2)
                refine ⟨_, rfl, ?_⟩
                replace a3 := a_ (Kd.R_below (rk a3.out) hb)
                replace a4 := a_ (blk_below (pk a4.out) hb)
                replace b3 := a_ (blk_below (pk b3.out) hb)
                replace HK := a_ (Kept.below (S := (fun k_ => P1_ k_)) (by repeat (first | (with_reducible first | exact HK.out | apply Kept.alloc | apply Kept.drewN | apply Kept.drew | refine Kept.setCell ?_ (.inr b2.out) _ | refine Kept.setCell ?_ (.inr b4.out) _) | exact HK.out)) hb)
                replace HB := a_ (below_step (by repeat (with_reducible first | exact HB.out | refine bz ?_ (by assumption) | apply bA | apply bN | apply bD)) hb)
                (try clear hb)
                (try clear hb2)
                (try clear hk)
                (try clear hi)
                refine hK.out _ _ ⟨(blk_cell a4.out 0).trans rfl, (blk_cell a4.out 1).trans rfl, HS2_, HS3_, HS4_, HS5_⟩ (fun a2 => ?_)
                clear hK K
                refine norm_ (a' := ?_) ?_ ?_
                rotate_left
                ·show Act.put _ (some 99) _ = _
                 simp only [Act.put, sB, sC, sD, i64_w, i32_w]
                 rfl
                refine pure_ (i := 18) (N := some 81) (v := ?_) (a' := ?_) #[true, true, true, true, true, true, true, true, true, true, true, true, true, true, true, true, true, true, true, false, false, true, false, false] rfl rfl (any_of HT_.out (by kernel_rfl)) (fun _ _ _ h => h) (Or.inl ⟨by rfl, ?_⟩) ?_ ?_
                rotate_left
                ·intro w'
                 go_simp
                 with_reducible rfl
                rotate_left
                ·simp only [Act.put, sB, sC, sD, i64_w, i32_w]
                 rfl
                refine pure_ (i := 19) (N := some 100) (v := ?_) (a' := ?_) #[true, true, true, true, true, true, true, true, true, true, true, true, true, true, true, true, true, true, true, true, false, true, false, false] rfl rfl (any_of HT_.out (by kernel_rfl)) (fun _ _ _ h => h) (Or.inl ⟨by rfl, ?_⟩) ?_ ?_
                rotate_left
                ·intro w'
                 go_simp
                 with_reducible rfl
                rotate_left
                ·simp only [Act.put, sB, sC, sD, i64_w, i32_w]
                 rfl
                refine pure_ (i := 20) (N := some 101) (v := ?_) (a' := ?_) #[true, true, true, true, true, true, true, true, true, true, true, true, true, true, true, true, true, true, true, true, true, true, false, false] rfl rfl (any_of HT_.out (by kernel_rfl)) (fun _ _ _ h => h) (Or.inl ⟨by rfl, ?_⟩) ?_ ?_
                rotate_left
                ·intro w'
                 go_simp
                 with_reducible rfl
                rotate_left
                ·simp only [Act.put, sB, sC, sD, i64_w, i32_w]
                 rfl
                exact norm_ (by simp only [putAll, Act.put, sB, sC, sD]) (hCont (a5, v1, v2) _ ⟨a2, (rk a3.out), (pk a4.out), (pk b3.out), b4.out, b8.out, a7.out, a8.out, (by repeat (first | (with_reducible first | exact HK.out | apply Kept.alloc | apply Kept.drewN | apply Kept.drew | refine Kept.setCell ?_ (.inr b2.out) _ | refine Kept.setCell ?_ (.inr b4.out) _) | exact HK.out)), (by repeat (with_reducible first | exact HB.out | refine bz ?_ (by assumption) | apply bA | apply bN | apply bD))⟩)
               rintro ⟨v1, v2⟩ w' ⟨V1, V2, ⟨n1, n2, rfl⟩, a2⟩
               replace a3 := a_ (Kd.R_drewN (Kd.R_drewN a3.out n1) n2)
               replace a4 := a_ (blk_drewN (blk_drewN a4.out n1) n2)
               replace HK := a_ (Kept.drewN (Kept.drewN HK.out n1) n2)
               replace HB := a_ (pw_below_drewN (pw_below_drewN HB.out n1) n2)
               generalize World.drewN (World.drewN d4 n1) n2 = wd at a3 a4 HK HB a2 ⊢
               refine norm_ (a' := ?_) ?_ ?_
               rotate_left
               ·simp only [putAll, Act.put, sB, sC, sD]
                rfl
               refine pure_ (i := 16) (N := some 98) (v := ?_) (a' := ?_) #[true, true, true, true, true, true, true, true, true, true, true, true, true, true, true, true, true, false, false, false, false, false, false, false] rfl rfl (any_of HT_.out (by kernel_rfl)) (fun _ _ _ h => h) (Or.inl ⟨by rfl, ?_⟩) ?_ ?_
               rotate_left
               ·intro w'
                go_simp
                with_reducible rfl
               rotate_left
               ·simp only [Act.put, sB, sC, sD, i64_w, i32_w]
                rfl
               refine two_ (i := 17) (j := 21) (Ni := some 99) (Nj := some 10) #[true, true, true, true, true, true, true, true, true, true, true, true, true, true, true, true, true, true, false, false, false, false, false, false] #[true, true, true, true, true, true, true, true, true, true, true, true, true, true, true, true, true, false, false, false, false, true, false, false] rfl rfl rfl rfl (two_of HT_.out (by kernel_rfl)) (by decide) (by decide) (fun K hK => ?_) (fun K hK => ?_)
               ·skip
                refine goes_ Try.func36 (by kernel_rfl) rfl #[.agg #[.float .f64 v1, .float .f64 v2]] (by rfl) rfl rfl (by (try simp only [lA, lB, lC]); first | done | rfl | (simp only [lD, lE]; rfl)) ?_
                with_reducible refine (spec_l3Told.calls 1 v1 v2 b9 c7 true _ (R_told (Flo.sp_sub HS.out V1 V2) (Option.some.inj f4.out))).mono ?_
                rintro e c9 ⟨rfl, hb⟩
                have HS2_ := (hb.cell (World.block_lt_of_cell? _ _ (a2.2.2.1))).trans (a2.2.2.1)
                have HS3_ := (hb.cell (World.block_lt_of_cell? _ _ (a2.2.2.2.1))).trans (a2.2.2.2.1)
                have HS4_ := (hb.cell (World.block_lt_of_cell? _ _ (a2.2.2.2.2.1))).trans (a2.2.2.2.2.1)
                have HS5_ := (hb.cell (World.block_lt_of_cell? _ _ (a2.2.2.2.2.2))).trans (a2.2.2.2.2.2)
                refine ⟨_, rfl, ?_⟩
                replace a3 := a_ (Kd.R_below (rk a3.out) hb)
                replace a4 := a_ (blk_below (pk a4.out) hb)
                replace HK := a_ (Kept.below (S := (fun k_ => P1_ k_)) (by repeat (first | (with_reducible first | exact HK.out | apply Kept.alloc | apply Kept.drewN | apply Kept.drew | refine Kept.setCell ?_ (.inr b2.out) _) | exact HK.out)) hb)
                replace HB := a_ (below_step (by repeat (with_reducible first | exact HB.out | refine bz ?_ (by assumption) | apply bA | apply bN | apply bD)) hb)
                (try clear hb)
                (try clear hb2)
                (try clear hk)
                (try clear hi)
                refine hK.out _ _ ⟨(blk_cell a4.out 0).trans rfl, (blk_cell a4.out 1).trans rfl, HS2_, HS3_, HS4_, HS5_⟩ (fun a2 => ?_)
                clear hK K
                refine norm_ (a' := ?_) ?_ ?_
                rotate_left
                ·show Act.put _ (some 99) _ = _
                 simp only [Act.put, sB, sC, sD, i64_w, i32_w]
                 rfl
                refine pure_ (i := 18) (N := some 81) (v := ?_) (a' := ?_) #[true, true, true, true, true, true, true, true, true, true, true, true, true, true, true, true, true, true, true, false, false, false, false, false] rfl rfl (any_of HT_.out (by kernel_rfl)) (fun _ _ _ h => h) (Or.inl ⟨by rfl, ?_⟩) ?_ ?_
                rotate_left
                ·intro w'
                 go_simp
                 with_reducible rfl
                rotate_left
                ·simp only [Act.put, sB, sC, sD, i64_w, i32_w]
                 rfl
                refine pure_ (i := 19) (N := some 100) (v := ?_) (a' := ?_) #[true, true, true, true, true, true, true, true, true, true, true, true, true, true, true, true, true, true, true, true, false, false, false, false] rfl rfl (any_of HT_.out (by kernel_rfl)) (fun _ _ _ h => h) (Or.inl ⟨by rfl, ?_⟩) ?_ ?_
                rotate_left
                ·intro w'
                 go_simp
                 with_reducible rfl
                rotate_left
                ·simp only [Act.put, sB, sC, sD, i64_w, i32_w]
                 rfl
                refine pure_ (i := 20) (N := some 101) (v := ?_) (a' := ?_) #[true, true, true, true, true, true, true, true, true, true, true, true, true, true, true, true, true, true, true, true, true, false, false, false] rfl rfl (any_of HT_.out (by kernel_rfl)) (fun _ _ _ h => h) (Or.inl ⟨by rfl, ?_⟩) ?_ ?_
                rotate_left
                ·intro w'
                 go_simp
                 with_reducible rfl
                rotate_left
                ·simp only [Act.put, sB, sC, sD, i64_w, i32_w]
                 rfl
                refine one_ (i := 21) (N := some 10) #[true, true, true, true, true, true, true, true, true, true, true, true, true, true, true, true, true, true, true, true, true, true, false, false] rfl rfl (one_of HT_.out (by kernel_rfl)) (by decide) (fun K hK => ?_)
                refine box_step ?hg (N := 10) ?hd (cs := #[.float .f64 (0 : Nat), .float .f64 (0 : Nat)]) (t := 42) ?hr ?_; (case hd => rfl); (case hg => rfl); (case hr => first | (go_simp; done) | (go_simp; rfl))
                intro a5 hg o6 hbox hb
                have HS2_ := (hb.cell (World.block_lt_of_cell? _ _ (a2.2.2.1))).trans (a2.2.2.1)
                have HS3_ := (hb.cell (World.block_lt_of_cell? _ _ (a2.2.2.2.1))).trans (a2.2.2.2.1)
                have HS4_ := (hb.cell (World.block_lt_of_cell? _ _ (a2.2.2.2.2.1))).trans (a2.2.2.2.2.1)
                have HS5_ := (hb.cell (World.block_lt_of_cell? _ _ (a2.2.2.2.2.2))).trans (a2.2.2.2.2.2)
                replace a3 := a_ (Kd.R_below (Kd.R_elderB (rk a3.out) a5 (Nat.le_of_eq hg.symm)) hb)
                have b3 := a_ (hbox)
                have b4 := a_ (by rw [hg]; exact (by first | exact HK.out.1 | exact (show Kept w _ (fun k_ => P1_ k_) from by repeat (first | (with_reducible first | exact HK.out | apply Kept.alloc | apply Kept.drewN | apply Kept.drew | refine Kept.setCell ?_ (.inr b2.out) _) | exact HK.out)).1) : w.heap.size ≤ a5)
                replace HK := a_ (Kept.below (S := (fun k_ => P1_ k_)) (by repeat (first | (with_reducible first | exact HK.out | apply Kept.alloc | apply Kept.drewN | apply Kept.drew | refine Kept.setCell ?_ (.inr b2.out) _) | exact HK.out)) hb)
                have b8 := a_ (by rw [hg]; exact (bs HB.out) : w0.heap.size ≤ a5)
                replace HB := a_ (below_step (by repeat (with_reducible first | exact HB.out | refine bz ?_ (by assumption) | apply bA | apply bN | apply bD)) hb)
                have a7 := a_ (nel hg a4.out)
                have a8 := a_ (nle hg a4.out)
                replace a4 := a_ (blk_below (pk a4.out) hb)
                clear hb hbox hg
                refine hK.out _ _ ⟨(blk_cell a4.out 0).trans rfl, (blk_cell a4.out 1).trans rfl, HS2_, HS3_, HS4_, HS5_⟩ (fun a2 => ?_)
                clear hK K
                refine norm_ (a' := ?_) ?_ ?_
                rotate_left
                ·show Act.put _ (some 10) _ = _
                 simp only [Act.put, sB, sC, sD, i64_w, i32_w]
                 rfl
                exact norm_ (by simp only [putAll, Act.put, sB, sC, sD]) (hCont (a5, v1, v2) _ ⟨a2, (rk (Kd.R_mono a3.out (fun _ hk => ⟨hk.1.1, hk.1.2, hk.2⟩))), (pk a4.out), (pk b3.out), b4.out, b8.out, a7.out, a8.out, (by repeat (first | (with_reducible first | exact HK.out | apply Kept.alloc | apply Kept.drewN | apply Kept.drew | refine Kept.setCell ?_ (.inr b2.out) _ | refine Kept.setCell ?_ (.inr b4.out) _) | exact HK.out)), (by repeat (with_reducible first | exact HB.out | refine bz ?_ (by assumption) | apply bA | apply bN | apply bD))⟩)
               ·skip
                refine box_step ?hg (N := 10) ?hd (cs := #[.float .f64 (0 : Nat), .float .f64 (0 : Nat)]) (t := 42) ?hr ?_; (case hd => rfl); (case hg => rfl); (case hr => first | (go_simp; done) | (go_simp; rfl))
                intro a5 hg c9 hbox hb
                have HS2_ := (hb.cell (World.block_lt_of_cell? _ _ (a2.2.2.1))).trans (a2.2.2.1)
                have HS3_ := (hb.cell (World.block_lt_of_cell? _ _ (a2.2.2.2.1))).trans (a2.2.2.2.1)
                have HS4_ := (hb.cell (World.block_lt_of_cell? _ _ (a2.2.2.2.2.1))).trans (a2.2.2.2.2.1)
                have HS5_ := (hb.cell (World.block_lt_of_cell? _ _ (a2.2.2.2.2.2))).trans (a2.2.2.2.2.2)
                replace a3 := a_ (Kd.R_below (Kd.R_elderB (rk a3.out) a5 (Nat.le_of_eq hg.symm)) hb)
                have b3 := a_ (hbox)
                have b4 := a_ (by rw [hg]; exact (by first | exact HK.out.1 | exact (show Kept w _ (fun k_ => P1_ k_) from by repeat (first | (with_reducible first | exact HK.out | apply Kept.alloc | apply Kept.drewN | apply Kept.drew | refine Kept.setCell ?_ (.inr b2.out) _) | exact HK.out)).1) : w.heap.size ≤ a5)
                replace HK := a_ (Kept.below (S := (fun k_ => P1_ k_)) (by repeat (first | (with_reducible first | exact HK.out | apply Kept.alloc | apply Kept.drewN | apply Kept.drew | refine Kept.setCell ?_ (.inr b2.out) _) | exact HK.out)) hb)
                have b8 := a_ (by rw [hg]; exact (bs HB.out) : w0.heap.size ≤ a5)
                replace HB := a_ (below_step (by repeat (with_reducible first | exact HB.out | refine bz ?_ (by assumption) | apply bA | apply bN | apply bD)) hb)
                have a7 := a_ (nel hg a4.out)
                have a8 := a_ (nle hg a4.out)
                replace a4 := a_ (blk_below (pk a4.out) hb)
                clear hb hbox hg
                refine hK.out _ _ ⟨(blk_cell a4.out 0).trans rfl, (blk_cell a4.out 1).trans rfl, HS2_, HS3_, HS4_, HS5_⟩ (fun a2 => ?_)
                clear hK K
                refine norm_ (a' := ?_) ?_ ?_
                rotate_left
                ·show Act.put _ (some 10) _ = _
                 simp only [Act.put, sB, sC, sD, i64_w, i32_w]
                 rfl
                refine one_ (i := 17) (N := some 99) #[true, true, true, true, true, true, true, true, true, true, true, true, true, true, true, true, true, true, false, false, false, true, false, false] rfl rfl (one_of HT_.out (by kernel_rfl)) (by decide) (fun K hK => ?_)
                refine goes_ Try.func36 (by kernel_rfl) rfl #[.agg #[.float .f64 v1, .float .f64 v2]] (by rfl) rfl rfl (by (try simp only [lA, lB, lC]); first | done | rfl | (simp only [lD, lE]; rfl)) ?_
                with_reducible refine (spec_l3Told.calls 1 v1 v2 b9 c7 true _ (R_told (Flo.sp_sub HS.out V1 V2) (Option.some.inj f4.out))).mono ?_
                rintro e o6 ⟨rfl, hb⟩
                have HS2_ := (hb.cell (World.block_lt_of_cell? _ _ (a2.2.2.1))).trans (a2.2.2.1)
                have HS3_ := (hb.cell (World.block_lt_of_cell? _ _ (a2.2.2.2.1))).trans (a2.2.2.2.1)
                have HS4_ := (hb.cell (World.block_lt_of_cell? _ _ (a2.2.2.2.2.1))).trans (a2.2.2.2.2.1)
                have HS5_ := (hb.cell (World.block_lt_of_cell? _ _ (a2.2.2.2.2.2))).trans (a2.2.2.2.2.2)
                refine ⟨_, rfl, ?_⟩
                replace a3 := a_ (Kd.R_below (rk a3.out) hb)
                replace a4 := a_ (blk_below (pk a4.out) hb)
                replace b3 := a_ (blk_below (pk b3.out) hb)
                replace HK := a_ (Kept.below (S := (fun k_ => P1_ k_)) (by repeat (first | (with_reducible first | exact HK.out | apply Kept.alloc | apply Kept.drewN | apply Kept.drew | refine Kept.setCell ?_ (.inr b2.out) _ | refine Kept.setCell ?_ (.inr b4.out) _) | exact HK.out)) hb)
                replace HB := a_ (below_step (by repeat (with_reducible first | exact HB.out | refine bz ?_ (by assumption) | apply bA | apply bN | apply bD)) hb)
                (try clear hb)
                (try clear hb2)
                (try clear hk)
                (try clear hi)
                refine hK.out _ _ ⟨(blk_cell a4.out 0).trans rfl, (blk_cell a4.out 1).trans rfl, HS2_, HS3_, HS4_, HS5_⟩ (fun a2 => ?_)
                clear hK K
                refine norm_ (a' := ?_) ?_ ?_
                rotate_left
                ·show Act.put _ (some 99) _ = _
                 simp only [Act.put, sB, sC, sD, i64_w, i32_w]
                 rfl
                refine pure_ (i := 18) (N := some 81) (v := ?_) (a' := ?_) #[true, true, true, true, true, true, true, true, true, true, true, true, true, true, true, true, true, true, true, false, false, true, false, false] rfl rfl (any_of HT_.out (by kernel_rfl)) (fun _ _ _ h => h) (Or.inl ⟨by rfl, ?_⟩) ?_ ?_
                rotate_left
                ·intro w'
                 go_simp
                 with_reducible rfl
                rotate_left
                ·simp only [Act.put, sB, sC, sD, i64_w, i32_w]
                 rfl
                refine pure_ (i := 19) (N := some 100) (v := ?_) (a' := ?_) #[true, true, true, true, true, true, true, true, true, true, true, true, true, true, true, true, true, true, true, true, false, true, false, false] rfl rfl (any_of HT_.out (by kernel_rfl)) (fun _ _ _ h => h) (Or.inl ⟨by rfl, ?_⟩) ?_ ?_
                rotate_left
                ·intro w'
                 go_simp
                 with_reducible rfl
                rotate_left
                ·simp only [Act.put, sB, sC, sD, i64_w, i32_w]
                 rfl
                refine pure_ (i := 20) (N := some 101) (v := ?_) (a' := ?_) #[true, true, true, true, true, true, true, true, true, true, true, true, true, true, true, true, true, true, true, true, true, true, false, false] rfl rfl (any_of HT_.out (by kernel_rfl)) (fun _ _ _ h => h) (Or.inl ⟨by rfl, ?_⟩) ?_ ?_
                rotate_left
                ·intro w'
                 go_simp
                 with_reducible rfl
                rotate_left
                ·simp only [Act.put, sB, sC, sD, i64_w, i32_w]
                 rfl
                exact norm_ (by simp only [putAll, Act.put, sB, sC, sD]) (hCont (a5, v1, v2) _ ⟨a2, (rk (Kd.R_mono a3.out (fun _ hk => ⟨hk.1.1, hk.1.2, hk.2⟩))), (pk a4.out), (pk b3.out), b4.out, b8.out, a7.out, a8.out, (by repeat (first | (with_reducible first | exact HK.out | apply Kept.alloc | apply Kept.drewN | apply Kept.drew | refine Kept.setCell ?_ (.inr b2.out) _ | refine Kept.setCell ?_ (.inr b4.out) _) | exact HK.out)), (by repeat (with_reducible first | exact HB.out | refine bz ?_ (by assumption) | apply bA | apply bN | apply bD))⟩)
              rintro ⟨a5, v1, v2⟩ d3 ⟨hS_, h0_, h1_, h2_, h3_, h4_, h5_, h6_, h7_, h8_⟩
              have n0_ : Aside0 (Kd.R k42 42 d3 w0.heap.size (fun k_ => (P1_ k_ ∨ w.heap.size ≤ k_) ∧ k_ ≠ a9 ∧ k_ ≠ a5) (.slice (some ad139) x1_1.length d8) x1_1) := ⟨h0_⟩
              have n1_ : Aside0 (d3.heap[a9]? = some (.cells #[.float .f64 x143000_2, .float .f64 x143001_2] 42 (0, 0))) := ⟨h1_⟩
              have n2_ : Aside0 (d3.heap[a5]? = some (.cells #[.float .f64 (0 : Nat), .float .f64 (0 : Nat)] 42 (0, 0))) := ⟨h2_⟩
              have n3_ : Aside0 (w.heap.size ≤ a5) := ⟨h3_⟩
              have n4_ : Aside0 (w0.heap.size ≤ a5) := ⟨h4_⟩
              have n5_ : Aside0 (a9 ≠ a5) := ⟨h5_⟩
              have n6_ : Aside0 (a5 ≠ a9) := ⟨h6_⟩
              have n7_ : Aside0 (Kept w d3 (fun k_ => P1_ k_)) := ⟨h7_⟩
              have n8_ : Aside0 (Below w0.heap.size w0 d3) := ⟨h8_⟩
              clear a3
              clear a4
              clear HK
              clear HB
              clear h0_ h1_ h2_ h3_ h4_ h5_ h6_ h7_ h8_
              have a3 := n0_
              have a4 := n1_
              have b3 := n2_
              have b4 := n3_
              have b8 := n4_
              have a7 := n5_
              have a8 := n6_
              have HK := n7_
              have HB := n8_
              clear n0_ n1_ n2_ n3_ n4_ n5_ n6_ n7_ n8_
              have a2 : d3.cell? ⟨a9, 0, none⟩ = some (.float .f64 x143000_2) ∧ d3.cell? ⟨a9, 1, none⟩ = some (.float .f64 x143001_2) ∧ d3.cell? (ad139.add ((x14_1).toNat * 2)) = some (.float .f64 ((rd_T42 x1_1 x14_1).f0)) ∧ d3.cell? ⟨(ad139.add ((x14_1).toNat * 2)).block, (ad139.add ((x14_1).toNat * 2)).off + 1, none⟩ = some (.float .f64 ((rd_T42 x1_1 x14_1).f1)) ∧ d3.cell? (ad139.add ((x14_1).toNat * 2)) = some (.float .f64 ((rd_T42 x1_1 x14_1).f0)) ∧ d3.cell? ⟨(ad139.add ((x14_1).toNat * 2)).block, (ad139.add ((x14_1).toNat * 2)).off + 1, none⟩ = some (.float .f64 ((rd_T42 x1_1 x14_1).f1)) := hS_
              refine norm_ (a' := ?_) ?_ ?_
              rotate_left
              ·simp only [putAll, Act.put, sB, sC, sD]
               rfl
              refine one_ (i := 22) (N := none) #[true, true, true, true, true, true, true, true, true, true, true, true, true, true, true, true, true, true, true, true, true, true, true, false] rfl rfl (one_of HT_.out (by kernel_rfl)) (by decide) (fun K hK => ?_)
              have hs71 : d3.cell? ⟨a5, 0, none⟩ = some (.float .f64 (0 : Nat)) := (blk_cell b3.out 0).trans rfl
              have hfs71 := blk_frozen b3.out 0
              have hns71_0 := a7.out
              have hms71_0 := a8.out
              have hs72 : d3.cell? ⟨a5, 1, none⟩ = some (.float .f64 (0 : Nat)) := (blk_cell b3.out 1).trans rfl
              have hfs72 := blk_frozen b3.out 1
              have hns72_0 := a7.out
              have hms72_0 := a8.out
              refine skip_ (w1 := ?_) ?_ ?_ ?_ ?_
              rotate_left
              ·rfl
              ·rfl
              ·go_simp
               rfl
              refine hK.out _ _ ⟨((cell_far (p := ⟨a5, _, none⟩) a7.out _).trans (((cell_far (p := ⟨a5, _, none⟩) a7.out _).trans (a2.1)))), ((cell_far (p := ⟨a5, _, none⟩) a7.out _).trans (((cell_far (p := ⟨a5, _, none⟩) a7.out _).trans (a2.2.1)))), ((cell_far (p := ⟨a5, _, none⟩) (by first | exact Kd.own_blk (Kd.R_away a3.out (fun _ hk => hk.2.2)) | (rw [add_block]; exact Kd.own_blk (Kd.R_away a3.out (fun _ hk => hk.2.2))) | (show (Addr.add _ _).block ≠ _; rw [add_block]; exact Kd.own_blk (Kd.R_away a3.out (fun _ hk => hk.2.2))) | (dsimp only; exact Kd.own_blk (Kd.R_away a3.out (fun _ hk => hk.2.2)))) _).trans (((cell_far (p := ⟨a5, _, none⟩) (by first | exact Kd.own_blk (Kd.R_away a3.out (fun _ hk => hk.2.2)) | (rw [add_block]; exact Kd.own_blk (Kd.R_away a3.out (fun _ hk => hk.2.2))) | (show (Addr.add _ _).block ≠ _; rw [add_block]; exact Kd.own_blk (Kd.R_away a3.out (fun _ hk => hk.2.2))) | (dsimp only; exact Kd.own_blk (Kd.R_away a3.out (fun _ hk => hk.2.2)))) _).trans (a2.2.2.1)))), ((cell_far (p := ⟨a5, _, none⟩) (by first | exact Kd.own_blk (Kd.R_away a3.out (fun _ hk => hk.2.2)) | (rw [add_block]; exact Kd.own_blk (Kd.R_away a3.out (fun _ hk => hk.2.2))) | (show (Addr.add _ _).block ≠ _; rw [add_block]; exact Kd.own_blk (Kd.R_away a3.out (fun _ hk => hk.2.2))) | (dsimp only; exact Kd.own_blk (Kd.R_away a3.out (fun _ hk => hk.2.2)))) _).trans (((cell_far (p := ⟨a5, _, none⟩) (by first | exact Kd.own_blk (Kd.R_away a3.out (fun _ hk => hk.2.2)) | (rw [add_block]; exact Kd.own_blk (Kd.R_away a3.out (fun _ hk => hk.2.2))) | (show (Addr.add _ _).block ≠ _; rw [add_block]; exact Kd.own_blk (Kd.R_away a3.out (fun _ hk => hk.2.2))) | (dsimp only; exact Kd.own_blk (Kd.R_away a3.out (fun _ hk => hk.2.2)))) _).trans (a2.2.2.2.1)))), ((cell_far (p := ⟨a5, _, none⟩) (by first | exact Kd.own_blk (Kd.R_away a3.out (fun _ hk => hk.2.2)) | (rw [add_block]; exact Kd.own_blk (Kd.R_away a3.out (fun _ hk => hk.2.2))) | (show (Addr.add _ _).block ≠ _; rw [add_block]; exact Kd.own_blk (Kd.R_away a3.out (fun _ hk => hk.2.2))) | (dsimp only; exact Kd.own_blk (Kd.R_away a3.out (fun _ hk => hk.2.2)))) _).trans (((cell_far (p := ⟨a5, _, none⟩) (by first | exact Kd.own_blk (Kd.R_away a3.out (fun _ hk => hk.2.2)) | (rw [add_block]; exact Kd.own_blk (Kd.R_away a3.out (fun _ hk => hk.2.2))) | (show (Addr.add _ _).block ≠ _; rw [add_block]; exact Kd.own_blk (Kd.R_away a3.out (fun _ hk => hk.2.2))) | (dsimp only; exact Kd.own_blk (Kd.R_away a3.out (fun _ hk => hk.2.2)))) _).trans (a2.2.2.2.2.1)))), ((cell_far (p := ⟨a5, _, none⟩) (by first | exact Kd.own_blk (Kd.R_away a3.out (fun _ hk => hk.2.2)) | (rw [add_block]; exact Kd.own_blk (Kd.R_away a3.out (fun _ hk => hk.2.2))) | (show (Addr.add _ _).block ≠ _; rw [add_block]; exact Kd.own_blk (Kd.R_away a3.out (fun _ hk => hk.2.2))) | (dsimp only; exact Kd.own_blk (Kd.R_away a3.out (fun _ hk => hk.2.2)))) _).trans (((cell_far (p := ⟨a5, _, none⟩) (by first | exact Kd.own_blk (Kd.R_away a3.out (fun _ hk => hk.2.2)) | (rw [add_block]; exact Kd.own_blk (Kd.R_away a3.out (fun _ hk => hk.2.2))) | (show (Addr.add _ _).block ≠ _; rw [add_block]; exact Kd.own_blk (Kd.R_away a3.out (fun _ hk => hk.2.2))) | (dsimp only; exact Kd.own_blk (Kd.R_away a3.out (fun _ hk => hk.2.2)))) _).trans (a2.2.2.2.2.2))))⟩ (fun a2 => ?_)
              clear hK K
              refine pure_ (i := 23) (N := some 11) (v := ?_) (a' := ?_) #[true, true, true, true, true, true, true, true, true, true, true, true, true, true, true, true, true, true, true, true, true, true, true, true] rfl rfl (any_of HT_.out (by kernel_rfl)) (fun _ _ _ h => h) (Or.inl ⟨by rfl, ?_⟩) ?_ ?_
              rotate_left
              ·intro w'
               go_simp
               with_reducible rfl
              rotate_left
              ·simp only [Act.put, sB, sC, sD, i64_w, i32_w]
               rfl
              refine done_ (done_of HT_.out (by kernel_rfl)) ?_
              have n0_ : Aside0 (Kd.R k42 42 ((d3.setCell ⟨a5, 0, none⟩ (.float .f64 b9)).setCell ⟨a5, 1, none⟩ (.float .f64 c7)) w0.heap.size (fun k_ => (P1_ k_ ∨ w.heap.size ≤ k_) ∧ k_ ≠ a9 ∧ k_ ≠ a5) (.slice (some ad139) x1_1.length d8) x1_1) := ⟨rk (Kd.R_mono (Kd.R_far (p := ⟨a5, 1, none⟩) (Kd.R_far (p := ⟨a5, 0, none⟩) (Kd.R_mono a3.out (fun k_ hk => (⟨hk, hk.2.2⟩ : _ ∧ k_ ≠ a5))) (fun _ hk => hk.2) (.float .f64 b9)) (fun _ hk => hk.2) (.float .f64 c7)) (fun _ hk => hk.1))⟩
              have n1_ : Aside0 (((d3.setCell ⟨a5, 0, none⟩ (.float .f64 b9)).setCell ⟨a5, 1, none⟩ (.float .f64 c7)).heap[a9]? = some (.cells #[.float .f64 x143000_2, .float .f64 x143001_2] 42 (0, 0))) := ⟨by refine pk ?_; refine blk_far ?_ a7.out _; refine pk ?_; refine blk_far ?_ a7.out _; refine pk ?_; exact a4.out⟩
              have n2_ : Aside0 (((d3.setCell ⟨a5, 0, none⟩ (.float .f64 b9)).setCell ⟨a5, 1, none⟩ (.float .f64 c7)).heap[a5]? = some (.cells #[.float .f64 b9, .float .f64 c7] 42 (0, 0))) := ⟨by refine pk ?_; refine blk_put (cs := #[.float .f64 b9, .float .f64 (0 : Nat)]) ?_ 1 _ rfl; refine pk ?_; refine blk_put (cs := #[.float .f64 (0 : Nat), .float .f64 (0 : Nat)]) ?_ 0 _ rfl; refine pk ?_; exact b3.out⟩
              have n3_ : Aside0 (Kept w ((d3.setCell ⟨a5, 0, none⟩ (.float .f64 b9)).setCell ⟨a5, 1, none⟩ (.float .f64 c7)) (fun k_ => P1_ k_)) := ⟨by repeat (first | (with_reducible first | exact HK.out | apply Kept.alloc | apply Kept.drewN | apply Kept.drew | refine Kept.setCell ?_ (.inr b2.out) _ | refine Kept.setCell ?_ (.inr b4.out) _) | exact HK.out)⟩
              have n4_ : Aside0 (Below w0.heap.size w0 ((d3.setCell ⟨a5, 0, none⟩ (.float .f64 b9)).setCell ⟨a5, 1, none⟩ (.float .f64 c7))) := ⟨by repeat (with_reducible first | exact HB.out | refine bz ?_ (by assumption) | apply bA | apply bN | apply bD)⟩
              (try clear a3)
              (try clear a4)
              (try clear b3)
              (try clear HK)
              (try clear HB)
              generalize ((d3.setCell ⟨a5, 0, none⟩ (.float .f64 b9)).setCell ⟨a5, 1, none⟩ (.float .f64 c7)) = f3 at n0_ n1_ n2_ n3_ n4_ ⊢
              have a3 := n0_
              have a4 := n1_
              have b3 := n2_
              have HK := n3_
              have HB := n4_
              clear n0_ n1_ n2_ n3_ n4_
              have o7 := a8.out
              have o8 := a7.out
              have l3 : _ = some (Value.float .f64 b9) := (blk_cell b3.out 0).trans rfl
              have l4 : _ = some (Value.float .f64 c7) := (blk_cell b3.out 1).trans rfl
              have l5 := blk_frozen b3.out 0
              have l6 := blk_frozen b3.out 1
              have p66 : 0 ≤ (x14_1 : Int) := of_decide_eq_true (by first | (with_reducible assumption) | assumption)
              have q66 : (x14_1 : Int) < ((x1_1.length : Int) : Int) := of_decide_eq_true (by first | (with_reducible assumption) | assumption)
              obtain ⟨go66, p5, h0, h1, gl66, cl66, HG66⟩ := Kd.R_form a3.out (by omega)
              (first | cases h0 | (injection h0 with ea_ en_ ec_; (first | subst ea_ | (injection ea_ with ea_; subst ea_)); subst ec_; clear en_))
              have GB66 := Aside0.mk h1
              have GG66 := Aside0.mk HG66
              clear h1 gl66 HG66
              have HMgo66 := a_ (show (P1_ go66 ∨ w.heap.size ≤ go66) from (a3.out.1 _ rfl).1)
              (first | simp only [add_plain] at hx139_0 | skip)
              (first | simp only [add_plain] at hx139_1 | skip)
              (first | simp only [add_plain] at hx150_0 | skip)
              (first | simp only [add_plain] at hx150_1 | skip)
              (first | simp only [add_plain] at hx151_0 | skip)
              (first | simp only [add_plain] at hx151_1 | skip)
              (first | simp only [add_plain] at hx152_0 | skip)
              (first | simp only [add_plain] at hx152_1 | skip)
              (first | simp only [add_plain] at hx153_0 | skip)
              (first | simp only [add_plain] at hx153_1 | skip)
              (first | simp only [add_plain] at hx143_0 | skip)
              (first | simp only [add_plain] at hx143_1 | skip)
              (first | simp only [add_plain] at hx144_0 | skip)
              (first | simp only [add_plain] at hx144_1 | skip)
              obtain ⟨ce66, hcl66, hM66, e2, hfr66⟩ := Kd.R_elem a3.out z42 (x14_1 : Int) p66 q66
              obtain rfl := k42_openM hM66
              have hx66_0 : f3.cell? ⟨go66, (x14_1 : Int).toNat * 2, none⟩ = some (.float .f64 ((rd_T42 x1_1 x14_1).f0)) := e2 0 _ rfl
              have hx66_1 : f3.cell? ⟨go66, (x14_1 : Int).toNat * 2 + 1, none⟩ = some (.float .f64 ((rd_T42 x1_1 x14_1).f1)) := e2 1 _ rfl
              have hf66_0 : f3.frozen? ⟨go66, (x14_1 : Int).toNat * 2, none⟩ = false := hfr66 0
              have hf66_1 : f3.frozen? ⟨go66, (x14_1 : Int).toNat * 2 + 1, none⟩ = false := hfr66 1
              clear hcl66 e2 hfr66 hM66
              replace p66 := eq_true p66
              replace q66 := eq_true q66
              have HX76 := a_ (show Kd.R k42 42 f3 w0.heap.size (fun k_ => (P1_ k_ ∨ w.heap.size ≤ k_) ∧ k_ ≠ a9 ∧ k_ ≠ a5) (.slice (some ⟨go66, 0, none⟩) x1_1.length d8) x1_1 from (rk a3.out))
              obtain ⟨ce76, hcl76, hM76, d7, hfr76⟩ := Kd.R_elem HX76.out z42 (x14_1 : Int) (of_decide_eq_true (by first | (with_reducible assumption) | assumption)) (by have h_ : (x14_1 : Int) < ((x1_1.length : Int) : Int) := of_decide_eq_true (by first | (with_reducible assumption) | assumption); first | exact h_ | (have e_ := (Kd.R_reads' a3.out).1; omega) | simpa using h_)
              obtain rfl := k42_openM hM76
              have HP76 := Kd.R_seg HX76.out (x14_1 : Int) (of_decide_eq_true (by first | (with_reducible assumption) | assumption)) (by have h_ : (x14_1 : Int) < ((x1_1.length : Int) : Int) := of_decide_eq_true (by first | (with_reducible assumption) | assumption); first | exact h_ | (have e_ := (Kd.R_reads' a3.out).1; omega) | simpa using h_) (seg := [.float .f64 b9, .float .f64 c7]) (j := 0) hcl76 d7 (show 2 ≤ 2 from by decide) (x' := (⟨b9, c7⟩ : S42)) (k42_mkM _ _ _ (⟨b9, c7⟩ : S42) ) (fun _ hk => hk)
              have hx76_0 := d7 0 _ rfl
              (try simp only [show (k42).sz = 2 from rfl, Nat.mul_one, Nat.add_zero] at hx76_0)
              have hf76_0 := hfr76 0
              (try simp only [show (k42).sz = 2 from rfl, Nat.mul_one, Nat.add_zero] at hf76_0)
              have hx76_1 := d7 1 _ rfl
              (try simp only [show (k42).sz = 2 from rfl, Nat.mul_one, Nat.add_zero] at hx76_1)
              have hf76_1 := hfr76 1
              (try simp only [show (k42).sz = 2 from rfl, Nat.mul_one, Nat.add_zero] at hf76_1)
              clear hcl76 d7 hfr76 hM76
              try go_wp2_with (first | ((with_reducible refine gate_store (t := 42) (p := 107) rfl ?_); refine store_event (t := 42) (p := 107) (v := ?vo_w77) (w1 := ((f3.setCell ⟨go66, (x14_1 : Int).toNat * 2, none⟩ (.float .f64 b9)).setCell ⟨go66, (x14_1 : Int).toNat * 2 + 1, none⟩ (.float .f64 c7))) ?hg ?ho ?hn ?hr ?_; (case ho => rfl); (case hg => rfl); (case hn => rfl); (case hr => first | (go_simp; done) | (go_simp; rfl)); intro l9 hw; have hg : f3.grownBy l9 (some go66) := (by rw [hw]; exact HP76.2); have hp_ : Kd.R k42 42 l9 w0.heap.size (fun k_ => (P1_ k_ ∨ w.heap.size ≤ k_) ∧ k_ ≠ a9 ∧ k_ ≠ a5) (.slice (some ⟨go66, 0, none⟩) x1_1.length d8) y149 := (by rw [hw, Ny149.out]; exact HP76.1); clear HP76; replace a4 := a_ (blk_grown (pk a4.out) hg (Kd.R_away a3.out (fun _ hk => hk.2.1))); replace b3 := a_ (blk_grown (pk b3.out) hg (Kd.R_away a3.out (fun _ hk => hk.2.2))); replace HB := a_ (by rw [hw]; exact below_set (below_set (HB.out) GB66.out) GB66.out : Below w0.heap.size w0 l9); replace HK := a_ (Kept.of_grown (S := (fun k_ => P1_ k_)) hg (by repeat (first | (with_reducible first | exact HK.out | apply Kept.alloc | apply Kept.drewN | apply Kept.drew | refine Kept.setCell ?_ (.inr b2.out) _ | refine Kept.setCell ?_ (.inr b4.out) _) | exact HK.out)) (fun k_ e_ => (a3.out.1 k_ e_).1)); replace a3 := a_ (hp_); clear hg hw hp_))
              (try simp only [← c8])
              go_roundg k2
              case measure => have := HK1.out; have := HK2.out; omega
              case rel => exact ⟨(y149), (wrap64 (x14_1 + 1)), (by first | rfl | (simp; done) | (simp [*]; done)), H', ⟨by have := HK1.out; have := HK2.out; omega⟩, ⟨by (try simp only [c8]); refine rk ?_; exact Kd.R_mono a3.out (fun _ hk => hk.1)⟩, ⟨by repeat (first | (with_reducible first | exact HK.out | apply Kept.alloc | apply Kept.drewN | apply Kept.drew | refine Kept.setCell ?_ (.inr b2.out) _ | refine Kept.setCell ?_ (.inr b4.out) _) | exact HK.out)⟩, ⟨by repeat (with_reducible first | exact HB.out | refine bz ?_ (by assumption) | apply bA | apply bN | apply bD)⟩⟩
             ·replace c65 := Bool.eq_false_iff.mpr c65
              subst c65
              have H1 : (some (false, x1_1)) = some (r1, r2) := by rw [if_neg (show ¬ (false = true) by decide)] at H; exact H
              clear H
              have H := H1
              clear H1
              simp only [Option.some.injEq, Prod.mk.injEq] at H
              obtain ⟨rfl, rfl⟩ := H
              try go_wp2
              replace a3 := a_ (Kd.R_drew a3.out)
              replace a4 := a_ (blk_drew a4.out)
              replace HK := a_ (Kept.drew HK.out)
              replace HB := a_ (below_drew1 HB.out)
              have p143 : 0 ≤ (x14_1 : Int) := of_decide_eq_true (by first | (with_reducible assumption) | assumption)
              have q143 : x14_1 < (x1_1.length : Int) := of_decide_eq_true (by first | (with_reducible assumption) | assumption)
              obtain ⟨ad143, e143, hx143_0, hx143_1⟩ := at_T42 (Kd.R_reads' a3.out).2.2 x14_1 p143 q143
              obtain rfl : ad139 = ad143 := (by injection e143)
              replace p143 := eq_true p143
              replace q143 := eq_true q143
              have p144 : 0 ≤ (x14_1 : Int) := of_decide_eq_true (by first | (with_reducible assumption) | assumption)
              have q144 : x14_1 < (x1_1.length : Int) := of_decide_eq_true (by first | (with_reducible assumption) | assumption)
              obtain ⟨ad144, e144, hx144_0, hx144_1⟩ := at_T42 (Kd.R_reads' a3.out).2.2 x14_1 p144 q144
              obtain rfl : ad139 = ad144 := (by injection e144)
              replace p144 := eq_true p144
              replace q144 := eq_true q144
              refine start_ (n := 24) (S := fun w' => w'.cell? ⟨a9, 0, none⟩ = some (.float .f64 x143000_2) ∧ w'.cell? ⟨a9, 1, none⟩ = some (.float .f64 x143001_2) ∧ w'.cell? (ad139.add ((x14_1).toNat * 2)) = some (.float .f64 ((rd_T42 x1_1 x14_1).f0)) ∧ w'.cell? ⟨(ad139.add ((x14_1).toNat * 2)).block, (ad139.add ((x14_1).toNat * 2)).off + 1, none⟩ = some (.float .f64 ((rd_T42 x1_1 x14_1).f1)) ∧ w'.cell? (ad139.add ((x14_1).toNat * 2)) = some (.float .f64 ((rd_T42 x1_1 x14_1).f0)) ∧ w'.cell? ⟨(ad139.add ((x14_1).toNat * 2)).block, (ad139.add ((x14_1).toNat * 2)).off + 1, none⟩ = some (.float .f64 ((rd_T42 x1_1 x14_1).f1))) (ds := []) #[false, false, false, false, false, false, false, false, false, false, false, false, false, false, false, false, false, false, false, false, false, false, false, false] (by kernel_rfl) rfl rfl ⟨(blk_cell a4.out 0).trans rfl, (blk_cell a4.out 1).trans rfl, hx143_0, hx143_1, hx144_0, hx144_1⟩ (fun a2 => ?_); refine with_tabW spec_l3Step.tab15 spec_l3Step.bits15 (fun HT_ HW_ => ?_)
              generalize wr.drew = d5 at a3 a4 HK HB hx143_0 hx143_1 hx144_0 hx144_1 a2 ⊢
              refine pure_ (i := 0) (N := some 82) (v := ?_) (a' := ?_) #[true, false, false, false, false, false, false, false, false, false, false, false, false, false, false, false, false, false, false, false, false, false, false, false] rfl rfl (any_of HT_.out (by kernel_rfl)) (fun _ _ _ h => h) (Or.inl ⟨by rfl, ?_⟩) ?_ ?_
              rotate_left
              ·intro w'
               go_simp
               with_reducible rfl
              rotate_left
              ·simp only [Act.put, sB, sC, sD, i64_w, i32_w]
               rfl
              refine pure_ (i := 1) (N := some 83) (v := ?_) (a' := ?_) #[true, true, false, false, false, false, false, false, false, false, false, false, false, false, false, false, false, false, false, false, false, false, false, false] rfl rfl (any_of HT_.out (by kernel_rfl)) (fun _ _ _ h => h) (Or.inl ⟨by rfl, ?_⟩) ?_ ?_
              rotate_left
              ·intro w'
               go_simp
               with_reducible rfl
              rotate_left
              ·simp only [Act.put, sB, sC, sD, i64_w, i32_w]
               rfl
              refine pure_ (i := 2) (N := some 84) (v := ?_) (a' := ?_) #[true, true, true, false, false, false, false, false, false, false, false, false, false, false, false, false, false, false, false, false, false, false, false, false] rfl rfl (any_of HT_.out (by kernel_rfl)) (fun _ _ _ h => h) (Or.inl ⟨by rfl, ?_⟩) ?_ ?_
              rotate_left
              ·intro w'
               go_simp
               with_reducible rfl
              rotate_left
              ·simp only [Act.put, sB, sC, sD, i64_w, i32_w]
               rfl
              refine pure_ (i := 3) (N := some 85) (v := ?_) (a' := ?_) #[true, true, true, true, false, false, false, false, false, false, false, false, false, false, false, false, false, false, false, false, false, false, false, false] rfl rfl (any_of HT_.out (by kernel_rfl)) (fun _ _ _ h => h) (Or.inl ⟨by rfl, ?_⟩) ?_ ?_
              rotate_left
              ·intro w'
               go_simp
               with_reducible rfl
              rotate_left
              ·simp only [Act.put, sB, sC, sD, i64_w, i32_w]
               rfl
              refine pure_ (i := 5) (N := some 87) (v := ?_) (a' := ?_) #[true, true, true, true, false, true, false, false, false, false, false, false, false, false, false, false, false, false, false, false, false, false, false, false] rfl rfl (any_of HT_.out (by kernel_rfl)) (fun _ _ _ h => h) (Or.inl ⟨by rfl, ?_⟩) ?_ ?_
              rotate_left
              ·intro w'
               go_simp
               with_reducible rfl
              rotate_left
              ·simp only [Act.put, sB, sC, sD, i64_w, i32_w]
               rfl
              refine pure_ (i := 8) (N := some 90) (v := ?_) (a' := ?_) #[true, true, true, true, false, true, false, false, true, false, false, false, false, false, false, false, false, false, false, false, false, false, false, false] rfl rfl (any_of HT_.out (by kernel_rfl)) (fun _ _ _ h => h) (Or.inl ⟨by rfl, ?_⟩) ?_ ?_
              rotate_left
              ·intro w'
               go_simp
               with_reducible rfl
              rotate_left
              ·simp only [Act.put, sB, sC, sD, i64_w, i32_w]
               rfl
              refine pure_ (i := 9) (N := some 91) (v := ?_) (a' := ?_) #[true, true, true, true, false, true, false, false, true, true, false, false, false, false, false, false, false, false, false, false, false, false, false, false] rfl rfl (any_of HT_.out (by kernel_rfl)) (fun _ _ _ h => h) (Or.inl ⟨by rfl, ?_⟩) ?_ ?_
              rotate_left
              ·intro w'
               go_simp
               with_reducible rfl
              rotate_left
              ·simp only [Act.put, sB, sC, sD, i64_w, i32_w]
               rfl
              refine pure_ (i := 10) (N := some 92) (v := ?_) (a' := ?_) #[true, true, true, true, false, true, false, false, true, true, true, false, false, false, false, false, false, false, false, false, false, false, false, false] rfl rfl (any_of HT_.out (by kernel_rfl)) (fun _ _ _ h => h) (Or.inl ⟨by rfl, ?_⟩) ?_ ?_
              rotate_left
              ·intro w'
               go_simp
               with_reducible rfl
              rotate_left
              ·simp only [Act.put, sB, sC, sD, i64_w, i32_w]
               rfl
              refine pure_ (i := 11) (N := some 93) (v := ?_) (a' := ?_) #[true, true, true, true, false, true, false, false, true, true, true, true, false, false, false, false, false, false, false, false, false, false, false, false] rfl rfl (any_of HT_.out (by kernel_rfl)) (fun _ _ _ h => h) (Or.inl ⟨by rfl, ?_⟩) ?_ ?_
              rotate_left
              ·intro w'
               go_simp
               with_reducible rfl
              rotate_left
              ·simp only [Act.put, sB, sC, sD, i64_w, i32_w]
               rfl
              refine pure_ (i := 13) (N := some 95) (v := ?_) (a' := ?_) #[true, true, true, true, false, true, false, false, true, true, true, true, false, true, false, false, false, false, false, false, false, false, false, false] rfl rfl (any_of HT_.out (by kernel_rfl)) (fun _ _ _ h => h) (Or.inl ⟨by rfl, ?_⟩) ?_ ?_
              rotate_left
              ·intro w'
               go_simp
               with_reducible rfl
              rotate_left
              ·simp only [Act.put, sB, sC, sD, i64_w, i32_w]
               rfl
              refine take_ (i := 4) (N := some 86) (v := ?_) (a' := ?_) #[true, true, true, true, true, true, false, false, true, true, true, true, false, true, false, false, false, false, false, false, false, false, false, false] rfl rfl (take_ofW HT_.out HW_.out (by kernel_rfl)) (fun _ _ _ h => h) (Or.inl ⟨by rfl, ?_⟩) a2 ?_ ?_
              rotate_left
              ·rintro w' ⟨s0, s1, s2, s3, s4, s5⟩
               go_simp
               with_reducible rfl
              rotate_left
              ·simp only [Act.put, sB, sC, sD, i64_w, i32_w]
               rfl
              refine take_ (i := 6) (N := some 88) (v := ?_) (a' := ?_) #[true, true, true, true, true, true, true, false, true, true, true, true, false, true, false, false, false, false, false, false, false, false, false, false] rfl rfl (take_ofW HT_.out HW_.out (by kernel_rfl)) (fun _ _ _ h => h) (Or.inl ⟨by rfl, ?_⟩) a2 ?_ ?_
              rotate_left
              ·rintro w' ⟨s0, s1, s2, s3, s4, s5⟩
               go_simp
               with_reducible rfl
              rotate_left
              ·simp only [Act.put, sB, sC, sD, i64_w, i32_w]
               rfl
              refine take_ (i := 12) (N := some 94) (v := ?_) (a' := ?_) #[true, true, true, true, true, true, true, false, true, true, true, true, true, true, false, false, false, false, false, false, false, false, false, false] rfl rfl (take_ofW HT_.out HW_.out (by kernel_rfl)) (fun _ _ _ h => h) (Or.inl ⟨by rfl, ?_⟩) a2 ?_ ?_
              rotate_left
              ·rintro w' ⟨s0, s1, s2, s3, s4, s5⟩
               go_simp
               with_reducible rfl
              rotate_left
              ·simp only [Act.put, sB, sC, sD, i64_w, i32_w]
               rfl
              refine take_ (i := 14) (N := some 96) (v := ?_) (a' := ?_) #[true, true, true, true, true, true, true, false, true, true, true, true, true, true, true, false, false, false, false, false, false, false, false, false] rfl rfl (take_ofW HT_.out HW_.out (by kernel_rfl)) (fun _ _ _ h => h) (Or.inl ⟨by rfl, ?_⟩) a2 ?_ ?_
              rotate_left
              ·rintro w' ⟨s0, s1, s2, s3, s4, s5⟩
               go_simp
               with_reducible rfl
              rotate_left
              ·simp only [Act.put, sB, sC, sD, i64_w, i32_w]
               rfl
              refine join_ (σ := Nat × Nat × Nat) 2 #[true, true, true, true, true, true, true, true, true, true, true, true, true, true, true, true, true, true, true, true, true, true, false, false] (fun s_ => [(89, .float .f64 s_.2.1), (97, .float .f64 s_.2.2), (98, .agg #[.float .f64 s_.2.1, .float .f64 s_.2.2]), (99, .tuple #[.agg #[.float .f64 b9, .float .f64 c7], .bool false]), (10, .pointer (some ⟨s_.1, 0, none⟩)), (81, .tuple #[.agg #[.float .f64 b9, .float .f64 c7], .bool false]), (100, .agg #[.float .f64 b9, .float .f64 c7]), (101, .bool false)]) (fun s_ w' => (w'.cell? ⟨a9, 0, none⟩ = some (.float .f64 x143000_2) ∧ w'.cell? ⟨a9, 1, none⟩ = some (.float .f64 x143001_2) ∧ w'.cell? (ad139.add ((x14_1).toNat * 2)) = some (.float .f64 ((rd_T42 x1_1 x14_1).f0)) ∧ w'.cell? ⟨(ad139.add ((x14_1).toNat * 2)).block, (ad139.add ((x14_1).toNat * 2)).off + 1, none⟩ = some (.float .f64 ((rd_T42 x1_1 x14_1).f1)) ∧ w'.cell? (ad139.add ((x14_1).toNat * 2)) = some (.float .f64 ((rd_T42 x1_1 x14_1).f0)) ∧ w'.cell? ⟨(ad139.add ((x14_1).toNat * 2)).block, (ad139.add ((x14_1).toNat * 2)).off + 1, none⟩ = some (.float .f64 ((rd_T42 x1_1 x14_1).f1))) ∧ (Kd.R k42 42 w' w0.heap.size (fun k_ => (P1_ k_ ∨ w.heap.size ≤ k_) ∧ k_ ≠ a9 ∧ k_ ≠ s_.1) (.slice (some ad139) x1_1.length d8) x1_1) ∧ (w'.heap[a9]? = some (.cells #[.float .f64 x143000_2, .float .f64 x143001_2] 42 (0, 0))) ∧ (w'.heap[s_.1]? = some (.cells #[.float .f64 (0 : Nat), .float .f64 (0 : Nat)] 42 (0, 0))) ∧ (w.heap.size ≤ s_.1) ∧ (w0.heap.size ≤ s_.1) ∧ (a9 ≠ s_.1) ∧ (s_.1 ≠ a9) ∧ (Kept w w' (fun k_ => P1_ k_)) ∧ (Below w0.heap.size w0 w')) ?_ ?_
              rotate_left
              ·intro hCont
               refine join_ (σ := Nat × Nat) 8 #[true, true, true, true, true, true, true, true, true, true, true, true, true, true, true, true, false, false, false, false, false, false, false, false] (fun s_ => [(89, .float .f64 s_.1), (97, .float .f64 s_.2)]) (fun s_ w' => Vt .sub ((rd_T42 x1_1 x14_1).f0) x143000_2 s_.1 ∧ Vt .sub ((rd_T42 x1_1 x14_1).f1) x143001_2 s_.2 ∧ (∃ n1 n2, w' = World.drewN (World.drewN d5 n1) n2) ∧ (w'.cell? ⟨a9, 0, none⟩ = some (.float .f64 x143000_2) ∧ w'.cell? ⟨a9, 1, none⟩ = some (.float .f64 x143001_2) ∧ w'.cell? (ad139.add ((x14_1).toNat * 2)) = some (.float .f64 ((rd_T42 x1_1 x14_1).f0)) ∧ w'.cell? ⟨(ad139.add ((x14_1).toNat * 2)).block, (ad139.add ((x14_1).toNat * 2)).off + 1, none⟩ = some (.float .f64 ((rd_T42 x1_1 x14_1).f1)) ∧ w'.cell? (ad139.add ((x14_1).toNat * 2)) = some (.float .f64 ((rd_T42 x1_1 x14_1).f0)) ∧ w'.cell? ⟨(ad139.add ((x14_1).toNat * 2)).block, (ad139.add ((x14_1).toNat * 2)).off + 1, none⟩ = some (.float .f64 ((rd_T42 x1_1 x14_1).f1)))) ?_ ?_
               rotate_left
               ·intro hA
                refine join_ (σ := Nat × Nat × Nat) 7 #[true, true, true, true, true, true, true, true, true, true, true, true, true, true, true, true, false, false, false, false, false, true, false, false] (fun s_ => [(89, .float .f64 s_.2.1), (97, .float .f64 s_.2.2), (10, .pointer (some ⟨s_.1, 0, none⟩))]) (fun s_ w' => Vt .sub ((rd_T42 x1_1 x14_1).f0) x143000_2 s_.2.1 ∧ Vt .sub ((rd_T42 x1_1 x14_1).f1) x143001_2 s_.2.2 ∧ (w'.cell? ⟨a9, 0, none⟩ = some (.float .f64 x143000_2) ∧ w'.cell? ⟨a9, 1, none⟩ = some (.float .f64 x143001_2) ∧ w'.cell? (ad139.add ((x14_1).toNat * 2)) = some (.float .f64 ((rd_T42 x1_1 x14_1).f0)) ∧ w'.cell? ⟨(ad139.add ((x14_1).toNat * 2)).block, (ad139.add ((x14_1).toNat * 2)).off + 1, none⟩ = some (.float .f64 ((rd_T42 x1_1 x14_1).f1)) ∧ w'.cell? (ad139.add ((x14_1).toNat * 2)) = some (.float .f64 ((rd_T42 x1_1 x14_1).f0)) ∧ w'.cell? ⟨(ad139.add ((x14_1).toNat * 2)).block, (ad139.add ((x14_1).toNat * 2)).off + 1, none⟩ = some (.float .f64 ((rd_T42 x1_1 x14_1).f1))) ∧ (Kd.R k42 42 w' w0.heap.size (fun k_ => (P1_ k_ ∨ w.heap.size ≤ k_) ∧ k_ ≠ a9 ∧ k_ ≠ s_.1) (.slice (some ad139) x1_1.length d8) x1_1) ∧ (w'.heap[a9]? = some (.cells #[.float .f64 x143000_2, .float .f64 x143001_2] 42 (0, 0))) ∧ (w'.heap[s_.1]? = some (.cells #[.float .f64 (0 : Nat), .float .f64 (0 : Nat)] 42 (0, 0))) ∧ (w.heap.size ≤ s_.1) ∧ (w0.heap.size ≤ s_.1) ∧ (a9 ≠ s_.1) ∧ (s_.1 ≠ a9) ∧ (Kept w w' (fun k_ => P1_ k_)) ∧ (Below w0.heap.size w0 w')) ?_ ?_
                rotate_left
                ·intro hB
                 refine three_ (i := 7) (j := 15) (k := 21) (Ni := some 89) (Nj := some 97) (Nk := some 10) #[true, true, true, true, true, true, true, true, true, true, true, true, true, true, true, false, false, false, false, false, false, false, false, false] #[true, true, true, true, true, true, true, false, true, true, true, true, true, true, true, true, false, false, false, false, false, false, false, false] #[true, true, true, true, true, true, true, false, true, true, true, true, true, true, true, false, false, false, false, false, false, true, false, false] rfl rfl rfl rfl rfl rfl (three_of HT_.out (by kernel_rfl)) (by decide) (by decide) (by decide) (fun K hK => ?_) (fun K hK => ?_) (fun K hK => ?_)
                 ·skip
                  refine event_step (w1 := World.drewN d5 (fln .sub ((rd_T42 x1_1 x14_1).f0) x143000_2)) (v := .float .f64 (flw .sub ((rd_T42 x1_1 x14_1).f0) x143000_2 d5)) (by rfl) (by have ht_ := @go_tsub; first | (go_simp; done) | (go_simp; rfl)) ?_
                  have V1 := Flo.vt_sub ((rd_T42 x1_1 x14_1).f0) x143000_2 d5
                  generalize flw .sub ((rd_T42 x1_1 x14_1).f0) x143000_2 d5 = v1 at V1 ⊢
                  refine hK.out _ _ a2 (fun a2 => ?_)
                  clear hK K
                  refine norm_ (a' := ?_) ?_ ?_
                  rotate_left
                  ·show Act.put _ (some 89) _ = _
                   simp only [Act.put, sB, sC, sD, i64_w, i32_w]
                   rfl
                  refine two_ (i := 15) (j := 21) (Ni := some 97) (Nj := some 10) #[true, true, true, true, true, true, true, true, true, true, true, true, true, true, true, true, false, false, false, false, false, false, false, false] #[true, true, true, true, true, true, true, true, true, true, true, true, true, true, true, false, false, false, false, false, false, true, false, false] rfl rfl rfl rfl (two_of HT_.out (by kernel_rfl)) (by decide) (by decide) (fun K hK => ?_) (fun K hK => ?_)
                  ·skip
                   refine event_step (w1 := World.drewN (World.drewN d5 (fln .sub ((rd_T42 x1_1 x14_1).f0) x143000_2)) (fln .sub ((rd_T42 x1_1 x14_1).f1) x143001_2)) (v := .float .f64 (flw .sub ((rd_T42 x1_1 x14_1).f1) x143001_2 (World.drewN d5 (fln .sub ((rd_T42 x1_1 x14_1).f0) x143000_2)))) (by rfl) (by have ht_ := @go_tsub; first | (go_simp; done) | (go_simp; rfl)) ?_
                   have V2 := Flo.vt_sub ((rd_T42 x1_1 x14_1).f1) x143001_2 (World.drewN d5 (fln .sub ((rd_T42 x1_1 x14_1).f0) x143000_2))
                   generalize flw .sub ((rd_T42 x1_1 x14_1).f1) x143001_2 (World.drewN d5 (fln .sub ((rd_T42 x1_1 x14_1).f0) x143000_2)) = v2 at V2 ⊢
                   refine hK.out _ _ a2 (fun a2 => ?_)
                   clear hK K
                   refine norm_ (a' := ?_) ?_ ?_
                   rotate_left
                   ·show Act.put _ (some 97) _ = _
                    simp only [Act.put, sB, sC, sD, i64_w, i32_w]
                    rfl
                   exact norm_ (by simp only [putAll, Act.put, sB, sC, sD]) (hA (v1, v2) _ ⟨V1, V2, ⟨_, _, rfl⟩, a2⟩)
                  ·skip
                   refine box_step ?hg (N := 10) ?hd (cs := #[.float .f64 (0 : Nat), .float .f64 (0 : Nat)]) (t := 42) ?hr ?_; (case hd => rfl); (case hg => rfl); (case hr => first | (go_simp; done) | (go_simp; rfl))
                   intro a5 hg d0 hbox hb
                   have HS2_ := (hb.cell (World.block_lt_of_cell? _ _ (a2.2.2.1))).trans (a2.2.2.1)
                   have HS3_ := (hb.cell (World.block_lt_of_cell? _ _ (a2.2.2.2.1))).trans (a2.2.2.2.1)
                   have HS4_ := (hb.cell (World.block_lt_of_cell? _ _ (a2.2.2.2.2.1))).trans (a2.2.2.2.2.1)
                   have HS5_ := (hb.cell (World.block_lt_of_cell? _ _ (a2.2.2.2.2.2))).trans (a2.2.2.2.2.2)
                   replace a3 := a_ (Kd.R_below (Kd.R_elderB (rk a3.out) a5 (Nat.le_of_eq hg.symm)) hb)
                   have b3 := a_ (hbox)
                   have b4 := a_ (by rw [hg]; exact (by first | exact HK.out.1 | exact (show Kept w _ (fun k_ => P1_ k_) from by repeat (first | (with_reducible first | exact HK.out | apply Kept.alloc | apply Kept.drewN | apply Kept.drew | refine Kept.setCell ?_ (.inr b2.out) _) | exact HK.out)).1) : w.heap.size ≤ a5)
                   replace HK := a_ (Kept.below (S := (fun k_ => P1_ k_)) (by repeat (first | (with_reducible first | exact HK.out | apply Kept.alloc | apply Kept.drewN | apply Kept.drew | refine Kept.setCell ?_ (.inr b2.out) _) | exact HK.out)) hb)
                   have b8 := a_ (by rw [hg]; exact (bs HB.out) : w0.heap.size ≤ a5)
                   replace HB := a_ (below_step (by repeat (with_reducible first | exact HB.out | refine bz ?_ (by assumption) | apply bA | apply bN | apply bD)) hb)
                   have a7 := a_ (nel hg a4.out)
                   have a8 := a_ (nle hg a4.out)
                   replace a4 := a_ (blk_below (pk a4.out) hb)
                   clear hb hbox hg
                   refine hK.out _ _ ⟨(blk_cell a4.out 0).trans rfl, (blk_cell a4.out 1).trans rfl, HS2_, HS3_, HS4_, HS5_⟩ (fun a2 => ?_)
                   clear hK K
                   refine norm_ (a' := ?_) ?_ ?_
                   rotate_left
                   ·show Act.put _ (some 10) _ = _
                    simp only [Act.put, sB, sC, sD, i64_w, i32_w]
                    rfl
                   refine one_ (i := 15) (N := some 97) #[true, true, true, true, true, true, true, true, true, true, true, true, true, true, true, true, false, false, false, false, false, true, false, false] rfl rfl (one_of HT_.out (by kernel_rfl)) (by decide) (fun K hK => ?_)
                   refine event_step (w1 := World.drewN d0 (fln .sub ((rd_T42 x1_1 x14_1).f1) x143001_2)) (v := .float .f64 (flw .sub ((rd_T42 x1_1 x14_1).f1) x143001_2 d0)) (by rfl) (by have ht_ := @go_tsub; first | (go_simp; done) | (go_simp; rfl)) ?_
                   have V2 := Flo.vt_sub ((rd_T42 x1_1 x14_1).f1) x143001_2 d0
                   generalize flw .sub ((rd_T42 x1_1 x14_1).f1) x143001_2 d0 = v2 at V2 ⊢
                   refine hK.out _ _ a2 (fun a2 => ?_)
                   clear hK K
                   refine norm_ (a' := ?_) ?_ ?_
                   rotate_left
                   ·show Act.put _ (some 97) _ = _
                    simp only [Act.put, sB, sC, sD, i64_w, i32_w]
                    rfl
                   exact norm_ (by simp only [putAll, Act.put, sB, sC, sD]) (hB (a5, v1, v2) _ ⟨V1, V2, a2, (rk (Kd.R_mono a3.out (fun _ hk => ⟨hk.1.1, hk.1.2, hk.2⟩))), (pk a4.out), (pk b3.out), b4.out, b8.out, a7.out, a8.out, (by repeat (first | (with_reducible first | exact HK.out | apply Kept.alloc | apply Kept.drewN | apply Kept.drew | refine Kept.setCell ?_ (.inr b2.out) _ | refine Kept.setCell ?_ (.inr b4.out) _) | exact HK.out)), (by repeat (with_reducible first | exact HB.out | refine bz ?_ (by assumption) | apply bA | apply bN | apply bD))⟩)
                 ·skip
                  refine event_step (w1 := World.drewN d5 (fln .sub ((rd_T42 x1_1 x14_1).f1) x143001_2)) (v := .float .f64 (flw .sub ((rd_T42 x1_1 x14_1).f1) x143001_2 d5)) (by rfl) (by have ht_ := @go_tsub; first | (go_simp; done) | (go_simp; rfl)) ?_
                  have V2 := Flo.vt_sub ((rd_T42 x1_1 x14_1).f1) x143001_2 d5
                  generalize flw .sub ((rd_T42 x1_1 x14_1).f1) x143001_2 d5 = v2 at V2 ⊢
                  refine hK.out _ _ a2 (fun a2 => ?_)
                  clear hK K
                  refine norm_ (a' := ?_) ?_ ?_
                  rotate_left
                  ·show Act.put _ (some 97) _ = _
                   simp only [Act.put, sB, sC, sD, i64_w, i32_w]
                   rfl
                  refine two_ (i := 7) (j := 21) (Ni := some 89) (Nj := some 10) #[true, true, true, true, true, true, true, true, true, true, true, true, true, true, true, true, false, false, false, false, false, false, false, false] #[true, true, true, true, true, true, true, false, true, true, true, true, true, true, true, true, false, false, false, false, false, true, false, false] rfl rfl rfl rfl (two_of HT_.out (by kernel_rfl)) (by decide) (by decide) (fun K hK => ?_) (fun K hK => ?_)
                  ·skip
                   refine event_step (w1 := World.drewN (World.drewN d5 (fln .sub ((rd_T42 x1_1 x14_1).f1) x143001_2)) (fln .sub ((rd_T42 x1_1 x14_1).f0) x143000_2)) (v := .float .f64 (flw .sub ((rd_T42 x1_1 x14_1).f0) x143000_2 (World.drewN d5 (fln .sub ((rd_T42 x1_1 x14_1).f1) x143001_2)))) (by rfl) (by have ht_ := @go_tsub; first | (go_simp; done) | (go_simp; rfl)) ?_
                   have V1 := Flo.vt_sub ((rd_T42 x1_1 x14_1).f0) x143000_2 (World.drewN d5 (fln .sub ((rd_T42 x1_1 x14_1).f1) x143001_2))
                   generalize flw .sub ((rd_T42 x1_1 x14_1).f0) x143000_2 (World.drewN d5 (fln .sub ((rd_T42 x1_1 x14_1).f1) x143001_2)) = v1 at V1 ⊢
                   refine hK.out _ _ a2 (fun a2 => ?_)
                   clear hK K
                   refine norm_ (a' := ?_) ?_ ?_
                   rotate_left
                   ·show Act.put _ (some 89) _ = _
                    simp only [Act.put, sB, sC, sD, i64_w, i32_w]
                    rfl
                   exact norm_ (by simp only [putAll, Act.put, sB, sC, sD]) (hA (v1, v2) _ ⟨V1, V2, ⟨_, _, rfl⟩, a2⟩)
                  ·skip
                   refine box_step ?hg (N := 10) ?hd (cs := #[.float .f64 (0 : Nat), .float .f64 (0 : Nat)]) (t := 42) ?hr ?_; (case hd => rfl); (case hg => rfl); (case hr => first | (go_simp; done) | (go_simp; rfl))
                   intro a5 hg d0 hbox hb
                   have HS2_ := (hb.cell (World.block_lt_of_cell? _ _ (a2.2.2.1))).trans (a2.2.2.1)
                   have HS3_ := (hb.cell (World.block_lt_of_cell? _ _ (a2.2.2.2.1))).trans (a2.2.2.2.1)
                   have HS4_ := (hb.cell (World.block_lt_of_cell? _ _ (a2.2.2.2.2.1))).trans (a2.2.2.2.2.1)
                   have HS5_ := (hb.cell (World.block_lt_of_cell? _ _ (a2.2.2.2.2.2))).trans (a2.2.2.2.2.2)
                   replace a3 := a_ (Kd.R_below (Kd.R_elderB (rk a3.out) a5 (Nat.le_of_eq hg.symm)) hb)
                   have b3 := a_ (hbox)
                   have b4 := a_ (by rw [hg]; exact (by first | exact HK.out.1 | exact (show Kept w _ (fun k_ => P1_ k_) from by repeat (first | (with_reducible first | exact HK.out | apply Kept.alloc | apply Kept.drewN | apply Kept.drew | refine Kept.setCell ?_ (.inr b2.out) _) | exact HK.out)).1) : w.heap.size ≤ a5)
                   replace HK := a_ (Kept.below (S := (fun k_ => P1_ k_)) (by repeat (first | (with_reducible first | exact HK.out | apply Kept.alloc | apply Kept.drewN | apply Kept.drew | refine Kept.setCell ?_ (.inr b2.out) _) | exact HK.out)) hb)
                   have b8 := a_ (by rw [hg]; exact (bs HB.out) : w0.heap.size ≤ a5)
                   replace HB := a_ (below_step (by repeat (with_reducible first | exact HB.out | refine bz ?_ (by assumption) | apply bA | apply bN | apply bD)) hb)
                   have a7 := a_ (nel hg a4.out)
                   have a8 := a_ (nle hg a4.out)
                   replace a4 := a_ (blk_below (pk a4.out) hb)
                   clear hb hbox hg
                   refine hK.out _ _ ⟨(blk_cell a4.out 0).trans rfl, (blk_cell a4.out 1).trans rfl, HS2_, HS3_, HS4_, HS5_⟩ (fun a2 => ?_)
                   clear hK K
                   refine norm_ (a' := ?_) ?_ ?_
                   rotate_left
                   ·show Act.put _ (some 10) _ = _
                    simp only [Act.put, sB, sC, sD, i64_w, i32_w]
                    rfl
                   refine one_ (i := 7) (N := some 89) #[true, true, true, true, true, true, true, true, true, true, true, true, true, true, true, true, false, false, false, false, false, true, false, false] rfl rfl (one_of HT_.out (by kernel_rfl)) (by decide) (fun K hK => ?_)
                   refine event_step (w1 := World.drewN d0 (fln .sub ((rd_T42 x1_1 x14_1).f0) x143000_2)) (v := .float .f64 (flw .sub ((rd_T42 x1_1 x14_1).f0) x143000_2 d0)) (by rfl) (by have ht_ := @go_tsub; first | (go_simp; done) | (go_simp; rfl)) ?_
                   have V1 := Flo.vt_sub ((rd_T42 x1_1 x14_1).f0) x143000_2 d0
                   generalize flw .sub ((rd_T42 x1_1 x14_1).f0) x143000_2 d0 = v1 at V1 ⊢
                   refine hK.out _ _ a2 (fun a2 => ?_)
                   clear hK K
                   refine norm_ (a' := ?_) ?_ ?_
                   rotate_left
                   ·show Act.put _ (some 89) _ = _
                    simp only [Act.put, sB, sC, sD, i64_w, i32_w]
                    rfl
                   exact norm_ (by simp only [putAll, Act.put, sB, sC, sD]) (hB (a5, v1, v2) _ ⟨V1, V2, a2, (rk (Kd.R_mono a3.out (fun _ hk => ⟨hk.1.1, hk.1.2, hk.2⟩))), (pk a4.out), (pk b3.out), b4.out, b8.out, a7.out, a8.out, (by repeat (first | (with_reducible first | exact HK.out | apply Kept.alloc | apply Kept.drewN | apply Kept.drew | refine Kept.setCell ?_ (.inr b2.out) _ | refine Kept.setCell ?_ (.inr b4.out) _) | exact HK.out)), (by repeat (with_reducible first | exact HB.out | refine bz ?_ (by assumption) | apply bA | apply bN | apply bD))⟩)
                 ·skip
                  refine box_step ?hg (N := 10) ?hd (cs := #[.float .f64 (0 : Nat), .float .f64 (0 : Nat)]) (t := 42) ?hr ?_; (case hd => rfl); (case hg => rfl); (case hr => first | (go_simp; done) | (go_simp; rfl))
                  intro a5 hg d0 hbox hb
                  have HS2_ := (hb.cell (World.block_lt_of_cell? _ _ (a2.2.2.1))).trans (a2.2.2.1)
                  have HS3_ := (hb.cell (World.block_lt_of_cell? _ _ (a2.2.2.2.1))).trans (a2.2.2.2.1)
                  have HS4_ := (hb.cell (World.block_lt_of_cell? _ _ (a2.2.2.2.2.1))).trans (a2.2.2.2.2.1)
                  have HS5_ := (hb.cell (World.block_lt_of_cell? _ _ (a2.2.2.2.2.2))).trans (a2.2.2.2.2.2)
                  replace a3 := a_ (Kd.R_below (Kd.R_elderB (rk a3.out) a5 (Nat.le_of_eq hg.symm)) hb)
                  have b3 := a_ (hbox)
                  have b4 := a_ (by rw [hg]; exact (by first | exact HK.out.1 | exact (show Kept w _ (fun k_ => P1_ k_) from by repeat (first | (with_reducible first | exact HK.out | apply Kept.alloc | apply Kept.drewN | apply Kept.drew | refine Kept.setCell ?_ (.inr b2.out) _) | exact HK.out)).1) : w.heap.size ≤ a5)
                  replace HK := a_ (Kept.below (S := (fun k_ => P1_ k_)) (by repeat (first | (with_reducible first | exact HK.out | apply Kept.alloc | apply Kept.drewN | apply Kept.drew | refine Kept.setCell ?_ (.inr b2.out) _) | exact HK.out)) hb)
                  have b8 := a_ (by rw [hg]; exact (bs HB.out) : w0.heap.size ≤ a5)
                  replace HB := a_ (below_step (by repeat (with_reducible first | exact HB.out | refine bz ?_ (by assumption) | apply bA | apply bN | apply bD)) hb)
                  have a7 := a_ (nel hg a4.out)
                  have a8 := a_ (nle hg a4.out)
                  replace a4 := a_ (blk_below (pk a4.out) hb)
                  clear hb hbox hg
                  refine hK.out _ _ ⟨(blk_cell a4.out 0).trans rfl, (blk_cell a4.out 1).trans rfl, HS2_, HS3_, HS4_, HS5_⟩ (fun a2 => ?_)
                  clear hK K
                  refine norm_ (a' := ?_) ?_ ?_
                  rotate_left
                  ·show Act.put _ (some 10) _ = _
                   simp only [Act.put, sB, sC, sD, i64_w, i32_w]
                   rfl
                  refine two_ (i := 7) (j := 15) (Ni := some 89) (Nj := some 97) #[true, true, true, true, true, true, true, true, true, true, true, true, true, true, true, false, false, false, false, false, false, true, false, false] #[true, true, true, true, true, true, true, false, true, true, true, true, true, true, true, true, false, false, false, false, false, true, false, false] rfl rfl rfl rfl (two_of HT_.out (by kernel_rfl)) (by decide) (by decide) (fun K hK => ?_) (fun K hK => ?_)
                  ·skip
                   refine event_step (w1 := World.drewN d0 (fln .sub ((rd_T42 x1_1 x14_1).f0) x143000_2)) (v := .float .f64 (flw .sub ((rd_T42 x1_1 x14_1).f0) x143000_2 d0)) (by rfl) (by have ht_ := @go_tsub; first | (go_simp; done) | (go_simp; rfl)) ?_
                   have V1 := Flo.vt_sub ((rd_T42 x1_1 x14_1).f0) x143000_2 d0
                   generalize flw .sub ((rd_T42 x1_1 x14_1).f0) x143000_2 d0 = v1 at V1 ⊢
                   refine hK.out _ _ a2 (fun a2 => ?_)
                   clear hK K
                   refine norm_ (a' := ?_) ?_ ?_
                   rotate_left
                   ·show Act.put _ (some 89) _ = _
                    simp only [Act.put, sB, sC, sD, i64_w, i32_w]
                    rfl
                   refine one_ (i := 15) (N := some 97) #[true, true, true, true, true, true, true, true, true, true, true, true, true, true, true, true, false, false, false, false, false, true, false, false] rfl rfl (one_of HT_.out (by kernel_rfl)) (by decide) (fun K hK => ?_)
                   refine event_step (w1 := World.drewN (World.drewN d0 (fln .sub ((rd_T42 x1_1 x14_1).f0) x143000_2)) (fln .sub ((rd_T42 x1_1 x14_1).f1) x143001_2)) (v := .float .f64 (flw .sub ((rd_T42 x1_1 x14_1).f1) x143001_2 (World.drewN d0 (fln .sub ((rd_T42 x1_1 x14_1).f0) x143000_2)))) (by rfl) (by have ht_ := @go_tsub; first | (go_simp; done) | (go_simp; rfl)) ?_
                   have V2 := Flo.vt_sub ((rd_T42 x1_1 x14_1).f1) x143001_2 (World.drewN d0 (fln .sub ((rd_T42 x1_1 x14_1).f0) x143000_2))
                   generalize flw .sub ((rd_T42 x1_1 x14_1).f1) x143001_2 (World.drewN d0 (fln .sub ((rd_T42 x1_1 x14_1).f0) x143000_2)) = v2 at V2 ⊢
                   refine hK.out _ _ a2 (fun a2 => ?_)
                   clear hK K
                   refine norm_ (a' := ?_) ?_ ?_
                   rotate_left
                   ·show Act.put _ (some 97) _ = _
                    simp only [Act.put, sB, sC, sD, i64_w, i32_w]
                    rfl
                   exact norm_ (by simp only [putAll, Act.put, sB, sC, sD]) (hB (a5, v1, v2) _ ⟨V1, V2, a2, (rk (Kd.R_mono a3.out (fun _ hk => ⟨hk.1.1, hk.1.2, hk.2⟩))), (pk a4.out), (pk b3.out), b4.out, b8.out, a7.out, a8.out, (by repeat (first | (with_reducible first | exact HK.out | apply Kept.alloc | apply Kept.drewN | apply Kept.drew | refine Kept.setCell ?_ (.inr b2.out) _ | refine Kept.setCell ?_ (.inr b4.out) _) | exact HK.out)), (by repeat (with_reducible first | exact HB.out | refine bz ?_ (by assumption) | apply bA | apply bN | apply bD))⟩)
                  ·skip
                   refine event_step (w1 := World.drewN d0 (fln .sub ((rd_T42 x1_1 x14_1).f1) x143001_2)) (v := .float .f64 (flw .sub ((rd_T42 x1_1 x14_1).f1) x143001_2 d0)) (by rfl) (by have ht_ := @go_tsub; first | (go_simp; done) | (go_simp; rfl)) ?_
                   have V2 := Flo.vt_sub ((rd_T42 x1_1 x14_1).f1) x143001_2 d0
                   generalize flw .sub ((rd_T42 x1_1 x14_1).f1) x143001_2 d0 = v2 at V2 ⊢
                   refine hK.out _ _ a2 (fun a2 => ?_)
                   clear hK K
                   refine norm_ (a' := ?_) ?_ ?_
                   rotate_left
                   ·show Act.put _ (some 97) _ = _
                    simp only [Act.put, sB, sC, sD, i64_w, i32_w]
                    rfl
                   refine one_ (i := 7) (N := some 89) #[true, true, true, true, true, true, true, true, true, true, true, true, true, true, true, true, false, false, false, false, false, true, false, false] rfl rfl (one_of HT_.out (by kernel_rfl)) (by decide) (fun K hK => ?_)
                   refine event_step (w1 := World.drewN (World.drewN d0 (fln .sub ((rd_T42 x1_1 x14_1).f1) x143001_2)) (fln .sub ((rd_T42 x1_1 x14_1).f0) x143000_2)) (v := .float .f64 (flw .sub ((rd_T42 x1_1 x14_1).f0) x143000_2 (World.drewN d0 (fln .sub ((rd_T42 x1_1 x14_1).f1) x143001_2)))) (by rfl) (by have ht_ := @go_tsub; first | (go_simp; done) | (go_simp; rfl)) ?_
                   have V1 := Flo.vt_sub ((rd_T42 x1_1 x14_1).f0) x143000_2 (World.drewN d0 (fln .sub ((rd_T42 x1_1 x14_1).f1) x143001_2))
                   generalize flw .sub ((rd_T42 x1_1 x14_1).f0) x143000_2 (World.drewN d0 (fln .sub ((rd_T42 x1_1 x14_1).f1) x143001_2)) = v1 at V1 ⊢
                   refine hK.out _ _ a2 (fun a2 => ?_)
                   clear hK K
                   refine norm_ (a' := ?_) ?_ ?_
                   rotate_left
                   ·show Act.put _ (some 89) _ = _
                    simp only [Act.put, sB, sC, sD, i64_w, i32_w]
                    rfl
                   exact norm_ (by simp only [putAll, Act.put, sB, sC, sD]) (hB (a5, v1, v2) _ ⟨V1, V2, a2, (rk (Kd.R_mono a3.out (fun _ hk => ⟨hk.1.1, hk.1.2, hk.2⟩))), (pk a4.out), (pk b3.out), b4.out, b8.out, a7.out, a8.out, (by repeat (first | (with_reducible first | exact HK.out | apply Kept.alloc | apply Kept.drewN | apply Kept.drew | refine Kept.setCell ?_ (.inr b2.out) _ | refine Kept.setCell ?_ (.inr b4.out) _) | exact HK.out)), (by repeat (with_reducible first | exact HB.out | refine bz ?_ (by assumption) | apply bA | apply bN | apply bD))⟩)
                rintro ⟨a5, v1, v2⟩ d0 ⟨V1, V2, hS_, h0_, h1_, h2_, h3_, h4_, h5_, h6_, h7_, h8_⟩
                have n0_ : Aside0 (Kd.R k42 42 d0 w0.heap.size (fun k_ => (P1_ k_ ∨ w.heap.size ≤ k_) ∧ k_ ≠ a9 ∧ k_ ≠ a5) (.slice (some ad139) x1_1.length d8) x1_1) := ⟨h0_⟩
                have n1_ : Aside0 (d0.heap[a9]? = some (.cells #[.float .f64 x143000_2, .float .f64 x143001_2] 42 (0, 0))) := ⟨h1_⟩
                have n2_ : Aside0 (d0.heap[a5]? = some (.cells #[.float .f64 (0 : Nat), .float .f64 (0 : Nat)] 42 (0, 0))) := ⟨h2_⟩
                have n3_ : Aside0 (w.heap.size ≤ a5) := ⟨h3_⟩
                have n4_ : Aside0 (w0.heap.size ≤ a5) := ⟨h4_⟩
                have n5_ : Aside0 (a9 ≠ a5) := ⟨h5_⟩
                have n6_ : Aside0 (a5 ≠ a9) := ⟨h6_⟩
                have n7_ : Aside0 (Kept w d0 (fun k_ => P1_ k_)) := ⟨h7_⟩
                have n8_ : Aside0 (Below w0.heap.size w0 d0) := ⟨h8_⟩
                clear a3
                clear a4
                clear HK
                clear HB
                clear h0_ h1_ h2_ h3_ h4_ h5_ h6_ h7_ h8_
                have a3 := n0_
                have a4 := n1_
                have b3 := n2_
                have b4 := n3_
                have b8 := n4_
                have a7 := n5_
                have a8 := n6_
                have HK := n7_
                have HB := n8_
                clear n0_ n1_ n2_ n3_ n4_ n5_ n6_ n7_ n8_
                have a2 : d0.cell? ⟨a9, 0, none⟩ = some (.float .f64 x143000_2) ∧ d0.cell? ⟨a9, 1, none⟩ = some (.float .f64 x143001_2) ∧ d0.cell? (ad139.add ((x14_1).toNat * 2)) = some (.float .f64 ((rd_T42 x1_1 x14_1).f0)) ∧ d0.cell? ⟨(ad139.add ((x14_1).toNat * 2)).block, (ad139.add ((x14_1).toNat * 2)).off + 1, none⟩ = some (.float .f64 ((rd_T42 x1_1 x14_1).f1)) ∧ d0.cell? (ad139.add ((x14_1).toNat * 2)) = some (.float .f64 ((rd_T42 x1_1 x14_1).f0)) ∧ d0.cell? ⟨(ad139.add ((x14_1).toNat * 2)).block, (ad139.add ((x14_1).toNat * 2)).off + 1, none⟩ = some (.float .f64 ((rd_T42 x1_1 x14_1).f1)) := hS_
                refine norm_ (a' := ?_) ?_ ?_
                rotate_left
                ·simp only [putAll, Act.put, sB, sC, sD]
                 rfl
                refine pure_ (i := 16) (N := some 98) (v := ?_) (a' := ?_) #[true, true, true, true, true, true, true, true, true, true, true, true, true, true, true, true, true, false, false, false, false, true, false, false] rfl rfl (any_of HT_.out (by kernel_rfl)) (fun _ _ _ h => h) (Or.inl ⟨by rfl, ?_⟩) ?_ ?_
                rotate_left
                ·intro w'
                 go_simp
                 with_reducible rfl
                rotate_left
                ·simp only [Act.put, sB, sC, sD, i64_w, i32_w]
                 rfl
                refine one_ (i := 17) (N := some 99) #[true, true, true, true, true, true, true, true, true, true, true, true, true, true, true, true, true, true, false, false, false, true, false, false] rfl rfl (one_of HT_.out (by kernel_rfl)) (by decide) (fun K hK => ?_)
                refine goes_ Try.func36 (by kernel_rfl) rfl #[.agg #[.float .f64 v1, .float .f64 v2]] (by rfl) rfl rfl (by (try simp only [lA, lB, lC]); first | done | rfl | (simp only [lD, lE]; rfl)) ?_
                with_reducible refine (spec_l3Told.calls 1 v1 v2 b9 c7 false _ (R_told (Flo.sp_sub HS.out V1 V2) (Option.some.inj f4.out))).mono ?_
                rintro e o9 ⟨rfl, hb⟩
                have HS2_ := (hb.cell (World.block_lt_of_cell? _ _ (a2.2.2.1))).trans (a2.2.2.1)
                have HS3_ := (hb.cell (World.block_lt_of_cell? _ _ (a2.2.2.2.1))).trans (a2.2.2.2.1)
                have HS4_ := (hb.cell (World.block_lt_of_cell? _ _ (a2.2.2.2.2.1))).trans (a2.2.2.2.2.1)
                have HS5_ := (hb.cell (World.block_lt_of_cell? _ _ (a2.2.2.2.2.2))).trans (a2.2.2.2.2.2)
                refine ⟨_, rfl, ?_⟩
                replace a3 := a_ (Kd.R_below (rk a3.out) hb)
                replace a4 := a_ (blk_below (pk a4.out) hb)
                replace b3 := a_ (blk_below (pk b3.out) hb)
                replace HK := a_ (Kept.below (S := (fun k_ => P1_ k_)) (by repeat (first | (with_reducible first | exact HK.out | apply Kept.alloc | apply Kept.drewN | apply Kept.drew | refine Kept.setCell ?_ (.inr b2.out) _ | refine Kept.setCell ?_ (.inr b4.out) _) | exact HK.out)) hb)
                replace HB := a_ (below_step (by repeat (with_reducible first | exact HB.out | refine bz ?_ (by assumption) | apply bA | apply bN | apply bD)) hb)
                (try clear hb)
                (try clear hb2)
                (try clear hk)
                (try clear hi)
                refine hK.out _ _ ⟨(blk_cell a4.out 0).trans rfl, (blk_cell a4.out 1).trans rfl, HS2_, HS3_, HS4_, HS5_⟩ (fun a2 => ?_)
                clear hK K
                refine norm_ (a' := ?_) ?_ ?_
                rotate_left
                ·show Act.put _ (some 99) _ = _
                 simp only [Act.put, sB, sC, sD, i64_w, i32_w]
                 rfl
                refine pure_ (i := 18) (N := some 81) (v := ?_) (a' := ?_) #[true, true, true, true, true, true, true, true, true, true, true, true, true, true, true, true, true, true, true, false, false, true, false, false] rfl rfl (any_of HT_.out (by kernel_rfl)) (fun _ _ _ h => h) (Or.inl ⟨by rfl, ?_⟩) ?_ ?_
                rotate_left
                ·intro w'
                 go_simp
                 with_reducible rfl
                rotate_left
                ·simp only [Act.put, sB, sC, sD, i64_w, i32_w]
                 rfl
                refine pure_ (i := 19) (N := some 100) (v := ?_) (a' := ?_) #[true, true, true, true, true, true, true, true, true, true, true, true, true, true, true, true, true, true, true, true, false, true, false, false] rfl rfl (any_of HT_.out (by kernel_rfl)) (fun _ _ _ h => h) (Or.inl ⟨by rfl, ?_⟩) ?_ ?_
                rotate_left
                ·intro w'
                 go_simp
                 with_reducible rfl
                rotate_left
                ·simp only [Act.put, sB, sC, sD, i64_w, i32_w]
                 rfl
                refine pure_ (i := 20) (N := some 101) (v := ?_) (a' := ?_) #[true, true, true, true, true, true, true, true, true, true, true, true, true, true, true, true, true, true, true, true, true, true, false, false] rfl rfl (any_of HT_.out (by kernel_rfl)) (fun _ _ _ h => h) (Or.inl ⟨by rfl, ?_⟩) ?_ ?_
                rotate_left
                ·intro w'
                 go_simp
                 with_reducible rfl
                rotate_left
                ·simp only [Act.put, sB, sC, sD, i64_w, i32_w]
                 rfl
                exact norm_ (by simp only [putAll, Act.put, sB, sC, sD]) (hCont (a5, v1, v2) _ ⟨a2, (rk a3.out), (pk a4.out), (pk b3.out), b4.out, b8.out, a7.out, a8.out, (by repeat (first | (with_reducible first | exact HK.out | apply Kept.alloc | apply Kept.drewN | apply Kept.drew | refine Kept.setCell ?_ (.inr b2.out) _ | refine Kept.setCell ?_ (.inr b4.out) _) | exact HK.out)), (by repeat (with_reducible first | exact HB.out | refine bz ?_ (by assumption) | apply bA | apply bN | apply bD))⟩)
               rintro ⟨v1, v2⟩ w' ⟨V1, V2, ⟨n1, n2, rfl⟩, a2⟩
               replace a3 := a_ (Kd.R_drewN (Kd.R_drewN a3.out n1) n2)
               replace a4 := a_ (blk_drewN (blk_drewN a4.out n1) n2)
               replace HK := a_ (Kept.drewN (Kept.drewN HK.out n1) n2)
               replace HB := a_ (pw_below_drewN (pw_below_drewN HB.out n1) n2)
               generalize World.drewN (World.drewN d5 n1) n2 = wd at a3 a4 HK HB a2 ⊢
               refine norm_ (a' := ?_) ?_ ?_
               rotate_left
               ·simp only [putAll, Act.put, sB, sC, sD]
                rfl
               refine pure_ (i := 16) (N := some 98) (v := ?_) (a' := ?_) #[true, true, true, true, true, true, true, true, true, true, true, true, true, true, true, true, true, false, false, false, false, false, false, false] rfl rfl (any_of HT_.out (by kernel_rfl)) (fun _ _ _ h => h) (Or.inl ⟨by rfl, ?_⟩) ?_ ?_
               rotate_left
               ·intro w'
                go_simp
                with_reducible rfl
               rotate_left
               ·simp only [Act.put, sB, sC, sD, i64_w, i32_w]
                rfl
               refine two_ (i := 17) (j := 21) (Ni := some 99) (Nj := some 10) #[true, true, true, true, true, true, true, true, true, true, true, true, true, true, true, true, true, true, false, false, false, false, false, false] #[true, true, true, true, true, true, true, true, true, true, true, true, true, true, true, true, true, false, false, false, false, true, false, false] rfl rfl rfl rfl (two_of HT_.out (by kernel_rfl)) (by decide) (by decide) (fun K hK => ?_) (fun K hK => ?_)
               ·skip
                refine goes_ Try.func36 (by kernel_rfl) rfl #[.agg #[.float .f64 v1, .float .f64 v2]] (by rfl) rfl rfl (by (try simp only [lA, lB, lC]); first | done | rfl | (simp only [lD, lE]; rfl)) ?_
                with_reducible refine (spec_l3Told.calls 1 v1 v2 b9 c7 false _ (R_told (Flo.sp_sub HS.out V1 V2) (Option.some.inj f4.out))).mono ?_
                rintro e d0 ⟨rfl, hb⟩
                have HS2_ := (hb.cell (World.block_lt_of_cell? _ _ (a2.2.2.1))).trans (a2.2.2.1)
                have HS3_ := (hb.cell (World.block_lt_of_cell? _ _ (a2.2.2.2.1))).trans (a2.2.2.2.1)
                have HS4_ := (hb.cell (World.block_lt_of_cell? _ _ (a2.2.2.2.2.1))).trans (a2.2.2.2.2.1)
                have HS5_ := (hb.cell (World.block_lt_of_cell? _ _ (a2.2.2.2.2.2))).trans (a2.2.2.2.2.2)
                refine ⟨_, rfl, ?_⟩
                replace a3 := a_ (Kd.R_below (rk a3.out) hb)
                replace a4 := a_ (blk_below (pk a4.out) hb)
                replace HK := a_ (Kept.below (S := (fun k_ => P1_ k_)) (by repeat (first | (with_reducible first | exact HK.out | apply Kept.alloc | apply Kept.drewN | apply Kept.drew | refine Kept.setCell ?_ (.inr b2.out) _) | exact HK.out)) hb)
                replace HB := a_ (below_step (by repeat (with_reducible first | exact HB.out | refine bz ?_ (by assumption) | apply bA | apply bN | apply bD)) hb)
                (try clear hb)
                (try clear hb2)
                (try clear hk)
                (try clear hi)
                refine hK.out _ _ ⟨(blk_cell a4.out 0).trans rfl, (blk_cell a4.out 1).trans rfl, HS2_, HS3_, HS4_, HS5_⟩ (fun a2 => ?_)
                clear hK K
                refine norm_ (a' := ?_) ?_ ?_
                rotate_left
                ·show Act.put _ (some 99) _ = _
                 simp only [Act.put, sB, sC, sD, i64_w, i32_w]
                 rfl
                refine pure_ (i := 18) (N := some 81) (v := ?_) (a' := ?_) #[true, true, true, true, true, true, true, true, true, true, true, true, true, true, true, true, true, true, true, false, false, false, false, false] rfl rfl (any_of HT_.out (by kernel_rfl)) (fun _ _ _ h => h) (Or.inl ⟨by rfl, ?_⟩) ?_ ?_
                rotate_left
                ·intro w'
                 go_simp
                 with_reducible rfl
                rotate_left
                ·simp only [Act.put, sB, sC, sD, i64_w, i32_w]
                 rfl
                refine pure_ (i := 19) (N := some 100) (v := ?_) (a' := ?_) #[true, true, true, true, true, true, true, true, true, true, true, true, true, true, true, true, true, true, true, true, false, false, false, false] rfl rfl (any_of HT_.out (by kernel_rfl)) (fun _ _ _ h => h) (Or.inl ⟨by rfl, ?_⟩) ?_ ?_
                rotate_left
                ·intro w'
                 go_simp
                 with_reducible rfl
                rotate_left
                ·simp only [Act.put, sB, sC, sD, i64_w, i32_w]
                 rfl
                refine pure_ (i := 20) (N := some 101) (v := ?_) (a' := ?_) #[true, true, true, true, true, true, true, true, true, true, true, true, true, true, true, true, true, true, true, true, true, false, false, false] rfl rfl (any_of HT_.out (by kernel_rfl)) (fun _ _ _ h => h) (Or.inl ⟨by rfl, ?_⟩) ?_ ?_
                rotate_left
                ·intro w'
                 go_simp
                 with_reducible rfl
                rotate_left
                ·simp only [Act.put, sB, sC, sD, i64_w, i32_w]
                 rfl
                refine one_ (i := 21) (N := some 10) #[true, true, true, true, true, true, true, true, true, true, true, true, true, true, true, true, true, true, true, true, true, true, false, false] rfl rfl (one_of HT_.out (by kernel_rfl)) (by decide) (fun K hK => ?_)
                refine box_step ?hg (N := 10) ?hd (cs := #[.float .f64 (0 : Nat), .float .f64 (0 : Nat)]) (t := 42) ?hr ?_; (case hd => rfl); (case hg => rfl); (case hr => first | (go_simp; done) | (go_simp; rfl))
                intro a5 hg o9 hbox hb
                have HS2_ := (hb.cell (World.block_lt_of_cell? _ _ (a2.2.2.1))).trans (a2.2.2.1)
                have HS3_ := (hb.cell (World.block_lt_of_cell? _ _ (a2.2.2.2.1))).trans (a2.2.2.2.1)
                have HS4_ := (hb.cell (World.block_lt_of_cell? _ _ (a2.2.2.2.2.1))).trans (a2.2.2.2.2.1)
                have HS5_ := (hb.cell (World.block_lt_of_cell? _ _ (a2.2.2.2.2.2))).trans (a2.2.2.2.2.2)
                replace a3 := a_ (Kd.R_below (Kd.R_elderB (rk a3.out) a5 (Nat.le_of_eq hg.symm)) hb)
                have b3 := a_ (hbox)
                have b4 := a_ (by rw [hg]; exact (by first | exact HK.out.1 | exact (show Kept w _ (fun k_ => P1_ k_) from by repeat (first | (with_reducible first | exact HK.out | apply Kept.alloc | apply Kept.drewN | apply Kept.drew | refine Kept.setCell ?_ (.inr b2.out) _) | exact HK.out)).1) : w.heap.size ≤ a5)
                replace HK := a_ (Kept.below (S := (fun k_ => P1_ k_)) (by repeat (first | (with_reducible first | exact HK.out | apply Kept.alloc | apply Kept.drewN | apply Kept.drew | refine Kept.setCell ?_ (.inr b2.out) _) | exact HK.out)) hb)
                have b8 := a_ (by rw [hg]; exact (bs HB.out) : w0.heap.size ≤ a5)
                replace HB := a_ (below_step (by repeat (with_reducible first | exact HB.out | refine bz ?_ (by assumption) | apply bA | apply bN | apply bD)) hb)
                have a7 := a_ (nel hg a4.out)
                have a8 := a_ (nle hg a4.out)
                replace a4 := a_ (blk_below (pk a4.out) hb)
                clear hb hbox hg
                refine hK.out _ _ ⟨(blk_cell a4.out 0).trans rfl, (blk_cell a4.out 1).trans rfl, HS2_, HS3_, HS4_, HS5_⟩ (fun a2 => ?_)
                clear hK K
                refine norm_ (a' := ?_) ?_ ?_
                rotate_left
                ·show Act.put _ (some 10) _ = _
                 simp only [Act.put, sB, sC, sD, i64_w, i32_w]
                 rfl
                exact norm_ (by simp only [putAll, Act.put, sB, sC, sD]) (hCont (a5, v1, v2) _ ⟨a2, (rk (Kd.R_mono a3.out (fun _ hk => ⟨hk.1.1, hk.1.2, hk.2⟩))), (pk a4.out), (pk b3.out), b4.out, b8.out, a7.out, a8.out, (by repeat (first | (with_reducible first | exact HK.out | apply Kept.alloc | apply Kept.drewN | apply Kept.drew | refine Kept.setCell ?_ (.inr b2.out) _ | refine Kept.setCell ?_ (.inr b4.out) _) | exact HK.out)), (by repeat (with_reducible first | exact HB.out | refine bz ?_ (by assumption) | apply bA | apply bN | apply bD))⟩)
               ·skip
                refine box_step ?hg (N := 10) ?hd (cs := #[.float .f64 (0 : Nat), .float .f64 (0 : Nat)]) (t := 42) ?hr ?_; (case hd => rfl); (case hg => rfl); (case hr => first | (go_simp; done) | (go_simp; rfl))
                intro a5 hg d0 hbox hb
                have HS2_ := (hb.cell (World.block_lt_of_cell? _ _ (a2.2.2.1))).trans (a2.2.2.1)
                have HS3_ := (hb.cell (World.block_lt_of_cell? _ _ (a2.2.2.2.1))).trans (a2.2.2.2.1)
                have HS4_ := (hb.cell (World.block_lt_of_cell? _ _ (a2.2.2.2.2.1))).trans (a2.2.2.2.2.1)
                have HS5_ := (hb.cell (World.block_lt_of_cell? _ _ (a2.2.2.2.2.2))).trans (a2.2.2.2.2.2)
                replace a3 := a_ (Kd.R_below (Kd.R_elderB (rk a3.out) a5 (Nat.le_of_eq hg.symm)) hb)
                have b3 := a_ (hbox)
                have b4 := a_ (by rw [hg]; exact (by first | exact HK.out.1 | exact (show Kept w _ (fun k_ => P1_ k_) from by repeat (first | (with_reducible first | exact HK.out | apply Kept.alloc | apply Kept.drewN | apply Kept.drew | refine Kept.setCell ?_ (.inr b2.out) _) | exact HK.out)).1) : w.heap.size ≤ a5)
                replace HK := a_ (Kept.below (S := (fun k_ => P1_ k_)) (by repeat (first | (with_reducible first | exact HK.out | apply Kept.alloc | apply Kept.drewN | apply Kept.drew | refine Kept.setCell ?_ (.inr b2.out) _) | exact HK.out)) hb)
                have b8 := a_ (by rw [hg]; exact (bs HB.out) : w0.heap.size ≤ a5)
                replace HB := a_ (below_step (by repeat (with_reducible first | exact HB.out | refine bz ?_ (by assumption) | apply bA | apply bN | apply bD)) hb)
                have a7 := a_ (nel hg a4.out)
                have a8 := a_ (nle hg a4.out)
                replace a4 := a_ (blk_below (pk a4.out) hb)
                clear hb hbox hg
                refine hK.out _ _ ⟨(blk_cell a4.out 0).trans rfl, (blk_cell a4.out 1).trans rfl, HS2_, HS3_, HS4_, HS5_⟩ (fun a2 => ?_)
                clear hK K
                refine norm_ (a' := ?_) ?_ ?_
                rotate_left
                ·show Act.put _ (some 10) _ = _
                 simp only [Act.put, sB, sC, sD, i64_w, i32_w]
                 rfl
                refine one_ (i := 17) (N := some 99) #[true, true, true, true, true, true, true, true, true, true, true, true, true, true, true, true, true, true, false, false, false, true, false, false] rfl rfl (one_of HT_.out (by kernel_rfl)) (by decide) (fun K hK => ?_)
                refine goes_ Try.func36 (by kernel_rfl) rfl #[.agg #[.float .f64 v1, .float .f64 v2]] (by rfl) rfl rfl (by (try simp only [lA, lB, lC]); first | done | rfl | (simp only [lD, lE]; rfl)) ?_
                with_reducible refine (spec_l3Told.calls 1 v1 v2 b9 c7 false _ (R_told (Flo.sp_sub HS.out V1 V2) (Option.some.inj f4.out))).mono ?_
                rintro e o9 ⟨rfl, hb⟩
                have HS2_ := (hb.cell (World.block_lt_of_cell? _ _ (a2.2.2.1))).trans (a2.2.2.1)
                have HS3_ := (hb.cell (World.block_lt_of_cell? _ _ (a2.2.2.2.1))).trans (a2.2.2.2.1)
                have HS4_ := (hb.cell (World.block_lt_of_cell? _ _ (a2.2.2.2.2.1))).trans (a2.2.2.2.2.1)
                have HS5_ := (hb.cell (World.block_lt_of_cell? _ _ (a2.2.2.2.2.2))).trans (a2.2.2.2.2.2)
                refine ⟨_, rfl, ?_⟩
                replace a3 := a_ (Kd.R_below (rk a3.out) hb)
                replace a4 := a_ (blk_below (pk a4.out) hb)
                replace b3 := a_ (blk_below (pk b3.out) hb)
                replace HK := a_ (Kept.below (S := (fun k_ => P1_ k_)) (by repeat (first | (with_reducible first | exact HK.out | apply Kept.alloc | apply Kept.drewN | apply Kept.drew | refine Kept.setCell ?_ (.inr b2.out) _ | refine Kept.setCell ?_ (.inr b4.out) _) | exact HK.out)) hb)
                replace HB := a_ (below_step (by repeat (with_reducible first | exact HB.out | refine bz ?_ (by assumption) | apply bA | apply bN | apply bD)) hb)
                (try clear hb)
                (try clear hb2)
                (try clear hk)
                (try clear hi)
                refine hK.out _ _ ⟨(blk_cell a4.out 0).trans rfl, (blk_cell a4.out 1).trans rfl, HS2_, HS3_, HS4_, HS5_⟩ (fun a2 => ?_)
                clear hK K
                refine norm_ (a' := ?_) ?_ ?_
                rotate_left
                ·show Act.put _ (some 99) _ = _
                 simp only [Act.put, sB, sC, sD, i64_w, i32_w]
                 rfl
                refine pure_ (i := 18) (N := some 81) (v := ?_) (a' := ?_) #[true, true, true, true, true, true, true, true, true, true, true, true, true, true, true, true, true, true, true, false, false, true, false, false] rfl rfl (any_of HT_.out (by kernel_rfl)) (fun _ _ _ h => h) (Or.inl ⟨by rfl, ?_⟩) ?_ ?_
                rotate_left
                ·intro w'
                 go_simp
                 with_reducible rfl
                rotate_left
                ·simp only [Act.put, sB, sC, sD, i64_w, i32_w]
                 rfl
                refine pure_ (i := 19) (N := some 100) (v := ?_) (a' := ?_) #[true, true, true, true, true, true, true, true, true, true, true, true, true, true, true, true, true, true, true, true, false, true, false, false] rfl rfl (any_of HT_.out (by kernel_rfl)) (fun _ _ _ h => h) (Or.inl ⟨by rfl, ?_⟩) ?_ ?_
                rotate_left
                ·intro w'
                 go_simp
                 with_reducible rfl
                rotate_left
                ·simp only [Act.put, sB, sC, sD, i64_w, i32_w]
                 rfl
                refine pure_ (i := 20) (N := some 101) (v := ?_) (a' := ?_) #[true, true, true, true, true, true, true, true, true, true, true, true, true, true, true, true, true, true, true, true, true, true, false, false] rfl rfl (any_of HT_.out (by kernel_rfl)) (fun _ _ _ h => h) (Or.inl ⟨by rfl, ?_⟩) ?_ ?_
                rotate_left
                ·intro w'
                 go_simp
                 with_reducible rfl
                rotate_left
                ·simp only [Act.put, sB, sC, sD, i64_w, i32_w]
                 rfl
                exact norm_ (by simp only [putAll, Act.put, sB, sC, sD]) (hCont (a5, v1, v2) _ ⟨a2, (rk (Kd.R_mono a3.out (fun _ hk => ⟨hk.1.1, hk.1.2, hk.2⟩))), (pk a4.out), (pk b3.out), b4.out, b8.out, a7.out, a8.out, (by repeat (first | (with_reducible first | exact HK.out | apply Kept.alloc | apply Kept.drewN | apply Kept.drew | refine Kept.setCell ?_ (.inr b2.out) _ | refine Kept.setCell ?_ (.inr b4.out) _) | exact HK.out)), (by repeat (with_reducible first | exact HB.out | refine bz ?_ (by assumption) | apply bA | apply bN | apply bD))⟩)
              rintro ⟨a5, v1, v2⟩ d9 ⟨hS_, h0_, h1_, h2_, h3_, h4_, h5_, h6_, h7_, h8_⟩
              have n0_ : Aside0 (Kd.R k42 42 d9 w0.heap.size (fun k_ => (P1_ k_ ∨ w.heap.size ≤ k_) ∧ k_ ≠ a9 ∧ k_ ≠ a5) (.slice (some ad139) x1_1.length d8) x1_1) := ⟨h0_⟩
              have n1_ : Aside0 (d9.heap[a9]? = some (.cells #[.float .f64 x143000_2, .float .f64 x143001_2] 42 (0, 0))) := ⟨h1_⟩
              have n2_ : Aside0 (d9.heap[a5]? = some (.cells #[.float .f64 (0 : Nat), .float .f64 (0 : Nat)] 42 (0, 0))) := ⟨h2_⟩
              have n3_ : Aside0 (w.heap.size ≤ a5) := ⟨h3_⟩
              have n4_ : Aside0 (w0.heap.size ≤ a5) := ⟨h4_⟩
              have n5_ : Aside0 (a9 ≠ a5) := ⟨h5_⟩
              have n6_ : Aside0 (a5 ≠ a9) := ⟨h6_⟩
              have n7_ : Aside0 (Kept w d9 (fun k_ => P1_ k_)) := ⟨h7_⟩
              have n8_ : Aside0 (Below w0.heap.size w0 d9) := ⟨h8_⟩
              clear a3
              clear a4
              clear HK
              clear HB
              clear h0_ h1_ h2_ h3_ h4_ h5_ h6_ h7_ h8_
              have a3 := n0_
              have a4 := n1_
              have b3 := n2_
              have b4 := n3_
              have b8 := n4_
              have a7 := n5_
              have a8 := n6_
              have HK := n7_
              have HB := n8_
              clear n0_ n1_ n2_ n3_ n4_ n5_ n6_ n7_ n8_
              have a2 : d9.cell? ⟨a9, 0, none⟩ = some (.float .f64 x143000_2) ∧ d9.cell? ⟨a9, 1, none⟩ = some (.float .f64 x143001_2) ∧ d9.cell? (ad139.add ((x14_1).toNat * 2)) = some (.float .f64 ((rd_T42 x1_1 x14_1).f0)) ∧ d9.cell? ⟨(ad139.add ((x14_1).toNat * 2)).block, (ad139.add ((x14_1).toNat * 2)).off + 1, none⟩ = some (.float .f64 ((rd_T42 x1_1 x14_1).f1)) ∧ d9.cell? (ad139.add ((x14_1).toNat * 2)) = some (.float .f64 ((rd_T42 x1_1 x14_1).f0)) ∧ d9.cell? ⟨(ad139.add ((x14_1).toNat * 2)).block, (ad139.add ((x14_1).toNat * 2)).off + 1, none⟩ = some (.float .f64 ((rd_T42 x1_1 x14_1).f1)) := hS_
              refine norm_ (a' := ?_) ?_ ?_
              rotate_left
              ·simp only [putAll, Act.put, sB, sC, sD]
               rfl
              refine one_ (i := 22) (N := none) #[true, true, true, true, true, true, true, true, true, true, true, true, true, true, true, true, true, true, true, true, true, true, true, false] rfl rfl (one_of HT_.out (by kernel_rfl)) (by decide) (fun K hK => ?_)
              have hs82 : d9.cell? ⟨a5, 0, none⟩ = some (.float .f64 (0 : Nat)) := (blk_cell b3.out 0).trans rfl
              have hfs82 := blk_frozen b3.out 0
              have hns82_0 := a7.out
              have hms82_0 := a8.out
              have hs83 : d9.cell? ⟨a5, 1, none⟩ = some (.float .f64 (0 : Nat)) := (blk_cell b3.out 1).trans rfl
              have hfs83 := blk_frozen b3.out 1
              have hns83_0 := a7.out
              have hms83_0 := a8.out
              refine skip_ (w1 := ?_) ?_ ?_ ?_ ?_
              rotate_left
              ·rfl
              ·rfl
              ·go_simp
               rfl
              refine hK.out _ _ ⟨((cell_far (p := ⟨a5, _, none⟩) a7.out _).trans (((cell_far (p := ⟨a5, _, none⟩) a7.out _).trans (a2.1)))), ((cell_far (p := ⟨a5, _, none⟩) a7.out _).trans (((cell_far (p := ⟨a5, _, none⟩) a7.out _).trans (a2.2.1)))), ((cell_far (p := ⟨a5, _, none⟩) (by first | exact Kd.own_blk (Kd.R_away a3.out (fun _ hk => hk.2.2)) | (rw [add_block]; exact Kd.own_blk (Kd.R_away a3.out (fun _ hk => hk.2.2))) | (show (Addr.add _ _).block ≠ _; rw [add_block]; exact Kd.own_blk (Kd.R_away a3.out (fun _ hk => hk.2.2))) | (dsimp only; exact Kd.own_blk (Kd.R_away a3.out (fun _ hk => hk.2.2)))) _).trans (((cell_far (p := ⟨a5, _, none⟩) (by first | exact Kd.own_blk (Kd.R_away a3.out (fun _ hk => hk.2.2)) | (rw [add_block]; exact Kd.own_blk (Kd.R_away a3.out (fun _ hk => hk.2.2))) | (show (Addr.add _ _).block ≠ _; rw [add_block]; exact Kd.own_blk (Kd.R_away a3.out (fun _ hk => hk.2.2))) | (dsimp only; exact Kd.own_blk (Kd.R_away a3.out (fun _ hk => hk.2.2)))) _).trans (a2.2.2.1)))), ((cell_far (p := ⟨a5, _, none⟩) (by first | exact Kd.own_blk (Kd.R_away a3.out (fun _ hk => hk.2.2)) | (rw [add_block]; exact Kd.own_blk (Kd.R_away a3.out (fun _ hk => hk.2.2))) | (show (Addr.add _ _).block ≠ _; rw [add_block]; exact Kd.own_blk (Kd.R_away a3.out (fun _ hk => hk.2.2))) | (dsimp only; exact Kd.own_blk (Kd.R_away a3.out (fun _ hk => hk.2.2)))) _).trans (((cell_far (p := ⟨a5, _, none⟩) (by first | exact Kd.own_blk (Kd.R_away a3.out (fun _ hk => hk.2.2)) | (rw [add_block]; exact Kd.own_blk (Kd.R_away a3.out (fun _ hk => hk.2.2))) | (show (Addr.add _ _).block ≠ _; rw [add_block]; exact Kd.own_blk (Kd.R_away a3.out (fun _ hk => hk.2.2))) | (dsimp only; exact Kd.own_blk (Kd.R_away a3.out (fun _ hk => hk.2.2)))) _).trans (a2.2.2.2.1)))), ((cell_far (p := ⟨a5, _, none⟩) (by first | exact Kd.own_blk (Kd.R_away a3.out (fun _ hk => hk.2.2)) | (rw [add_block]; exact Kd.own_blk (Kd.R_away a3.out (fun _ hk => hk.2.2))) | (show (Addr.add _ _).block ≠ _; rw [add_block]; exact Kd.own_blk (Kd.R_away a3.out (fun _ hk => hk.2.2))) | (dsimp only; exact Kd.own_blk (Kd.R_away a3.out (fun _ hk => hk.2.2)))) _).trans (((cell_far (p := ⟨a5, _, none⟩) (by first | exact Kd.own_blk (Kd.R_away a3.out (fun _ hk => hk.2.2)) | (rw [add_block]; exact Kd.own_blk (Kd.R_away a3.out (fun _ hk => hk.2.2))) | (show (Addr.add _ _).block ≠ _; rw [add_block]; exact Kd.own_blk (Kd.R_away a3.out (fun _ hk => hk.2.2))) | (dsimp only; exact Kd.own_blk (Kd.R_away a3.out (fun _ hk => hk.2.2)))) _).trans (a2.2.2.2.2.1)))), ((cell_far (p := ⟨a5, _, none⟩) (by first | exact Kd.own_blk (Kd.R_away a3.out (fun _ hk => hk.2.2)) | (rw [add_block]; exact Kd.own_blk (Kd.R_away a3.out (fun _ hk => hk.2.2))) | (show (Addr.add _ _).block ≠ _; rw [add_block]; exact Kd.own_blk (Kd.R_away a3.out (fun _ hk => hk.2.2))) | (dsimp only; exact Kd.own_blk (Kd.R_away a3.out (fun _ hk => hk.2.2)))) _).trans (((cell_far (p := ⟨a5, _, none⟩) (by first | exact Kd.own_blk (Kd.R_away a3.out (fun _ hk => hk.2.2)) | (rw [add_block]; exact Kd.own_blk (Kd.R_away a3.out (fun _ hk => hk.2.2))) | (show (Addr.add _ _).block ≠ _; rw [add_block]; exact Kd.own_blk (Kd.R_away a3.out (fun _ hk => hk.2.2))) | (dsimp only; exact Kd.own_blk (Kd.R_away a3.out (fun _ hk => hk.2.2)))) _).trans (a2.2.2.2.2.2))))⟩ (fun a2 => ?_)
              clear hK K
              refine pure_ (i := 23) (N := some 11) (v := ?_) (a' := ?_) #[true, true, true, true, true, true, true, true, true, true, true, true, true, true, true, true, true, true, true, true, true, true, true, true] rfl rfl (any_of HT_.out (by kernel_rfl)) (fun _ _ _ h => h) (Or.inl ⟨by rfl, ?_⟩) ?_ ?_
              rotate_left
              ·intro w'
               go_simp
               with_reducible rfl
              rotate_left
              ·simp only [Act.put, sB, sC, sD, i64_w, i32_w]
               rfl
              refine done_ (done_of HT_.out (by kernel_rfl)) ?_
              try go_wp2
              go_ret
              exact ⟨by first | rfl | (simp [errW_none, errW_some] <;> rfl) | (simp [*, errW_none, errW_some] <;> rfl), (by first | exact (rk (Kd.R_mono (Kd.R_far (p := ⟨a5, 1, none⟩) (Kd.R_far (p := ⟨a5, 0, none⟩) (Kd.R_mono a3.out (fun k_ hk => (⟨hk, hk.2.2⟩ : _ ∧ k_ ≠ a5))) (fun _ hk => hk.2) (.float .f64 b9)) (fun _ hk => hk.2) (.float .f64 c7)) (fun _ hk => hk.1.1))) | (simp only [c8]; exact (rk (Kd.R_mono (Kd.R_far (p := ⟨a5, 1, none⟩) (Kd.R_far (p := ⟨a5, 0, none⟩) (Kd.R_mono a3.out (fun k_ hk => (⟨hk, hk.2.2⟩ : _ ∧ k_ ≠ a5))) (fun _ hk => hk.2) (.float .f64 b9)) (fun _ hk => hk.2) (.float .f64 c7)) (fun _ hk => hk.1.1))))), by repeat (first | (with_reducible first | exact HB.out | apply below_alloc | apply pw_below_drewN | apply below_drew1 | refine below_set ?_ d6.out | refine below_set ?_ b8.out) | exact HB.out), by repeat (first | (with_reducible first | exact HK.out | apply Kept.alloc | apply Kept.drewN | apply Kept.drew | refine Kept.setCell ?_ (.inr b2.out) _ | refine Kept.setCell ?_ (.inr b4.out) _) | exact HK.out)⟩
          ·rw [if_neg c61] at H
           exact absurd H (by simp)
         ·rw [if_neg c60] at H
          exact absurd H (by simp)
     ·rw [if_neg c6] at H
      exact absurd H (by simp)
    ·rw [if_neg c5] at H
     exact absurd H (by simp)
   ·rw [if_neg c4] at H
    have e3 : decide (x14_1 < (l1.length : Int)) = false := decide_eq_false c4
    clear c4
    have p6 : decide (x14_1 < (x1_1.length : Int)) = false := by first | (rw [c8]; exact e3) | (rw [← c8]; exact e3)
    simp only [Option.some.injEq, Prod.mk.injEq] at H
    obtain ⟨rfl, rfl⟩ := H
    go_wp2
    go_ret
    exact ⟨by first | rfl | (simp [errW_none, errW_some] <;> rfl) | (simp [*, errW_none, errW_some] <;> rfl), (by first | exact (rk a3.out) | (simp only [c8]; exact (rk a3.out))), un HB.out, by repeat (first | (with_reducible first | exact HK.out | apply Kept.alloc | apply Kept.drewN | apply Kept.drew) | exact HK.out)⟩
end

end Go.Proofs.Ytlfejohlehkbgaa.PFnExactRootsOf
