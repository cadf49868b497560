-- Written by a program of this session out of the loaded functions' print; helper lemmas as print.sh lays them.
import Derived.Test.YtlfejohlehkbgaaUp2
import Derived.Test.YtlfejohlehkbgaaUp
import Derived.Test.YtlfejohlehkbgaaRFnExactRootsOfx0
import Derived.Test.YtlfejohlehkbgaaRFnExactRootsOfx6
import Derived.Test.YtlfejohlehkbgaaRFnExactRootsOfx7
import Derived.Test.YtlfejohlehkbgaaRFnExactRootsOfx11
namespace Go.Proofs.Ytlfejohlehkbgaa.PFnExactRootsOf
open Go.RowKit Go.Proofs.YtlfejohlehkbgaaW.PrintWords Go.Proofs.YtlfejohlehkbgaaW.PrintLast Go.Proofs.YtlfejohlehkbgaaW.PrintMore
attribute [local go_sem] max2_int min2_int max_two min_two max_three min_three max_four min_four go_fstore go_fneg go_fadd go_fsub go_fmul go_fquo go_fmax go_fmin go_fconv go_bits go_frombits  -- for this text's walks alone
set_option linter.unusedVariables false
set_option linter.unusedSimpArgs false

/-! ### impl_FirstGuess: function 29 -/
mutual
def impl_FirstGuess.j0 : Nat → Int → Bool → Option ((List (S42)))
 | 0, _, _ => none
 | k + 1, x0, x10 => if x10 = true then (some ([] : List (S42))) else (impl_FirstGuess.l0 k x0 (([(⟨(4607182418800017408 : Nat), (0 : Nat)⟩ : S42)] : List (S42))) false)
def impl_FirstGuess.l0 : Nat → Int → List (S42) → Bool → Option ((List (S42)))
 | 0, _, _, _ => none
 | k + 1, x0, x4, x294000 => if (x4.length : Int) < x0 then (if 0 ≤ (wrap64 ((x4.length : Int) - 1)) then (if (wrap64 ((x4.length : Int) - 1)) < (x4.length : Int) then ((impl_reals_times.f x294000 ((rd_T42 x4 (wrap64 ((x4.length : Int) - 1))).f0) ((rd_T42 x4 (wrap64 ((x4.length : Int) - 1))).f1) (4600877379321698714 : Nat) (4606281698874543309 : Nat)).bind fun bt298 => (if x4.length < 8796093022208 then (impl_FirstGuess.l0 k x0 (x4 ++ [(⟨bt298.1, bt298.2.1⟩ : S42)]) bt298.2.2) else (none))) else (none)) else (none)) else (some x4)
end
def impl_FirstGuess.f (k : Nat) (a0 : Int) : Option ((List (S42))) := if a0 < 1 then (impl_FirstGuess.j0 k a0 true) else (impl_FirstGuess.j0 k a0 (decide (a0 > 10)))
theorem impl_FirstGuess.mono_l : ∀ k, (∀ y0 y1, LeO (impl_FirstGuess.j0 k y0 y1) (impl_FirstGuess.j0 (k + 1) y0 y1)) ∧ (∀ y0 y1 y2, LeO (impl_FirstGuess.l0 k y0 y1 y2) (impl_FirstGuess.l0 (k + 1) y0 y1 y2))
 | 0 => ⟨fun _ _ r h => by simp [impl_FirstGuess.j0] at h, fun _ _ _ r h => by simp [impl_FirstGuess.l0] at h⟩
 | k + 1 => by
  obtain ⟨ih0, ih1⟩ := impl_FirstGuess.mono_l k
  refine ⟨?_, ?_⟩
  ·intro y0 y1
   unfold impl_FirstGuess.j0
   repeat' first
   | (with_reducible exact ih0 _ _)
   | (with_reducible exact ih1 _ _ _)
   | (with_reducible exact LeO.refl _)
   | (with_reducible exact LeO.none _)
   | (with_reducible refine LeO.ite ?_ ?_)
   | (with_reducible refine LeO.bind ?_ (fun _ => ?_))
   | exact ih0 _ _
   | exact ih1 _ _ _
   | exact LeO.none _
   | refine LeO.ite ?_ ?_
   | refine LeO.bind ?_ (fun _ => ?_)
  ·intro y0 y1 y2
   unfold impl_FirstGuess.l0
   repeat' first
   | (with_reducible exact ih0 _ _)
   | (with_reducible exact ih1 _ _ _)
   | (with_reducible exact LeO.refl _)
   | (with_reducible exact LeO.none _)
   | (with_reducible refine LeO.ite ?_ ?_)
   | (with_reducible refine LeO.bind ?_ (fun _ => ?_))
   | exact ih0 _ _
   | exact ih1 _ _ _
   | exact LeO.none _
   | refine LeO.ite ?_ ?_
   | refine LeO.bind ?_ (fun _ => ?_)
theorem impl_FirstGuess.mono : ∀ a0 k, LeO (impl_FirstGuess.f k a0) (impl_FirstGuess.f (k + 1) a0) := by
 intro a0 k
 obtain ⟨ih0, ih1⟩ := impl_FirstGuess.mono_l k
 unfold impl_FirstGuess.f
 repeat' first
   | (with_reducible exact ih0 _ _)
   | (with_reducible exact ih1 _ _ _)
   | (with_reducible exact LeO.refl _)
   | (with_reducible exact LeO.none _)
   | (with_reducible refine LeO.ite ?_ ?_)
   | (with_reducible refine LeO.bind ?_ (fun _ => ?_))
   | exact ih0 _ _
   | exact ih1 _ _ _
   | exact LeO.none _
   | refine LeO.ite ?_ ?_
   | refine LeO.bind ?_ (fun _ => ?_)
set_option maxHeartbeats 8000000 in
set_option maxRecDepth 100000 in
theorem impl_FirstGuess.calls (k : Nat) (a0 : Int) (r : List (S42)) (w : World) (h : impl_FirstGuess.f k a0 = some r) :
  Calls Try.prog 29 #[.int .i64 a0] w fun e w' => ∃ v0_ : Value, e = .returned (v0_) ∧ Kd.R k42 42 w' w.heap.size (fun _ => True) v0_ r ∧ Below w.heap.size w w' := by
 have hu47 := Try.underlying47
 have hu42 := Try.underlying42
 have HB := a_ (Below.refl w.heap.size w)
 have H : (if a0 < 1 then (impl_FirstGuess.j0 k a0 true) else (impl_FirstGuess.j0 k a0 (decide (a0 > 10)))) = some r := h
 clear h
 have HC2 := Aside0.mk H
 clear H
 go_enter Try.func29, Try.ntmps29
 go_upto_region 1 with (fail)
 go_cut [10] (fun v10 wc => ∃ (kq : Nat) (x10_1 : Bool), v10 = .bool x10_1 ∧ Aside0 (impl_FirstGuess.j0 kq a0 x10_1 = some r) ∧ Aside0 (kq ≤ k) ∧ Aside0 (Below w.heap.size w wc))
 case first =>
  have H := HC2.out
  clear HC2
  by_cases c3 : a0 < 1
  ·rw [if_pos c3] at H
   have c3b0 : decide (a0 < 1) = true := decide_eq_true c3
   clear c3
   (first | rw [c3b0] | (simp only [i64_w, i32_w]; rw [c3b0]) | skip)
   have H' := Aside0.mk H
   clear H
   go_wp2
   go_meet
   case rel => exact ⟨_, (true), (by first | rfl | (simp; done) | (simp [*]; done)), H', ⟨by first | omega | exact Nat.le_refl _⟩, ⟨un HB.out⟩⟩
  ·rw [if_neg c3] at H
   have c3b0 : decide (a0 < 1) = false := decide_eq_false c3
   clear c3
   (first | rw [c3b0] | (simp only [i64_w, i32_w]; rw [c3b0]) | skip)
   have H' := Aside0.mk H
   clear H
   go_wp2
   go_meet
   case rel => exact ⟨_, (decide (a0 > 10)), (by first | rfl | (simp; done) | (simp [*]; done)), H', ⟨by first | omega | exact Nat.le_refl _⟩, ⟨un HB.out⟩⟩
 case rest =>
  clear HC2
  try clear c2; try clear p2; try clear c3; try clear c3b0
  obtain ⟨kq, x10_1, rfl, HA, HJ1, HB⟩ := hcut
  cases kq with
  | zero => exact absurd HA.out (by simp [impl_FirstGuess.j0])
  | succ kj1 =>
   have H := HA.out
   clear HA
   simp only [impl_FirstGuess.j0] at H
   by_cases c4 : x10_1 = true
   ·subst c4
    have H1 : (some ([] : List (S42))) = some r := by rw [if_pos rfl] at H; exact H
    clear H
    have H := H1
    clear H1
    obtain rfl := Option.some.inj H
    go_wp2
    go_ret
    exact ⟨_, by first | rfl | (simp [errW_none, errW_some] <;> rfl) | (simp [*, errW_none, errW_some] <;> rfl), by first | exact Kd.R_nil _ _ _ _ _ | exact Kd.N_nil _ _ _ _ _ | exact Kd.V_nil _ _ _ _ _ | exact Kd.Q_nil _ _ _ _ _ | exact Kd.S_nil _ _ _ _ _, un HB.out⟩
   ·replace c4 := Bool.eq_false_iff.mpr c4
    subst c4
    have H1 : (impl_FirstGuess.l0 kj1 a0 ([(⟨(4607182418800017408 : Nat), (0 : Nat)⟩ : S42)] : List (S42)) false) = some r := by rw [if_neg (show ¬ (false = true) by decide)] at H; exact H
    clear H
    have H := H1
    clear H1
    obtain ⟨y294, hy294⟩ : ∃ y_ : List (S42), y_ = ([(⟨(4607182418800017408 : Nat), (0 : Nat)⟩ : S42)] : List (S42)) := ⟨_, rfl⟩
    replace H : (impl_FirstGuess.l0 kj1 a0 y294 false) = some r := by first | (rw [hy294]; with_reducible exact H) | (have H2_ := (Option.bind_some _ _).symm.trans H; rw [hy294]; with_reducible exact H2_) | (have H2_ := (Option.bind_some _ _).symm.trans H; with_reducible exact H2_) | with_reducible exact H | (rw [hy294]; exact H) | exact H
    have Ny294 := Aside0.mk hy294
    clear hy294
    have H' := Aside0.mk H
    clear H
    go_wp2_with (first | ((with_reducible refine gate_dst (N := 3) rfl ?_); refine box_event ?hg (N := 3) ?hd (cs := #[.bool false]) (t := 47) ?hr ?_; (case hd => rfl); (case hg => rfl); (case hr => first | (go_simp; done) | (go_simp; rfl)); intro gb293 hg w5 hbox hb; have GW293 := a_ ((by rw [hg]; exact (below_size (un HB.out)) : w.heap.size ≤ gb293)); have GE293 := a_ ((by rw [hg]; exact (below_size (un HB.out)) : w.heap.size ≤ gb293)); have HI293 := a_ ((show IsS47 w w5 gb293 false from ⟨hbox, (by rw [hg]; exact (below_size (un HB.out)) : w.heap.size ≤ gb293)⟩)); replace HB := a_ (below_step (un HB.out) hb); clear hb hbox hg) | ((with_reducible refine gate_dst (N := 12) rfl ?_); refine Kd.R_lit k42 _ 42 ?hg (N := 12) ?hd (xs := ([(⟨(4607182418800017408 : Nat), (0 : Nat)⟩ : S42)] : List (S42))) (inner := [.float .f64 (4607182418800017408 : Nat), .float .f64 (0 : Nat)]) (ok := fun _ => True) (okp := fun _ => True) ?hr ?hp (fun _ hk => hk) trivial (Below.refl _ _) (Nat.le_refl _) (by simp) ?_; (case hd => rfl); (case hg => rfl); (case hr => first | (go_simp; done) | (go_simp; rfl)); (case hp => exact (Reps.c2 (show Kd.M k42 _ _ _ (⟨(4607182418800017408 : Nat), (0 : Nat)⟩ : S42) [.float .f64 (4607182418800017408 : Nat), .float .f64 (0 : Nat)] from (k42_mkM _ _ _ (⟨(4607182418800017408 : Nat), (0 : Nat)⟩ : S42) )) (Reps.none _ _))); intro v295 w6 ho7 hb hg_ hnew_; clear hg_ hnew_; (first | rw [← Ny294.out] at ho7 | (simp only [Int.reduceToNat] at ho7; rw [← Ny294.out] at ho7)); have HO296 := a_ (Kd.R_lower ho7 (below_size (by repeat (first | (with_reducible first | exact HB.out | apply below_alloc | apply pw_below_drewN | apply below_drew1 | refine below_set ?_ (IsS47.ge HI293.out)) | exact HB.out)))); replace HB := a_ (below_step (by repeat (first | (with_reducible first | exact HB.out | apply below_alloc | apply pw_below_drewN | apply below_drew1 | refine below_set ?_ (IsS47.ge HI293.out)) | exact HB.out)) hb); replace HI293 := a_ (IsS47.below (by repeat (first | (with_reducible first | exact HI293.out | apply IsS47.alloc | apply IsS47.drewN | apply IsS47.drew | apply IsS47.set_0) | exact HI293.out)) hb); clear hb ho7))
    go_loopg [4] kj1 (fun kq v4 w' => ∃ (x4_2 : List (S42)) (xb_1 : Bool), Aside0 (impl_FirstGuess.l0 kq a0 x4_2 xb_1 = some r) ∧ Aside0 (kq ≤ kj1) ∧ Aside0 (Kd.R k42 42 w' w.heap.size (fun _ => True) v4 x4_2) ∧ Aside0 (IsS47 w w' gb293 xb_1) ∧ Aside0 (Below w.heap.size w w'))
    case atStart => exact ⟨(y294), false, H', ⟨Nat.le_refl _⟩, ⟨rk (HO296.out)⟩, ⟨by repeat (first | (with_reducible first | exact HI293.out | apply IsS47.alloc | apply IsS47.drewN | apply IsS47.drew | apply IsS47.set_0) | exact HI293.out)⟩, ⟨by repeat (first | (with_reducible first | exact HB.out | apply below_alloc | apply pw_below_drewN | apply below_drew1 | refine below_set ?_ (IsS47.ge HI293.out)) | exact HB.out)⟩⟩
    case round =>
     clear H'
     try clear c2; try clear p2; try clear c3; try clear c3b0; try clear c4; try clear p2
     obtain ⟨x4_2, xb_1, HA, HK2, HO_4, HI293, HB⟩ := hrel
     cases gk with
     | zero => exact absurd HA.out (by simp [impl_FirstGuess.l0])
     | succ k2 =>
      have H := HA.out
      clear HA
      simp only [impl_FirstGuess.l0] at H
      by_cases c8 : (x4_2.length : Int) < a0
      ·rw [if_pos c8] at H
       have c8b0 : decide ((x4_2.length : Int) < a0) = true := decide_eq_true c8
       clear c8
       obtain ⟨ji9, hji9⟩ : ∃ j_ : Int, (wrap64 ((x4_2.length : Int) - 1)) = j_ := ⟨_, rfl⟩
       replace H : (if 0 ≤ (ji9) then (if (ji9) < (x4_2.length : Int) then ((impl_reals_times.f xb_1 ((rd_T42 x4_2 (ji9)).f0) ((rd_T42 x4_2 (ji9)).f1) (4600877379321698714 : Nat) (4606281698874543309 : Nat)).bind fun bt298 => (if x4_2.length < 8796093022208 then (impl_FirstGuess.l0 k2 a0 (x4_2 ++ [(⟨bt298.1, bt298.2.1⟩ : S42)]) bt298.2.2) else (none))) else (none)) else (none)) = some r := by first | (rw [hji9] at H; exact H) | (simp only [hji9] at H ⊢; exact H)
       have hji9w : (IntKind.i64.wrap ((x4_2.length : Int) - 1)) = ji9 := (i64_w _).trans hji9
       by_cases c10 : 0 ≤ (ji9)
       ·rw [if_pos c10] at H
        have c10b0 : decide (0 ≤ (ji9)) = true := decide_eq_true c10
        clear c10
        by_cases c11 : (ji9) < (x4_2.length : Int)
        ·rw [if_pos c11] at H
         have c11b0 : decide ((ji9) < (x4_2.length : Int)) = true := decide_eq_true c11
         clear c11
         replace H := Option.bind_eq_some_iff.mp H
         obtain ⟨⟨t298, t299, t300⟩, A120, H⟩ := H
         replace H : (if x4_2.length < 8796093022208 then (impl_FirstGuess.l0 k2 a0 (x4_2 ++ [(⟨t298, t299⟩ : S42)]) t300) else (none)) = some r := H
         have A12 := Aside0.mk A120
         clear A120
         by_cases c13 : x4_2.length < 8796093022208
         ·rw [if_pos c13] at H
          have LMc13 := Aside0.mk c13
          clear c13
          obtain ⟨y301, hy301⟩ : ∃ y_ : List (S42), y_ = (x4_2 ++ [(⟨t298, t299⟩ : S42)]) := ⟨_, rfl⟩
          replace H : (impl_FirstGuess.l0 k2 a0 y301 t300) = some r := by first | (rw [hy301]; with_reducible exact H) | (have H2_ := (Option.bind_some _ _).symm.trans H; rw [hy301]; with_reducible exact H2_) | (have H2_ := (Option.bind_some _ _).symm.trans H; with_reducible exact H2_) | with_reducible exact H | (rw [hy301]; exact H) | exact H
          have Ny301 := Aside0.mk hy301
          clear hy301
          have H' := Aside0.mk H
          clear H
          obtain ⟨Ao14, co14, eo14⟩ := Kd.R_slice HO_4.out
          subst eo14
          have p297 : 0 ≤ ((ji9) : Int) := of_decide_eq_true (by first | (with_reducible assumption) | assumption)
          have q297 : (ji9) < (x4_2.length : Int) := of_decide_eq_true (by first | (with_reducible assumption) | assumption)
          obtain ⟨ad297, e297, hx297_0, hx297_1⟩ := at_T42 (Kd.R_reads' HO_4.out).2.2 (ji9) p297 q297
          cases e297
          replace p297 := eq_true p297
          replace q297 := eq_true q297
          go_wp2_with (first | ((with_reducible refine gate_callee (f := 39) rfl ?_); refine goesL_ (some 25) rfl rfl Try.func39 (by kernel_rfl) rfl #[.pointer (some ⟨gb293, 0, none⟩), .agg #[.float .f64 ((rd_T42 x4_2 (ji9)).f0), .float .f64 ((rd_T42 x4_2 (ji9)).f1)], .agg #[.float .f64 (4600877379321698714 : Nat), .float .f64 (4606281698874543309 : Nat)]] rfl (by (try simp only [lA, lB, lC]); first | done | (simp only [hji9]; rfl) | rfl | (simp only [lD, lE]; rfl)) ?_; (with_reducible refine (impl_reals_times.calls gb293 xb_1 ((rd_T42 x4_2 (ji9)).f0) ((rd_T42 x4_2 (ji9)).f1) (4600877379321698714 : Nat) (4606281698874543309 : Nat) t298 t299 t300 w _ ?side1 ?side2 A12.out).mono ?_); (case side1 => repeat (first | (with_reducible first | exact HI293.out | apply IsS47.alloc | apply IsS47.drewN | apply IsS47.drew | apply IsS47.set_0) | exact HI293.out)); (case side2 => repeat (first | (with_reducible first | exact HB.out | apply below_alloc | apply pw_below_drewN | apply below_drew1 | refine below_set ?_ (IsS47.ge HI293.out)) | exact HB.out)); rintro e w15 ⟨rfl, hi, hb, hk⟩; refine ⟨_, rfl, ?_⟩; replace HO_4 := a_ (Kd.R_mono (Kd.R_keep (IsS47.apart (show IsS47 w _ gb293 xb_1 from by repeat (first | (with_reducible first | exact HI293.out | apply IsS47.alloc | apply IsS47.drewN | apply IsS47.drew | apply IsS47.set_0) | exact HI293.out)) (rk HO_4.out) (by decide)) hk (fun _ h => h.2)) (fun _ h => h.1)); replace HB := a_ (hb); replace HI293 := a_ (hi); clear hb hk hi) | ((with_reducible refine gate_builtin (b := .append) (xs := #[.tmp 17, .tmp 26]) rfl ?_); at_builtin; refine Kd.R_append k42 (w0 := w) w.heap.size rfl (.tmp 17) (.tmp 26) 25 42 (.agg #[(.float .f64 0), (.float .f64 0)]) 16 rfl Try.underlying25 info42 rfl (by decide) (by omega) (.slice (some ad297) x4_2.length co14) x4_2 (⟨t298, t299⟩ : S42) [.float .f64 t298, .float .f64 t299] (fun _ => True) (fun _ => False) rfl rfl ?aP (fun _ hk => hk.elim) ?aF ?aO ?aB ?aS ?aL ?_; (case aP => exact k42_mkM _ _ _ (⟨t298, t299⟩ : S42)); (case aB => exact (by repeat (first | (with_reducible first | exact HB.out | apply below_alloc | apply pw_below_drewN | apply below_drew1 | refine below_set ?_ (IsS47.ge HI293.out)) | exact HB.out))); (case aF => exact (fun _ _ => trivial)); (case aO => exact (rk HO_4.out)); (case aS => exact (below_size (by repeat (first | (with_reducible first | exact HB.out | apply below_alloc | apply pw_below_drewN | apply below_drew1 | refine below_set ?_ (IsS47.ge HI293.out)) | exact HB.out)))); (case aL => have := LMc13.out; omega); intro v302 w16 ho hb hg hat; rw [← Ny301.out] at ho; replace HI293 := a_ (IsS47.grown (show IsS47 w _ gb293 t300 from by repeat (first | (with_reducible first | exact HI293.out | apply IsS47.alloc | apply IsS47.drewN | apply IsS47.drew | apply IsS47.set_0) | exact HI293.out)) hg (IsS47.own_ne HI293.out HO_4.out (by decide))); replace HB := a_ (hb); have HO303 := a_ (ho); clear HO_4 ho hb hg hat))
          go_roundg k2
          case measure => have := HJ1.out; have := HK2.out; omega
          case rel => exact ⟨(y301), t300, H', ⟨by have := HJ1.out; have := HK2.out; omega⟩, ⟨rk (HO303.out)⟩, ⟨by repeat (first | (with_reducible first | exact HI293.out | apply IsS47.alloc | apply IsS47.drewN | apply IsS47.drew | apply IsS47.set_0) | exact HI293.out)⟩, ⟨by repeat (first | (with_reducible first | exact HB.out | apply below_alloc | apply pw_below_drewN | apply below_drew1 | refine below_set ?_ (IsS47.ge HI293.out)) | exact HB.out)⟩⟩
         ·rw [if_neg c13] at H
          exact absurd H (by simp)
        ·rw [if_neg c11] at H
         exact absurd H (by simp)
       ·rw [if_neg c10] at H
        exact absurd H (by simp)
      ·rw [if_neg c8] at H
       have c8b0 : decide ((x4_2.length : Int) < a0) = false := decide_eq_false c8
       clear c8
       obtain rfl := Option.some.inj H
       obtain ⟨Ao17, co17, eo17⟩ := Kd.R_slice HO_4.out
       subst eo17
       go_wp2
       go_ret
       exact ⟨_, by first | rfl | (simp [errW_none, errW_some] <;> rfl) | (simp [*, errW_none, errW_some] <;> rfl), by refine rk ?_; exact HO_4.out, by repeat (first | (with_reducible first | exact HB.out | apply below_alloc | apply pw_below_drewN | apply below_drew1 | refine below_set ?_ (IsS47.ge HI293.out)) | exact HB.out)⟩

/-! ### impl_RootsOf: function 16 -/
mutual
def impl_RootsOf.j0 : Nat → List Nat → Int → Bool → Option ((List (S42)) × Bool)
 | 0, _, _, _ => none
 | k + 1, x0, x1, x18 => if x18 = true then (some (([] : List (S42)), false)) else ((impl_FirstGuess.f k (wrap64 ((x0.length : Int) - 1))).bind fun t305 => (impl_RootsOf.l0 k x0 t305 x1 0))
def impl_RootsOf.l0 : Nat → List Nat → List (S42) → Int → Int → Option ((List (S42)) × Bool)
 | 0, _, _, _, _ => none
 | k + 1, x0, x6, x23, x24 => if x24 < x23 then ((impl_RootStep.f k x0 x6).bind fun bt308 => (if bt308.2 = true then (impl_RootsOf.l0 k x0 bt308.1 x23 (wrap64 (x24 + 1))) else (some (([] : List (S42)), false)))) else (some (x6, true))
end
def impl_RootsOf.f (k : Nat) (l0 : List Nat) (a1 : Int) : Option ((List (S42)) × Bool) := (impl_rootable.f k l0).bind fun t304 => (if t304 = true then (if a1 < 0 then (impl_RootsOf.j0 k l0 a1 true) else (impl_RootsOf.j0 k l0 a1 (decide (a1 > 60)))) else (impl_RootsOf.j0 k l0 a1 true))
theorem impl_RootsOf.mono_l : ∀ k, (∀ y0 y1 y2, LeO (impl_RootsOf.j0 k y0 y1 y2) (impl_RootsOf.j0 (k + 1) y0 y1 y2)) ∧ (∀ y0 y1 y2 y3, LeO (impl_RootsOf.l0 k y0 y1 y2 y3) (impl_RootsOf.l0 (k + 1) y0 y1 y2 y3))
 | 0 => ⟨fun _ _ _ r h => by simp [impl_RootsOf.j0] at h, fun _ _ _ _ r h => by simp [impl_RootsOf.l0] at h⟩
 | k + 1 => by
  obtain ⟨ih0, ih1⟩ := impl_RootsOf.mono_l k
  refine ⟨?_, ?_⟩
  ·intro y0 y1 y2
   unfold impl_RootsOf.j0
   repeat' first
   | (with_reducible exact ih0 _ _ _)
   | (with_reducible exact ih1 _ _ _ _)
   | (with_reducible exact impl_FirstGuess.mono _ _)
   | (with_reducible exact impl_RootStep.mono _ _ _)
   | (with_reducible exact impl_rootable.mono _ _)
   | (with_reducible exact LeO.refl _)
   | (with_reducible exact LeO.none _)
   | (with_reducible refine LeO.ite ?_ ?_)
   | (with_reducible refine LeO.bind ?_ (fun _ => ?_))
   | exact ih0 _ _ _
   | exact ih1 _ _ _ _
   | exact impl_FirstGuess.mono _ _
   | exact impl_RootStep.mono _ _ _
   | exact impl_rootable.mono _ _
   | exact LeO.none _
   | refine LeO.ite ?_ ?_
   | refine LeO.bind ?_ (fun _ => ?_)
  ·intro y0 y1 y2 y3
   unfold impl_RootsOf.l0
   repeat' first
   | (with_reducible exact ih0 _ _ _)
   | (with_reducible exact ih1 _ _ _ _)
   | (with_reducible exact impl_FirstGuess.mono _ _)
   | (with_reducible exact impl_RootStep.mono _ _ _)
   | (with_reducible exact impl_rootable.mono _ _)
   | (with_reducible exact LeO.refl _)
   | (with_reducible exact LeO.none _)
   | (with_reducible refine LeO.ite ?_ ?_)
   | (with_reducible refine LeO.bind ?_ (fun _ => ?_))
   | exact ih0 _ _ _
   | exact ih1 _ _ _ _
   | exact impl_FirstGuess.mono _ _
   | exact impl_RootStep.mono _ _ _
   | exact impl_rootable.mono _ _
   | exact LeO.none _
   | refine LeO.ite ?_ ?_
   | refine LeO.bind ?_ (fun _ => ?_)
theorem impl_RootsOf.mono : ∀ a0 a1 k, LeO (impl_RootsOf.f k a0 a1) (impl_RootsOf.f (k + 1) a0 a1) := by
 intro a0 a1 k
 obtain ⟨ih0, ih1⟩ := impl_RootsOf.mono_l k
 unfold impl_RootsOf.f
 repeat' first
   | (with_reducible exact ih0 _ _ _)
   | (with_reducible exact ih1 _ _ _ _)
   | (with_reducible exact impl_FirstGuess.mono _ _)
   | (with_reducible exact impl_RootStep.mono _ _ _)
   | (with_reducible exact impl_rootable.mono _ _)
   | (with_reducible exact LeO.refl _)
   | (with_reducible exact LeO.none _)
   | (with_reducible refine LeO.ite ?_ ?_)
   | (with_reducible refine LeO.bind ?_ (fun _ => ?_))
   | exact ih0 _ _ _
   | exact ih1 _ _ _ _
   | exact impl_FirstGuess.mono _ _
   | exact impl_RootStep.mono _ _ _
   | exact impl_rootable.mono _ _
   | exact LeO.none _
   | refine LeO.ite ?_ ?_
   | refine LeO.bind ?_ (fun _ => ?_)
set_option maxHeartbeats 8000000 in
set_option maxRecDepth 100000 in
theorem impl_RootsOf.calls (k : Nat) (A0 : Option Addr) (c0 : Nat) (l0 : List Nat) (a1 : Int) (r1 : List (S42)) (r2 : Bool) (w : World) (hr0 : Kd.C Kd.flt w A0 l0.length l0) (hc0 : l0.length ≤ c0) (h : impl_RootsOf.f k l0 a1 = some (r1, r2)) :
  Calls Try.prog 16 #[.slice A0 l0.length c0, .int .i64 a1] w fun e w' => ∃ v0_ : Value, e = .returned (.tuple #[v0_, .bool r2]) ∧ Kd.R k42 42 w' w.heap.size (fun _ => True) v0_ r1 ∧ Below w.heap.size w w' := by
 have HR0 := Aside0.mk hr0
 have HC0 := Aside0.mk hc0
 clear hr0 hc0
 have HB := a_ (Below.refl w.heap.size w)
 have H : ((impl_rootable.f k l0).bind fun t304 => (if t304 = true then (if a1 < 0 then (impl_RootsOf.j0 k l0 a1 true) else (impl_RootsOf.j0 k l0 a1 (decide (a1 > 60)))) else (impl_RootsOf.j0 k l0 a1 true))) = some (r1, r2) := h
 clear h
 have HC3 := Aside0.mk H
 clear H
 go_enter Try.func16, Try.ntmps16
 go_upto_region 1 with (fail)
 go_cut [18] (fun v18 wc => ∃ (kq : Nat) (x18_2 : Bool), v18 = .bool x18_2 ∧ Aside0 (impl_RootsOf.j0 kq l0 a1 x18_2 = some (r1, r2)) ∧ Aside0 (kq ≤ k) ∧ Aside0 (Below w.heap.size w wc))
 case first =>
  have H := HC3.out
  clear HC3
  replace H := Option.bind_eq_some_iff.mp H
  obtain ⟨t304, A40, H⟩ := H
  replace H : (if t304 = true then (if a1 < 0 then (impl_RootsOf.j0 k l0 a1 true) else (impl_RootsOf.j0 k l0 a1 (decide (a1 > 60)))) else (impl_RootsOf.j0 k l0 a1 true)) = some (r1, r2) := H
  have A4 := Aside0.mk A40
  clear A40
  by_cases c5 : t304 = true
  ·subst c5
   have H1 : (if a1 < 0 then (impl_RootsOf.j0 k l0 a1 true) else (impl_RootsOf.j0 k l0 a1 (decide (a1 > 60)))) = some (r1, r2) := by rw [if_pos rfl] at H; exact H
   clear H
   have H := H1
   clear H1
   by_cases c6 : a1 < 0
   ·rw [if_pos c6] at H
    have c6b0 : decide (a1 < 0) = true := decide_eq_true c6
    clear c6
    (first | rw [c6b0] | (simp only [i64_w, i32_w]; rw [c6b0]) | skip)
    have H' := Aside0.mk H
    clear H
    go_wp2_with (first | ((with_reducible refine gate_callee (f := 21) rfl ?_); refine goesL_ (some 9) rfl rfl Try.func21 (by kernel_rfl) rfl #[.slice A0 l0.length c0] rfl (by (try simp only [lA, lB, lC]); first | done | rfl | (simp only [lD, lE]; rfl)) ?_; (with_reducible refine (impl_rootable.calls k _ _ l0 true _ ?side1 ?side2 A4.out).mono ?_); (case side1 => exact Kd.C_below HR0.out (un HB.out)); (case side2 => exact HC0.out); rintro e w' ⟨rfl, ⟨nd, rfl⟩⟩; refine ⟨_, rfl, ?_⟩))
    go_meet
    case rel => exact ⟨_, (true), (by first | rfl | (simp; done) | (simp [*]; done)), H', ⟨by first | omega | exact Nat.le_refl _⟩, ⟨un HB.out⟩⟩
   ·rw [if_neg c6] at H
    have c6b0 : decide (a1 < 0) = false := decide_eq_false c6
    clear c6
    (first | rw [c6b0] | (simp only [i64_w, i32_w]; rw [c6b0]) | skip)
    have H' := Aside0.mk H
    clear H
    go_wp2_with (first | ((with_reducible refine gate_callee (f := 21) rfl ?_); refine goesL_ (some 9) rfl rfl Try.func21 (by kernel_rfl) rfl #[.slice A0 l0.length c0] rfl (by (try simp only [lA, lB, lC]); first | done | rfl | (simp only [lD, lE]; rfl)) ?_; (with_reducible refine (impl_rootable.calls k _ _ l0 true _ ?side1 ?side2 A4.out).mono ?_); (case side1 => exact Kd.C_below HR0.out (un HB.out)); (case side2 => exact HC0.out); rintro e w' ⟨rfl, ⟨nd, rfl⟩⟩; refine ⟨_, rfl, ?_⟩))
    go_meet
    case rel => exact ⟨_, (decide (a1 > 60)), (by first | rfl | (simp; done) | (simp [*]; done)), H', ⟨by first | omega | exact Nat.le_refl _⟩, ⟨un HB.out⟩⟩
  ·replace c5 := Bool.eq_false_iff.mpr c5
   subst c5
   have H1 : (impl_RootsOf.j0 k l0 a1 true) = some (r1, r2) := by rw [if_neg (show ¬ (false = true) by decide)] at H; exact H
   clear H
   have H := H1
   clear H1
   have H' := Aside0.mk H
   clear H
   go_wp2_with (first | ((with_reducible refine gate_callee (f := 21) rfl ?_); refine goesL_ (some 9) rfl rfl Try.func21 (by kernel_rfl) rfl #[.slice A0 l0.length c0] rfl (by (try simp only [lA, lB, lC]); first | done | rfl | (simp only [lD, lE]; rfl)) ?_; (with_reducible refine (impl_rootable.calls k _ _ l0 false _ ?side1 ?side2 A4.out).mono ?_); (case side1 => exact Kd.C_below HR0.out (un HB.out)); (case side2 => exact HC0.out); rintro e w' ⟨rfl, ⟨nd, rfl⟩⟩; refine ⟨_, rfl, ?_⟩))
   go_meet
   case rel => exact ⟨_, (true), (by first | rfl | (simp; done) | (simp [*]; done)), H', ⟨by first | omega | exact Nat.le_refl _⟩, ⟨un HB.out⟩⟩
 case rest =>
  clear HC3
  try clear c1; try clear c2; try clear p2; try clear c5; try clear c6; try clear c6b0
  obtain ⟨kq, x18_2, rfl, HA, HJ2, HB⟩ := hcut
  cases kq with
  | zero => exact absurd HA.out (by simp [impl_RootsOf.j0])
  | succ kj2 =>
   have H := HA.out
   clear HA
   simp only [impl_RootsOf.j0] at H
   by_cases c7 : x18_2 = true
   ·subst c7
    have H1 : (some (([] : List (S42)), false)) = some (r1, r2) := by rw [if_pos rfl] at H; exact H
    clear H
    have H := H1
    clear H1
    simp only [Option.some.injEq, Prod.mk.injEq] at H
    obtain ⟨rfl, rfl⟩ := H
    go_wp2
    go_ret2
    exact ⟨_, by first | rfl | (simp [errW_none, errW_some] <;> rfl) | (simp [*, errW_none, errW_some] <;> rfl), by first | exact Kd.R_nil _ _ _ _ _ | exact Kd.N_nil _ _ _ _ _ | exact Kd.V_nil _ _ _ _ _ | exact Kd.Q_nil _ _ _ _ _ | exact Kd.S_nil _ _ _ _ _, un HB.out⟩
   ·replace c7 := Bool.eq_false_iff.mpr c7
    subst c7
    have H1 : ((impl_FirstGuess.f kj2 (wrap64 ((l0.length : Int) - 1))).bind fun t305 => (impl_RootsOf.l0 kj2 l0 t305 a1 0)) = some (r1, r2) := by rw [if_neg (show ¬ (false = true) by decide)] at H; exact H
    clear H
    have H := H1
    clear H1
    replace H := Option.bind_eq_some_iff.mp H
    obtain ⟨t305, A80, H⟩ := H
    replace H : (impl_RootsOf.l0 kj2 l0 t305 a1 0) = some (r1, r2) := H
    have A8 := Aside0.mk A80
    clear A80
    have H' := Aside0.mk H
    clear H
    go_wp2_with (first | ((with_reducible refine gate_callee (f := 29) rfl ?_); refine goesL_ (some 22) rfl rfl Try.func29 (by kernel_rfl) rfl #[.int .i64 (wrap64 ((l0.length : Int) - 1))] rfl (by (try simp only [lA, lB, lC]); first | done | rfl | (simp only [lD, lE]; rfl)) ?_; (with_reducible refine (impl_FirstGuess.calls kj2 (wrap64 ((l0.length : Int) - 1)) t305 _ A8.out).mono ?_); rintro e w9 ⟨v306, rfl, ho0, hb⟩; refine ⟨_, rfl, ?_⟩; have HO307 := a_ (Kd.R_lower ho0 (bs HB.out)); replace HB := a_ (below_step (un HB.out) hb); clear hb ho0))
    go_loopg [6, 24] kj2 (fun kq v6 v24 w' => ∃ (x6_2 : List (S42)) (x24_2 : Int), v24 = .int .i64 x24_2 ∧ Aside0 (impl_RootsOf.l0 kq l0 x6_2 a1 x24_2 = some (r1, r2)) ∧ Aside0 (kq ≤ kj2) ∧ Aside0 (Kd.R k42 42 w' w.heap.size (fun _ => True) v6 x6_2) ∧ Aside0 (Below w.heap.size w w'))
    case atStart => exact ⟨(t305), (0), (by first | rfl | (simp; done) | (simp [*]; done)), H', ⟨Nat.le_refl _⟩, ⟨rk (HO307.out)⟩, ⟨un HB.out⟩⟩
    case round =>
     clear H'
     try clear c1; try clear c2; try clear p2; try clear c5; try clear c6; try clear c6b0; try clear p6; try clear c7; try clear p2
     obtain ⟨x6_2, x24_2, rfl, HA, HK2, HO_6, HB⟩ := hrel
     cases gk with
     | zero => exact absurd HA.out (by simp [impl_RootsOf.l0])
     | succ k2 =>
      have H := HA.out
      clear HA
      simp only [impl_RootsOf.l0] at H
      by_cases c10 : x24_2 < a1
      ·rw [if_pos c10] at H
       have c10b0 : decide (x24_2 < a1) = true := decide_eq_true c10
       clear c10
       replace H := Option.bind_eq_some_iff.mp H
       obtain ⟨⟨t308, t309⟩, A110, H⟩ := H
       replace H : (if t309 = true then (impl_RootsOf.l0 k2 l0 t308 a1 (wrap64 (x24_2 + 1))) else (some (([] : List (S42)), false))) = some (r1, r2) := H
       have A11 := Aside0.mk A110
       clear A110
       by_cases c12 : t309 = true
       ·subst c12
        have H1 : (impl_RootsOf.l0 k2 l0 t308 a1 (wrap64 (x24_2 + 1))) = some (r1, r2) := by rw [if_pos rfl] at H; exact H
        clear H
        have H := H1
        clear H1
        have H' := Aside0.mk H
        clear H
        obtain ⟨Ao13, co13, eo13⟩ := Kd.R_slice HO_6.out
        subst eo13
        go_wp2_with (first | ((with_reducible refine gate_callee (f := 9) rfl ?_); refine goesL_ (some 29) rfl rfl Try.func9 (by kernel_rfl) rfl #[.slice A0 l0.length c0, .slice Ao13 x6_2.length co13] rfl (by (try simp only [lA, lB, lC]); first | done | rfl | (simp only [lD, lE]; rfl)) ?_; (with_reducible refine (impl_RootStep.calls k2 _ _ l0 _ _ x6_2 t308 true _ ?side1 ?side2 ?side3 ?side4 A11.out).mono ?_); (case side1 => exact Kd.C_below HR0.out (un HB.out)); (case side2 => exact HC0.out); (case side3 => exact cu (Kd.R_reads' HO_6.out).2.2); (case side4 => exact (Kd.R_reads' HO_6.out).2.1); rintro e w14 ⟨v310, rfl, ho0, hb⟩; refine ⟨_, rfl, ?_⟩; have HO311 := a_ (Kd.R_lower (nw ho0 HO_6.out) (bs HB.out)); replace HO_6 := a_ (Kd.R_elder' (rk HO_6.out) (Kd.R_base ho0) hb); replace HB := a_ (below_step (un HB.out) hb); clear hb ho0))
        go_roundg k2
        case measure => have := HJ2.out; have := HK2.out; omega
        case rel => exact ⟨(t308), (wrap64 (x24_2 + 1)), (by first | rfl | (simp; done) | (simp [*]; done)), H', ⟨by have := HJ2.out; have := HK2.out; omega⟩, ⟨rk (Kd.R_mono HO311.out (fun _ hk => trivial))⟩, ⟨un HB.out⟩⟩
       ·replace c12 := Bool.eq_false_iff.mpr c12
        subst c12
        have H1 : (some (([] : List (S42)), false)) = some (r1, r2) := by rw [if_neg (show ¬ (false = true) by decide)] at H; exact H
        clear H
        have H := H1
        clear H1
        simp only [Option.some.injEq, Prod.mk.injEq] at H
        obtain ⟨rfl, rfl⟩ := H
        obtain ⟨Ao15, co15, eo15⟩ := Kd.R_slice HO_6.out
        subst eo15
        go_wp2_with (first | ((with_reducible refine gate_callee (f := 9) rfl ?_); refine goesL_ (some 29) rfl rfl Try.func9 (by kernel_rfl) rfl #[.slice A0 l0.length c0, .slice Ao15 x6_2.length co15] rfl (by (try simp only [lA, lB, lC]); first | done | rfl | (simp only [lD, lE]; rfl)) ?_; (with_reducible refine (impl_RootStep.calls k2 _ _ l0 _ _ x6_2 t308 false _ ?side1 ?side2 ?side3 ?side4 A11.out).mono ?_); (case side1 => exact Kd.C_below HR0.out (un HB.out)); (case side2 => exact HC0.out); (case side3 => exact cu (Kd.R_reads' HO_6.out).2.2); (case side4 => exact (Kd.R_reads' HO_6.out).2.1); rintro e w16 ⟨v310, rfl, ho0, hb⟩; refine ⟨_, rfl, ?_⟩; have HO311 := a_ (Kd.R_lower (nw ho0 HO_6.out) (bs HB.out)); replace HO_6 := a_ (Kd.R_elder' (rk HO_6.out) (Kd.R_base ho0) hb); replace HB := a_ (below_step (un HB.out) hb); clear hb ho0))
        go_ret2
        exact ⟨_, by first | rfl | (simp [errW_none, errW_some] <;> rfl) | (simp [*, errW_none, errW_some] <;> rfl), by first | exact Kd.R_nil _ _ _ _ _ | exact Kd.N_nil _ _ _ _ _ | exact Kd.V_nil _ _ _ _ _ | exact Kd.Q_nil _ _ _ _ _ | exact Kd.S_nil _ _ _ _ _, un HB.out⟩
      ·rw [if_neg c10] at H
       have c10b0 : decide (x24_2 < a1) = false := decide_eq_false c10
       clear c10
       simp only [Option.some.injEq, Prod.mk.injEq] at H
       obtain ⟨rfl, rfl⟩ := H
       go_wp2
       go_ret2
       exact ⟨_, by first | rfl | (simp [errW_none, errW_some] <;> rfl) | (simp [*, errW_none, errW_some] <;> rfl), by refine rk ?_; exact HO_6.out, un HB.out⟩

end Go.Proofs.Ytlfejohlehkbgaa.PFnExactRootsOf
