/- For all arguments the printed law ExactLineCells answers true: plain lists and numbers, no memory. Conditions: none beyond what the program's own guards ask. -/
import Derived.Test.YtgkjnocjdonjdaaRFnExactLineCellsx3
import Derived.Test.YtgkjnocjdonjdaaG
namespace Go.Proofs.Ytgkjnocjdonjdaa.Pure
open Go.RowKit Go.Proofs.Ytgkjnocjdonjdaa.PFnExactLineCells Go.Proofs.YtgkjnocjdonjdaaW.PrintWords Go.Proofs.YtgkjnocjdonjdaaW.PrintLast
set_option linter.unusedVariables false
set_option linter.unusedSimpArgs false

theorem laws_eqIntS_refl (l : List Int) (hl : l.length ≤ 1048576) : Ev (fun k => laws_eqIntS.f k l l) true := by
  unfold laws_eqIntS.f
  refine G.pos rfl (G.true_loop (F := fun k i => laws_eqIntS.l0 k l l i) l.length ?_ ?_)
  · intro k; simp only [laws_eqIntS.l0]; rw [if_neg (by omega)]
  · intro k i h
    simp only [laws_eqIntS.l0]
    rw [if_pos (by omega), if_pos (by omega), if_pos (by omega), if_pos trivial, G.w64 _ (by omega)]

theorem laws_markIntS_ev (l : List Int) (m : Int) (h0 : 0 ≤ m) (h1 : m ≤ 4194304) (hl : l.length ≤ 1048576) : Ev (fun k => laws_markIntS.f k l m) (m + l.length, G.marks id m 1 l.length) := by
  simp only [laws_markIntS.f]
  have h := G.mark_loop id m 1 l.length (fun k l m i => laws_markIntS.l0 k l m i) ?_ ?_ l rfl
  · simpa using h
  · intro k l' m hl'; simp only [laws_markIntS.l0]; rw [if_neg (by omega)]
  · intro k l' i h hl'
    simp only [laws_markIntS.l0]
    rw [if_pos (by omega), if_pos (by omega), G.w64 _ (by omega), G.w64' (by omega) (by omega)]
    simp only [Int.toNat_natCast, id]
    congr 1
    omega

theorem laws_heldIntS_ev (m : Int) (n : Nat) (h0 : 0 ≤ m) (h1 : m ≤ 4194304) (hl : n ≤ 1048576) : Ev (fun k => laws_heldIntS.f k (G.marks id m 1 n) m) (m + n) := by
  simp only [laws_heldIntS.f]
  have h := G.held_loop m 1 n (fun k m' i => laws_heldIntS.l0 k (G.marks id m 1 n) m' i) ?_ ?_
  · simpa using h
  · intro k m'; simp only [laws_heldIntS.l0]; rw [if_neg (by rw [G.marks_length]; omega)]
  · intro k i h
    simp only [laws_heldIntS.l0]
    rw [if_pos (by rw [G.marks_length]; omega), if_pos (by omega), G.rd_nat (by rw [G.marks_length]; omega), G.marks_get, if_pos (by simp), G.w64 _ (by omega), G.w64' (by omega) (by omega)]
    congr 1
    omega

/-- The cells of a line from (x, y) on, n rounds before its end. -/
def line (ax ay sx sy : Int) : Nat → Int → Int → Int → List (List Int)
  | 0, x, y, _ => [[x, y]]
  | n + 1, x, y, e => [x, y] :: line ax ay sx sy n (if 2 * e > -ay then x + sx else x) (if 2 * e < ax then y + sy else y) ((if 2 * e > -ay then e - ay else e) + (if 2 * e < ax then ax else 0))
theorem line_length (ax ay sx sy : Int) (n : Nat) : ∀ x y e, (line ax ay sx sy n x y e).length = n + 1 := by
  induction n with
  | zero => intro x y e; rfl
  | succ n ih => intro x y e; simp [line, ih]
/-- How far a line still has to go: n rounds; its longer side goes on in each. -/
def Inv (x2 y2 ax ay sx sy : Int) (n : Nat) (x y e : Int) : Prop :=
  (ay ≤ ax ∧ (n : Int) ≤ ax ∧ ∃ m : Int, x2 - x = sx * n ∧ y2 - y = sy * m ∧ e = ax - ay + n * ay - m * ax ∧ (ax = 0 → m = 0) ∧ (1 ≤ ax → -ay < 2 * e ∧ 2 * e < 3 * ax - 2 * ay)) ∨
  (ax < ay ∧ (n : Int) ≤ ay ∧ ∃ m : Int, y2 - y = sy * n ∧ x2 - x = sx * m ∧ e = ax - ay + m * ay - n * ax ∧ 2 * e < ax ∧ 2 * ax - 3 * ay < 2 * e)
theorem inv_step {x2 y2 ax ay sx sy : Int} {n : Nat} {x y e : Int} (hx : 0 ≤ ax) (hy : 0 ≤ ay) (h : Inv x2 y2 ax ay sx sy (n + 1) x y e) :
    Inv x2 y2 ax ay sx sy n (if 2 * e > -ay then x + sx else x) (if 2 * e < ax then y + sy else y) ((if 2 * e > -ay then e - ay else e) + (if 2 * e < ax then ax else 0)) := by
  rcases h with ⟨h1, h2, m, h3, h4, h5, h6, h7⟩ | ⟨h1, h2, m, h3, h4, h5, h6, h7⟩
  · have hp : 1 ≤ ax := by omega
    obtain ⟨b1, b2⟩ := h7 hp
    have en : ((n + 1 : Nat) : Int) * ay = n * ay + ay := by rw [Int.natCast_add, Int.add_mul]; simp
    have ex : sx * ((n + 1 : Nat) : Int) = sx * n + sx := by rw [Int.natCast_add, Int.mul_add]; simp
    have c1 : 2 * e > -ay := b1
    rw [if_pos c1, if_pos c1]
    by_cases c2 : 2 * e < ax
    · rw [if_pos c2, if_pos c2]
      refine .inl ⟨h1, by omega, m - 1, by omega, ?_, ?_, by omega, fun _ => by omega⟩
      · rw [Int.mul_sub]; omega
      · rw [Int.sub_mul]; omega
    · rw [if_neg c2, if_neg c2]
      refine .inl ⟨h1, by omega, m, by omega, h4, by omega, by omega, fun _ => by omega⟩
  · have en : ((n + 1 : Nat) : Int) * ax = n * ax + ax := by rw [Int.natCast_add, Int.add_mul]; simp
    have ey : sy * ((n + 1 : Nat) : Int) = sy * n + sy := by rw [Int.natCast_add, Int.mul_add]; simp
    rw [if_pos h6, if_pos h6]
    by_cases c1 : 2 * e > -ay
    · rw [if_pos c1, if_pos c1]
      refine .inr ⟨h1, by omega, m - 1, by omega, ?_, ?_, by omega, by omega⟩
      · rw [Int.mul_sub]; omega
      · rw [Int.sub_mul]; omega
    · rw [if_neg c1, if_neg c1]
      refine .inr ⟨h1, by omega, m, by omega, h4, by omega, by omega, by omega⟩
theorem mul_neg_le {m a : Int} (ha : 1 ≤ a) (hm : m ≤ -1) : m * a ≤ -a := by
  have := Int.mul_le_mul_of_nonneg_right hm (show 0 ≤ a by omega)
  omega
theorem mul_pos_le {m a : Int} (ha : 1 ≤ a) (hm : 1 ≤ m) : a ≤ m * a := by
  have := Int.mul_le_mul_of_nonneg_right hm (show 0 ≤ a by omega)
  omega
theorem inv_end {x2 y2 ax ay sx sy x y e : Int} (hx : 0 ≤ ax) (hy : 0 ≤ ay) (h : Inv x2 y2 ax ay sx sy 0 x y e) : x = x2 ∧ y = y2 := by
  rcases h with ⟨h1, h2, m, h3, h4, h5, h6, h7⟩ | ⟨h1, h2, m, h3, h4, h5, h6, h7⟩
  · have hm : m = 0 := by
      by_cases h0 : ax = 0
      · exact h6 h0
      · obtain ⟨b1, b2⟩ := h7 (by omega)
        simp at h5
        rcases Int.lt_trichotomy m 0 with hm | hm | hm
        · have := mul_neg_le (show 1 ≤ ax by omega) (show m ≤ -1 by omega); omega
        · exact hm
        · have := mul_pos_le (show 1 ≤ ax by omega) (show 1 ≤ m by omega); omega
    rw [hm] at h4
    simp at h3 h4
    omega
  · have hm : m = 0 := by
      simp at h5
      rcases Int.lt_trichotomy m 0 with hm | hm | hm
      · have := mul_neg_le (show 1 ≤ ay by omega) (show m ≤ -1 by omega); omega
      · exact hm
      · have := mul_pos_le (show 1 ≤ ay by omega) (show 1 ≤ m by omega); omega
    rw [hm] at h4
    simp at h3 h4
    omega
/-- Between its ends. -/
theorem inv_between {x2 y2 ax ay sx sy : Int} {n : Nat} {x y e : Int} (hx : 0 ≤ ax) (hy : 0 ≤ ay) (h : Inv x2 y2 ax ay sx sy n x y e) : ∃ p q : Int, x2 - x = sx * p ∧ y2 - y = sy * q ∧ 0 ≤ p ∧ p ≤ ax ∧ 0 ≤ q ∧ q ≤ ay := by
  rcases h with ⟨h1, h2, m, h3, h4, h5, h6, h7⟩ | ⟨h1, h2, m, h3, h4, h5, h6, h7⟩
  · refine ⟨n, m, h3, h4, by omega, h2, ?_⟩
    by_cases h0 : ax = 0
    · have := h6 h0; omega
    · obtain ⟨b1, b2⟩ := h7 (by omega)
      have hn : 0 ≤ (n : Int) * ay := Int.mul_nonneg (by omega) hy
      have hn2 : (n : Int) * ay ≤ ax * ay := Int.mul_le_mul_of_nonneg_right h2 hy
      constructor
      · rcases Int.lt_or_le m 0 with hm | hm
        · have := mul_neg_le (show 1 ≤ ax by omega) (show m ≤ -1 by omega); omega
        · exact hm
      · rcases Int.lt_or_le ay m with hm | hm
        · have := Int.mul_le_mul_of_nonneg_right (show ay + 1 ≤ m by omega) hx
          rw [Int.add_mul, Int.mul_comm ay ax] at this
          omega
        · exact hm
  · refine ⟨m, n, h4, h3, ?_, ?_, by omega, h2⟩
    all_goals
      have hn : 0 ≤ (n : Int) * ax := Int.mul_nonneg (by omega) hx
      have hn2 : (n : Int) * ax ≤ ay * ax := Int.mul_le_mul_of_nonneg_right h2 hx
    · rcases Int.lt_or_le m 0 with hm | hm
      · have := mul_neg_le (show 1 ≤ ay by omega) (show m ≤ -1 by omega); omega
      · exact hm
    · rcases Int.lt_or_le ax m with hm | hm
      · have := Int.mul_le_mul_of_nonneg_right (show ax + 1 ≤ m by omega) hy
        rw [Int.add_mul, Int.mul_comm ax ay] at this
        omega
      · exact hm
theorem inv_go {x2 y2 ax ay sx sy : Int} {n : Nat} {x y e : Int} (s1 : sx = 1 ∨ sx = -1) (s2 : sy = 1 ∨ sy = -1) (h : Inv x2 y2 ax ay sx sy (n + 1) x y e) : ¬ (x = x2 ∧ y = y2) := by
  rintro ⟨rfl, rfl⟩
  rcases h with ⟨h1, h2, m, h3, h4, _⟩ | ⟨h1, h2, m, h3, h4, _⟩
  · rcases s1 with rfl | rfl <;> omega
  · rcases s2 with rfl | rfl <;> omega
theorem inv_e {x2 y2 ax ay sx sy : Int} {n : Nat} {x y e : Int} (hx : 0 ≤ ax) (hx' : ax ≤ 2000) (hy : 0 ≤ ay) (hy' : ay ≤ 2000) (h : Inv x2 y2 ax ay sx sy (n + 1) x y e) : -10000 ≤ e ∧ e ≤ 10000 := by
  rcases h with ⟨h1, h2, m, h3, h4, h5, h6, h7⟩ | ⟨h1, h2, m, h3, h4, h5, h6, h7⟩
  · have := h7 (by omega); omega
  · omega
theorem line_loop (x2 y2 ax ay sx sy : Int) (bx : -1000 ≤ x2 ∧ x2 ≤ 1000) (by_ : -1000 ≤ y2 ∧ y2 ≤ 1000) (hx : 0 ≤ ax) (hx' : ax ≤ 2000) (hy : 0 ≤ ay) (hy' : ay ≤ 2000) (s1 : sx = 1 ∨ sx = -1) (s2 : sy = 1 ∨ sy = -1) (n : Nat) :
    ∀ x y e out, Inv x2 y2 ax ay sx sy n x y e → out.length + n ≤ 3000 → Ev (fun k => spec_LineCells.l0 k x y x2 y2 ax ay sx sy e out) (out ++ line ax ay sx sy n x y e) ∧ Ev (fun k => impl_LineCells.l1 k x2 y2 ax sx ay sy e out x y) (out ++ line ax ay sx sy n x y e) := by
  induction n with
  | zero =>
    intro x y e out h ho
    obtain ⟨rfl, rfl⟩ := inv_end hx hy h
    constructor
    · refine G.succ ?_
      simp only [spec_LineCells.l0]
      refine G.pos (by omega) (G.bind0 rfl (G.pos trivial ?_))
      rw [beq_self_eq_true]
      refine G.succ ?_
      simp only [spec_LineCells.j4]
      exact G.pos trivial (G.now fun _ => rfl)
    · refine G.succ ?_
      simp only [impl_LineCells.l1]
      refine G.pos (by omega) (G.bind0 rfl (G.pos trivial ?_))
      rw [beq_self_eq_true]
      refine G.succ ?_
      simp only [impl_LineCells.j2]
      exact G.pos trivial (G.now fun _ => rfl)
  | succ n ih =>
    intro x y e out h ho
    have hg := inv_go s1 s2 h
    obtain ⟨e0, e1⟩ := inv_e hx hx' hy hy' h
    obtain ⟨p, q, hp, hq, p0, p1, q0, q1⟩ := inv_between hx hy h
    have hxx : -4000 ≤ x ∧ x ≤ 4000 := by rcases s1 with rfl | rfl <;> omega
    have hyy : -4000 ≤ y ∧ y ≤ 4000 := by rcases s2 with rfl | rfl <;> omega
    have w1 : wrap64 (2 * e) = 2 * e := G.w64' (by omega) (by omega)
    have w2 : wrap64 (-ay) = -ay := G.wneg (by omega) (by omega)
    have w3 : wrap64 (x + sx) = x + sx := G.w64' (by rcases s1 with rfl | rfl <;> omega) (by rcases s1 with rfl | rfl <;> omega)
    have w4 : wrap64 (y + sy) = y + sy := G.w64' (by rcases s2 with rfl | rfl <;> omega) (by rcases s2 with rfl | rfl <;> omega)
    have w5 : wrap64 (e - ay) = e - ay := G.w64' (by omega) (by omega)
    have w6 : wrap64 (e + ax) = e + ax := G.w64' (by omega) (by omega)
    have w7 : wrap64 (e - ay + ax) = e - ay + ax := G.w64' (by omega) (by omega)
    obtain ⟨i1, i2⟩ := ih _ _ _ (out ++ [[x, y]]) (inv_step hx hy h) (by simp; omega)
    rw [List.append_assoc] at i1 i2
    have hl : out ++ line ax ay sx sy (n + 1) x y e = out ++ ([[x, y]] ++ line ax ay sx sy n (if 2 * e > -ay then x + sx else x) (if 2 * e < ax then y + sy else y) ((if 2 * e > -ay then e - ay else e) + (if 2 * e < ax then ax else 0))) := rfl
    rw [hl]
    constructor
    · have j4 (b : Bool) (hb : b = false) : Ev (fun k => spec_LineCells.j4 k x y x2 y2 ax ay sx sy e (out ++ [[x, y]]) b) (out ++ ([[x, y]] ++ line ax ay sx sy n (if 2 * e > -ay then x + sx else x) (if 2 * e < ax then y + sy else y) ((if 2 * e > -ay then e - ay else e) + (if 2 * e < ax then ax else 0)))) := by
        refine G.succ ?_
        simp only [spec_LineCells.j4, w1, w2, w3, w4, w5, w6, w7]
        refine G.neg (by simp [hb]) ?_
        by_cases c1 : 2 * e > -ay <;> by_cases c2 : 2 * e < ax <;> simp only [c1, c2, if_true, if_false, Int.add_zero] at i1 ⊢ <;> exact i1
      refine G.succ ?_
      simp only [spec_LineCells.l0]
      refine G.pos (by omega) (G.bind0 rfl (G.ite (fun c => j4 _ ?_) (fun c => j4 _ rfl)))
      have : ¬ y = y2 := fun c' => hg ⟨c, c'⟩
      simp [this]
    · have j2 (b : Bool) (hb : b = false) : Ev (fun k => impl_LineCells.j2 k x2 y2 ax sx ay sy e (out ++ [[x, y]]) x y b) (out ++ ([[x, y]] ++ line ax ay sx sy n (if 2 * e > -ay then x + sx else x) (if 2 * e < ax then y + sy else y) ((if 2 * e > -ay then e - ay else e) + (if 2 * e < ax then ax else 0)))) := by
        refine G.succ ?_
        simp only [impl_LineCells.j2, w1, w2, w3, w4, w5, w6, w7]
        refine G.neg (by simp [hb]) ?_
        by_cases c1 : 2 * e > -ay <;> by_cases c2 : 2 * e < ax <;> simp only [c1, c2, if_true, if_false, Int.add_zero] at i2 ⊢ <;> exact i2
      refine G.succ ?_
      simp only [impl_LineCells.l1]
      refine G.pos (by omega) (G.bind0 rfl (G.ite (fun c => j2 _ ?_) (fun c => j2 _ rfl)))
      have : ¬ y = y2 := fun c' => hg ⟨c, c'⟩
      simp [this]
/-- The size of a number, and its sign. -/
def absv (d : Int) : Int := if d < 0 then -d else d
def sgnv (d : Int) : Int := if d < 0 then -1 else 1
theorem absv_is (d : Int) : 0 ≤ absv d ∧ (sgnv d = 1 ∨ sgnv d = -1) ∧ d = sgnv d * absv d ∧ (∀ b : Int, -b ≤ d → d ≤ b → absv d ≤ b) := by
  unfold absv sgnv
  by_cases h : d < 0
  · simp only [if_pos h]; exact ⟨by omega, .inr trivial, by omega, fun b _ _ => by omega⟩
  · simp only [if_neg h]; exact ⟨by omega, .inl trivial, by omega, fun b _ _ => by omega⟩
theorem abs_s (d : Int) (h0 : -9000 ≤ d) (h1 : d ≤ 9000) : spec_l4Abs.f d = some (absv d) := by
  unfold spec_l4Abs.f absv
  rw [G.wneg (by omega) (by omega)]; split <;> rfl
theorem abs_i (d : Int) (h0 : -9000 ≤ d) (h1 : d ≤ 9000) : impl_LineCells_1.f d = some (absv d, sgnv d) := by
  unfold impl_LineCells_1.f absv sgnv
  rw [G.wneg (by omega) (by omega)]; split <;> rfl
def big (a : Int) : Prop := -1000 ≤ a ∧ a ≤ 1000
instance (a : Int) : Decidable (big a) := by unfold big; infer_instance
theorem in_s (a : Int) : spec_l12In.f a = some (decide (big a)) := by
  unfold spec_l12In.f; rw [G.nest]; congr 1; rw [Bool.eq_iff_iff]; simp only [Bool.and_eq_true, decide_eq_true_eq]; exact Iff.rfl
theorem in_i (a : Int) : impl_within.f a 1000 = some (decide (big a)) := by
  unfold impl_within.f; rw [G.wneg (by omega) (by omega), G.nest]; congr 1; rw [Bool.eq_iff_iff]; simp only [Bool.and_eq_true, decide_eq_true_eq]; exact Iff.rfl
/-- What both tell: the line, or nothing beyond the bounds. -/
def lineOf (x1 y1 x2 y2 : Int) : List (List Int) :=
  line (absv (x2 - x1)) (absv (y2 - y1)) (sgnv (x2 - x1)) (sgnv (y2 - y1)) (max (absv (x2 - x1)) (absv (y2 - y1))).toNat x1 y1 (absv (x2 - x1) - absv (y2 - y1))
theorem inv_start (x1 y1 x2 y2 : Int) : Inv x2 y2 (absv (x2 - x1)) (absv (y2 - y1)) (sgnv (x2 - x1)) (sgnv (y2 - y1)) (max (absv (x2 - x1)) (absv (y2 - y1))).toNat x1 y1 (absv (x2 - x1) - absv (y2 - y1)) := by
  obtain ⟨a0, s1, d1, _⟩ := absv_is (x2 - x1)
  obtain ⟨b0, s2, d2, _⟩ := absv_is (y2 - y1)
  generalize absv (x2 - x1) = ax at *
  generalize absv (y2 - y1) = ay at *
  by_cases h : ay ≤ ax
  · have e : ((max ax ay).toNat : Int) = ax := by omega
    refine .inl ⟨h, by omega, ay, by rw [e]; exact d1, d2, ?_, by omega, fun _ => by omega⟩
    rw [e, Int.mul_comm ay ax]; omega
  · have e : ((max ax ay).toNat : Int) = ay := by omega
    refine .inr ⟨by omega, by omega, ax, by rw [e]; exact d2, d1, ?_, by omega, by omega⟩
    rw [e, Int.mul_comm ay ax]; omega
theorem lines_is (x1 y1 x2 y2 : Int) : Ev (fun k => spec_LineCells.f k x1 y1 x2 y2) (if big x1 ∧ big y1 ∧ big x2 ∧ big y2 then lineOf x1 y1 x2 y2 else []) ∧ Ev (fun k => impl_LineCells.f k x1 y1 x2 y2) (if big x1 ∧ big y1 ∧ big x2 ∧ big y2 then lineOf x1 y1 x2 y2 else []) := by
  have no : Ev (fun k => spec_LineCells.j0 k x1 y1 x2 y2 true) [] := G.succ (G.now fun k => by simp [spec_LineCells.j0])
  simp only [spec_LineCells.f, impl_LineCells.f]
  have r0 : rd [x1, y1, x2, y2] 0 = x1 := rfl
  have st (i : Nat) (hi : i < 4) (a : Int) (ha : rd [x1, y1, x2, y2] (i : Int) = a) {r : List (List Int)} (h1 : ¬ big a → r = []) (h2 : big a → Ev (fun k => impl_LineCells.l0 k x1 y1 x2 y2 [x1, y1, x2, y2] 4 ((i + 1 : Nat) : Int)) r) : Ev (fun k => impl_LineCells.l0 k x1 y1 x2 y2 [x1, y1, x2, y2] 4 (i : Int)) r := by
    refine G.succ ?_
    simp only [impl_LineCells.l0, ha, in_i, G.w64 i (by omega)]
    refine G.pos (by omega) (G.pos (by omega) (G.pos (by simp; omega) (G.bind0 rfl ?_)))
    by_cases hb : big a
    · exact G.pos (by simp [hb]) (h2 hb)
    · exact G.neg (by simp [hb]) (G.now fun _ => by rw [h1 hb])
  have hl : (([x1, y1, x2, y2] : List Int).length : Int) = 4 := rfl
  by_cases h : big x1 ∧ big y1 ∧ big x2 ∧ big y2
  · rw [if_pos h]
    obtain ⟨h1, h2, h3, h4⟩ := h
    obtain ⟨a0, s1, d1, m1⟩ := absv_is (x2 - x1)
    obtain ⟨b0, s2, d2, m2⟩ := absv_is (y2 - y1)
    have q1 := m1 2000 (by unfold big at h1 h3; omega) (by unfold big at h1 h3; omega)
    have q2 := m2 2000 (by unfold big at h2 h4; omega) (by unfold big at h2 h4; omega)
    obtain ⟨g1, g2⟩ := line_loop x2 y2 _ _ _ _ h3 h4 a0 q1 b0 q2 s1 s2 _ x1 y1 _ [] (inv_start x1 y1 x2 y2) (by simp; omega)
    have wx : wrap64 (x2 - x1) = x2 - x1 := G.w64' (by unfold big at h1 h3; omega) (by unfold big at h1 h3; omega)
    have wy : wrap64 (y2 - y1) = y2 - y1 := G.w64' (by unfold big at h2 h4; omega) (by unfold big at h2 h4; omega)
    have we : wrap64 (absv (x2 - x1) - absv (y2 - y1)) = absv (x2 - x1) - absv (y2 - y1) := G.w64' (by omega) (by omega)
    have ax1 := abs_s (x2 - x1) (by unfold big at h1 h3; omega) (by unfold big at h1 h3; omega)
    have ay1 := abs_s (y2 - y1) (by unfold big at h2 h4; omega) (by unfold big at h2 h4; omega)
    have ax2 := abs_i (x2 - x1) (by unfold big at h1 h3; omega) (by unfold big at h1 h3; omega)
    have ay2 := abs_i (y2 - y1) (by unfold big at h2 h4; omega) (by unfold big at h2 h4; omega)
    constructor
    · refine G.bind0 (in_s x1) (G.pos (by simp [h1]) (G.bind0 (in_s y1) (G.pos (by simp [h2]) (G.bind0 (in_s x2) (G.pos (by simp [h3]) (G.bind0 (in_s y2) ?_))))))
      rw [decide_eq_true h4]
      have j2 : Ev (fun k => spec_LineCells.j2 k x1 y1 x2 y2 (absv (x2 - x1)) (absv (y2 - y1)) (sgnv (x2 - x1)) (sgnv (y2 - y1))) (lineOf x1 y1 x2 y2) := by
        refine G.succ ?_
        simp only [spec_LineCells.j2, we]; exact g1
      have j1 : Ev (fun k => spec_LineCells.j1 k x1 y1 x2 y2 (absv (x2 - x1)) (absv (y2 - y1)) (sgnv (x2 - x1))) (lineOf x1 y1 x2 y2) := by
        refine G.succ ?_
        simp only [spec_LineCells.j1]
        by_cases c : y2 < y1
        · have e : sgnv (y2 - y1) = -1 := if_pos (by omega)
          rw [e] at j2; exact G.pos c j2
        · have e : sgnv (y2 - y1) = 1 := if_neg (by omega)
          rw [e] at j2; exact G.neg c j2
      refine G.succ ?_
      simp only [spec_LineCells.j0, wx, wy]
      refine G.neg (by simp) (G.bind0 ax1 (G.bind0 ay1 ?_))
      by_cases c : x2 < x1
      · have e : sgnv (x2 - x1) = -1 := if_pos (by omega)
        rw [e] at j1; exact G.pos c j1
      · have e : sgnv (x2 - x1) = 1 := if_neg (by omega)
        rw [e] at j1; exact G.neg c j1
    · refine G.bind0 rfl ?_
      simp only [hl]
      refine st 0 (by omega) x1 rfl (fun c => absurd h1 c) fun _ => st 1 (by omega) y1 rfl (fun c => absurd h2 c) fun _ => st 2 (by omega) x2 rfl (fun c => absurd h3 c) fun _ => st 3 (by omega) y2 rfl (fun c => absurd h4 c) fun _ => ?_
      refine G.succ ?_
      simp only [impl_LineCells.l0, wx, wy]
      refine G.neg (by omega) (G.bind0 ax2 (G.bind0 ay2 ?_))
      simp only [we]; exact g2
  · rw [if_neg h]
    constructor
    · by_cases h1 : big x1
      · by_cases h2 : big y1
        · by_cases h3 : big x2
          · have h4 : ¬ big y2 := fun h4 => h ⟨h1, h2, h3, h4⟩
            refine G.bind0 (in_s x1) (G.pos (by simp [h1]) (G.bind0 (in_s y1) (G.pos (by simp [h2]) (G.bind0 (in_s x2) (G.pos (by simp [h3]) (G.bind0 (in_s y2) ?_))))))
            rw [decide_eq_false h4]; exact no
          · exact G.bind0 (in_s x1) (G.pos (by simp [h1]) (G.bind0 (in_s y1) (G.pos (by simp [h2]) (G.bind0 (in_s x2) (G.neg (by simp [h3]) no)))))
        · exact G.bind0 (in_s x1) (G.pos (by simp [h1]) (G.bind0 (in_s y1) (G.neg (by simp [h2]) no)))
      · exact G.bind0 (in_s x1) (G.neg (by simp [h1]) no)
    · refine G.bind0 rfl ?_
      simp only [hl]
      refine st 0 (by omega) x1 rfl (fun _ => rfl) fun h1 => st 1 (by omega) y1 rfl (fun _ => rfl) fun h2 => st 2 (by omega) x2 rfl (fun _ => rfl) fun h3 => st 3 (by omega) y2 rfl (fun _ => rfl) fun h4 => absurd ⟨h1, h2, h3, h4⟩ h
/-! Rows of rows: compared, marked, held. -/
def total (l : List (List Int)) : Nat := (l.map List.length).sum
theorem total_cons (x : List Int) (l : List (List Int)) : total (x :: l) = x.length + total l := by simp [total]
def marksOf : List (List Int) → Int → List (List Int)
  | [], _ => []
  | x :: l, m => G.marks id m 1 x.length :: marksOf l (m + x.length)
theorem rdL1 {l : List (List Int)} {i : Nat} (h : i < l.length) : rd_L1 l (i : Int) = l[i] := by
  unfold rd_L1; exact G.getD_nat h
theorem eqss_refl (l : List (List Int)) (hl : l.length ≤ 1048576) (hx : ∀ x ∈ l, x.length ≤ 1048576) : Ev (fun k => laws_eqIntSS.f k l l) true := by
  unfold laws_eqIntSS.f
  refine G.pos rfl ?_
  refine G.down_ind l.length (fun i => Ev (fun k => laws_eqIntSS.l0 k l l (i : Int)) true) ?_ ?_ 0 (Nat.zero_le _)
  · refine G.succ (G.now fun k => ?_)
    simp only [laws_eqIntSS.l0]; rw [if_neg (by omega)]
  · intro i hi ih
    refine G.succ ?_
    simp only [laws_eqIntSS.l0, rdL1 hi, G.w64 i (by omega)]
    exact G.pos (by omega) (G.pos (by omega) (G.pos (by omega) (G.bind (laws_eqIntS_refl _ (hx _ (List.getElem_mem hi))) (G.pos rfl ih))))
theorem markss (n : Nat) (hn : n ≤ 1048576) : ∀ i, i ≤ n → ∀ (xs : List (List Int)) (m : Int), xs.length = n → 0 ≤ m → m + total (xs.drop i) ≤ 1048576 →
    Ev (fun k => laws_markIntSS.l0 k xs m (i : Int)) (m + total (xs.drop i), xs.take i ++ marksOf (xs.drop i) m) := by
  refine G.down_ind n (fun i => ∀ (xs : List (List Int)) (m : Int), xs.length = n → 0 ≤ m → m + total (xs.drop i) ≤ 1048576 →
    Ev (fun k => laws_markIntSS.l0 k xs m (i : Int)) (m + total (xs.drop i), xs.take i ++ marksOf (xs.drop i) m)) ?_ ?_
  · intro xs m hl h0 h1
    refine G.succ (G.now fun k => ?_)
    simp only [laws_markIntSS.l0]
    rw [if_neg (by omega), List.drop_of_length_le (by omega), List.take_of_length_le (by omega)]
    simp [total, marksOf]
  · intro i hi ih xs m hl h0 h1
    have hix : i < xs.length := by omega
    rw [List.drop_eq_getElem_cons hix, total_cons] at h1 ⊢
    refine G.succ ?_
    simp only [laws_markIntSS.l0, rdL1 hix, G.w64 i (by omega)]
    refine G.pos (by omega) (G.pos (by omega) (G.bind (laws_markIntS_ev _ m h0 (by omega) (by omega)) ?_))
    have hs := ih (xs.set i (G.marks id m 1 xs[i].length)) (m + xs[i].length) (by simpa using hl) (by omega)
    rw [List.drop_set_of_lt (by omega), G.take_set_succ _ _ _ hix, List.append_assoc] at hs
    refine G.eqv (hs (by omega)) ?_
    rw [show marksOf (xs[i] :: xs.drop (i + 1)) m = [G.marks id m 1 xs[i].length] ++ marksOf (xs.drop (i + 1)) (m + xs[i].length) from rfl]
    refine Prod.ext ?_ rfl
    show m + xs[i].length + (total (xs.drop (i + 1)) : Int) = m + ((xs[i].length + total (xs.drop (i + 1)) : Nat) : Int)
    omega
theorem markss_ev (xs : List (List Int)) (m : Int) (hn : xs.length ≤ 1048576) (h0 : 0 ≤ m) (h1 : m + total xs ≤ 1048576) : Ev (fun k => laws_markIntSS.f k xs m) (m + total xs, marksOf xs m) :=
  markss xs.length hn 0 (Nat.zero_le _) xs m rfl h0 h1
theorem marksOf_length (xs : List (List Int)) : ∀ m, (marksOf xs m).length = xs.length := by
  induction xs with
  | nil => intro m; rfl
  | cons x xs ih => intro m; simp [marksOf, ih]
theorem heldss (Y : List (List Int)) (n : Nat) (hY : Y.length = n) (hn : n ≤ 1048576) : ∀ i, i ≤ n → ∀ (zs : List (List Int)) (q : Int), Y.drop i = marksOf zs q → 0 ≤ q → q + total zs ≤ 1048576 →
    Ev (fun k => laws_heldIntSS.l0 k Y q (i : Int)) (q + total zs) := by
  refine G.down_ind n (fun i => ∀ (zs : List (List Int)) (q : Int), Y.drop i = marksOf zs q → 0 ≤ q → q + total zs ≤ 1048576 → Ev (fun k => laws_heldIntSS.l0 k Y q (i : Int)) (q + total zs)) ?_ ?_
  · intro zs q he h0 h1
    rw [List.drop_of_length_le (by omega)] at he
    obtain rfl : zs = [] := by
      cases zs with
      | nil => rfl
      | cons z zs => cases he
    refine G.succ (G.now fun k => ?_)
    simp only [laws_heldIntSS.l0]
    rw [if_neg (by omega)]; simp [total]
  · intro i hi ih zs q he h0 h1
    have hix : i < Y.length := by omega
    rw [List.drop_eq_getElem_cons hix] at he
    cases zs with
    | nil => cases he
    | cons z zs =>
      simp only [marksOf, List.cons.injEq] at he
      obtain ⟨e1, e2⟩ := he
      rw [total_cons] at h1
      refine G.succ ?_
      simp only [laws_heldIntSS.l0, rdL1 hix, e1, G.w64 i (by omega)]
      refine G.pos (by omega) (G.pos (by omega) (G.bind (laws_heldIntS_ev q z.length h0 (by omega) (by omega)) (G.neg (by omega) ?_)))
      refine G.eqv (ih zs (q + z.length) e2 (by omega) (by omega)) ?_
      rw [total_cons]; omega
theorem heldss_ev (xs : List (List Int)) (m : Int) (hn : xs.length ≤ 1048576) (h0 : 0 ≤ m) (h1 : m + total xs ≤ 1048576) : Ev (fun k => laws_heldIntSS.f k (marksOf xs m) m) (m + total xs) :=
  heldss (marksOf xs m) xs.length (marksOf_length xs m) hn 0 (Nat.zero_le _) xs m rfl h0 h1
theorem line_all (ax ay sx sy : Int) (n : Nat) : ∀ x y e, (∀ l ∈ line ax ay sx sy n x y e, l.length ≤ 1048576) ∧ total (line ax ay sx sy n x y e) = 2 * (n + 1) := by
  induction n with
  | zero => intro x y e; simp [line, total]
  | succ n ih =>
    intro x y e
    obtain ⟨h1, h2⟩ := ih (if 2 * e > -ay then x + sx else x) (if 2 * e < ax then y + sy else y) ((if 2 * e > -ay then e - ay else e) + (if 2 * e < ax then ax else 0))
    refine ⟨?_, ?_⟩
    · intro l hl
      rcases List.mem_cons.1 hl with rfl | hl
      · simp
      · exact h1 l hl
    · rw [line, total_cons, h2]; simp; omega
theorem FnExactLineCells : laws_FnExactLineCells.Pure := by
  intro x1 y1 x2 y2 _ _ _ _
  refine Ev.rounds ?_
  obtain ⟨h1, h2⟩ := lines_is x1 y1 x2 y2
  have key : ∃ L, (∀ l ∈ L, l.length ≤ 1048576) ∧ L.length ≤ 100000 ∧ total L ≤ 100000 ∧ (if big x1 ∧ big y1 ∧ big x2 ∧ big y2 then lineOf x1 y1 x2 y2 else []) = L := by
    by_cases h : big x1 ∧ big y1 ∧ big x2 ∧ big y2
    · rw [if_pos h]
      obtain ⟨b1, b2, b3, b4⟩ := h
      obtain ⟨a0, s1, d1, m1⟩ := absv_is (x2 - x1)
      obtain ⟨b0, s2, d2, m2⟩ := absv_is (y2 - y1)
      have q1 := m1 2000 (by unfold big at b1 b3; omega) (by unfold big at b1 b3; omega)
      have q2 := m2 2000 (by unfold big at b2 b4; omega) (by unfold big at b2 b4; omega)
      have ha := line_all (absv (x2 - x1)) (absv (y2 - y1)) (sgnv (x2 - x1)) (sgnv (y2 - y1)) (max (absv (x2 - x1)) (absv (y2 - y1))).toNat x1 y1 (absv (x2 - x1) - absv (y2 - y1))
      have hl := line_length (absv (x2 - x1)) (absv (y2 - y1)) (sgnv (x2 - x1)) (sgnv (y2 - y1)) (max (absv (x2 - x1)) (absv (y2 - y1))).toNat x1 y1 (absv (x2 - x1) - absv (y2 - y1))
      refine ⟨lineOf x1 y1 x2 y2, ha.1, ?_, ?_, rfl⟩
      · unfold lineOf; rw [hl]; omega
      · unfold lineOf; rw [ha.2]; omega
    · rw [if_neg h]
      exact ⟨[], by simp, by simp, by simp [total], rfl⟩
  obtain ⟨L, hx, hl, ht, e⟩ := key
  rw [e] at h1 h2
  simp only [laws_FnExactLineCells.f]
  refine G.bind h1 (G.bind h2 (G.bind (eqss_refl L (by omega) hx) (G.pos rfl (G.bind (markss_ev L 1 (by omega) (by omega) (by omega)) (G.bind (heldss_ev L 1 (by omega) (by omega) (by omega)) (G.neg (by omega) (G.pos rfl ?_)))))))
  exact G.bind h2 (G.bind (eqss_refl L (by omega) hx) (G.pos rfl (G.bind (heldss_ev L 1 (by omega) (by omega) (by omega)) (G.neg (by omega) (G.pos rfl (G.now fun _ => rfl))))))

end Go.Proofs.Ytgkjnocjdonjdaa.Pure
