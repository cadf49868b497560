/- For all arguments the printed law Counts answers true: plain lists and numbers, no memory. Conditions: none beyond what the program's own guards ask. -/
import Derived.Test.YtgkjnocjdonjdaaRFnCountsx10
import Derived.Test.YtgkjnocjdonjdaaG
namespace Go.Proofs.Ytgkjnocjdonjdaa.Pure
open Go.RowKit Go.Proofs.Ytgkjnocjdonjdaa.PFnCounts Go.Proofs.YtgkjnocjdonjdaaW.PrintWords Go.Proofs.YtgkjnocjdonjdaaW.PrintLast
set_option linter.unusedVariables false
set_option linter.unusedSimpArgs false


theorem sized_is (a : Int) (n : Nat) (hn : n ≤ 1048576) : ∃ b, spec_l12Sized.f a n = some b ∧ impl_squared.f a n = some b := by
  unfold spec_l12Sized.f impl_squared.f
  by_cases h1 : a ≥ 1
  · rw [if_pos h1, if_pos h1]
    by_cases h2 : a ≤ 16
    · rw [if_pos h2, if_pos h2, if_neg (show ¬ a = 0 by omega), if_neg (show ¬ a = 0 by omega), Int.tmod_eq_emod_of_nonneg (by omega), Int.tdiv_eq_ediv_of_nonneg (by omega)]
      have hd : 0 ≤ (n : Int) / a := Int.ediv_nonneg (by omega) (by omega)
      have hm := Int.emod_add_mul_ediv (n : Int) a
      have hlt := Int.emod_lt_of_pos (n : Int) (show 0 < a by omega)
      have hm0 := Int.emod_nonneg (n : Int) (show a ≠ 0 by omega)
      by_cases h4 : (n : Int) % a = 0
      · by_cases h3 : (n : Int) ≥ a
        · rw [if_pos h3, if_pos h4, if_pos h4]
          have hq : (n : Int) / a ≥ 1 := Int.le_ediv_of_mul_le (by omega) (by omega)
          have h5 : (n : Int) / a ≤ n := Int.ediv_le_self _ (by omega)
          rw [G.w64' (by omega) (by omega), if_pos hq]; exact ⟨_, rfl, rfl⟩
        · rw [if_neg h3, if_pos h4]
          have hq : (n : Int) / a = 0 := Int.ediv_eq_zero_of_lt (by omega) (by omega)
          rw [hq, G.w64' (by omega) (by omega), if_neg (by omega)]; exact ⟨_, rfl, rfl⟩
      · rw [if_neg h4, if_neg h4]; exact ⟨false, by split <;> rfl, rfl⟩
    · rw [if_neg h2, if_neg h2]; exact ⟨_, rfl, rfl⟩
  · rw [if_neg h1, if_neg h1]; exact ⟨_, rfl, rfl⟩
def okn (n : Int) : Bool := decide (0 ≤ n ∧ n ≤ 1000000)
theorem nbody (n : Int) {α : Type} (x y : α) : (if okn n = true then x else y) = if n < 0 then y else if n > 1000000 then y else x := by
  unfold okn
  by_cases h1 : n < 0
  · rw [if_pos h1, if_neg (by simp; omega)]
  · rw [if_neg h1]
    by_cases h2 : n > 1000000
    · rw [if_pos h2, if_neg (by simp; omega)]
    · rw [if_neg h2, if_pos (by simp; omega)]
theorem counts_spec_l0 (a : Int) (l m : List Int) (hl : l.length ≤ 1048576) (hm : m.length = l.length) : ∀ i, i ≤ l.length → Ev (fun k => spec_GoodCounts.l0 k l.length (i : Int) a l m) ((l.drop i).all okn && (m.drop i).all okn) := by
  refine G.down_ind l.length (fun i => Ev (fun k => spec_GoodCounts.l0 k l.length (i : Int) a l m) ((l.drop i).all okn && (m.drop i).all okn)) ?_ ?_
  · refine G.succ (G.now fun k => ?_)
    simp only [spec_GoodCounts.l0]; rw [if_neg (by omega), List.drop_eq_nil_of_le (by omega), List.drop_eq_nil_of_le (by omega)]; rfl
  · intro i hi ih
    refine G.succ ?_
    simp only [spec_GoodCounts.l0, ← nbody]
    refine G.pos (by omega) (G.pos (by omega) (G.pos (by omega) ?_))
    rw [G.rd_nat hi, G.rd_nat (l := m) (by omega), List.drop_eq_getElem_cons hi, List.drop_eq_getElem_cons (l := m) (by omega), List.all_cons, List.all_cons, G.w64 _ (by omega)]
    refine G.ite (fun h1 => G.pos (by omega) (G.ite (fun h2 => ?_) (fun h2 => G.now fun _ => ?_))) (fun h1 => G.now fun _ => ?_)
    · rw [h1, h2]; simpa using ih
    · simp only [Bool.not_eq_true] at h2; rw [h2]; simp
    · simp only [Bool.not_eq_true] at h1; rw [h1]; simp
theorem counts_impl_l1 (L : List (List Int)) (n j : Int) (l : List Int) (hl : l.length ≤ 1048576) (b : Bool) (h : Ev (fun k => impl_GoodCounts.l0 k L n (wrap64 (j + 1))) b) : ∀ i, i ≤ l.length → Ev (fun k => impl_GoodCounts.l1 k L n j l l.length (i : Int)) ((l.drop i).all okn && b) := by
  refine G.down_ind l.length (fun i => Ev (fun k => impl_GoodCounts.l1 k L n j l l.length (i : Int)) ((l.drop i).all okn && b)) ?_ ?_
  · refine G.succ ?_
    simp only [impl_GoodCounts.l1]; refine G.neg (by omega) ?_; rw [List.drop_eq_nil_of_le (by omega)]; simpa using h
  · intro i hi ih
    refine G.succ ?_
    simp only [impl_GoodCounts.l1, ← nbody]
    refine G.pos (by omega) (G.pos (by omega) (G.pos (by omega) ?_))
    rw [G.rd_nat hi, List.drop_eq_getElem_cons hi, List.all_cons, G.w64 _ (by omega)]
    refine G.ite (fun h1 => ?_) (fun h1 => G.now fun _ => ?_)
    · rw [h1]; simpa using ih
    · simp only [Bool.not_eq_true] at h1; rw [h1]; simp
theorem counts_impl_l0 (l m : List Int) (hl : l.length ≤ 1048576) (hm : m.length ≤ 1048576) : Ev (fun k => impl_GoodCounts.l0 k [l, m] 2 0) (l.all okn && m.all okn) := by
  have h2 : Ev (fun k => impl_GoodCounts.l0 k [l, m] 2 (wrap64 (1 + 1))) true := by
    refine G.succ (G.now fun k => ?_)
    simp only [impl_GoodCounts.l0]; rw [G.w64' (by omega) (by omega), if_neg (by omega)]
  have h1 : Ev (fun k => impl_GoodCounts.l0 k [l, m] 2 (wrap64 (0 + 1))) (m.all okn && true) := by
    rw [G.w64' (by omega) (by omega)]
    refine G.succ ?_
    simp only [impl_GoodCounts.l0]
    refine G.pos (by omega) (G.pos (by omega) (G.pos (by simp) ?_))
    exact counts_impl_l1 [l, m] 2 1 m hm true h2 0 (Nat.zero_le _)
  refine G.succ ?_
  simp only [impl_GoodCounts.l0]
  refine G.pos (by omega) (G.pos (by omega) (G.pos (by simp) ?_))
  refine G.eqv (counts_impl_l1 [l, m] 2 0 l hl _ h1 0 (Nat.zero_le _)) ?_
  simp
theorem goodcounts_is (a : Int) (l m : List Int) (hl : l.length ≤ 1048576) (hm : m.length ≤ 1048576) : ∃ r, Ev (fun k => spec_GoodCounts.f k a l m) r ∧ Ev (fun k => impl_GoodCounts.f k a l m) r ∧ (r = true → m.length = l.length) := by
  obtain ⟨b, h1, h2⟩ := sized_is a l.length hl
  have js : Ev (fun k => spec_GoodCounts.j0 k true a l m) false := G.succ (G.now fun k => by simp [spec_GoodCounts.j0])
  have ji : Ev (fun k => impl_GoodCounts.j0 k true a l m) false := G.succ (G.now fun k => by simp [impl_GoodCounts.j0])
  simp only [spec_GoodCounts.f, impl_GoodCounts.f]
  cases b with
  | false => exact ⟨false, G.bind0 h1 (G.neg (by simp) js), G.bind0 h2 (G.neg (by simp) ji), by simp⟩
  | true =>
    by_cases he : m.length = l.length
    · have e1 : ((m.length : Int) != (l.length : Int)) = false := by rw [he]; simp
      refine ⟨l.all okn && m.all okn, G.bind0 h1 (G.pos rfl ?_), G.bind0 h2 (G.pos rfl ?_), fun _ => he⟩
      · rw [e1]; refine G.succ ?_
        simp only [spec_GoodCounts.j0]
        exact G.neg (by simp) (counts_spec_l0 a l m hl he 0 (Nat.zero_le _))
      · rw [e1]; refine G.succ ?_
        simp only [impl_GoodCounts.j0]
        exact G.neg (by simp) (G.bind0 rfl (counts_impl_l0 l m hl hm))
    · have e1 : ((m.length : Int) != (l.length : Int)) = true := by simp; omega
      refine ⟨false, G.bind0 h1 (G.pos rfl ?_), G.bind0 h2 (G.pos rfl ?_), by simp⟩
      · rw [e1]; exact js
      · rw [e1]; exact ji
/-- The cells of a line from (x, y) on, n rounds before its end. -/
def line (ax ay sx sy : Int) : Nat → Int → Int → Int → List (List Int)
  | 0, x, y, _ => [[x, y]]
  | n + 1, x, y, e => [x, y] :: line ax ay sx sy n (if 2 * e > -ay then x + sx else x) (if 2 * e < ax then y + sy else y) ((if 2 * e > -ay then e - ay else e) + (if 2 * e < ax then ax else 0))
theorem line_length (ax ay sx sy : Int) (n : Nat) : ∀ x y e, (line ax ay sx sy n x y e).length = n + 1 := by
  induction n with
  | zero => intro x y e; rfl
  | succ n ih => intro x y e; simp [line, ih]
/-- How far a line still has to go: n rounds; its longer side goes on in each. -/
def Inv (x2 y2 ax ay sx sy : Int) (n : Nat) (x y e : Int) : Prop :=
  (ay ≤ ax ∧ (n : Int) ≤ ax ∧ ∃ m : Int, x2 - x = sx * n ∧ y2 - y = sy * m ∧ e = ax - ay + n * ay - m * ax ∧ (ax = 0 → m = 0) ∧ (1 ≤ ax → -ay < 2 * e ∧ 2 * e < 3 * ax - 2 * ay)) ∨
  (ax < ay ∧ (n : Int) ≤ ay ∧ ∃ m : Int, y2 - y = sy * n ∧ x2 - x = sx * m ∧ e = ax - ay + m * ay - n * ax ∧ 2 * e < ax ∧ 2 * ax - 3 * ay < 2 * e)
theorem inv_step {x2 y2 ax ay sx sy : Int} {n : Nat} {x y e : Int} (hx : 0 ≤ ax) (hy : 0 ≤ ay) (h : Inv x2 y2 ax ay sx sy (n + 1) x y e) :
    Inv x2 y2 ax ay sx sy n (if 2 * e > -ay then x + sx else x) (if 2 * e < ax then y + sy else y) ((if 2 * e > -ay then e - ay else e) + (if 2 * e < ax then ax else 0)) := by
  rcases h with ⟨h1, h2, m, h3, h4, h5, h6, h7⟩ | ⟨h1, h2, m, h3, h4, h5, h6, h7⟩
  · have hp : 1 ≤ ax := by omega
    obtain ⟨b1, b2⟩ := h7 hp
    have en : ((n + 1 : Nat) : Int) * ay = n * ay + ay := by rw [Int.natCast_add, Int.add_mul]; simp
    have ex : sx * ((n + 1 : Nat) : Int) = sx * n + sx := by rw [Int.natCast_add, Int.mul_add]; simp
    have c1 : 2 * e > -ay := b1
    rw [if_pos c1, if_pos c1]
    by_cases c2 : 2 * e < ax
    · rw [if_pos c2, if_pos c2]
      refine .inl ⟨h1, by omega, m - 1, by omega, ?_, ?_, by omega, fun _ => by omega⟩
      · rw [Int.mul_sub]; omega
      · rw [Int.sub_mul]; omega
    · rw [if_neg c2, if_neg c2]
      refine .inl ⟨h1, by omega, m, by omega, h4, by omega, by omega, fun _ => by omega⟩
  · have en : ((n + 1 : Nat) : Int) * ax = n * ax + ax := by rw [Int.natCast_add, Int.add_mul]; simp
    have ey : sy * ((n + 1 : Nat) : Int) = sy * n + sy := by rw [Int.natCast_add, Int.mul_add]; simp
    rw [if_pos h6, if_pos h6]
    by_cases c1 : 2 * e > -ay
    · rw [if_pos c1, if_pos c1]
      refine .inr ⟨h1, by omega, m - 1, by omega, ?_, ?_, by omega, by omega⟩
      · rw [Int.mul_sub]; omega
      · rw [Int.sub_mul]; omega
    · rw [if_neg c1, if_neg c1]
      refine .inr ⟨h1, by omega, m, by omega, h4, by omega, by omega, by omega⟩
theorem mul_neg_le {m a : Int} (ha : 1 ≤ a) (hm : m ≤ -1) : m * a ≤ -a := by
  have := Int.mul_le_mul_of_nonneg_right hm (show 0 ≤ a by omega)
  omega
theorem mul_pos_le {m a : Int} (ha : 1 ≤ a) (hm : 1 ≤ m) : a ≤ m * a := by
  have := Int.mul_le_mul_of_nonneg_right hm (show 0 ≤ a by omega)
  omega
theorem inv_end {x2 y2 ax ay sx sy x y e : Int} (hx : 0 ≤ ax) (hy : 0 ≤ ay) (h : Inv x2 y2 ax ay sx sy 0 x y e) : x = x2 ∧ y = y2 := by
  rcases h with ⟨h1, h2, m, h3, h4, h5, h6, h7⟩ | ⟨h1, h2, m, h3, h4, h5, h6, h7⟩
  · have hm : m = 0 := by
      by_cases h0 : ax = 0
      · exact h6 h0
      · obtain ⟨b1, b2⟩ := h7 (by omega)
        simp at h5
        rcases Int.lt_trichotomy m 0 with hm | hm | hm
        · have := mul_neg_le (show 1 ≤ ax by omega) (show m ≤ -1 by omega); omega
        · exact hm
        · have := mul_pos_le (show 1 ≤ ax by omega) (show 1 ≤ m by omega); omega
    rw [hm] at h4
    simp at h3 h4
    omega
  · have hm : m = 0 := by
      simp at h5
      rcases Int.lt_trichotomy m 0 with hm | hm | hm
      · have := mul_neg_le (show 1 ≤ ay by omega) (show m ≤ -1 by omega); omega
      · exact hm
      · have := mul_pos_le (show 1 ≤ ay by omega) (show 1 ≤ m by omega); omega
    rw [hm] at h4
    simp at h3 h4
    omega
/-- Between its ends. -/
theorem inv_between {x2 y2 ax ay sx sy : Int} {n : Nat} {x y e : Int} (hx : 0 ≤ ax) (hy : 0 ≤ ay) (h : Inv x2 y2 ax ay sx sy n x y e) : ∃ p q : Int, x2 - x = sx * p ∧ y2 - y = sy * q ∧ 0 ≤ p ∧ p ≤ ax ∧ 0 ≤ q ∧ q ≤ ay := by
  rcases h with ⟨h1, h2, m, h3, h4, h5, h6, h7⟩ | ⟨h1, h2, m, h3, h4, h5, h6, h7⟩
  · refine ⟨n, m, h3, h4, by omega, h2, ?_⟩
    by_cases h0 : ax = 0
    · have := h6 h0; omega
    · obtain ⟨b1, b2⟩ := h7 (by omega)
      have hn : 0 ≤ (n : Int) * ay := Int.mul_nonneg (by omega) hy
      have hn2 : (n : Int) * ay ≤ ax * ay := Int.mul_le_mul_of_nonneg_right h2 hy
      constructor
      · rcases Int.lt_or_le m 0 with hm | hm
        · have := mul_neg_le (show 1 ≤ ax by omega) (show m ≤ -1 by omega); omega
        · exact hm
      · rcases Int.lt_or_le ay m with hm | hm
        · have := Int.mul_le_mul_of_nonneg_right (show ay + 1 ≤ m by omega) hx
          rw [Int.add_mul, Int.mul_comm ay ax] at this
          omega
        · exact hm
  · refine ⟨m, n, h4, h3, ?_, ?_, by omega, h2⟩
    all_goals
      have hn : 0 ≤ (n : Int) * ax := Int.mul_nonneg (by omega) hx
      have hn2 : (n : Int) * ax ≤ ay * ax := Int.mul_le_mul_of_nonneg_right h2 hx
    · rcases Int.lt_or_le m 0 with hm | hm
      · have := mul_neg_le (show 1 ≤ ay by omega) (show m ≤ -1 by omega); omega
      · exact hm
    · rcases Int.lt_or_le ax m with hm | hm
      · have := Int.mul_le_mul_of_nonneg_right (show ax + 1 ≤ m by omega) hy
        rw [Int.add_mul, Int.mul_comm ax ay] at this
        omega
      · exact hm
theorem inv_go {x2 y2 ax ay sx sy : Int} {n : Nat} {x y e : Int} (s1 : sx = 1 ∨ sx = -1) (s2 : sy = 1 ∨ sy = -1) (h : Inv x2 y2 ax ay sx sy (n + 1) x y e) : ¬ (x = x2 ∧ y = y2) := by
  rintro ⟨rfl, rfl⟩
  rcases h with ⟨h1, h2, m, h3, h4, _⟩ | ⟨h1, h2, m, h3, h4, _⟩
  · rcases s1 with rfl | rfl <;> omega
  · rcases s2 with rfl | rfl <;> omega
theorem inv_e {x2 y2 ax ay sx sy : Int} {n : Nat} {x y e : Int} (hx : 0 ≤ ax) (hx' : ax ≤ 2000) (hy : 0 ≤ ay) (hy' : ay ≤ 2000) (h : Inv x2 y2 ax ay sx sy (n + 1) x y e) : -10000 ≤ e ∧ e ≤ 10000 := by
  rcases h with ⟨h1, h2, m, h3, h4, h5, h6, h7⟩ | ⟨h1, h2, m, h3, h4, h5, h6, h7⟩
  · have := h7 (by omega); omega
  · omega
theorem line_loop (x2 y2 ax ay sx sy : Int) (bx : -1000 ≤ x2 ∧ x2 ≤ 1000) (by_ : -1000 ≤ y2 ∧ y2 ≤ 1000) (hx : 0 ≤ ax) (hx' : ax ≤ 2000) (hy : 0 ≤ ay) (hy' : ay ≤ 2000) (s1 : sx = 1 ∨ sx = -1) (s2 : sy = 1 ∨ sy = -1) (n : Nat) :
    ∀ x y e out, Inv x2 y2 ax ay sx sy n x y e → out.length + n ≤ 3000 → Ev (fun k => spec_LineCells.l0 k x y x2 y2 ax ay sx sy e out) (out ++ line ax ay sx sy n x y e) ∧ Ev (fun k => impl_LineCells.l1 k x2 y2 ax sx ay sy e out x y) (out ++ line ax ay sx sy n x y e) := by
  induction n with
  | zero =>
    intro x y e out h ho
    obtain ⟨rfl, rfl⟩ := inv_end hx hy h
    constructor
    · refine G.succ ?_
      simp only [spec_LineCells.l0]
      refine G.pos (by omega) (G.bind0 rfl (G.pos trivial ?_))
      rw [beq_self_eq_true]
      refine G.succ ?_
      simp only [spec_LineCells.j4]
      exact G.pos trivial (G.now fun _ => rfl)
    · refine G.succ ?_
      simp only [impl_LineCells.l1]
      refine G.pos (by omega) (G.bind0 rfl (G.pos trivial ?_))
      rw [beq_self_eq_true]
      refine G.succ ?_
      simp only [impl_LineCells.j2]
      exact G.pos trivial (G.now fun _ => rfl)
  | succ n ih =>
    intro x y e out h ho
    have hg := inv_go s1 s2 h
    obtain ⟨e0, e1⟩ := inv_e hx hx' hy hy' h
    obtain ⟨p, q, hp, hq, p0, p1, q0, q1⟩ := inv_between hx hy h
    have hxx : -4000 ≤ x ∧ x ≤ 4000 := by rcases s1 with rfl | rfl <;> omega
    have hyy : -4000 ≤ y ∧ y ≤ 4000 := by rcases s2 with rfl | rfl <;> omega
    have w1 : wrap64 (2 * e) = 2 * e := G.w64' (by omega) (by omega)
    have w2 : wrap64 (-ay) = -ay := G.wneg (by omega) (by omega)
    have w3 : wrap64 (x + sx) = x + sx := G.w64' (by rcases s1 with rfl | rfl <;> omega) (by rcases s1 with rfl | rfl <;> omega)
    have w4 : wrap64 (y + sy) = y + sy := G.w64' (by rcases s2 with rfl | rfl <;> omega) (by rcases s2 with rfl | rfl <;> omega)
    have w5 : wrap64 (e - ay) = e - ay := G.w64' (by omega) (by omega)
    have w6 : wrap64 (e + ax) = e + ax := G.w64' (by omega) (by omega)
    have w7 : wrap64 (e - ay + ax) = e - ay + ax := G.w64' (by omega) (by omega)
    obtain ⟨i1, i2⟩ := ih _ _ _ (out ++ [[x, y]]) (inv_step hx hy h) (by simp; omega)
    rw [List.append_assoc] at i1 i2
    have hl : out ++ line ax ay sx sy (n + 1) x y e = out ++ ([[x, y]] ++ line ax ay sx sy n (if 2 * e > -ay then x + sx else x) (if 2 * e < ax then y + sy else y) ((if 2 * e > -ay then e - ay else e) + (if 2 * e < ax then ax else 0))) := rfl
    rw [hl]
    constructor
    · have j4 (b : Bool) (hb : b = false) : Ev (fun k => spec_LineCells.j4 k x y x2 y2 ax ay sx sy e (out ++ [[x, y]]) b) (out ++ ([[x, y]] ++ line ax ay sx sy n (if 2 * e > -ay then x + sx else x) (if 2 * e < ax then y + sy else y) ((if 2 * e > -ay then e - ay else e) + (if 2 * e < ax then ax else 0)))) := by
        refine G.succ ?_
        simp only [spec_LineCells.j4, w1, w2, w3, w4, w5, w6, w7]
        refine G.neg (by simp [hb]) ?_
        by_cases c1 : 2 * e > -ay <;> by_cases c2 : 2 * e < ax <;> simp only [c1, c2, if_true, if_false, Int.add_zero] at i1 ⊢ <;> exact i1
      refine G.succ ?_
      simp only [spec_LineCells.l0]
      refine G.pos (by omega) (G.bind0 rfl (G.ite (fun c => j4 _ ?_) (fun c => j4 _ rfl)))
      have : ¬ y = y2 := fun c' => hg ⟨c, c'⟩
      simp [this]
    · have j2 (b : Bool) (hb : b = false) : Ev (fun k => impl_LineCells.j2 k x2 y2 ax sx ay sy e (out ++ [[x, y]]) x y b) (out ++ ([[x, y]] ++ line ax ay sx sy n (if 2 * e > -ay then x + sx else x) (if 2 * e < ax then y + sy else y) ((if 2 * e > -ay then e - ay else e) + (if 2 * e < ax then ax else 0)))) := by
        refine G.succ ?_
        simp only [impl_LineCells.j2, w1, w2, w3, w4, w5, w6, w7]
        refine G.neg (by simp [hb]) ?_
        by_cases c1 : 2 * e > -ay <;> by_cases c2 : 2 * e < ax <;> simp only [c1, c2, if_true, if_false, Int.add_zero] at i2 ⊢ <;> exact i2
      refine G.succ ?_
      simp only [impl_LineCells.l1]
      refine G.pos (by omega) (G.bind0 rfl (G.ite (fun c => j2 _ ?_) (fun c => j2 _ rfl)))
      have : ¬ y = y2 := fun c' => hg ⟨c, c'⟩
      simp [this]
/-- The size of a number, and its sign. -/
def absv (d : Int) : Int := if d < 0 then -d else d
def sgnv (d : Int) : Int := if d < 0 then -1 else 1
theorem absv_is (d : Int) : 0 ≤ absv d ∧ (sgnv d = 1 ∨ sgnv d = -1) ∧ d = sgnv d * absv d ∧ (∀ b : Int, -b ≤ d → d ≤ b → absv d ≤ b) := by
  unfold absv sgnv
  by_cases h : d < 0
  · simp only [if_pos h]; exact ⟨by omega, .inr trivial, by omega, fun b _ _ => by omega⟩
  · simp only [if_neg h]; exact ⟨by omega, .inl trivial, by omega, fun b _ _ => by omega⟩
theorem abs_s (d : Int) (h0 : -9000 ≤ d) (h1 : d ≤ 9000) : spec_l4Abs.f d = some (absv d) := by
  unfold spec_l4Abs.f absv
  rw [G.wneg (by omega) (by omega)]; split <;> rfl
theorem abs_i (d : Int) (h0 : -9000 ≤ d) (h1 : d ≤ 9000) : impl_LineCells_1.f d = some (absv d, sgnv d) := by
  unfold impl_LineCells_1.f absv sgnv
  rw [G.wneg (by omega) (by omega)]; split <;> rfl
def big (a : Int) : Prop := -1000 ≤ a ∧ a ≤ 1000
instance (a : Int) : Decidable (big a) := by unfold big; infer_instance
theorem in_s (a : Int) : spec_l12In.f a = some (decide (big a)) := by
  unfold spec_l12In.f; rw [G.nest]; congr 1; rw [Bool.eq_iff_iff]; simp only [Bool.and_eq_true, decide_eq_true_eq]; exact Iff.rfl
theorem in_i (a : Int) : impl_within.f a 1000 = some (decide (big a)) := by
  unfold impl_within.f; rw [G.wneg (by omega) (by omega), G.nest]; congr 1; rw [Bool.eq_iff_iff]; simp only [Bool.and_eq_true, decide_eq_true_eq]; exact Iff.rfl
/-- What both tell: the line, or nothing beyond the bounds. -/
def lineOf (x1 y1 x2 y2 : Int) : List (List Int) :=
  line (absv (x2 - x1)) (absv (y2 - y1)) (sgnv (x2 - x1)) (sgnv (y2 - y1)) (max (absv (x2 - x1)) (absv (y2 - y1))).toNat x1 y1 (absv (x2 - x1) - absv (y2 - y1))
theorem inv_start (x1 y1 x2 y2 : Int) : Inv x2 y2 (absv (x2 - x1)) (absv (y2 - y1)) (sgnv (x2 - x1)) (sgnv (y2 - y1)) (max (absv (x2 - x1)) (absv (y2 - y1))).toNat x1 y1 (absv (x2 - x1) - absv (y2 - y1)) := by
  obtain ⟨a0, s1, d1, _⟩ := absv_is (x2 - x1)
  obtain ⟨b0, s2, d2, _⟩ := absv_is (y2 - y1)
  generalize absv (x2 - x1) = ax at *
  generalize absv (y2 - y1) = ay at *
  by_cases h : ay ≤ ax
  · have e : ((max ax ay).toNat : Int) = ax := by omega
    refine .inl ⟨h, by omega, ay, by rw [e]; exact d1, d2, ?_, by omega, fun _ => by omega⟩
    rw [e, Int.mul_comm ay ax]; omega
  · have e : ((max ax ay).toNat : Int) = ay := by omega
    refine .inr ⟨by omega, by omega, ax, by rw [e]; exact d2, d1, ?_, by omega, by omega⟩
    rw [e, Int.mul_comm ay ax]; omega
theorem lines_is (x1 y1 x2 y2 : Int) : Ev (fun k => spec_LineCells.f k x1 y1 x2 y2) (if big x1 ∧ big y1 ∧ big x2 ∧ big y2 then lineOf x1 y1 x2 y2 else []) ∧ Ev (fun k => impl_LineCells.f k x1 y1 x2 y2) (if big x1 ∧ big y1 ∧ big x2 ∧ big y2 then lineOf x1 y1 x2 y2 else []) := by
  have no : Ev (fun k => spec_LineCells.j0 k x1 y1 x2 y2 true) [] := G.succ (G.now fun k => by simp [spec_LineCells.j0])
  simp only [spec_LineCells.f, impl_LineCells.f]
  have r0 : rd [x1, y1, x2, y2] 0 = x1 := rfl
  have st (i : Nat) (hi : i < 4) (a : Int) (ha : rd [x1, y1, x2, y2] (i : Int) = a) {r : List (List Int)} (h1 : ¬ big a → r = []) (h2 : big a → Ev (fun k => impl_LineCells.l0 k x1 y1 x2 y2 [x1, y1, x2, y2] 4 ((i + 1 : Nat) : Int)) r) : Ev (fun k => impl_LineCells.l0 k x1 y1 x2 y2 [x1, y1, x2, y2] 4 (i : Int)) r := by
    refine G.succ ?_
    simp only [impl_LineCells.l0, ha, in_i, G.w64 i (by omega)]
    refine G.pos (by omega) (G.pos (by omega) (G.pos (by simp; omega) (G.bind0 rfl ?_)))
    by_cases hb : big a
    · exact G.pos (by simp [hb]) (h2 hb)
    · exact G.neg (by simp [hb]) (G.now fun _ => by rw [h1 hb])
  have hl : (([x1, y1, x2, y2] : List Int).length : Int) = 4 := rfl
  by_cases h : big x1 ∧ big y1 ∧ big x2 ∧ big y2
  · rw [if_pos h]
    obtain ⟨h1, h2, h3, h4⟩ := h
    obtain ⟨a0, s1, d1, m1⟩ := absv_is (x2 - x1)
    obtain ⟨b0, s2, d2, m2⟩ := absv_is (y2 - y1)
    have q1 := m1 2000 (by unfold big at h1 h3; omega) (by unfold big at h1 h3; omega)
    have q2 := m2 2000 (by unfold big at h2 h4; omega) (by unfold big at h2 h4; omega)
    obtain ⟨g1, g2⟩ := line_loop x2 y2 _ _ _ _ h3 h4 a0 q1 b0 q2 s1 s2 _ x1 y1 _ [] (inv_start x1 y1 x2 y2) (by simp; omega)
    have wx : wrap64 (x2 - x1) = x2 - x1 := G.w64' (by unfold big at h1 h3; omega) (by unfold big at h1 h3; omega)
    have wy : wrap64 (y2 - y1) = y2 - y1 := G.w64' (by unfold big at h2 h4; omega) (by unfold big at h2 h4; omega)
    have we : wrap64 (absv (x2 - x1) - absv (y2 - y1)) = absv (x2 - x1) - absv (y2 - y1) := G.w64' (by omega) (by omega)
    have ax1 := abs_s (x2 - x1) (by unfold big at h1 h3; omega) (by unfold big at h1 h3; omega)
    have ay1 := abs_s (y2 - y1) (by unfold big at h2 h4; omega) (by unfold big at h2 h4; omega)
    have ax2 := abs_i (x2 - x1) (by unfold big at h1 h3; omega) (by unfold big at h1 h3; omega)
    have ay2 := abs_i (y2 - y1) (by unfold big at h2 h4; omega) (by unfold big at h2 h4; omega)
    constructor
    · refine G.bind0 (in_s x1) (G.pos (by simp [h1]) (G.bind0 (in_s y1) (G.pos (by simp [h2]) (G.bind0 (in_s x2) (G.pos (by simp [h3]) (G.bind0 (in_s y2) ?_))))))
      rw [decide_eq_true h4]
      have j2 : Ev (fun k => spec_LineCells.j2 k x1 y1 x2 y2 (absv (x2 - x1)) (absv (y2 - y1)) (sgnv (x2 - x1)) (sgnv (y2 - y1))) (lineOf x1 y1 x2 y2) := by
        refine G.succ ?_
        simp only [spec_LineCells.j2, we]; exact g1
      have j1 : Ev (fun k => spec_LineCells.j1 k x1 y1 x2 y2 (absv (x2 - x1)) (absv (y2 - y1)) (sgnv (x2 - x1))) (lineOf x1 y1 x2 y2) := by
        refine G.succ ?_
        simp only [spec_LineCells.j1]
        by_cases c : y2 < y1
        · have e : sgnv (y2 - y1) = -1 := if_pos (by omega)
          rw [e] at j2; exact G.pos c j2
        · have e : sgnv (y2 - y1) = 1 := if_neg (by omega)
          rw [e] at j2; exact G.neg c j2
      refine G.succ ?_
      simp only [spec_LineCells.j0, wx, wy]
      refine G.neg (by simp) (G.bind0 ax1 (G.bind0 ay1 ?_))
      by_cases c : x2 < x1
      · have e : sgnv (x2 - x1) = -1 := if_pos (by omega)
        rw [e] at j1; exact G.pos c j1
      · have e : sgnv (x2 - x1) = 1 := if_neg (by omega)
        rw [e] at j1; exact G.neg c j1
    · refine G.bind0 rfl ?_
      simp only [hl]
      refine st 0 (by omega) x1 rfl (fun c => absurd h1 c) fun _ => st 1 (by omega) y1 rfl (fun c => absurd h2 c) fun _ => st 2 (by omega) x2 rfl (fun c => absurd h3 c) fun _ => st 3 (by omega) y2 rfl (fun c => absurd h4 c) fun _ => ?_
      refine G.succ ?_
      simp only [impl_LineCells.l0, wx, wy]
      refine G.neg (by omega) (G.bind0 ax2 (G.bind0 ay2 ?_))
      simp only [we]; exact g2
  · rw [if_neg h]
    constructor
    · by_cases h1 : big x1
      · by_cases h2 : big y1
        · by_cases h3 : big x2
          · have h4 : ¬ big y2 := fun h4 => h ⟨h1, h2, h3, h4⟩
            refine G.bind0 (in_s x1) (G.pos (by simp [h1]) (G.bind0 (in_s y1) (G.pos (by simp [h2]) (G.bind0 (in_s x2) (G.pos (by simp [h3]) (G.bind0 (in_s y2) ?_))))))
            rw [decide_eq_false h4]; exact no
          · exact G.bind0 (in_s x1) (G.pos (by simp [h1]) (G.bind0 (in_s y1) (G.pos (by simp [h2]) (G.bind0 (in_s x2) (G.neg (by simp [h3]) no)))))
        · exact G.bind0 (in_s x1) (G.pos (by simp [h1]) (G.bind0 (in_s y1) (G.neg (by simp [h2]) no)))
      · exact G.bind0 (in_s x1) (G.neg (by simp [h1]) no)
    · refine G.bind0 rfl ?_
      simp only [hl]
      refine st 0 (by omega) x1 rfl (fun _ => rfl) fun h1 => st 1 (by omega) y1 rfl (fun _ => rfl) fun h2 => st 2 (by omega) x2 rfl (fun _ => rfl) fun h3 => st 3 (by omega) y2 rfl (fun _ => rfl) fun h4 => absurd ⟨h1, h2, h3, h4⟩ h
/-! A ray of counts: each cell of its line is one more. -/
def gd (a : Int) (l m : List Int) : Bool := (spec_l12Sized.f a (l.length : Int) == some true) && (decide (m.length = l.length) && (l.all okn && m.all okn))
theorem gd_is (a : Int) (l m : List Int) (hl : l.length ≤ 1048576) (hm : m.length ≤ 1048576) : Ev (fun k => spec_GoodCounts.f k a l m) (gd a l m) ∧ Ev (fun k => impl_GoodCounts.f k a l m) (gd a l m) := by
  obtain ⟨b, h1, h2⟩ := sized_is a l.length hl
  have js : Ev (fun k => spec_GoodCounts.j0 k true a l m) false := G.succ (G.now fun k => by simp [spec_GoodCounts.j0])
  have ji : Ev (fun k => impl_GoodCounts.j0 k true a l m) false := G.succ (G.now fun k => by simp [impl_GoodCounts.j0])
  have e : gd a l m = (((some b : Option Bool) == some true) && (decide (m.length = l.length) && (l.all okn && m.all okn))) := by unfold gd; rw [h1]
  rw [e]
  simp only [spec_GoodCounts.f, impl_GoodCounts.f]
  cases b with
  | false => exact ⟨G.bind0 h1 (G.neg (by simp) js), G.bind0 h2 (G.neg (by simp) ji)⟩
  | true =>
    rw [show ((some true : Option Bool) == some true) = true from rfl, Bool.true_and]
    by_cases he : m.length = l.length
    · have e1 : ((m.length : Int) != (l.length : Int)) = false := by rw [he]; simp
      rw [decide_eq_true he, Bool.true_and]
      refine ⟨G.bind0 h1 (G.pos rfl ?_), G.bind0 h2 (G.pos rfl ?_)⟩
      · rw [e1]; refine G.succ ?_
        simp only [spec_GoodCounts.j0]
        exact G.neg (by simp) (counts_spec_l0 a l m hl he 0 (Nat.zero_le _))
      · rw [e1]; refine G.succ ?_
        simp only [impl_GoodCounts.j0]
        exact G.neg (by simp) (G.bind0 rfl (counts_impl_l0 l m hl hm))
    · have e1 : ((m.length : Int) != (l.length : Int)) = true := by simp; omega
      rw [decide_eq_false he, Bool.false_and]
      refine ⟨G.bind0 h1 (G.pos rfl ?_), G.bind0 h2 (G.pos rfl ?_)⟩
      · rw [e1]; exact js
      · rw [e1]; exact ji
/-- No number of a list is less than 0, or more than c. -/
def Small (c : Int) (l : List Int) : Prop := ∀ j : Int, 0 ≤ rd l j ∧ rd l j ≤ c
theorem small_all {l : List Int} (h : l.all okn = true) : Small 1000000 l := by
  intro j
  unfold rd
  by_cases hj : j.toNat < l.length
  · rw [List.getD_eq_getElem?_getD, List.getElem?_eq_getElem hj]
    have := List.all_eq_true.1 h _ (List.getElem_mem hj)
    simpa [okn] using this
  · rw [List.getD_eq_getElem?_getD, List.getElem?_eq_none (by omega)]; simp
theorem sized_ok {a : Int} {n : Nat} (hn : n ≤ 1048576) (h : spec_l12Sized.f a n = some true) : ∃ H : Nat, 1 ≤ a ∧ a ≤ 16 ∧ (n : Int) = a * H ∧ (n : Int) / a = H ∧ 1 ≤ H ∧ H ≤ 16 := by
  unfold spec_l12Sized.f at h
  by_cases h1 : a ≥ 1
  · rw [if_pos h1] at h
    by_cases h2 : a ≤ 16
    · rw [if_pos h2] at h
      by_cases h3 : (n : Int) ≥ a
      · rw [if_pos h3, if_neg (show ¬ a = 0 by omega), Int.tmod_eq_emod_of_nonneg (by omega), Int.tdiv_eq_ediv_of_nonneg (by omega)] at h
        by_cases h4 : (n : Int) % a = 0
        · rw [if_pos h4] at h
          have hd : 0 ≤ (n : Int) / a := Int.ediv_nonneg (by omega) (by omega)
          have hm := Int.emod_add_mul_ediv (n : Int) a
          have hq : (n : Int) / a ≥ 1 := Int.le_ediv_of_mul_le (by omega) (by omega)
          have h5 : (n : Int) / a ≤ n := Int.ediv_le_self _ (by omega)
          rw [G.w64' (by omega) (by omega)] at h
          simp only [Option.some.injEq, decide_eq_true_eq] at h
          refine ⟨((n : Int) / a).toNat, h1, h2, ?_, ?_, by omega, by omega⟩
          · rw [Int.toNat_of_nonneg hd]; omega
          · rw [Int.toNat_of_nonneg hd]
        · rw [if_neg h4] at h; cases h
      · rw [if_neg h3] at h; cases h
    · rw [if_neg h2] at h; cases h
  · rw [if_neg h1] at h; cases h
theorem gd_facts {a : Int} {l m : List Int} (hl : l.length ≤ 1048576) (h : gd a l m = true) : ∃ H : Nat, 1 ≤ a ∧ a ≤ 16 ∧ (l.length : Int) = a * H ∧ (l.length : Int) / a = H ∧ 1 ≤ H ∧ H ≤ 16 ∧ m.length = l.length ∧ Small 1000000 l ∧ Small 1000000 m := by
  unfold gd at h
  simp only [Bool.and_eq_true, beq_iff_eq, decide_eq_true_eq] at h
  obtain ⟨h1, h2, h3, h4⟩ := h
  obtain ⟨H, q1, q2, q3, q4, q5, q6⟩ := sized_ok hl h1
  exact ⟨H, q1, q2, q3, q4, q5, q6, h2, small_all h3, small_all h4⟩
def cellKey (a : Int) (p : List Int) : Int := rd p 1 * a + rd p 0
def bump (l : List Int) (j : Int) : List Int := l.set j.toNat (rd l j + 1)
def goes (a : Int) (hit : Bool) : List (List Int) → List Int → List Int → List Int × List Int
  | [], l, m => (l, m)
  | p :: ps, l, m => if ps = [] ∧ hit = true then goes a hit ps (bump l (cellKey a p)) m else goes a hit ps l (bump m (cellKey a p))
theorem bump_length (l : List Int) (j : Int) : (bump l j).length = l.length := by simp [bump]
theorem bump_small {c : Int} {l : List Int} (j : Int) (h : Small c l) : Small (c + 1) (bump l j) := by
  intro i
  have hi := h i
  have hj := h j
  unfold bump
  unfold rd at hi hj ⊢
  rw [List.getD_eq_getElem?_getD, List.getElem?_set]
  rw [List.getD_eq_getElem?_getD] at hi hj
  by_cases e : j.toNat = i.toNat
  · rw [if_pos e]
    by_cases hlt : i.toNat < l.length
    · rw [if_pos (by omega)]; simp; omega
    · rw [if_neg (by omega)]; simp; omega
  · rw [if_neg e]; omega
theorem small_up {c d : Int} {l : List Int} (h : Small c l) (hc : c ≤ d) : Small d l := fun j => ⟨(h j).1, Int.le_trans (h j).2 hc⟩
def Pt (a : Int) (N : Nat) (p : List Int) : Prop := p.length = 2 ∧ 0 ≤ rd p 1 * a ∧ rd p 1 * a ≤ 100000 ∧ 0 ≤ rd p 0 ∧ rd p 0 ≤ 100000 ∧ cellKey a p < N
theorem rdLL {l : List (List Int)} {i : Nat} (h : i < l.length) : rd_L1 l (i : Int) = l[i] := by
  unfold rd_L1; exact G.getD_nat h
def fin_ (a : Int) (r : List Int × List Int) : Int × List Int × List Int × Bool := if gd a r.1 r.2 = true then (a, r.1, r.2, true) else (0, [], [], false)
theorem ray_loops (a : Int) (hit : Bool) (L : List (List Int)) (N : Nat) (hN : N ≤ 1048576) (hL : L.length ≤ 100000) (hp : ∀ p ∈ L, Pt a N p) (l0 m0 : List Int) :
    ∀ i, i ≤ L.length → ∀ l m : List Int, l.length = N → m.length = N → Small (1000000 + i) l → Small (1000000 + i) m →
      Ev (fun k => spec_AddRay.l0 k hit L L L.length (i : Int) a l0 m0 a l m) (fin_ a (goes a hit (L.drop i) l m)) ∧ Ev (fun k => impl_AddRay.l0 k hit L L L.length (i : Int) a l0 m0 a l m) (fin_ a (goes a hit (L.drop i) l m)) := by
  refine G.down_ind L.length (fun i => ∀ l m : List Int, l.length = N → m.length = N → Small (1000000 + i) l → Small (1000000 + i) m →
      Ev (fun k => spec_AddRay.l0 k hit L L L.length (i : Int) a l0 m0 a l m) (fin_ a (goes a hit (L.drop i) l m)) ∧ Ev (fun k => impl_AddRay.l0 k hit L L L.length (i : Int) a l0 m0 a l m) (fin_ a (goes a hit (L.drop i) l m))) ?_ ?_
  · intro l m hl hm _ _
    obtain ⟨g1, g2⟩ := gd_is a l m (by omega) (by omega)
    rw [List.drop_eq_nil_of_le (Nat.le_refl _)]
    refine ⟨G.succ ?_, G.succ ?_⟩
    · simp only [spec_AddRay.l0]
      refine G.neg (by omega) (G.bind g1 (G.now fun k => ?_))
      unfold fin_ goes
      split <;> rfl
    · simp only [impl_AddRay.l0]
      refine G.neg (by omega) (G.bind g2 (G.now fun k => ?_))
      unfold fin_ goes
      split <;> rfl
  · intro i hi ih l m hl hm sl sm
    obtain ⟨p2, k0, k1, k2, k3, k4⟩ := hp _ (List.getElem_mem hi)
    rw [List.drop_eq_getElem_cons hi]
    have hd : (L.drop (i + 1) = []) ↔ i = L.length - 1 := by rw [List.drop_eq_nil_iff]; omega
    have r1 := rdLL hi
    generalize hP : L[i] = p at *
    have wk : wrap64 ((wrap64 ((rd p 1) * a)) + (rd p 0)) = cellKey a p := by rw [G.w64' (i := rd p 1 * a) (by omega) (by omega), G.w64' (by omega) (by omega)]; rfl
    have c0 : 0 ≤ cellKey a p := by unfold cellKey; omega
    have wl : wrap64 (rd l (cellKey a p) + 1) = rd l (cellKey a p) + 1 := by have := sl (cellKey a p); exact G.w64' (by omega) (by omega)
    have wm : wrap64 (rd m (cellKey a p) + 1) = rd m (cellKey a p) + 1 := by have := sm (cellKey a p); exact G.w64' (by omega) (by omega)
    have wn : wrap64 ((L.length : Int) - 1) = ((L.length - 1 : Nat) : Int) := by rw [G.w64' (by omega) (by omega)]; omega
    have u1 := ih (bump l (cellKey a p)) m (by rw [bump_length]; exact hl) hm (small_up (bump_small _ sl) (by omega)) (small_up sm (by omega))
    have u2 := ih l (bump m (cellKey a p)) hl (by rw [bump_length]; exact hm) (small_up sl (by omega)) (small_up (bump_small _ sm) (by omega))
    unfold bump at u1 u2
    unfold goes
    unfold bump
    refine ⟨G.succ ?_, G.succ ?_⟩
    · simp only [spec_AddRay.l0, r1, wk, wl, wm, wn, G.w64 i (by omega)]
      refine G.pos (by omega) (G.pos (by omega) (G.pos (by omega) (G.pos (by omega) (G.pos (by omega) (G.ite (fun e => ?_) (fun e => ?_))))))
      · refine G.ite (fun eh => ?_) (fun eh => ?_)
        · rw [if_pos ⟨hd.2 (by omega), eh⟩]
          exact G.pos c0 (G.pos (by omega) u1.1)
        · rw [if_neg (fun c => eh c.2)]
          exact G.pos c0 (G.pos (by omega) u2.1)
      · rw [if_neg (fun c => e (by have := hd.1 c.1; omega))]
        exact G.pos c0 (G.pos (by omega) u2.1)
    · simp only [impl_AddRay.l0, r1, wk, wl, wm, wn, G.w64 i (by omega)]
      refine G.pos (by omega) (G.pos (by omega) (G.pos (by omega) (G.ite (fun e => ?_) (fun e => ?_))))
      · refine G.ite (fun eh => ?_) (fun eh => ?_)
        · rw [if_pos ⟨hd.2 (by omega), eh⟩]
          exact G.pos (by omega) (G.pos (by omega) (G.pos c0 (G.pos (by omega) u1.2)))
        · rw [if_neg (fun c => eh c.2)]
          exact G.pos (by omega) (G.pos (by omega) (G.pos c0 (G.pos (by omega) u2.2)))
      · rw [if_neg (fun c => e (by have := hd.1 c.1; omega))]
        exact G.pos (by omega) (G.pos (by omega) (G.pos c0 (G.pos (by omega) u2.2)))
theorem line_in (x2 y2 ax ay sx sy : Int) (hx : 0 ≤ ax) (hy : 0 ≤ ay) (n : Nat) : ∀ x y e, Inv x2 y2 ax ay sx sy n x y e → ∀ p ∈ line ax ay sx sy n x y e, ∃ u v, p = [u, v] ∧ ∃ q r : Int, x2 - u = sx * q ∧ y2 - v = sy * r ∧ 0 ≤ q ∧ q ≤ ax ∧ 0 ≤ r ∧ r ≤ ay := by
  induction n with
  | zero =>
    intro x y e h p hp
    obtain rfl : p = [x, y] := by simpa [line] using hp
    exact ⟨x, y, rfl, inv_between hx hy h⟩
  | succ n ih =>
    intro x y e h p hp
    rcases List.mem_cons.1 hp with rfl | hp
    · exact ⟨x, y, rfl, inv_between hx hy h⟩
    · exact ih _ _ _ (inv_step hx hy h) p hp
/-- Within a box of cells. -/
def InB (a : Int) (H : Int) (x y : Int) : Prop := 0 ≤ x ∧ x < a ∧ 0 ≤ y ∧ y < H
instance (a H x y : Int) : Decidable (InB a H x y) := by unfold InB; infer_instance
theorem line_pts {a : Int} {H : Nat} {x1 y1 x2 y2 : Int} (ha : 1 ≤ a) (ha' : a ≤ 16) (hH : H ≤ 16) (h1 : InB a H x1 y1) (h2 : InB a H x2 y2) (N : Nat) (hN : (N : Int) = a * H) : (∀ p ∈ lineOf x1 y1 x2 y2, Pt a N p) ∧ (lineOf x1 y1 x2 y2).length ≤ 100000 := by
  obtain ⟨p1, p2, p3, p4⟩ := h1
  obtain ⟨q1, q2, q3, q4⟩ := h2
  obtain ⟨a0, s1, d1, m1⟩ := absv_is (x2 - x1)
  obtain ⟨b0, s2, d2, m2⟩ := absv_is (y2 - y1)
  have t1 := m1 16 (by omega) (by omega)
  have t2 := m2 16 (by omega) (by omega)
  refine ⟨?_, by unfold lineOf; rw [line_length]; omega⟩
  intro p hp
  obtain ⟨u, v, rfl, q, r, e1, e2, g1, g2, g3, g4⟩ := line_in x2 y2 _ _ _ _ a0 b0 _ x1 y1 _ (inv_start x1 y1 x2 y2) p hp
  have hu : 0 ≤ u ∧ u < a := by rcases s1 with s | s <;> rw [s] at e1 d1 <;> omega
  have hv : 0 ≤ v ∧ v < H := by rcases s2 with s | s <;> rw [s] at e2 d2 <;> omega
  have r0 : rd [u, v] 0 = u := rfl
  have r1 : rd [u, v] 1 = v := rfl
  have m0 : 0 ≤ v * a := Int.mul_nonneg hv.1 (by omega)
  have m1 : v * a ≤ 16 * 16 := Int.mul_le_mul (by omega) ha' (by omega) (by omega)
  have m2 : (v + 1) * a ≤ H * a := Int.mul_le_mul_of_nonneg_right (by omega) (by omega)
  rw [Int.add_mul, Int.mul_comm (H : Int) a] at m2
  refine ⟨rfl, by rw [r1]; exact m0, by rw [r1]; omega, by rw [r0]; omega, by rw [r0]; omega, ?_⟩
  unfold cellKey
  rw [r0, r1]
  omega
theorem inB_iff (a H x y : Int) : InB a H x y ↔ (0 ≤ x ∧ x < a ∧ 0 ≤ y ∧ y < H) := Iff.rfl
theorem has_s {a x y : Int} {H : Nat} (n : Nat) (hn : n ≤ 1048576) (ha : 1 ≤ a) (hq : (n : Int) / a = H) : spec_l12Has.f a n x y = some (decide (InB a H x y)) := by
  have hb := inB_iff a H x y
  have no : ¬ (0 ≤ x ∧ x < a ∧ 0 ≤ y ∧ y < (H : Int)) → decide (InB a H x y) = false := fun h => decide_eq_false (fun c => h (hb.1 c))
  unfold spec_l12Has.f
  by_cases c1 : x ≥ 0
  · rw [if_pos c1]
    by_cases c2 : x < a
    · rw [if_pos c2]
      by_cases c3 : y ≥ 0
      · rw [if_pos c3, if_neg (by omega), Int.tdiv_eq_ediv_of_nonneg (by omega), hq]
        have : (H : Int) ≤ n := by rw [← hq]; exact Int.ediv_le_self _ (by omega)
        rw [G.w64' (by omega) (by omega)]
        congr 1
        rw [Bool.eq_iff_iff, decide_eq_true_eq, decide_eq_true_eq, hb]; omega
      · rw [if_neg c3, no (by omega)]
    · rw [if_neg c2, no (by omega)]
  · rw [if_neg c1, no (by omega)]
theorem has_i (a x y H : Int) : impl_AddRay_1.f x y a H = some (decide (InB a H x y)) := by
  unfold impl_AddRay_1.f
  congr 1
  rw [Bool.eq_iff_iff, decide_eq_true_eq, inB_iff]; simp only [Bool.and_eq_true, decide_eq_true_eq]
/-- What both answer. -/
def rayR (a : Int) (l m : List Int) (x1 y1 x2 y2 : Int) (hit : Bool) : Int × List Int × List Int × Bool :=
  if gd a l m = true ∧ InB a ((l.length : Int) / a) x1 y1 ∧ InB a ((l.length : Int) / a) x2 y2 then fin_ a (goes a hit (lineOf x1 y1 x2 y2) l m) else (0, [], [], false)
theorem ray_is (a : Int) (l m : List Int) (x1 y1 x2 y2 : Int) (hit : Bool) (hl : l.length ≤ 1048576) (hm : m.length ≤ 1048576) :
    Ev (fun k => spec_AddRay.f k a l m x1 y1 x2 y2 hit) (rayR a l m x1 y1 x2 y2 hit) ∧ Ev (fun k => impl_AddRay.f k a l m x1 y1 x2 y2 hit) (rayR a l m x1 y1 x2 y2 hit) := by
  obtain ⟨g1, g2⟩ := gd_is a l m hl hm
  have js : Ev (fun k => spec_AddRay.j0 k x1 y1 x2 y2 hit true a l m) (0, [], [], false) := G.succ (by simp only [spec_AddRay.j0]; exact G.pos trivial (G.now fun _ => rfl))
  have ji : Ev (fun k => impl_AddRay.j0 k x1 y1 x2 y2 hit true a l m) (0, [], [], false) := G.succ (by simp only [impl_AddRay.j0]; exact G.pos trivial (G.now fun _ => rfl))
  simp only [spec_AddRay.f, impl_AddRay.f]
  unfold rayR
  cases hg : gd a l m with
  | false =>
    rw [hg] at g1 g2
    rw [if_neg (by simp)]
    exact ⟨G.bind g1 (G.neg (by simp) js), G.bind g2 (G.neg (by simp) (G.now fun _ => rfl))⟩
  | true =>
    rw [hg] at g1 g2
    obtain ⟨H, q1, q2, q3, q4, q5, q6, q7, q8, q9⟩ := gd_facts hl hg
    have hH : (l.length : Int) / a ≤ l.length := Int.ediv_le_self _ (by omega)
    have hs := fun x y => has_s (x := x) (y := y) l.length hl q1 q4
    have hw : wrap64 (H : Int) = (H : Int) := G.w64' (by omega) (by omega)
    have hi := fun x y => has_i a x y (H : Int)
    rw [q4]
    by_cases h1 : InB a H x1 y1
    · by_cases h2 : InB a H x2 y2
      · rw [if_pos ⟨rfl, h1, h2⟩]
        obtain ⟨hpt, hlen⟩ := line_pts q1 q2 q6 h1 h2 l.length q3
        obtain ⟨e1, e2⟩ := lines_is x1 y1 x2 y2
        have hb : big x1 ∧ big y1 ∧ big x2 ∧ big y2 := by unfold big; unfold InB at h1 h2; omega
        rw [if_pos hb] at e1 e2
        obtain ⟨u1, u2⟩ := ray_loops a hit (lineOf x1 y1 x2 y2) l.length hl hlen hpt l m 0 (Nat.zero_le _) l m rfl q7 (small_up q8 (by omega)) (small_up q9 (by omega))
        refine ⟨G.bind g1 (G.pos rfl (G.bind0 (hs x1 y1) (G.pos (by simp [h1]) (G.bind0 (hs x2 y2) ?_)))), G.bind g2 (G.pos rfl (G.neg (by omega) ?_))⟩
        · rw [decide_eq_true h2]
          refine G.succ ?_
          simp only [spec_AddRay.j0]
          refine G.neg (by simp) (G.bind0 rfl (G.pos (by simp; omega) (G.bind0 rfl (G.pos (by simp; omega) (G.bind e1 ?_)))))
          exact u1
        · rw [hw]
          refine G.bind0 (hi x1 y1) (G.pos (by simp [h1]) (G.bind0 (hi x2 y2) ?_))
          rw [decide_eq_true h2]
          refine G.succ ?_
          simp only [impl_AddRay.j0]
          refine G.neg (by simp) (G.pos (by simp; omega) (G.pos (by simp; omega) (G.bind e2 ?_)))
          exact u2
      · rw [if_neg (fun c => h2 c.2.2)]
        refine ⟨G.bind g1 (G.pos rfl (G.bind0 (hs x1 y1) (G.pos (by simp [h1]) (G.bind0 (hs x2 y2) ?_)))), G.bind g2 (G.pos rfl (G.neg (by omega) ?_))⟩
        · rw [decide_eq_false h2]; exact js
        · rw [hw]
          refine G.bind0 (hi x1 y1) (G.pos (by simp [h1]) (G.bind0 (hi x2 y2) ?_))
          rw [decide_eq_false h2]; exact ji
    · rw [if_neg (fun c => h1 c.2.1)]
      refine ⟨G.bind g1 (G.pos rfl (G.bind0 (hs x1 y1) (G.neg (by simp [h1]) js))), G.bind g2 (G.pos rfl (G.neg (by omega) ?_))⟩
      rw [hw]
      exact G.bind0 (hi x1 y1) (G.neg (by simp [h1]) ji)
theorem goes_length (a : Int) (hit : Bool) (L : List (List Int)) : ∀ l m, (goes a hit L l m).1.length = l.length ∧ (goes a hit L l m).2.length = m.length := by
  induction L with
  | nil => intro l m; exact ⟨rfl, rfl⟩
  | cons p ps ih =>
    intro l m
    unfold goes
    split
    · have := ih (bump l (cellKey a p)) m; rw [bump_length] at this; exact this
    · have := ih l (bump m (cellKey a p)); rw [bump_length] at this; exact this
theorem rayR_length (a : Int) (l m : List Int) (x1 y1 x2 y2 : Int) (hit : Bool) : (rayR a l m x1 y1 x2 y2 hit).2.1.length ≤ l.length ∧ (rayR a l m x1 y1 x2 y2 hit).2.2.1.length ≤ m.length := by
  unfold rayR fin_
  have := goes_length a hit (lineOf x1 y1 x2 y2) l m
  split
  · split
    · simp [this.1, this.2]
    · simp
  · simp
theorem u64_small (n : Int) (h0 : 0 ≤ n) (h1 : n < 2 ^ 24) : IntKind.u64.wrap n = n := by simp [IntKind.wrap, IntKind.bits, IntKind.signed]; omega
theorem u64_range (n : Int) : 0 ≤ IntKind.u64.wrap n ∧ IntKind.u64.wrap n < 18446744073709551616 := by simp [IntKind.wrap, IntKind.bits, IntKind.signed]; omega
theorem byte_and (x : Int) (h0 : 0 ≤ x) (h1 : x < 18446744073709551616) : 0 ≤ wrap64 (Go.bits .and .u64 (x / 1099511627776) 255) ∧ wrap64 (Go.bits .and .u64 (x / 1099511627776) 255) ≤ 255 := by
  have e : Go.bits .and .u64 (x / 1099511627776) 255 = (x / 1099511627776) % 256 := bits_mask .u64 24 (by decide) u64_small 8 (by decide) (x / 1099511627776) (by omega) (by omega)
  rw [e, G.w64' (by omega) (by omega)]
  omega
def Bytes (c : List Int) : Prop := ∀ b ∈ c, 0 ≤ b ∧ b ≤ 255
theorem next_ok {c : List Int} (hc : Bytes c) (hl : c.length ≤ 1048576) (a s : Int) (h0 : 0 ≤ a) (h1 : a ≤ 1000000000000) : ∃ b s', spec_l1Cur_next.f c a s = some (b, a + 1, s') ∧ 0 ≤ b ∧ b ≤ 255 := by
  unfold spec_l1Cur_next.f
  rw [G.w64' (i := a + 1) (by omega) (by omega)]
  by_cases h2 : a < (c.length : Int)
  · obtain ⟨i, rfl⟩ : ∃ i : Nat, a = i := ⟨a.toNat, by omega⟩
    have hi : i < c.length := by omega
    have hb := hc c[i] (List.getElem_mem hi)
    rw [if_pos h2, if_pos h0, G.rd_nat hi, G.w64' (i := c[i]) (by omega) (by omega), if_pos (by omega)]
    exact ⟨_, _, rfl, hb.1, hb.2⟩
  · rw [if_neg h2, if_neg (by omega)]
    exact ⟨_, _, rfl, (byte_and _ (u64_range _).1 (u64_range _).2).1, (byte_and _ (u64_range _).1 (u64_range _).2).2⟩
theorem pick_ok {c : List Int} (hc : Bytes c) (hl : c.length ≤ 1048576) (n a s : Int) (h0 : 0 ≤ a) (h1 : a ≤ 900000000000) : ∃ r a' s', spec_l1Cur_pick.f c a s n = some (r, a', s') ∧ 0 ≤ r ∧ (1 < n → r < n) ∧ (n ≤ 1 → r = 0) ∧ a ≤ a' ∧ a' ≤ a + 2 := by
  unfold spec_l1Cur_pick.f
  by_cases hn : n ≤ 1
  · rw [if_pos hn]; exact ⟨0, a, s, rfl, by omega, by omega, by omega, by omega, by omega⟩
  · rw [if_neg hn]
    obtain ⟨b, s1, e1, b0, b1⟩ := next_ok hc hl a s h0 (by omega)
    rw [e1]
    simp only [Option.bind_some]
    by_cases h2 : n > 200
    · obtain ⟨d, s2, e2, d0, d1⟩ := next_ok hc hl (a + 1) s1 (by omega) (by omega)
      rw [if_pos h2, e2]
      simp only [Option.bind_some]
      rw [if_neg (by omega), G.w64' (i := b * 256) (by omega) (by omega), G.w64' (by omega) (by omega), Int.tmod_eq_emod_of_nonneg (by omega)]
      exact ⟨_, _, _, rfl, Int.emod_nonneg _ (by omega), fun _ => Int.emod_lt_of_pos _ (by omega), fun h => absurd h hn, by omega, by omega⟩
    · rw [if_neg h2, if_neg (by omega), Int.tmod_eq_emod_of_nonneg (by omega)]
      exact ⟨_, _, _, rfl, Int.emod_nonneg _ (by omega), fun _ => Int.emod_lt_of_pos _ (by omega), fun h => absurd h hn, by omega, by omega⟩
theorem one_ok {c : List Int} (hc : Bytes c) (hl : c.length ≤ 1048576) (n a s : Int) (h0 : 0 ≤ a) (h1 : a ≤ 900000000000) : ∃ r a' s', spec_l1Cur_one.f c a s n = some (r, a', s') ∧ a ≤ a' ∧ a' ≤ a + 2 := by
  obtain ⟨r, a', s', e, _, _, _, h2, h3⟩ := pick_ok hc hl n a s h0 h1
  unfold spec_l1Cur_one.f
  rw [e]
  exact ⟨_, _, _, rfl, h2, h3⟩
theorem among_ok {c : List Int} (hc : Bytes c) (hl : c.length ≤ 1048576) (l : List Int) (hne : 0 < l.length) (hll : l.length ≤ 1000) (a s : Int) (h0 : 0 ≤ a) (h1 : a ≤ 900000000000) : ∃ r a' s', spec_l1Cur_among.f c a s l = some (r, a', s') ∧ r ∈ l ∧ a ≤ a' ∧ a' ≤ a + 2 := by
  obtain ⟨r, a', s', e, r0, r1, r2, h2, h3⟩ := pick_ok hc hl (l.length : Int) a s h0 h1
  unfold spec_l1Cur_among.f
  rw [e]
  simp only [Option.bind_some]
  have hr : r < l.length := by
    by_cases h : (1 : Int) < l.length
    · exact r1 h
    · have := r2 (by omega); omega
  obtain ⟨i, rfl⟩ : ∃ i : Nat, r = i := ⟨r.toNat, by omega⟩
  have hi : i < l.length := by omega
  rw [if_pos r0, if_pos hr, G.rd_nat hi]
  exact ⟨_, _, _, rfl, List.getElem_mem hi, h2, h3⟩
theorem extent_ok {c : List Int} (hc : Bytes c) (hl : c.length ≤ 1048576) (a s : Int) (h0 : 0 ≤ a) (h1 : a ≤ 800000000000) : ∃ w h a' s', spec_l1Cur_extent.f c a s = some (w, h, a', s') ∧ 0 ≤ w ∧ w ≤ 17 ∧ 0 ≤ h ∧ h ≤ 17 ∧ a ≤ a' ∧ a' ≤ a + 6 := by
  obtain ⟨b, a1, s1, e1, p1, q1⟩ := one_ok hc hl 12 a s h0 (by omega)
  unfold spec_l1Cur_extent.f
  rw [e1, Option.bind_some]
  cases b with
  | true =>
    obtain ⟨v1, a2, s2, e2, m2, p2, q2⟩ := among_ok hc hl [16, 1, 17, 0] (by decide) (by decide) a1 s1 (by omega) (by omega)
    obtain ⟨v2, a3, s3, e3, m3, p3, q3⟩ := among_ok hc hl [16, 1, 0, 17] (by decide) (by decide) a2 s2 (by omega) (by omega)
    have b1 : 0 ≤ v1 ∧ v1 ≤ 17 := by simp at m2; omega
    have b2 : 0 ≤ v2 ∧ v2 ≤ 17 := by simp at m3; omega
    rw [if_pos rfl, e2, Option.bind_some]; simp only [e3, Option.bind_some]
    exact ⟨_, _, _, _, rfl, b1.1, b1.2, b2.1, b2.2, by omega, by omega⟩
  | false =>
    obtain ⟨v1, a2, s2, e2, b1, b2, _, p2, q2⟩ := pick_ok hc hl 6 a1 s1 (by omega) (by omega)
    obtain ⟨v2, a3, s3, e3, b3, b4, _, p3, q3⟩ := pick_ok hc hl 6 a2 s2 (by omega) (by omega)
    have b2 := b2 (by omega)
    have b4 := b4 (by omega)
    rw [if_neg (by simp), e2, Option.bind_some]; simp only [e3, Option.bind_some]
    rw [G.w64' (by omega) (by omega), G.w64' (by omega) (by omega)]
    exact ⟨_, _, _, _, rfl, by omega, by omega, by omega, by omega, by omega, by omega⟩
theorem newc_ok (a b : Int) : ∃ (w : Int) (n : Nat), spec_NewCounts.f a b = some (w, List.replicate n 0, List.replicate n 0) ∧ 0 ≤ w ∧ w ≤ 16 ∧ n ≤ 256 := by
  unfold spec_NewCounts.f
  by_cases h1 : a < 1
  · rw [if_pos h1]; exact ⟨0, 0, rfl, by omega, by omega, by omega⟩
  rw [if_neg h1]
  by_cases h2 : a > 16
  · rw [if_pos h2]; exact ⟨0, 0, rfl, by omega, by omega, by omega⟩
  rw [if_neg h2]
  by_cases h3 : b < 1
  · rw [if_pos h3]; exact ⟨0, 0, rfl, by omega, by omega, by omega⟩
  rw [if_neg h3]
  by_cases h4 : b > 16
  · rw [if_pos h4]; exact ⟨0, 0, rfl, by omega, by omega, by omega⟩
  rw [if_neg h4]
  have m0 : 0 ≤ a * b := Int.mul_nonneg (by omega) (by omega)
  have m1 : a * b ≤ 16 * 16 := Int.mul_le_mul (by omega) (by omega) (by omega) (by omega)
  rw [G.w64' (by omega) (by omega), if_pos m0, if_pos (by omega)]
  exact ⟨a, (a * b).toNat, rfl, by omega, by omega, by omega⟩
theorem counts_loop {c : List Int} (hc : Bytes c) (hl : c.length ≤ 1048576) (n : Nat) (hn : n ≤ 256) (w : Int) (hw : 0 ≤ w) (hw' : w ≤ 16) : ∀ i, i ≤ n → ∀ (a s : Int) (L M : List Int), L.length = n → M.length = n → 0 ≤ a → a ≤ 1000 + 8 * i →
    ∃ r : Int × List Int × List Int × Int × Int, Ev (fun k => spec_l1Cur_counts.l0 k n (i : Int) c a s w L M) r ∧ 0 ≤ r.1 ∧ r.1 ≤ 17 ∧ r.2.1.length ≤ 256 ∧ r.2.2.1.length ≤ 257 ∧ 0 ≤ r.2.2.2.1 ∧ r.2.2.2.1 ≤ 100000 := by
  refine G.down_ind n (fun i => ∀ (a s : Int) (L M : List Int), L.length = n → M.length = n → 0 ≤ a → a ≤ 1000 + 8 * i →
    ∃ r : Int × List Int × List Int × Int × Int, Ev (fun k => spec_l1Cur_counts.l0 k n (i : Int) c a s w L M) r ∧ 0 ≤ r.1 ∧ r.1 ≤ 17 ∧ r.2.1.length ≤ 256 ∧ r.2.2.1.length ≤ 257 ∧ 0 ≤ r.2.2.2.1 ∧ r.2.2.2.1 ≤ 100000) ?_ ?_
  · intro a s L M hL hM h0 h1
    obtain ⟨v, a1, s1, e1, b0, b1, _, p1, q1⟩ := pick_ok hc hl 24 a s h0 (by omega)
    by_cases c0 : v = 0
    · refine ⟨(wrap64 (w + 1), L, M, a1, s1), G.succ ?_, ?_, ?_, by simp; omega, by simp; omega, by simp; omega, by simp; omega⟩
      · simp only [spec_l1Cur_counts.l0]
        exact G.neg (by omega) (G.bind0 e1 (G.pos c0 (G.now fun _ => rfl)))
      · rw [G.w64' (by omega) (by omega)]; simp; omega
      · rw [G.w64' (by omega) (by omega)]; simp; omega
    · by_cases c1 : v = 1
      · refine ⟨(w, L, M ++ [0], a1, s1), G.succ ?_, hw, by simp; omega, by simp; omega, by simp; omega, by simp; omega, by simp; omega⟩
        simp only [spec_l1Cur_counts.l0]
        exact G.neg (by omega) (G.bind0 e1 (G.neg c0 (G.pos c1 (G.pos (by omega) (G.now fun _ => rfl)))))
      · refine ⟨(w, L, M, a1, s1), G.succ ?_, hw, by simp; omega, by simp; omega, by simp; omega, by simp; omega, by simp; omega⟩
        simp only [spec_l1Cur_counts.l0]
        exact G.neg (by omega) (G.bind0 e1 (G.neg c0 (G.neg c1 (G.now fun _ => rfl))))
  · intro i hi ih a s L M hL hM h0 h1
    obtain ⟨v1, a1, s1, e1, _, _, _, p1, q1⟩ := pick_ok hc hl 4 a s h0 (by omega)
    obtain ⟨v2, a2, s2, e2, _, _, _, p2, q2⟩ := pick_ok hc hl 4 a1 s1 (by omega) (by omega)
    obtain ⟨b, a3, s3, e3, p3, q3⟩ := one_ok hc hl 60 a2 s2 (by omega) (by omega)
    cases b with
    | true =>
      obtain ⟨v3, a4, s4, e4, _, p4, q4⟩ := among_ok hc hl [1000000, 999999, 1000001] (by decide) (by decide) a3 s3 (by omega) (by omega)
      obtain ⟨r, hr, hp⟩ := ih a4 s4 (L.set ((i : Int)).toNat v1) ((M.set ((i : Int)).toNat v2).set ((i : Int)).toNat v3) (by simpa using hL) (by simpa using hM) (by omega) (by omega)
      refine ⟨r, G.succ ?_, hp⟩
      simp only [spec_l1Cur_counts.l0, G.w64 i (by omega)]
      exact G.pos (by omega) (G.bind0 e1 (G.pos (by omega) (G.pos (by omega) (G.bind0 rfl (G.bind0 e2 (G.pos (by omega) (G.bind0 rfl (G.bind0 e3 (G.pos rfl (G.bind0 e4 hr))))))))))
    | false =>
      obtain ⟨r, hr, hp⟩ := ih a3 s3 (L.set ((i : Int)).toNat v1) (M.set ((i : Int)).toNat v2) (by simpa using hL) (by simpa using hM) (by omega) (by omega)
      refine ⟨r, G.succ ?_, hp⟩
      simp only [spec_l1Cur_counts.l0, G.w64 i (by omega)]
      exact G.pos (by omega) (G.bind0 e1 (G.pos (by omega) (G.pos (by omega) (G.bind0 rfl (G.bind0 e2 (G.pos (by omega) (G.bind0 rfl (G.bind0 e3 (G.neg (by simp) hr)))))))))
theorem draw_ray {c : List Int} (hc : Bytes c) (hl : c.length ≤ 1048576) : ∃ (w : Int) (L M : List Int) (x1 y1 x2 y2 : Int) (hit : Bool), Ev (fun k => spec_DrawAddRay.f k c) (w, L, M, x1, y1, x2, y2, hit) ∧ 0 ≤ w ∧ w ≤ 17 ∧ L.length ≤ 256 ∧ M.length ≤ 257 := by
  obtain ⟨w0, h0, a0, s0, e0, b1, b2, b3, b4, p0, q0⟩ := extent_ok hc hl 0 0 (by omega) (by omega)
  obtain ⟨w1, n, e1, d0, d1, d2⟩ := newc_ok w0 h0
  obtain ⟨⟨w, L, M, a, s⟩, e2, g0, g1, g2, g3, g4, g5⟩ := counts_loop hc hl n d2 w1 d0 d1 0 (Nat.zero_le _) a0 s0 (List.replicate n 0) (List.replicate n 0) (by simp) (by simp) (by omega) (by omega)
  have hct : Ev (fun k => spec_l1Cur_counts.f k c 0 0) (w, L, M, a, s) := by
    simp only [spec_l1Cur_counts.f]
    refine G.bind0 e0 (G.bind0 e1 ?_)
    rw [List.length_replicate]; exact e2
  simp only at g0 g1 g2 g3 g4 g5
  have j1 (X Y a s : Int) (ha : 0 ≤ a) (ha' : a ≤ 200000) : ∃ (x1 y1 x2 y2 : Int) (hit : Bool), Ev (fun k => spec_DrawAddRay.j1 k X Y c a s w L M) (w, L, M, x1, y1, x2, y2, hit) := by
    obtain ⟨v1, a1, s1, e1, _, _, _, p1, q1⟩ := pick_ok hc hl X a s ha (by omega)
    obtain ⟨v2, a2, s2, e2, _, _, _, p2, q2⟩ := pick_ok hc hl Y a1 s1 (by omega) (by omega)
    obtain ⟨v3, a3, s3, e3, _, _, _, p3, q3⟩ := pick_ok hc hl X a2 s2 (by omega) (by omega)
    obtain ⟨v4, a4, s4, e4, _, _, _, p4, q4⟩ := pick_ok hc hl Y a3 s3 (by omega) (by omega)
    obtain ⟨b, a5, s5, e5, p5, q5⟩ := one_ok hc hl 2 a4 s4 (by omega) (by omega)
    refine ⟨v1, v2, v3, v4, b, G.succ ?_⟩
    simp only [spec_DrawAddRay.j1]
    exact G.bind0 e1 (G.bind0 e2 (G.bind0 e3 (G.bind0 e4 (G.bind0 e5 (G.now fun _ => rfl)))))
  have j0 (X Y : Int) : ∃ (x1 y1 x2 y2 : Int) (hit : Bool), Ev (fun k => spec_DrawAddRay.j0 k X Y c a s w L M) (w, L, M, x1, y1, x2, y2, hit) := by
    obtain ⟨b, a5, s5, e5, p5, q5⟩ := one_ok hc hl 8 a s (by omega) (by omega)
    cases b with
    | true =>
      obtain ⟨x1, y1, x2, y2, hit, h⟩ := j1 X Y a5 s5 (by omega) (by omega)
      refine ⟨x1, y1, x2, y2, hit, G.succ ?_⟩
      simp only [spec_DrawAddRay.j0]
      exact G.bind0 e5 (G.pos rfl h)
    | false =>
      obtain ⟨x1, y1, x2, y2, hit, h⟩ := j1 (wrap64 (X - 1)) (wrap64 (Y - 1)) a5 s5 (by omega) (by omega)
      refine ⟨x1, y1, x2, y2, hit, G.succ ?_⟩
      simp only [spec_DrawAddRay.j0]
      exact G.bind0 e5 (G.neg (by simp) h)
  by_cases hw : w > 0
  · obtain ⟨x1, y1, x2, y2, hit, h⟩ := j0 (wrap64 (w + 1)) (wrap64 ((wrap64 ((L.length : Int) / w)) + 1))
    refine ⟨w, L, M, x1, y1, x2, y2, hit, ?_, g0, g1, g2, g3⟩
    simp only [spec_DrawAddRay.f]
    exact G.bind hct (G.pos hw (G.neg (by omega) h))
  · obtain ⟨x1, y1, x2, y2, hit, h⟩ := j0 (wrap64 (w + 1)) 1
    refine ⟨w, L, M, x1, y1, x2, y2, hit, ?_, g0, g1, g2, g3⟩
    simp only [spec_DrawAddRay.f]
    exact G.bind hct (G.neg hw h)
/-! The order of two rays does not matter. -/
theorem rd_set (l : List Int) (i j v : Int) : rd (l.set i.toNat v) j = if i.toNat = j.toNat ∧ i.toNat < l.length then v else rd l j := by
  unfold rd
  rw [List.getD_eq_getElem?_getD, List.getD_eq_getElem?_getD, List.getElem?_set]
  by_cases e : i.toNat = j.toNat
  · rw [if_pos e]
    by_cases hlt : i.toNat < l.length
    · rw [if_pos (by omega), if_pos ⟨e, hlt⟩]; rfl
    · rw [if_neg (by omega), if_neg (fun c => hlt c.2), List.getElem?_eq_none (by omega)]
  · rw [if_neg e, if_neg (fun c => e c.1)]
theorem bump_comm (l : List Int) (i j : Int) : bump (bump l i) j = bump (bump l j) i := by
  unfold bump
  rw [rd_set, rd_set]
  by_cases e : i.toNat = j.toNat
  · have hr : rd l i = rd l j := by unfold rd; rw [e]
    rw [e, hr]
  · rw [if_neg (fun c => e c.1), if_neg (fun c => e c.1.symm), List.set_comm _ _ e]
theorem goes_l (a : Int) (h : Bool) (L : List (List Int)) (j : Int) : ∀ l m, goes a h L (bump l j) m = (bump (goes a h L l m).1 j, (goes a h L l m).2) := by
  induction L with
  | nil => intro l m; rfl
  | cons p ps ih =>
    intro l m
    unfold goes
    split
    · rw [bump_comm]; exact ih _ _
    · exact ih _ _
theorem goes_m (a : Int) (h : Bool) (L : List (List Int)) (j : Int) : ∀ l m, goes a h L l (bump m j) = ((goes a h L l m).1, bump (goes a h L l m).2 j) := by
  induction L with
  | nil => intro l m; rfl
  | cons p ps ih =>
    intro l m
    unfold goes
    split
    · exact ih _ _
    · rw [bump_comm]; exact ih _ _
theorem goes_comm (a : Int) (h1 h2 : Bool) (L2 : List (List Int)) (L1 : List (List Int)) : ∀ l m, goes a h2 L2 (goes a h1 L1 l m).1 (goes a h1 L1 l m).2 = goes a h1 L1 (goes a h2 L2 l m).1 (goes a h2 L2 l m).2 := by
  induction L1 with
  | nil => intro l m; rfl
  | cons p ps ih =>
    intro l m
    by_cases c : ps = [] ∧ h1 = true
    · rw [show goes a h1 (p :: ps) l m = goes a h1 ps (bump l (cellKey a p)) m from by rw [goes, if_pos c], ih, goes_l, goes, if_pos c]
    · rw [show goes a h1 (p :: ps) l m = goes a h1 ps l (bump m (cellKey a p)) from by rw [goes, if_neg c], ih, goes_m, goes, if_neg c]
theorem rayR_true {a : Int} {l m : List Int} {x1 y1 x2 y2 : Int} {hit : Bool} (h : (rayR a l m x1 y1 x2 y2 hit).2.2.2 = true) :
    rayR a l m x1 y1 x2 y2 hit = (a, (goes a hit (lineOf x1 y1 x2 y2) l m).1, (goes a hit (lineOf x1 y1 x2 y2) l m).2, true) ∧ gd a l m = true := by
  unfold rayR at h ⊢
  by_cases c : gd a l m = true ∧ InB a ((l.length : Int) / a) x1 y1 ∧ InB a ((l.length : Int) / a) x2 y2
  · rw [if_pos c] at h ⊢
    refine ⟨?_, c.1⟩
    unfold fin_ at h ⊢
    split at h
    · rename_i h2; rw [if_pos h2]
    · cases h
  · rw [if_neg c] at h; cases h
theorem same_is (a : Int) (l m : List Int) (hl : l.length ≤ 1048576) (hm : m.length = l.length) : Ev (fun k => spec_SameCounts.f k a l m a l m) true := by
  have loop : Ev (fun k => spec_SameCounts.l0 k (l.length : Int) 0 a l m a l m) true := by
    refine G.true_loop (F := fun k i => spec_SameCounts.l0 k (l.length : Int) i a l m a l m) l.length ?_ ?_
    · intro k; simp only [spec_SameCounts.l0]; rw [if_neg (by omega)]
    · intro k i h
      simp only [spec_SameCounts.l0]
      rw [if_pos (by omega), if_pos (by omega), if_pos (by omega), if_pos (by omega), if_pos trivial, if_pos (by omega), if_pos (by omega), if_pos trivial, G.w64 _ (by omega)]
  unfold spec_SameCounts.f
  refine G.pos rfl (G.pos rfl ?_)
  have e1 : ((m.length : Int) != (m.length : Int)) = false := by simp
  rw [e1]
  refine G.succ ?_
  simp only [spec_SameCounts.j0]
  exact G.neg (by simp) loop
theorem FnCounts : laws_FnCounts.Pure := by
  intro c m hm hreach hb hm2 hreach2 hb2
  refine Ev.rounds ?_
  have byt : Bytes c := fun b hx => by have := hb b hx; simp [Lit.wf, IntKind.min, IntKind.max, IntKind.signed, IntKind.bits] at this; omega
  have yes : Ev (fun k => laws_FnCounts.j0 k c m true) true := G.succ (by simp only [laws_FnCounts.j0]; exact G.pos trivial (G.now fun _ => rfl))
  simp only [laws_FnCounts.f]
  refine G.ite (fun _ => yes) (fun hl => ?_)
  by_cases hl2 : (m.length : Int) > 1048576
  · rw [decide_eq_true hl2]; exact yes
  rw [decide_eq_false hl2]
  obtain ⟨w, L, M, x1, y1, x2, y2, hit, hd, w0, w1, n1, n2⟩ := draw_ray byt (by omega)
  obtain ⟨t, ht⟩ : ∃ t, laws_zByte.f m 0 = some t := by
    unfold laws_zByte.f
    by_cases h : (0 : Int) < m.length
    · rw [if_pos h, if_pos (by omega)]; exact ⟨_, rfl⟩
    · rw [if_neg h]; exact ⟨_, rfl⟩
  refine G.succ ?_
  simp only [laws_FnCounts.j0]
  have ww : wrap64 (w + 1) = w + 1 := G.w64' (by omega) (by omega)
  refine G.neg (by simp) (G.bind hd (G.bind0 ht (G.neg (by rw [ww]; omega) ?_)))
  generalize Int.tmod t (wrap64 (w + 1)) = W
  obtain ⟨s1, i1⟩ := ray_is w L M x1 y1 x2 y2 hit (by omega) (by omega)
  have q1 := rayR_length w L M x1 y1 x2 y2 hit
  have T1 := @rayR_true w L M x1 y1 x2 y2 hit
  have i3 := (ray_is w L M W 0 x1 y1 (!hit) (by omega) (by omega)).2
  have q3 := rayR_length w L M W 0 x1 y1 (!hit)
  have T3 := @rayR_true w L M W 0 x1 y1 (!hit)
  generalize rayR w L M x1 y1 x2 y2 hit = r1 at s1 i1 q1 T1
  generalize rayR w L M W 0 x1 y1 (!hit) = r3 at i3 q3 T3
  obtain ⟨a1, l1, m1, g⟩ := r1
  obtain ⟨a3, l3, m3, ii⟩ := r3
  simp only at q1 q3
  have i2 := (ray_is a1 l1 m1 W 0 x1 y1 (!hit) (by omega) (by omega)).2
  have T2 := @rayR_true a1 l1 m1 W 0 x1 y1 (!hit)
  have i4 := (ray_is a3 l3 m3 x1 y1 x2 y2 hit (by omega) (by omega)).2
  have T4 := @rayR_true a3 l3 m3 x1 y1 x2 y2 hit
  generalize rayR a1 l1 m1 W 0 x1 y1 (!hit) = r2 at i2 T2
  generalize rayR a3 l3 m3 x1 y1 x2 y2 hit = r4 at i4 T4
  obtain ⟨a2, l2, m2, hh⟩ := r2
  obtain ⟨a4, l4, m4, jj⟩ := r4
  refine G.bind i1 (G.bind s1 (G.neg (by simp) (G.bind i2 (G.bind i3 (G.bind i4 ?_)))))
  refine G.ite (fun c1 => G.ite (fun c2 => G.ite (fun c3 => G.ite (fun c4 => ?_) (fun _ => G.now fun _ => rfl)) (fun _ => G.now fun _ => rfl)) (fun _ => G.now fun _ => rfl)) (fun _ => G.now fun _ => rfl)
  obtain ⟨e1, f1⟩ := T1 c1
  obtain ⟨e2, f2⟩ := T2 c2
  obtain ⟨e3, f3⟩ := T3 c3
  obtain ⟨e4, f4⟩ := T4 c4
  simp only [Prod.mk.injEq] at e1 e2 e3 e4
  obtain ⟨rfl, rfl, rfl, _⟩ := e1
  obtain ⟨rfl, rfl, rfl, _⟩ := e2
  obtain ⟨rfl, rfl, rfl, _⟩ := e3
  obtain ⟨rfl, rfl, rfl, _⟩ := e4
  have hc := fun a => goes_comm a hit (!hit) (lineOf W 0 x1 y1) (lineOf x1 y1 x2 y2) L M
  rw [← hc]
  obtain ⟨H, _, _, _, _, _, _, hML, _, _⟩ := gd_facts (show L.length ≤ 1048576 by omega) f1
  have g1 := fun a => goes_length a hit (lineOf x1 y1 x2 y2) L M
  have g2 := fun a => goes_length a (!hit) (lineOf W 0 x1 y1) (goes a hit (lineOf x1 y1 x2 y2) L M).1 (goes a hit (lineOf x1 y1 x2 y2) L M).2
  exact G.bind (same_is _ _ _ (by rw [(g2 _).1, (g1 _).1]; omega) (by rw [(g2 _).2, (g2 _).1, (g1 _).1, (g1 _).2]; omega)) (G.now fun _ => rfl)

end Go.Proofs.Ytgkjnocjdonjdaa.Pure
