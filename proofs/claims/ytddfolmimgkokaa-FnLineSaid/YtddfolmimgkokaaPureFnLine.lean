/- For all arguments the printed law Line answers true: plain lists and numbers, no memory. Conditions: none beyond what the program's own guards ask. -/
import Derived.Test.YtddfolmimgkokaaRFnLinex4
import Derived.Test.YtddfolmimgkokaaG
namespace Go.Proofs.Ytddfolmimgkokaa.Pure
open Go.RowKit Go.Proofs.Ytddfolmimgkokaa.PFnLine Go.Proofs.YtddfolmimgkokaaW.PrintWords Go.Proofs.YtddfolmimgkokaaW.PrintLast
set_option linter.unusedVariables false
set_option linter.unusedSimpArgs false


theorem u64_small (n : Int) (h0 : 0 ≤ n) (h1 : n < 2 ^ 24) : IntKind.u64.wrap n = n := by simp [IntKind.wrap, IntKind.bits, IntKind.signed]; omega
theorem u64_range (n : Int) : 0 ≤ IntKind.u64.wrap n ∧ IntKind.u64.wrap n < 18446744073709551616 := by simp [IntKind.wrap, IntKind.bits, IntKind.signed]; omega
theorem byte_and (x : Int) (h0 : 0 ≤ x) (h1 : x < 18446744073709551616) : 0 ≤ wrap64 (Go.bits .and .u64 (x / 1099511627776) 255) ∧ wrap64 (Go.bits .and .u64 (x / 1099511627776) 255) ≤ 255 := by
  have e : Go.bits .and .u64 (x / 1099511627776) 255 = (x / 1099511627776) % 256 := bits_mask .u64 24 (by decide) u64_small 8 (by decide) (x / 1099511627776) (by omega) (by omega)
  rw [e, G.w64' (by omega) (by omega)]
  omega
def Bytes (c : List Int) : Prop := ∀ b ∈ c, 0 ≤ b ∧ b ≤ 255
theorem next_ok {c : List Int} (hc : Bytes c) (hl : c.length ≤ 1048576) (a s : Int) (h0 : 0 ≤ a) (h1 : a ≤ 1000000000000) : ∃ b s', spec_l1Cur_next.f c a s = some (b, a + 1, s') ∧ 0 ≤ b ∧ b ≤ 255 := by
  unfold spec_l1Cur_next.f
  rw [G.w64' (i := a + 1) (by omega) (by omega)]
  by_cases h2 : a < (c.length : Int)
  · obtain ⟨i, rfl⟩ : ∃ i : Nat, a = i := ⟨a.toNat, by omega⟩
    have hi : i < c.length := by omega
    have hb := hc c[i] (List.getElem_mem hi)
    rw [if_pos h2, if_pos h0, G.rd_nat hi, G.w64' (i := c[i]) (by omega) (by omega), if_pos (by omega)]
    exact ⟨_, _, rfl, hb.1, hb.2⟩
  · rw [if_neg h2, if_neg (by omega)]
    exact ⟨_, _, rfl, (byte_and _ (u64_range _).1 (u64_range _).2).1, (byte_and _ (u64_range _).1 (u64_range _).2).2⟩
theorem pick_ok {c : List Int} (hc : Bytes c) (hl : c.length ≤ 1048576) (n a s : Int) (h0 : 0 ≤ a) (h1 : a ≤ 900000000000) : ∃ r a' s', spec_l1Cur_pick.f c a s n = some (r, a', s') ∧ 0 ≤ r ∧ (1 < n → r < n) ∧ (n ≤ 1 → r = 0) ∧ a ≤ a' ∧ a' ≤ a + 2 := by
  unfold spec_l1Cur_pick.f
  by_cases hn : n ≤ 1
  · rw [if_pos hn]; exact ⟨0, a, s, rfl, by omega, by omega, by omega, by omega, by omega⟩
  · rw [if_neg hn]
    obtain ⟨b, s1, e1, b0, b1⟩ := next_ok hc hl a s h0 (by omega)
    rw [e1]
    simp only [Option.bind_some]
    by_cases h2 : n > 200
    · obtain ⟨d, s2, e2, d0, d1⟩ := next_ok hc hl (a + 1) s1 (by omega) (by omega)
      rw [if_pos h2, e2]
      simp only [Option.bind_some]
      rw [if_neg (by omega), G.w64' (i := b * 256) (by omega) (by omega), G.w64' (by omega) (by omega), Int.tmod_eq_emod_of_nonneg (by omega)]
      exact ⟨_, _, _, rfl, Int.emod_nonneg _ (by omega), fun _ => Int.emod_lt_of_pos _ (by omega), fun h => absurd h hn, by omega, by omega⟩
    · rw [if_neg h2, if_neg (by omega), Int.tmod_eq_emod_of_nonneg (by omega)]
      exact ⟨_, _, _, rfl, Int.emod_nonneg _ (by omega), fun _ => Int.emod_lt_of_pos _ (by omega), fun h => absurd h hn, by omega, by omega⟩
theorem one_ok {c : List Int} (hc : Bytes c) (hl : c.length ≤ 1048576) (n a s : Int) (h0 : 0 ≤ a) (h1 : a ≤ 900000000000) : ∃ r a' s', spec_l1Cur_one.f c a s n = some (r, a', s') ∧ a ≤ a' ∧ a' ≤ a + 2 := by
  obtain ⟨r, a', s', e, _, _, _, h2, h3⟩ := pick_ok hc hl n a s h0 h1
  unfold spec_l1Cur_one.f
  rw [e]
  exact ⟨_, _, _, rfl, h2, h3⟩
theorem among_ok {c : List Int} (hc : Bytes c) (hl : c.length ≤ 1048576) (l : List Int) (hne : 0 < l.length) (hll : l.length ≤ 1000) (a s : Int) (h0 : 0 ≤ a) (h1 : a ≤ 900000000000) : ∃ r a' s', spec_l1Cur_among.f c a s l = some (r, a', s') ∧ r ∈ l ∧ a ≤ a' ∧ a' ≤ a + 2 := by
  obtain ⟨r, a', s', e, r0, r1, r2, h2, h3⟩ := pick_ok hc hl (l.length : Int) a s h0 h1
  unfold spec_l1Cur_among.f
  rw [e]
  simp only [Option.bind_some]
  have hr : r < l.length := by
    by_cases h : (1 : Int) < l.length
    · exact r1 h
    · have := r2 (by omega); omega
  obtain ⟨i, rfl⟩ : ∃ i : Nat, r = i := ⟨r.toNat, by omega⟩
  have hi : i < l.length := by omega
  rw [if_pos r0, if_pos hr, G.rd_nat hi]
  exact ⟨_, _, _, rfl, List.getElem_mem hi, h2, h3⟩
/-- The cells of a line from (x, y) on, n rounds before its end. -/
def line (ax ay sx sy : Int) : Nat → Int → Int → Int → List (List Int)
  | 0, x, y, _ => [[x, y]]
  | n + 1, x, y, e => [x, y] :: line ax ay sx sy n (if 2 * e > -ay then x + sx else x) (if 2 * e < ax then y + sy else y) ((if 2 * e > -ay then e - ay else e) + (if 2 * e < ax then ax else 0))
theorem line_length (ax ay sx sy : Int) (n : Nat) : ∀ x y e, (line ax ay sx sy n x y e).length = n + 1 := by
  induction n with
  | zero => intro x y e; rfl
  | succ n ih => intro x y e; simp [line, ih]
/-- How far a line still has to go: n rounds; its longer side goes on in each. -/
def Inv (x2 y2 ax ay sx sy : Int) (n : Nat) (x y e : Int) : Prop :=
  (ay ≤ ax ∧ (n : Int) ≤ ax ∧ ∃ m : Int, x2 - x = sx * n ∧ y2 - y = sy * m ∧ e = ax - ay + n * ay - m * ax ∧ (ax = 0 → m = 0) ∧ (1 ≤ ax → -ay < 2 * e ∧ 2 * e < 3 * ax - 2 * ay)) ∨
  (ax < ay ∧ (n : Int) ≤ ay ∧ ∃ m : Int, y2 - y = sy * n ∧ x2 - x = sx * m ∧ e = ax - ay + m * ay - n * ax ∧ 2 * e < ax ∧ 2 * ax - 3 * ay < 2 * e)
theorem inv_step {x2 y2 ax ay sx sy : Int} {n : Nat} {x y e : Int} (hx : 0 ≤ ax) (hy : 0 ≤ ay) (h : Inv x2 y2 ax ay sx sy (n + 1) x y e) :
    Inv x2 y2 ax ay sx sy n (if 2 * e > -ay then x + sx else x) (if 2 * e < ax then y + sy else y) ((if 2 * e > -ay then e - ay else e) + (if 2 * e < ax then ax else 0)) := by
  rcases h with ⟨h1, h2, m, h3, h4, h5, h6, h7⟩ | ⟨h1, h2, m, h3, h4, h5, h6, h7⟩
  · have hp : 1 ≤ ax := by omega
    obtain ⟨b1, b2⟩ := h7 hp
    have en : ((n + 1 : Nat) : Int) * ay = n * ay + ay := by rw [Int.natCast_add, Int.add_mul]; simp
    have ex : sx * ((n + 1 : Nat) : Int) = sx * n + sx := by rw [Int.natCast_add, Int.mul_add]; simp
    have c1 : 2 * e > -ay := b1
    rw [if_pos c1, if_pos c1]
    by_cases c2 : 2 * e < ax
    · rw [if_pos c2, if_pos c2]
      refine .inl ⟨h1, by omega, m - 1, by omega, ?_, ?_, by omega, fun _ => by omega⟩
      · rw [Int.mul_sub]; omega
      · rw [Int.sub_mul]; omega
    · rw [if_neg c2, if_neg c2]
      refine .inl ⟨h1, by omega, m, by omega, h4, by omega, by omega, fun _ => by omega⟩
  · have en : ((n + 1 : Nat) : Int) * ax = n * ax + ax := by rw [Int.natCast_add, Int.add_mul]; simp
    have ey : sy * ((n + 1 : Nat) : Int) = sy * n + sy := by rw [Int.natCast_add, Int.mul_add]; simp
    rw [if_pos h6, if_pos h6]
    by_cases c1 : 2 * e > -ay
    · rw [if_pos c1, if_pos c1]
      refine .inr ⟨h1, by omega, m - 1, by omega, ?_, ?_, by omega, by omega⟩
      · rw [Int.mul_sub]; omega
      · rw [Int.sub_mul]; omega
    · rw [if_neg c1, if_neg c1]
      refine .inr ⟨h1, by omega, m, by omega, h4, by omega, by omega, by omega⟩
theorem mul_neg_le {m a : Int} (ha : 1 ≤ a) (hm : m ≤ -1) : m * a ≤ -a := by
  have := Int.mul_le_mul_of_nonneg_right hm (show 0 ≤ a by omega)
  omega
theorem mul_pos_le {m a : Int} (ha : 1 ≤ a) (hm : 1 ≤ m) : a ≤ m * a := by
  have := Int.mul_le_mul_of_nonneg_right hm (show 0 ≤ a by omega)
  omega
theorem inv_end {x2 y2 ax ay sx sy x y e : Int} (hx : 0 ≤ ax) (hy : 0 ≤ ay) (h : Inv x2 y2 ax ay sx sy 0 x y e) : x = x2 ∧ y = y2 := by
  rcases h with ⟨h1, h2, m, h3, h4, h5, h6, h7⟩ | ⟨h1, h2, m, h3, h4, h5, h6, h7⟩
  · have hm : m = 0 := by
      by_cases h0 : ax = 0
      · exact h6 h0
      · obtain ⟨b1, b2⟩ := h7 (by omega)
        simp at h5
        rcases Int.lt_trichotomy m 0 with hm | hm | hm
        · have := mul_neg_le (show 1 ≤ ax by omega) (show m ≤ -1 by omega); omega
        · exact hm
        · have := mul_pos_le (show 1 ≤ ax by omega) (show 1 ≤ m by omega); omega
    rw [hm] at h4
    simp at h3 h4
    omega
  · have hm : m = 0 := by
      simp at h5
      rcases Int.lt_trichotomy m 0 with hm | hm | hm
      · have := mul_neg_le (show 1 ≤ ay by omega) (show m ≤ -1 by omega); omega
      · exact hm
      · have := mul_pos_le (show 1 ≤ ay by omega) (show 1 ≤ m by omega); omega
    rw [hm] at h4
    simp at h3 h4
    omega
/-- Between its ends. -/
theorem inv_between {x2 y2 ax ay sx sy : Int} {n : Nat} {x y e : Int} (hx : 0 ≤ ax) (hy : 0 ≤ ay) (h : Inv x2 y2 ax ay sx sy n x y e) : ∃ p q : Int, x2 - x = sx * p ∧ y2 - y = sy * q ∧ 0 ≤ p ∧ p ≤ ax ∧ 0 ≤ q ∧ q ≤ ay := by
  rcases h with ⟨h1, h2, m, h3, h4, h5, h6, h7⟩ | ⟨h1, h2, m, h3, h4, h5, h6, h7⟩
  · refine ⟨n, m, h3, h4, by omega, h2, ?_⟩
    by_cases h0 : ax = 0
    · have := h6 h0; omega
    · obtain ⟨b1, b2⟩ := h7 (by omega)
      have hn : 0 ≤ (n : Int) * ay := Int.mul_nonneg (by omega) hy
      have hn2 : (n : Int) * ay ≤ ax * ay := Int.mul_le_mul_of_nonneg_right h2 hy
      constructor
      · rcases Int.lt_or_le m 0 with hm | hm
        · have := mul_neg_le (show 1 ≤ ax by omega) (show m ≤ -1 by omega); omega
        · exact hm
      · rcases Int.lt_or_le ay m with hm | hm
        · have := Int.mul_le_mul_of_nonneg_right (show ay + 1 ≤ m by omega) hx
          rw [Int.add_mul, Int.mul_comm ay ax] at this
          omega
        · exact hm
  · refine ⟨m, n, h4, h3, ?_, ?_, by omega, h2⟩
    all_goals
      have hn : 0 ≤ (n : Int) * ax := Int.mul_nonneg (by omega) hx
      have hn2 : (n : Int) * ax ≤ ay * ax := Int.mul_le_mul_of_nonneg_right h2 hx
    · rcases Int.lt_or_le m 0 with hm | hm
      · have := mul_neg_le (show 1 ≤ ay by omega) (show m ≤ -1 by omega); omega
      · exact hm
    · rcases Int.lt_or_le ax m with hm | hm
      · have := Int.mul_le_mul_of_nonneg_right (show ax + 1 ≤ m by omega) hy
        rw [Int.add_mul, Int.mul_comm ax ay] at this
        omega
      · exact hm
theorem inv_go {x2 y2 ax ay sx sy : Int} {n : Nat} {x y e : Int} (s1 : sx = 1 ∨ sx = -1) (s2 : sy = 1 ∨ sy = -1) (h : Inv x2 y2 ax ay sx sy (n + 1) x y e) : ¬ (x = x2 ∧ y = y2) := by
  rintro ⟨rfl, rfl⟩
  rcases h with ⟨h1, h2, m, h3, h4, _⟩ | ⟨h1, h2, m, h3, h4, _⟩
  · rcases s1 with rfl | rfl <;> omega
  · rcases s2 with rfl | rfl <;> omega
theorem inv_e {x2 y2 ax ay sx sy : Int} {n : Nat} {x y e : Int} (hx : 0 ≤ ax) (hx' : ax ≤ 2000) (hy : 0 ≤ ay) (hy' : ay ≤ 2000) (h : Inv x2 y2 ax ay sx sy (n + 1) x y e) : -10000 ≤ e ∧ e ≤ 10000 := by
  rcases h with ⟨h1, h2, m, h3, h4, h5, h6, h7⟩ | ⟨h1, h2, m, h3, h4, h5, h6, h7⟩
  · have := h7 (by omega); omega
  · omega
theorem line_loop (x2 y2 ax ay sx sy : Int) (bx : -1000 ≤ x2 ∧ x2 ≤ 1000) (by_ : -1000 ≤ y2 ∧ y2 ≤ 1000) (hx : 0 ≤ ax) (hx' : ax ≤ 2000) (hy : 0 ≤ ay) (hy' : ay ≤ 2000) (s1 : sx = 1 ∨ sx = -1) (s2 : sy = 1 ∨ sy = -1) (n : Nat) :
    ∀ x y e out, Inv x2 y2 ax ay sx sy n x y e → out.length + n ≤ 3000 → Ev (fun k => spec_LineCells.l0 k x y x2 y2 ax ay sx sy e out) (out ++ line ax ay sx sy n x y e) ∧ Ev (fun k => impl_LineCells.l1 k x2 y2 ax sx ay sy e out x y) (out ++ line ax ay sx sy n x y e) := by
  induction n with
  | zero =>
    intro x y e out h ho
    obtain ⟨rfl, rfl⟩ := inv_end hx hy h
    constructor
    · refine G.succ ?_
      simp only [spec_LineCells.l0]
      refine G.pos (by omega) (G.bind0 rfl (G.pos trivial ?_))
      rw [beq_self_eq_true]
      refine G.succ ?_
      simp only [spec_LineCells.j4]
      exact G.pos trivial (G.now fun _ => rfl)
    · refine G.succ ?_
      simp only [impl_LineCells.l1]
      refine G.pos (by omega) (G.bind0 rfl (G.pos trivial ?_))
      rw [beq_self_eq_true]
      refine G.succ ?_
      simp only [impl_LineCells.j2]
      exact G.pos trivial (G.now fun _ => rfl)
  | succ n ih =>
    intro x y e out h ho
    have hg := inv_go s1 s2 h
    obtain ⟨e0, e1⟩ := inv_e hx hx' hy hy' h
    obtain ⟨p, q, hp, hq, p0, p1, q0, q1⟩ := inv_between hx hy h
    have hxx : -4000 ≤ x ∧ x ≤ 4000 := by rcases s1 with rfl | rfl <;> omega
    have hyy : -4000 ≤ y ∧ y ≤ 4000 := by rcases s2 with rfl | rfl <;> omega
    have w1 : wrap64 (2 * e) = 2 * e := G.w64' (by omega) (by omega)
    have w2 : wrap64 (-ay) = -ay := G.wneg (by omega) (by omega)
    have w3 : wrap64 (x + sx) = x + sx := G.w64' (by rcases s1 with rfl | rfl <;> omega) (by rcases s1 with rfl | rfl <;> omega)
    have w4 : wrap64 (y + sy) = y + sy := G.w64' (by rcases s2 with rfl | rfl <;> omega) (by rcases s2 with rfl | rfl <;> omega)
    have w5 : wrap64 (e - ay) = e - ay := G.w64' (by omega) (by omega)
    have w6 : wrap64 (e + ax) = e + ax := G.w64' (by omega) (by omega)
    have w7 : wrap64 (e - ay + ax) = e - ay + ax := G.w64' (by omega) (by omega)
    obtain ⟨i1, i2⟩ := ih _ _ _ (out ++ [[x, y]]) (inv_step hx hy h) (by simp; omega)
    rw [List.append_assoc] at i1 i2
    have hl : out ++ line ax ay sx sy (n + 1) x y e = out ++ ([[x, y]] ++ line ax ay sx sy n (if 2 * e > -ay then x + sx else x) (if 2 * e < ax then y + sy else y) ((if 2 * e > -ay then e - ay else e) + (if 2 * e < ax then ax else 0))) := rfl
    rw [hl]
    constructor
    · have j4 (b : Bool) (hb : b = false) : Ev (fun k => spec_LineCells.j4 k x y x2 y2 ax ay sx sy e (out ++ [[x, y]]) b) (out ++ ([[x, y]] ++ line ax ay sx sy n (if 2 * e > -ay then x + sx else x) (if 2 * e < ax then y + sy else y) ((if 2 * e > -ay then e - ay else e) + (if 2 * e < ax then ax else 0)))) := by
        refine G.succ ?_
        simp only [spec_LineCells.j4, w1, w2, w3, w4, w5, w6, w7]
        refine G.neg (by simp [hb]) ?_
        by_cases c1 : 2 * e > -ay <;> by_cases c2 : 2 * e < ax <;> simp only [c1, c2, if_true, if_false, Int.add_zero] at i1 ⊢ <;> exact i1
      refine G.succ ?_
      simp only [spec_LineCells.l0]
      refine G.pos (by omega) (G.bind0 rfl (G.ite (fun c => j4 _ ?_) (fun c => j4 _ rfl)))
      have : ¬ y = y2 := fun c' => hg ⟨c, c'⟩
      simp [this]
    · have j2 (b : Bool) (hb : b = false) : Ev (fun k => impl_LineCells.j2 k x2 y2 ax sx ay sy e (out ++ [[x, y]]) x y b) (out ++ ([[x, y]] ++ line ax ay sx sy n (if 2 * e > -ay then x + sx else x) (if 2 * e < ax then y + sy else y) ((if 2 * e > -ay then e - ay else e) + (if 2 * e < ax then ax else 0)))) := by
        refine G.succ ?_
        simp only [impl_LineCells.j2, w1, w2, w3, w4, w5, w6, w7]
        refine G.neg (by simp [hb]) ?_
        by_cases c1 : 2 * e > -ay <;> by_cases c2 : 2 * e < ax <;> simp only [c1, c2, if_true, if_false, Int.add_zero] at i2 ⊢ <;> exact i2
      refine G.succ ?_
      simp only [impl_LineCells.l1]
      refine G.pos (by omega) (G.bind0 rfl (G.ite (fun c => j2 _ ?_) (fun c => j2 _ rfl)))
      have : ¬ y = y2 := fun c' => hg ⟨c, c'⟩
      simp [this]
/-- The size of a number, and its sign. -/
def absv (d : Int) : Int := if d < 0 then -d else d
def sgnv (d : Int) : Int := if d < 0 then -1 else 1
theorem absv_is (d : Int) : 0 ≤ absv d ∧ (sgnv d = 1 ∨ sgnv d = -1) ∧ d = sgnv d * absv d ∧ (∀ b : Int, -b ≤ d → d ≤ b → absv d ≤ b) := by
  unfold absv sgnv
  by_cases h : d < 0
  · simp only [if_pos h]; exact ⟨by omega, .inr trivial, by omega, fun b _ _ => by omega⟩
  · simp only [if_neg h]; exact ⟨by omega, .inl trivial, by omega, fun b _ _ => by omega⟩
theorem abs_s (d : Int) (h0 : -9000 ≤ d) (h1 : d ≤ 9000) : spec_l4Abs.f d = some (absv d) := by
  unfold spec_l4Abs.f absv
  rw [G.wneg (by omega) (by omega)]; split <;> rfl
theorem abs_i (d : Int) (h0 : -9000 ≤ d) (h1 : d ≤ 9000) : impl_LineCells_1.f d = some (absv d, sgnv d) := by
  unfold impl_LineCells_1.f absv sgnv
  rw [G.wneg (by omega) (by omega)]; split <;> rfl
def big (a : Int) : Prop := -1000 ≤ a ∧ a ≤ 1000
instance (a : Int) : Decidable (big a) := by unfold big; infer_instance
theorem in_s (a : Int) : spec_l12In.f a = some (decide (big a)) := by
  unfold spec_l12In.f; rw [G.nest]; congr 1; rw [Bool.eq_iff_iff]; simp only [Bool.and_eq_true, decide_eq_true_eq]; exact Iff.rfl
theorem in_i (a : Int) : impl_within.f a 1000 = some (decide (big a)) := by
  unfold impl_within.f; rw [G.wneg (by omega) (by omega), G.nest]; congr 1; rw [Bool.eq_iff_iff]; simp only [Bool.and_eq_true, decide_eq_true_eq]; exact Iff.rfl
/-- What both tell: the line, or nothing beyond the bounds. -/
def lineOf (x1 y1 x2 y2 : Int) : List (List Int) :=
  line (absv (x2 - x1)) (absv (y2 - y1)) (sgnv (x2 - x1)) (sgnv (y2 - y1)) (max (absv (x2 - x1)) (absv (y2 - y1))).toNat x1 y1 (absv (x2 - x1) - absv (y2 - y1))
theorem inv_start (x1 y1 x2 y2 : Int) : Inv x2 y2 (absv (x2 - x1)) (absv (y2 - y1)) (sgnv (x2 - x1)) (sgnv (y2 - y1)) (max (absv (x2 - x1)) (absv (y2 - y1))).toNat x1 y1 (absv (x2 - x1) - absv (y2 - y1)) := by
  obtain ⟨a0, s1, d1, _⟩ := absv_is (x2 - x1)
  obtain ⟨b0, s2, d2, _⟩ := absv_is (y2 - y1)
  generalize absv (x2 - x1) = ax at *
  generalize absv (y2 - y1) = ay at *
  by_cases h : ay ≤ ax
  · have e : ((max ax ay).toNat : Int) = ax := by omega
    refine .inl ⟨h, by omega, ay, by rw [e]; exact d1, d2, ?_, by omega, fun _ => by omega⟩
    rw [e, Int.mul_comm ay ax]; omega
  · have e : ((max ax ay).toNat : Int) = ay := by omega
    refine .inr ⟨by omega, by omega, ax, by rw [e]; exact d2, d1, ?_, by omega, by omega⟩
    rw [e, Int.mul_comm ay ax]; omega
theorem lines_is (x1 y1 x2 y2 : Int) : Ev (fun k => spec_LineCells.f k x1 y1 x2 y2) (if big x1 ∧ big y1 ∧ big x2 ∧ big y2 then lineOf x1 y1 x2 y2 else []) ∧ Ev (fun k => impl_LineCells.f k x1 y1 x2 y2) (if big x1 ∧ big y1 ∧ big x2 ∧ big y2 then lineOf x1 y1 x2 y2 else []) := by
  have no : Ev (fun k => spec_LineCells.j0 k x1 y1 x2 y2 true) [] := G.succ (G.now fun k => by simp [spec_LineCells.j0])
  simp only [spec_LineCells.f, impl_LineCells.f]
  have r0 : rd [x1, y1, x2, y2] 0 = x1 := rfl
  have st (i : Nat) (hi : i < 4) (a : Int) (ha : rd [x1, y1, x2, y2] (i : Int) = a) {r : List (List Int)} (h1 : ¬ big a → r = []) (h2 : big a → Ev (fun k => impl_LineCells.l0 k x1 y1 x2 y2 [x1, y1, x2, y2] 4 ((i + 1 : Nat) : Int)) r) : Ev (fun k => impl_LineCells.l0 k x1 y1 x2 y2 [x1, y1, x2, y2] 4 (i : Int)) r := by
    refine G.succ ?_
    simp only [impl_LineCells.l0, ha, in_i, G.w64 i (by omega)]
    refine G.pos (by omega) (G.pos (by omega) (G.pos (by simp; omega) (G.bind0 rfl ?_)))
    by_cases hb : big a
    · exact G.pos (by simp [hb]) (h2 hb)
    · exact G.neg (by simp [hb]) (G.now fun _ => by rw [h1 hb])
  have hl : (([x1, y1, x2, y2] : List Int).length : Int) = 4 := rfl
  by_cases h : big x1 ∧ big y1 ∧ big x2 ∧ big y2
  · rw [if_pos h]
    obtain ⟨h1, h2, h3, h4⟩ := h
    obtain ⟨a0, s1, d1, m1⟩ := absv_is (x2 - x1)
    obtain ⟨b0, s2, d2, m2⟩ := absv_is (y2 - y1)
    have q1 := m1 2000 (by unfold big at h1 h3; omega) (by unfold big at h1 h3; omega)
    have q2 := m2 2000 (by unfold big at h2 h4; omega) (by unfold big at h2 h4; omega)
    obtain ⟨g1, g2⟩ := line_loop x2 y2 _ _ _ _ h3 h4 a0 q1 b0 q2 s1 s2 _ x1 y1 _ [] (inv_start x1 y1 x2 y2) (by simp; omega)
    have wx : wrap64 (x2 - x1) = x2 - x1 := G.w64' (by unfold big at h1 h3; omega) (by unfold big at h1 h3; omega)
    have wy : wrap64 (y2 - y1) = y2 - y1 := G.w64' (by unfold big at h2 h4; omega) (by unfold big at h2 h4; omega)
    have we : wrap64 (absv (x2 - x1) - absv (y2 - y1)) = absv (x2 - x1) - absv (y2 - y1) := G.w64' (by omega) (by omega)
    have ax1 := abs_s (x2 - x1) (by unfold big at h1 h3; omega) (by unfold big at h1 h3; omega)
    have ay1 := abs_s (y2 - y1) (by unfold big at h2 h4; omega) (by unfold big at h2 h4; omega)
    have ax2 := abs_i (x2 - x1) (by unfold big at h1 h3; omega) (by unfold big at h1 h3; omega)
    have ay2 := abs_i (y2 - y1) (by unfold big at h2 h4; omega) (by unfold big at h2 h4; omega)
    constructor
    · refine G.bind0 (in_s x1) (G.pos (by simp [h1]) (G.bind0 (in_s y1) (G.pos (by simp [h2]) (G.bind0 (in_s x2) (G.pos (by simp [h3]) (G.bind0 (in_s y2) ?_))))))
      rw [decide_eq_true h4]
      have j2 : Ev (fun k => spec_LineCells.j2 k x1 y1 x2 y2 (absv (x2 - x1)) (absv (y2 - y1)) (sgnv (x2 - x1)) (sgnv (y2 - y1))) (lineOf x1 y1 x2 y2) := by
        refine G.succ ?_
        simp only [spec_LineCells.j2, we]; exact g1
      have j1 : Ev (fun k => spec_LineCells.j1 k x1 y1 x2 y2 (absv (x2 - x1)) (absv (y2 - y1)) (sgnv (x2 - x1))) (lineOf x1 y1 x2 y2) := by
        refine G.succ ?_
        simp only [spec_LineCells.j1]
        by_cases c : y2 < y1
        · have e : sgnv (y2 - y1) = -1 := if_pos (by omega)
          rw [e] at j2; exact G.pos c j2
        · have e : sgnv (y2 - y1) = 1 := if_neg (by omega)
          rw [e] at j2; exact G.neg c j2
      refine G.succ ?_
      simp only [spec_LineCells.j0, wx, wy]
      refine G.neg (by simp) (G.bind0 ax1 (G.bind0 ay1 ?_))
      by_cases c : x2 < x1
      · have e : sgnv (x2 - x1) = -1 := if_pos (by omega)
        rw [e] at j1; exact G.pos c j1
      · have e : sgnv (x2 - x1) = 1 := if_neg (by omega)
        rw [e] at j1; exact G.neg c j1
    · refine G.bind0 rfl ?_
      simp only [hl]
      refine st 0 (by omega) x1 rfl (fun c => absurd h1 c) fun _ => st 1 (by omega) y1 rfl (fun c => absurd h2 c) fun _ => st 2 (by omega) x2 rfl (fun c => absurd h3 c) fun _ => st 3 (by omega) y2 rfl (fun c => absurd h4 c) fun _ => ?_
      refine G.succ ?_
      simp only [impl_LineCells.l0, wx, wy]
      refine G.neg (by omega) (G.bind0 ax2 (G.bind0 ay2 ?_))
      simp only [we]; exact g2
  · rw [if_neg h]
    constructor
    · by_cases h1 : big x1
      · by_cases h2 : big y1
        · by_cases h3 : big x2
          · have h4 : ¬ big y2 := fun h4 => h ⟨h1, h2, h3, h4⟩
            refine G.bind0 (in_s x1) (G.pos (by simp [h1]) (G.bind0 (in_s y1) (G.pos (by simp [h2]) (G.bind0 (in_s x2) (G.pos (by simp [h3]) (G.bind0 (in_s y2) ?_))))))
            rw [decide_eq_false h4]; exact no
          · exact G.bind0 (in_s x1) (G.pos (by simp [h1]) (G.bind0 (in_s y1) (G.pos (by simp [h2]) (G.bind0 (in_s x2) (G.neg (by simp [h3]) no)))))
        · exact G.bind0 (in_s x1) (G.pos (by simp [h1]) (G.bind0 (in_s y1) (G.neg (by simp [h2]) no)))
      · exact G.bind0 (in_s x1) (G.neg (by simp [h1]) no)
    · refine G.bind0 rfl ?_
      simp only [hl]
      refine st 0 (by omega) x1 rfl (fun _ => rfl) fun h1 => st 1 (by omega) y1 rfl (fun _ => rfl) fun h2 => st 2 (by omega) x2 rfl (fun _ => rfl) fun h3 => st 3 (by omega) y2 rfl (fun _ => rfl) fun h4 => absurd ⟨h1, h2, h3, h4⟩ h
/-- Each cell of a line is two numbers; neighbours are near; the first and the last are its ends. -/
theorem line_facts (x2 y2 ax ay sx sy : Int) (hx : 0 ≤ ax) (hy : 0 ≤ ay) (s1 : sx = 1 ∨ sx = -1) (s2 : sy = 1 ∨ sy = -1) (n : Nat) : ∀ x y e, Inv x2 y2 ax ay sx sy n x y e →
    (∀ i, i ≤ n → ∃ a b, (line ax ay sx sy n x y e)[i]? = some [a, b] ∧ (i = 0 → a = x ∧ b = y) ∧ (i = n → a = x2 ∧ b = y2) ∧ (∀ j, i = j + 1 → ∃ c d, (line ax ay sx sy n x y e)[j]? = some [c, d] ∧ -1 ≤ a - c ∧ a - c ≤ 1 ∧ -1 ≤ b - d ∧ b - d ≤ 1)) := by
  induction n with
  | zero =>
    intro x y e h i hi
    obtain rfl : i = 0 := by omega
    obtain ⟨rfl, rfl⟩ := inv_end hx hy h
    exact ⟨x, y, rfl, fun _ => ⟨rfl, rfl⟩, fun _ => ⟨rfl, rfl⟩, fun j hj => by omega⟩
  | succ n ih =>
    intro x y e h i hi
    have h' := ih _ _ _ (inv_step hx hy h)
    rcases i with _ | i
    · exact ⟨x, y, rfl, fun _ => ⟨rfl, rfl⟩, fun h => by omega, fun j hj => by omega⟩
    · obtain ⟨a, b, ha, h0, h1, h2⟩ := h' i (by omega)
      refine ⟨a, b, by simpa [line] using ha, fun h => by omega, fun h => h1 (by omega), fun j hj => ?_⟩
      obtain rfl : i = j := by omega
      rcases i with _ | i
      · obtain ⟨rfl, rfl⟩ := h0 rfl
        refine ⟨x, y, rfl, ?_⟩
        rcases s1 with rfl | rfl <;> rcases s2 with rfl | rfl <;> (repeat' split) <;> omega
      · obtain ⟨c, d, hc, hd⟩ := h2 i rfl
        exact ⟨c, d, by simpa [line] using hc, hd⟩
theorem rdL {l : List (List Int)} {i : Nat} {v : List Int} (h : l[i]? = some v) : rd_L1 l (i : Int) = v := by
  unfold rd_L1; simp [List.getD_eq_getElem?_getD, h]
theorem fine_is (x1 y1 x2 y2 : Int) (h1 : big x1) (h2 : big y1) (h3 : big x2) (h4 : big y2) : Ev (fun k => spec_LineFine.f k (lineOf x1 y1 x2 y2) x1 y1 x2 y2) true := by
  obtain ⟨a0, s1, d1, m1⟩ := absv_is (x2 - x1)
  obtain ⟨b0, s2, d2, m2⟩ := absv_is (y2 - y1)
  have q1 := m1 2000 (by unfold big at h1 h3; omega) (by unfold big at h1 h3; omega)
  have q2 := m2 2000 (by unfold big at h2 h4; omega) (by unfold big at h2 h4; omega)
  have wx : wrap64 (x2 - x1) = x2 - x1 := G.w64' (by unfold big at h1 h3; omega) (by unfold big at h1 h3; omega)
  have wy : wrap64 (y2 - y1) = y2 - y1 := G.w64' (by unfold big at h2 h4; omega) (by unfold big at h2 h4; omega)
  have ax1 := abs_s (x2 - x1) (by unfold big at h1 h3; omega) (by unfold big at h1 h3; omega)
  have ay1 := abs_s (y2 - y1) (by unfold big at h2 h4; omega) (by unfold big at h2 h4; omega)
  have F := line_facts x2 y2 _ _ _ _ a0 b0 s1 s2 _ x1 y1 _ (inv_start x1 y1 x2 y2)
  have hlen : (lineOf x1 y1 x2 y2).length = (max (absv (x2 - x1)) (absv (y2 - y1))).toNat + 1 := line_length _ _ _ _ _ _ _ _
  have F' : ∀ i, i ≤ (max (absv (x2 - x1)) (absv (y2 - y1))).toNat → ∃ a b, (lineOf x1 y1 x2 y2)[i]? = some [a, b] ∧ (i = 0 → a = x1 ∧ b = y1) ∧ (i = (max (absv (x2 - x1)) (absv (y2 - y1))).toNat → a = x2 ∧ b = y2) ∧ (∀ j, i = j + 1 → ∃ c d, (lineOf x1 y1 x2 y2)[j]? = some [c, d] ∧ -1 ≤ a - c ∧ a - c ≤ 1 ∧ -1 ≤ b - d ∧ b - d ≤ 1) := F
  clear F
  generalize hN : (max (absv (x2 - x1)) (absv (y2 - y1))).toNat = N at hlen F'
  have hNi : (N : Int) = max (absv (x2 - x1)) (absv (y2 - y1)) := by omega
  have hN2 : N ≤ 2000 := by omega
  generalize lineOf x1 y1 x2 y2 = L at hlen F' ⊢
  -- bounds of the cells, from the ends on
  have hbd : ∀ i, i ≤ N → ∀ a b, L[i]? = some [a, b] → -5000 ≤ a ∧ a ≤ 5000 ∧ -5000 ≤ b ∧ b ≤ 5000 ∧ x1 - i ≤ a ∧ a ≤ x1 + i ∧ y1 - i ≤ b ∧ b ≤ y1 + i := by
    intro i
    induction i with
    | zero =>
      intro hi a b hab
      obtain ⟨a', b', e, e0, _⟩ := F' 0 hi
      rw [e] at hab
      obtain ⟨rfl, rfl⟩ := e0 rfl
      simp at hab
      unfold big at h1 h2
      omega
    | succ i ih =>
      intro hi a b hab
      obtain ⟨a', b', e, _, _, e2⟩ := F' (i + 1) hi
      rw [e] at hab
      simp at hab
      obtain ⟨c, d, e3, e4⟩ := e2 i rfl
      have := ih (by omega) c d e3
      unfold big at h1 h2
      omega
  have abs1 (d : Int) (h0 : -1 ≤ d) (h1 : d ≤ 1) : ∃ r, spec_l4Abs.f d = some r ∧ r ≤ 1 := ⟨_, abs_s d (by omega) (by omega), (absv_is d).2.2.2 1 h0 h1⟩
  have last : Ev (fun k => spec_LineFine.l0 k L x1 y1 x2 y2 (N : Int) L L.length ((N + 1 : Nat) : Int)) true := by
    obtain ⟨a, b, e, e0, _⟩ := F' 0 (by omega)
    obtain ⟨rfl, rfl⟩ := e0 rfl
    obtain ⟨c, d, f, _, f1, _⟩ := F' N (by omega)
    obtain ⟨rfl, rfl⟩ := f1 rfl
    have r0 : rd_L1 L 0 = [a, b] := rdL (i := 0) e
    have r1 : rd_L1 L (N : Int) = [c, d] := rdL f
    refine G.succ ?_
    simp only [spec_LineFine.l0, r0, r1]
    refine G.neg (by omega) (G.pos (by omega) (G.pos (by simp) (G.pos rfl (G.pos (by simp) (G.pos rfl (G.pos (by omega) (G.pos (by omega) (G.pos (by simp) (G.pos rfl (G.pos (by simp) (G.now fun _ => ?_)))))))))))
    show some ((rd [c, d] 1) == d) = some true
    rw [show rd [c, d] 1 = d from rfl]; simp
  have all : ∀ i, i ≤ N + 1 → Ev (fun k => spec_LineFine.l0 k L x1 y1 x2 y2 (N : Int) L L.length (i : Int)) true := by
    refine G.down_ind (N + 1) (fun i => Ev (fun k => spec_LineFine.l0 k L x1 y1 x2 y2 (N : Int) L L.length (i : Int)) true) last ?_
    intro i hi ih
    obtain ⟨a, b, e, _, _, e2⟩ := F' i (by omega)
    have r0 : rd_L1 L (i : Int) = [a, b] := rdL e
    refine G.succ ?_
    rcases i with _ | i
    · simp only [spec_LineFine.l0, r0, G.w64 0 (by omega)]
      exact G.pos (by omega) (G.pos (by omega) (G.pos (by omega) (G.pos rfl (G.neg (by omega) ih))))
    · obtain ⟨c, d, f, g1, g2, g3, g4⟩ := e2 i rfl
      have r1 : rd_L1 L (i : Int) = [c, d] := rdL f
      have wi : wrap64 (((i + 1 : Nat) : Int) - 1) = (i : Int) := by rw [G.w64' (by omega) (by omega)]; omega
      obtain ⟨u1, u2, u3, u4, _⟩ := hbd (i + 1) (by omega) a b e
      obtain ⟨v1, v2, v3, v4, _⟩ := hbd i (by omega) c d f
      obtain ⟨t1, k1, l1⟩ := abs1 (a - c) g1 g2
      obtain ⟨t2, k2, l2⟩ := abs1 (b - d) g3 g4
      have p1 : rd [a, b] 0 = a := rfl
      have p2 : rd [a, b] 1 = b := rfl
      have p3 : rd [c, d] 0 = c := rfl
      have p4 : rd [c, d] 1 = d := rfl
      have ww : wrap64 (a - c) = a - c := G.w64' (by omega) (by omega)
      have ww2 : wrap64 (b - d) = b - d := G.w64' (by omega) (by omega)
      simp only [spec_LineFine.l0, r0, r1, wi, p1, p2, p3, p4, ww, ww2, G.w64 (i + 1) (by omega)]
      exact G.pos (by omega) (G.pos (by omega) (G.pos (by omega) (G.pos rfl (G.pos (by omega) (G.pos (by simp) (G.pos (by omega) (G.pos (by omega) (G.pos (by simp) (G.bind0 k1 (G.neg (by omega) (G.pos (by simp) (G.pos (by simp) (G.bind0 k2 (G.neg (by omega) ih))))))))))))))
  have j0 : Ev (fun k => spec_LineFine.j0 k L x1 y1 x2 y2 (N : Int)) true := by
    refine G.succ ?_
    simp only [spec_LineFine.j0, G.w64 N (by omega)]
    exact G.pos (by omega) (all 0 (by omega))
  simp only [spec_LineFine.f, wx, wy]
  refine G.bind0 ax1 (G.bind0 ay1 (G.ite (fun c => ?_) (fun c => ?_)))
  · rw [show absv (y2 - y1) = (N : Int) by omega]; exact j0
  · rw [show absv (x2 - x1) = (N : Int) by omega]; exact j0
theorem draw_line {c : List Int} (hc : Bytes c) (hl : c.length ≤ 1048576) : ∃ r, spec_DrawLineCells.f c = some r := by
  obtain ⟨b, a1, s1, e1, p1, q1⟩ := one_ok hc hl 16 0 0 (by omega) (by omega)
  unfold spec_DrawLineCells.f
  rw [e1, Option.bind_some]
  cases b with
  | true =>
    obtain ⟨v1, a2, s2, e2, _, p2, q2⟩ := among_ok hc hl [-1000, 1000, 1001] (by decide) (by decide) a1 s1 (by omega) (by omega)
    obtain ⟨v2, a3, s3, e3, _, _, _, p3, q3⟩ := pick_ok hc hl 9 a2 s2 (by omega) (by omega)
    obtain ⟨v3, a4, s4, e4, _, p4, q4⟩ := among_ok hc hl [-1000, 1000, 0] (by decide) (by decide) a3 s3 (by omega) (by omega)
    obtain ⟨v4, a5, s5, e5, _, _, _, p5, q5⟩ := pick_ok hc hl 2000 a4 s4 (by omega) (by omega)
    rw [if_pos rfl, e2, Option.bind_some]; simp only [e3, Option.bind_some, e4, e5]; exact ⟨_, rfl⟩
  | false =>
    obtain ⟨v1, a2, s2, e2, _, _, _, p2, q2⟩ := pick_ok hc hl 21 a1 s1 (by omega) (by omega)
    obtain ⟨v2, a3, s3, e3, _, _, _, p3, q3⟩ := pick_ok hc hl 21 a2 s2 (by omega) (by omega)
    obtain ⟨v3, a4, s4, e4, _, _, _, p4, q4⟩ := pick_ok hc hl 21 a3 s3 (by omega) (by omega)
    obtain ⟨v4, a5, s5, e5, _, _, _, p5, q5⟩ := pick_ok hc hl 21 a4 s4 (by omega) (by omega)
    rw [if_neg (by simp), e2, Option.bind_some]; simp only [e3, Option.bind_some, e4, e5]; exact ⟨_, rfl⟩
theorem FnLine : laws_FnLine.Pure := by
  intro c hm hreach hb
  refine Ev.rounds ?_
  have byt : Bytes c := fun b hx => by have := hb b hx; simp [Lit.wf, IntKind.min, IntKind.max, IntKind.signed, IntKind.bits] at this; omega
  simp only [laws_FnLine.f]
  refine G.ite (fun _ => G.now fun _ => rfl) (fun hl => ?_)
  obtain ⟨⟨x1, y1, x2, y2⟩, e⟩ := draw_line byt (by omega)
  obtain ⟨h1, h2⟩ := lines_is x1 y1 x2 y2
  refine G.bind0 e (G.bind h2 (G.bind h1 (G.pos rfl ?_)))
  by_cases h : big x1 ∧ big y1 ∧ big x2 ∧ big y2
  · rw [if_pos h]
    refine G.neg ?_ (G.bind (fine_is x1 y1 x2 y2 h.1 h.2.1 h.2.2.1 h.2.2.2) (G.now fun _ => rfl))
    unfold lineOf; rw [line_length]; omega
  · rw [if_neg h]
    exact G.pos rfl (G.now fun _ => rfl)

end Go.Proofs.Ytddfolmimgkokaa.Pure
