/- For all arguments the printed law Gains answers true: plain lists and numbers, no memory. Conditions: none beyond what the program's own guards ask. -/
import Derived.Test.YtineniimpdjpnaaRFnGainsx13
import Derived.Test.YtineniimpdjpnaaG
namespace Go.Proofs.Ytineniimpdjpnaa.Pure
open Go.RowKit Go.Proofs.Ytineniimpdjpnaa.PFnGains Go.Proofs.YtineniimpdjpnaaW.PrintWords Go.Proofs.YtineniimpdjpnaaW.PrintLast
set_option linter.unusedVariables false
set_option linter.unusedSimpArgs false


theorem u64_small (n : Int) (h0 : 0 ≤ n) (h1 : n < 2 ^ 24) : IntKind.u64.wrap n = n := by simp [IntKind.wrap, IntKind.bits, IntKind.signed]; omega
theorem u64_range (n : Int) : 0 ≤ IntKind.u64.wrap n ∧ IntKind.u64.wrap n < 18446744073709551616 := by simp [IntKind.wrap, IntKind.bits, IntKind.signed]; omega
theorem byte_and (x : Int) (h0 : 0 ≤ x) (h1 : x < 18446744073709551616) : 0 ≤ wrap64 (Go.bits .and .u64 (x / 1099511627776) 255) ∧ wrap64 (Go.bits .and .u64 (x / 1099511627776) 255) ≤ 255 := by
  have e : Go.bits .and .u64 (x / 1099511627776) 255 = (x / 1099511627776) % 256 := bits_mask .u64 24 (by decide) u64_small 8 (by decide) (x / 1099511627776) (by omega) (by omega)
  rw [e, G.w64' (by omega) (by omega)]
  omega
def Bytes (c : List Int) : Prop := ∀ b ∈ c, 0 ≤ b ∧ b ≤ 255
theorem next_ok {c : List Int} (hc : Bytes c) (hl : c.length ≤ 1048576) (a s : Int) (h0 : 0 ≤ a) (h1 : a ≤ 1000000000000) : ∃ b s', spec_l1Cur_next.f c a s = some (b, a + 1, s') ∧ 0 ≤ b ∧ b ≤ 255 := by
  unfold spec_l1Cur_next.f
  rw [G.w64' (i := a + 1) (by omega) (by omega)]
  by_cases h2 : a < (c.length : Int)
  · obtain ⟨i, rfl⟩ : ∃ i : Nat, a = i := ⟨a.toNat, by omega⟩
    have hi : i < c.length := by omega
    have hb := hc c[i] (List.getElem_mem hi)
    rw [if_pos h2, if_pos h0, G.rd_nat hi, G.w64' (i := c[i]) (by omega) (by omega), if_pos (by omega)]
    exact ⟨_, _, rfl, hb.1, hb.2⟩
  · rw [if_neg h2, if_neg (by omega)]
    exact ⟨_, _, rfl, (byte_and _ (u64_range _).1 (u64_range _).2).1, (byte_and _ (u64_range _).1 (u64_range _).2).2⟩
theorem pick_ok {c : List Int} (hc : Bytes c) (hl : c.length ≤ 1048576) (n a s : Int) (h0 : 0 ≤ a) (h1 : a ≤ 900000000000) : ∃ r a' s', spec_l1Cur_pick.f c a s n = some (r, a', s') ∧ 0 ≤ r ∧ (1 < n → r < n) ∧ (n ≤ 1 → r = 0) ∧ a ≤ a' ∧ a' ≤ a + 2 := by
  unfold spec_l1Cur_pick.f
  by_cases hn : n ≤ 1
  · rw [if_pos hn]; exact ⟨0, a, s, rfl, by omega, by omega, by omega, by omega, by omega⟩
  · rw [if_neg hn]
    obtain ⟨b, s1, e1, b0, b1⟩ := next_ok hc hl a s h0 (by omega)
    rw [e1]
    simp only [Option.bind_some]
    by_cases h2 : n > 200
    · obtain ⟨d, s2, e2, d0, d1⟩ := next_ok hc hl (a + 1) s1 (by omega) (by omega)
      rw [if_pos h2, e2]
      simp only [Option.bind_some]
      rw [if_neg (by omega), G.w64' (i := b * 256) (by omega) (by omega), G.w64' (by omega) (by omega), Int.tmod_eq_emod_of_nonneg (by omega)]
      exact ⟨_, _, _, rfl, Int.emod_nonneg _ (by omega), fun _ => Int.emod_lt_of_pos _ (by omega), fun h => absurd h hn, by omega, by omega⟩
    · rw [if_neg h2, if_neg (by omega), Int.tmod_eq_emod_of_nonneg (by omega)]
      exact ⟨_, _, _, rfl, Int.emod_nonneg _ (by omega), fun _ => Int.emod_lt_of_pos _ (by omega), fun h => absurd h hn, by omega, by omega⟩
theorem one_ok {c : List Int} (hc : Bytes c) (hl : c.length ≤ 1048576) (n a s : Int) (h0 : 0 ≤ a) (h1 : a ≤ 900000000000) : ∃ r a' s', spec_l1Cur_one.f c a s n = some (r, a', s') ∧ a ≤ a' ∧ a' ≤ a + 2 := by
  obtain ⟨r, a', s', e, _, _, _, h2, h3⟩ := pick_ok hc hl n a s h0 h1
  unfold spec_l1Cur_one.f
  rw [e]
  exact ⟨_, _, _, rfl, h2, h3⟩
theorem among_ok {c : List Int} (hc : Bytes c) (hl : c.length ≤ 1048576) (l : List Int) (hne : 0 < l.length) (hll : l.length ≤ 1000) (a s : Int) (h0 : 0 ≤ a) (h1 : a ≤ 900000000000) : ∃ r a' s', spec_l1Cur_among.f c a s l = some (r, a', s') ∧ r ∈ l ∧ a ≤ a' ∧ a' ≤ a + 2 := by
  obtain ⟨r, a', s', e, r0, r1, r2, h2, h3⟩ := pick_ok hc hl (l.length : Int) a s h0 h1
  unfold spec_l1Cur_among.f
  rw [e]
  simp only [Option.bind_some]
  have hr : r < l.length := by
    by_cases h : (1 : Int) < l.length
    · exact r1 h
    · have := r2 (by omega); omega
  obtain ⟨i, rfl⟩ : ∃ i : Nat, r = i := ⟨r.toNat, by omega⟩
  have hi : i < l.length := by omega
  rw [if_pos r0, if_pos hr, G.rd_nat hi]
  exact ⟨_, _, _, rfl, List.getElem_mem hi, h2, h3⟩
theorem loop_ok {c : List Int} (hc : Bytes c) (hl : c.length ≤ 1048576) (a s : Int) (h0 : 0 ≤ a) (h1 : a ≤ 500000000000) : ∃ p i d sc m w sl a' s', spec_l1Cur_loop.f c a s = some (p, i, d, sc, m, w, sl, a', s') ∧ a ≤ a' ∧ a' ≤ a + 18 := by
  obtain ⟨r1, a1, s1, e1, _, _, _, p1, q1⟩ := pick_ok hc hl 10 a s h0 (by omega)
  obtain ⟨r2, a2, s2, e2, _, _, _, p2, q2⟩ := pick_ok hc hl 4 a1 s1 (by omega) (by omega)
  obtain ⟨r3, a3, s3, e3, _, _, _, p3, q3⟩ := pick_ok hc hl 4 a2 s2 (by omega) (by omega)
  obtain ⟨r4, a4, s4, e4, _, _, _, p4, q4⟩ := pick_ok hc hl 5 a3 s3 (by omega) (by omega)
  obtain ⟨r5, a5, s5, e5, _, _, _, p5, q5⟩ := pick_ok hc hl 40 a4 s4 (by omega) (by omega)
  obtain ⟨r6, a6, s6, e6, _, _, _, p6, q6⟩ := pick_ok hc hl 60 a5 s5 (by omega) (by omega)
  obtain ⟨r7, a7, s7, e7, _, _, _, p7, q7⟩ := pick_ok hc hl 12 a6 s6 (by omega) (by omega)
  obtain ⟨r8, a8, s8, e8, _, _, _, p8, q8⟩ := pick_ok hc hl 16 a7 s7 (by omega) (by omega)
  unfold spec_l1Cur_loop.f
  simp only [e1, e2, e3, e4, e5, e6, e7, e8, Option.bind_some]
  split
  · obtain ⟨v, a9, s9, e9, _, p9, q9⟩ := among_ok hc hl [1000, 1001, -1] (by decide) (by decide) a8 s8 (by omega) (by omega)
    rw [e9]; simp only [Option.bind_some]; exact ⟨_, _, _, _, _, _, _, _, _, rfl, by omega, by omega⟩
  · split
    · obtain ⟨v, a9, s9, e9, _, p9, q9⟩ := among_ok hc hl [1000000, 1000001, 0] (by decide) (by decide) a8 s8 (by omega) (by omega)
      rw [e9]; simp only [Option.bind_some]; exact ⟨_, _, _, _, _, _, _, _, _, rfl, by omega, by omega⟩
    · split
      · obtain ⟨v, a9, s9, e9, _, p9, q9⟩ := among_ok hc hl [1000000, -1] (by decide) (by decide) a8 s8 (by omega) (by omega)
        rw [e9]; simp only [Option.bind_some]; exact ⟨_, _, _, _, _, _, _, _, _, rfl, by omega, by omega⟩
      · split
        · obtain ⟨v, a9, s9, e9, _, p9, q9⟩ := among_ok hc hl [0, 1000, 1001] (by decide) (by decide) a8 s8 (by omega) (by omega)
          rw [e9]; simp only [Option.bind_some]; exact ⟨_, _, _, _, _, _, _, _, _, rfl, by omega, by omega⟩
        · exact ⟨_, _, _, _, _, _, _, _, _, rfl, by omega, by omega⟩
theorem level_ok {c : List Int} (hc : Bytes c) (hl : c.length ≤ 1048576) (a s : Int) (h0 : 0 ≤ a) (h1 : a ≤ 800000000000) : ∃ v a' s', spec_l1Cur_level.f c a s = some (v, a', s') ∧ a ≤ a' ∧ a' ≤ a + 4 := by
  obtain ⟨b, a1, s1, e1, p1, q1⟩ := one_ok hc hl 30 a s h0 (by omega)
  unfold spec_l1Cur_level.f
  rw [e1, Option.bind_some]
  cases b with
  | true =>
    obtain ⟨v, a2, s2, e2, _, p2, q2⟩ := among_ok hc hl [1000000, -1000000, 1000001] (by decide) (by decide) a1 s1 (by omega) (by omega)
    rw [if_pos rfl, e2]; simp only [Option.bind_some]; exact ⟨_, _, _, rfl, by omega, by omega⟩
  | false =>
    obtain ⟨v, a2, s2, e2, _, _, _, p2, q2⟩ := pick_ok hc hl 61 a1 s1 (by omega) (by omega)
    rw [if_neg (by simp), e2]; simp only [Option.bind_some]; exact ⟨_, _, _, rfl, by omega, by omega⟩
theorem loop_ok6 {c : List Int} (hc : Bytes c) (hl : c.length ≤ 1048576) (a s : Int) (h0 : 0 ≤ a) (h1 : a ≤ 600000000100) : ∃ p i d sc m w sl a' s', spec_l1Cur_loop.f c a s = some (p, i, d, sc, m, w, sl, a', s') ∧ a ≤ a' ∧ a' ≤ a + 18 := by
  obtain ⟨r1, a1, s1, e1, _, _, _, p1, q1⟩ := pick_ok hc hl 10 a s h0 (by omega)
  obtain ⟨r2, a2, s2, e2, _, _, _, p2, q2⟩ := pick_ok hc hl 4 a1 s1 (by omega) (by omega)
  obtain ⟨r3, a3, s3, e3, _, _, _, p3, q3⟩ := pick_ok hc hl 4 a2 s2 (by omega) (by omega)
  obtain ⟨r4, a4, s4, e4, _, _, _, p4, q4⟩ := pick_ok hc hl 5 a3 s3 (by omega) (by omega)
  obtain ⟨r5, a5, s5, e5, _, _, _, p5, q5⟩ := pick_ok hc hl 40 a4 s4 (by omega) (by omega)
  obtain ⟨r6, a6, s6, e6, _, _, _, p6, q6⟩ := pick_ok hc hl 60 a5 s5 (by omega) (by omega)
  obtain ⟨r7, a7, s7, e7, _, _, _, p7, q7⟩ := pick_ok hc hl 12 a6 s6 (by omega) (by omega)
  obtain ⟨r8, a8, s8, e8, _, _, _, p8, q8⟩ := pick_ok hc hl 16 a7 s7 (by omega) (by omega)
  unfold spec_l1Cur_loop.f
  simp only [e1, e2, e3, e4, e5, e6, e7, e8, Option.bind_some]
  split
  · obtain ⟨v, a9, s9, e9, _, p9, q9⟩ := among_ok hc hl [1000, 1001, -1] (by decide) (by decide) a8 s8 (by omega) (by omega)
    rw [e9]; simp only [Option.bind_some]; exact ⟨_, _, _, _, _, _, _, _, _, rfl, by omega, by omega⟩
  · split
    · obtain ⟨v, a9, s9, e9, _, p9, q9⟩ := among_ok hc hl [1000000, 1000001, 0] (by decide) (by decide) a8 s8 (by omega) (by omega)
      rw [e9]; simp only [Option.bind_some]; exact ⟨_, _, _, _, _, _, _, _, _, rfl, by omega, by omega⟩
    · split
      · obtain ⟨v, a9, s9, e9, _, p9, q9⟩ := among_ok hc hl [1000000, -1] (by decide) (by decide) a8 s8 (by omega) (by omega)
        rw [e9]; simp only [Option.bind_some]; exact ⟨_, _, _, _, _, _, _, _, _, rfl, by omega, by omega⟩
      · split
        · obtain ⟨v, a9, s9, e9, _, p9, q9⟩ := among_ok hc hl [0, 1000, 1001] (by decide) (by decide) a8 s8 (by omega) (by omega)
          rw [e9]; simp only [Option.bind_some]; exact ⟨_, _, _, _, _, _, _, _, _, rfl, by omega, by omega⟩
        · exact ⟨_, _, _, _, _, _, _, _, _, rfl, by omega, by omega⟩
/-- A loop's numbers are as said. -/
def GL (p i d s m w sl : Int) : Prop := 0 ≤ p ∧ p ≤ 1000 ∧ 0 ≤ i ∧ i ≤ 1000 ∧ 0 ≤ d ∧ d ≤ 1000 ∧ 1 ≤ s ∧ s ≤ 1000 ∧ 1 ≤ m ∧ m ≤ 1000000 ∧ 0 ≤ w ∧ w ≤ 1000000 ∧ 0 ≤ sl ∧ sl ≤ 1000000
instance (p i d s m w sl : Int) : Decidable (GL p i d s m w sl) := by unfold GL; infer_instance
theorem goodloop_spec (p i d s m w sl : Int) : spec_GoodLoop.f p i d s m w sl = some (decide (GL p i d s m w sl)) := by
  simp only [spec_GoodLoop.f, G.nest]
  congr 1
  rw [Bool.eq_iff_iff]
  simp only [Bool.and_eq_true, decide_eq_true_eq]
  exact Iff.rfl
theorem goodloop_impl (p i d s m w sl : Int) : impl_GoodLoop.f p i d s m w sl = some (decide (GL p i d s m w sl)) := by
  rw [← goodloop_spec]
  simp only [spec_GoodLoop.f, impl_GoodLoop.f, impl_between.f, G.nest, Option.bind_some]
  simp [Bool.and_assoc]
theorem bdec {c : Prop} [Decidable c] {b : Bool} (h : b = true ↔ c) : b = decide c := by
  by_cases hc : c
  · rw [decide_eq_true hc]; exact h.2 hc
  · rw [decide_eq_false hc]; cases b
    · rfl
    · exact absurd (h.1 rfl) hc
theorem within_is (a b : Int) (h : 0 ≤ b) (h' : b ≤ 9000000) : impl_within.f a b = some (decide (-b ≤ a ∧ a ≤ b)) := by
  unfold impl_within.f
  rw [G.wneg (by omega) (by omega), G.nest]; congr 1; simp
/-- A loop and its hold are as said. -/
def GH (p i d s m w sl : Int) (on : Bool) (sum last out : Int) : Prop := GL p i d s m w sl ∧ -w ≤ sum ∧ sum ≤ w ∧ -m ≤ out ∧ out ≤ m ∧ -2000000 ≤ last ∧ last ≤ 2000000 ∧ (on = true ∨ sum = 0 ∧ out = 0 ∧ last = 0)
instance (p i d s m w sl : Int) (on : Bool) (sum last out : Int) : Decidable (GH p i d s m w sl on sum last out) := by unfold GH; infer_instance
theorem goodhold_is (p i d s m w sl : Int) (on : Bool) (sum last out : Int) : impl_GoodHold.f p i d s m w sl on sum last out = some (decide (GH p i d s m w sl on sum last out)) := by
  unfold impl_GoodHold.f
  rw [goodloop_impl]
  simp only [Option.bind_some]
  by_cases hl : GL p i d s m w sl
  · have hl' := hl
    obtain ⟨_, _, _, _, _, _, _, _, m0, m1, w0, w1, _, _⟩ := hl'
    rw [within_is sum w w0 (by omega), within_is out m (by omega) (by omega), within_is last 2000000 (by omega) (by omega)]
    simp only [Option.bind_some, decide_eq_true_eq, if_pos hl]
    by_cases h1 : -w ≤ sum ∧ sum ≤ w
    · rw [if_pos h1]
      by_cases h2 : -m ≤ out ∧ out ≤ m
      · rw [if_pos h2]
        by_cases h3 : -2000000 ≤ last ∧ last ≤ 2000000
        · rw [if_pos h3]
          cases on
          · by_cases e1 : sum = 0 <;> by_cases e2 : out = 0 <;> by_cases e3 : last = 0 <;> simp [GH, hl, h1, h2, h3, e1, e2, e3] <;> omega
          · simp [GH, hl, h1, h2, h3]
        · rw [if_neg h3, decide_eq_false (fun h => h3 ⟨h.2.2.2.2.2.1, h.2.2.2.2.2.2.1⟩)]
      · rw [if_neg h2, decide_eq_false (fun h => h2 ⟨h.2.2.2.1, h.2.2.2.2.1⟩)]
    · rw [if_neg h1, decide_eq_false (fun h => h1 ⟨h.2.1, h.2.2.1⟩)]
  · rw [decide_eq_false hl, decide_eq_false (fun h : GH p i d s m w sl on sum last out => hl h.1)]; rfl
/-- Cut to what lies between. -/
def cutv (n lo hi : Int) : Int := if n < lo then lo else if n > hi then hi else n
theorem cut_impl (n lo hi : Int) (h : lo ≤ hi) : impl_cut.f n lo hi = some (cutv n lo hi) := by
  unfold impl_cut.f cutv mn mx; congr 1
  repeat' split
  all_goals omega
theorem cutv_bd (n lo hi : Int) (h : lo ≤ hi) : lo ≤ cutv n lo hi ∧ cutv n lo hi ≤ hi := by unfold cutv; split <;> (try split) <;> omega
theorem down_is (a b : Int) (h0 : 1 ≤ b) (h1 : b ≤ 1000000) (ha : -1000000000000 ≤ a) (ha' : a ≤ 1000000000000) : impl_down.f a b = some (a / b) := by
  have key : impl_down.f a b = some (a / b) := by
    have hm1 := Int.tmod_lt_of_pos a (show 0 < b by omega)
    have hm0 : -b < Int.tmod a b := by
      have := Int.tmod_lt_of_pos (-a) (show 0 < b by omega)
      rw [Int.neg_tmod] at this
      omega
    have ht := Int.tmod_add_mul_tdiv a b
    have hd := Int.emod_add_mul_ediv a b
    have h2 := Int.emod_nonneg a (show b ≠ 0 by omega)
    have h3 := Int.emod_lt_of_pos a (show 0 < b by omega)
    have hq : Int.tdiv a b = if Int.tmod a b < 0 then a / b + 1 else a / b := by
      have h4 : b * (Int.tdiv a b - a / b) = a % b - Int.tmod a b := by rw [Int.mul_sub]; omega
      split
      · have : Int.tdiv a b - a / b = 1 := by
          have l0 : 0 < b * (Int.tdiv a b - a / b) := by omega
          have l1 : b * (Int.tdiv a b - a / b) < b * 2 := by omega
          have := Int.lt_of_mul_lt_mul_left l1 (by omega)
          have l2 : b * 0 < b * (Int.tdiv a b - a / b) := by omega
          have := Int.lt_of_mul_lt_mul_left l2 (by omega)
          omega
        omega
      · have : Int.tdiv a b - a / b = 0 := by
          have l0 : b * (-1) < b * (Int.tdiv a b - a / b) := by omega
          have l1 : b * (Int.tdiv a b - a / b) < b * 1 := by omega
          have := Int.lt_of_mul_lt_mul_left l1 (by omega)
          have := Int.lt_of_mul_lt_mul_left l0 (by omega)
          omega
        omega
    have hb : -1000000000000 ≤ a / b ∧ a / b ≤ 1000000000000 := by
      constructor
      · exact (Int.le_ediv_iff_mul_le (by omega)).2 (by have := Int.mul_le_mul_of_nonneg_left (show (1 : Int) ≤ b by omega) (show (0 : Int) ≤ 1000000000000 by omega); omega)
      · rcases Int.lt_or_le a 0 with h | h
        · have : a / b < 0 := Int.ediv_neg_of_neg_of_pos h (by omega)
          omega
        · have := Int.ediv_le_self b h; omega
    unfold impl_down.f
    rw [if_neg (by omega)]
    by_cases h : Int.tmod a b < 0
    · rw [if_pos h] at hq
      rw [if_pos h, hq, G.w64' (i := a / b + 1) (by omega) (by omega), G.w64' (by omega) (by omega)]; congr 1; omega
    · rw [if_neg h] at hq
      rw [if_neg h, hq, G.w64' (by omega) (by omega)]
  exact key
/-- What a step of a good loop tells: the new sum, the miss, the output. -/
def rawv (p i d s w : Int) (on : Bool) (sum last e : Int) : Int := (p * e + i * cutv (sum + e) (-w) w + d * (if on = true then e - last else 0)) / s
def sumv (p i d s m w : Int) (on : Bool) (sum last e : Int) : Int := if (rawv p i d s w on sum last e > m ∧ e > 0) ∨ (rawv p i d s w on sum last e < -m ∧ e < 0) then sum else cutv (sum + e) (-w) w
def outv (p i d s m w sl : Int) (on : Bool) (sum last out e : Int) : Int := if on = true ∧ sl > 0 then cutv (cutv (rawv p i d s w on sum last e) (-m) m) (out - sl) (out + sl) else cutv (rawv p i d s w on sum last e) (-m) m
theorem prod_bd (x y B : Int) (h0 : 0 ≤ x) (h1 : x ≤ 1000) (hy : -B ≤ y) (hy' : y ≤ B) (hB : 0 ≤ B) : -(1000 * B) ≤ x * y ∧ x * y ≤ 1000 * B := by
  have a1 : x * y ≤ x * B := Int.mul_le_mul_of_nonneg_left hy' h0
  have a2 : x * B ≤ 1000 * B := Int.mul_le_mul_of_nonneg_right h1 hB
  have a3 : x * (-B) ≤ x * y := Int.mul_le_mul_of_nonneg_left hy h0
  rw [Int.mul_neg] at a3
  omega
theorem step_is (p i d s m w sl : Int) (on : Bool) (sum last out want seen : Int) : ∃ r : Bool × Int × Int × Int × Bool, Ev (fun k => impl_HoldStep.f k p i d s m w sl on sum last out want seen) r ∧
    ((r = (false, 0, 0, 0, false) ∧ ¬ (GH p i d s m w sl on sum last out ∧ (-1000000 ≤ want ∧ want ≤ 1000000) ∧ (-1000000 ≤ seen ∧ seen ≤ 1000000))) ∨
     (GH p i d s m w sl on sum last out ∧ (-1000000 ≤ want ∧ want ≤ 1000000) ∧ (-1000000 ≤ seen ∧ seen ≤ 1000000) ∧ r = (true, sumv p i d s m w on sum last (want - seen), want - seen, outv p i d s m w sl on sum last out (want - seen), true))) := by
  have g2 := goodhold_is p i d s m w sl on sum last out
  have jt' : Ev (fun k => impl_HoldStep.j0 k want seen true p i d s m w sl on sum last out) (false, 0, 0, 0, false) := G.succ (G.now fun k => by simp [impl_HoldStep.j0])
  simp only [impl_HoldStep.f]
  by_cases hg : GH p i d s m w sl on sum last out
  · rw [decide_eq_true hg] at g2
    by_cases hw : -1000000 ≤ want ∧ want ≤ 1000000
    · have w2 : impl_within.f want 1000000 = some true := by rw [within_is _ _ (by omega) (by omega), decide_eq_true hw]
      by_cases hs : -1000000 ≤ seen ∧ seen ≤ 1000000
      · have s2 : impl_within.f seen 1000000 = some true := by rw [within_is _ _ (by omega) (by omega), decide_eq_true hs]
        refine ⟨_, G.bind0 g2 (G.pos rfl (G.bind0 w2 (G.pos rfl (G.bind0 s2 ?_)))), Or.inr ⟨hg, hw, hs, rfl⟩⟩
        obtain ⟨⟨p0, p1, i0, i1, d0, d1, sc0, sc1, m0, m1, ww0, ww1, sl0, sl1⟩, h1, h2, h3, h4, h5, h6, h7⟩ := hg
        have hc := cutv_bd (sum + (want - seen)) (-w) w (by omega)
        have b1 := prod_bd p (want - seen) 2000000 p0 p1 (by omega) (by omega) (by omega)
        have b2 := prod_bd i (cutv (sum + (want - seen)) (-w) w) 1000000 i0 i1 (by omega) (by omega) (by omega)
        have eW : wrap64 (want - seen) = want - seen := G.w64' (by omega) (by omega)
        have eN (x : Int) (hx : 0 ≤ x) (hx' : x ≤ 1000000) : wrap64 (-x) = -x := G.wneg (by omega) (by omega)
        have eS : wrap64 (sum + (want - seen)) = sum + (want - seen) := G.w64' (by omega) (by omega)
        refine G.succ ?_
        simp only [impl_HoldStep.j0, eW]
        refine G.neg (by simp) ?_
        have j1 (dv : Int) (hdv : dv = if on = true then (want - seen) - last else 0) : Ev (fun k => impl_HoldStep.j1 k (want - seen) dv p i d s m w sl on sum last out) (true, sumv p i d s m w on sum last (want - seen), want - seen, outv p i d s m w sl on sum last out (want - seen), true) := by
          have hdb : -4000000 ≤ dv ∧ dv ≤ 4000000 := by rw [hdv]; split <;> omega
          have b3 := prod_bd d dv 4000000 d0 d1 (by omega) (by omega) (by omega)
          have eR : impl_down.f (p * (want - seen) + i * cutv (sum + (want - seen)) (-w) w + d * dv) s = some (rawv p i d s w on sum last (want - seen)) := by
            rw [down_is _ s (by omega) (by omega) (by omega) (by omega)]; unfold rawv; rw [← hdv]
          refine G.succ ?_
          simp only [impl_HoldStep.j1, eS, eN w ww0 ww1, eN m (by omega) m1, cut_impl _ (-w) w (by omega), Option.bind_some, G.w64' (i := p * (want - seen)) (by omega) (by omega), G.w64' (i := i * cutv (sum + (want - seen)) (-w) w) (by omega) (by omega), G.w64' (i := d * dv) (by omega) (by omega), G.w64' (i := p * (want - seen) + i * cutv (sum + (want - seen)) (-w) w) (by omega) (by omega), G.w64' (i := p * (want - seen) + i * cutv (sum + (want - seen)) (-w) w + d * dv) (by omega) (by omega), eR]
          have j3 (sv : Int) (hs : sv = sumv p i d s m w on sum last (want - seen)) : Ev (fun k => impl_HoldStep.j3 k (want - seen) sv (rawv p i d s w on sum last (want - seen)) p i d s m w sl on sum last out) (true, sumv p i d s m w on sum last (want - seen), want - seen, outv p i d s m w sl on sum last out (want - seen), true) := by
            have eo : wrap64 (out - sl) = out - sl := G.w64' (by omega) (by omega)
            have eo' : wrap64 (out + sl) = out + sl := G.w64' (by omega) (by omega)
            refine G.succ (G.now fun k => ?_)
            simp only [impl_HoldStep.j3, eN m (by omega) m1, eo, eo', cut_impl _ (-m) m (by omega), cut_impl _ (out - sl) (out + sl) (by omega), Option.bind_some, outv, hs]
            cases on <;> by_cases hsl : sl > 0 <;> simp [hsl]
          have j2 (b : Bool) (hb : b = decide ((rawv p i d s w on sum last (want - seen) > m ∧ want - seen > 0) ∨ (rawv p i d s w on sum last (want - seen) < -m ∧ want - seen < 0))) : Ev (fun k => impl_HoldStep.j2 k (want - seen) (cutv (sum + (want - seen)) (-w) w) (rawv p i d s w on sum last (want - seen)) b p i d s m w sl on sum last out) (true, sumv p i d s m w on sum last (want - seen), want - seen, outv p i d s m w sl on sum last out (want - seen), true) := by
            have hsum : sumv p i d s m w on sum last (want - seen) = if b = true then sum else cutv (sum + (want - seen)) (-w) w := by unfold sumv; rw [hb]; simp
            refine G.succ ?_
            simp only [impl_HoldStep.j2]
            refine G.ite (fun c => j3 _ ?_) (fun c => j3 _ ?_)
            · rw [hsum, if_pos c]
            · rw [hsum, if_neg c]
          generalize rawv p i d s w on sum last (want - seen) = raw at j2 ⊢
          refine G.ite (fun c1 => G.ite (fun c2 => j2 _ (bdec (iff_of_true rfl (by omega)))) (fun c2 => G.ite (fun c3 => j2 _ (bdec (by rw [decide_eq_true_eq]; omega))) (fun c3 => j2 _ (bdec (iff_of_false (by simp) (by omega)))))) (fun c1 => G.ite (fun c3 => j2 _ (bdec (by rw [decide_eq_true_eq]; omega))) (fun c3 => j2 _ (bdec (iff_of_false (by simp) (by omega)))))
        cases on with
        | true =>
          refine G.pos rfl ?_
          rw [G.w64' (i := want - seen - last) (by omega) (by omega)]; exact j1 _ rfl
        | false => exact G.neg (by simp) (j1 _ rfl)
      · have s2 : impl_within.f seen 1000000 = some false := by rw [within_is _ _ (by omega) (by omega), decide_eq_false hs]
        exact ⟨_, G.bind0 g2 (G.pos rfl (G.bind0 w2 (G.pos rfl (G.bind0 s2 jt')))), Or.inl ⟨rfl, fun h => hs h.2.2⟩⟩
    · have w2 : impl_within.f want 1000000 = some false := by rw [within_is _ _ (by omega) (by omega), decide_eq_false hw]
      exact ⟨_, G.bind0 g2 (G.pos rfl (G.bind0 w2 (G.neg (by simp) jt'))), Or.inl ⟨rfl, fun h => hw h.2.1⟩⟩
  · rw [decide_eq_false hg] at g2
    exact ⟨_, G.bind0 g2 (G.neg (by simp) jt'), Or.inl ⟨rfl, fun h => hg h.1⟩⟩
theorem goodloop_is (a0 a1 a2 a3 a4 a5 a6 : Int) : ∃ r, spec_GoodLoop.f a0 a1 a2 a3 a4 a5 a6 = some r ∧ impl_GoodLoop.f a0 a1 a2 a3 a4 a5 a6 = some r := by
  simp only [spec_GoodLoop.f, impl_GoodLoop.f, impl_between.f, G.nest, Option.bind_some]
  refine ⟨_, rfl, ?_⟩
  simp [Bool.and_assoc]
theorem goodloop_eq (a0 a1 a2 a3 a4 a5 a6 : Int) : impl_GoodLoop.f a0 a1 a2 a3 a4 a5 a6 = spec_GoodLoop.f a0 a1 a2 a3 a4 a5 a6 := by
  obtain ⟨r, h1, h2⟩ := goodloop_is a0 a1 a2 a3 a4 a5 a6
  rw [h1, h2]
theorem hold_ok {c : List Int} (hc : Bytes c) (hl : c.length ≤ 1048576) (a st : Int) (h0 : 0 ≤ a) (h1 : a ≤ 500000000000) (p i d s m w sl : Int) : ∃ r : Bool × Int × Int × Int × Int × Int, Ev (fun k => spec_l1Cur_hold.f k c a st p i d s m w sl) r ∧ a ≤ r.2.2.2.2.1 ∧ r.2.2.2.2.1 ≤ a + 20 := by
  have j1 (on : Bool) (x y z a st : Int) (h0 : 0 ≤ a) (h1 : a ≤ 500000000100) : ∃ r : Bool × Int × Int × Int × Int × Int, Ev (fun k => spec_l1Cur_hold.j1 k c a st p i d s m w sl on x y z) r ∧ a ≤ r.2.2.2.2.1 ∧ r.2.2.2.2.1 ≤ a + 4 := by
    obtain ⟨b, a1, s1, e1, _, _, _, p1, q1⟩ := pick_ok hc hl 24 a st h0 (by omega)
    by_cases b0 : b = 0
    · refine ⟨(false, x, y, z, a1, s1), G.succ ?_, p1, by simp; omega⟩
      simp only [spec_l1Cur_hold.j1]
      exact G.bind0 e1 (G.pos b0 (G.now fun _ => rfl))
    · by_cases b1 : b = 1
      · refine ⟨(on, wrap64 (w + 1), y, z, a1, s1), G.succ ?_, p1, by simp; omega⟩
        simp only [spec_l1Cur_hold.j1]
        exact G.bind0 e1 (G.neg b0 (G.pos b1 (G.now fun _ => rfl)))
      · by_cases b2 : b = 2
        · obtain ⟨v, a2, s2, e2, _, p2, q2⟩ := among_ok hc hl [2000000, 2000001] (by decide) (by decide) a1 s1 (by omega) (by omega)
          refine ⟨(on, x, v, z, a2, s2), G.succ ?_, by simp; omega, by simp; omega⟩
          simp only [spec_l1Cur_hold.j1]
          exact G.bind0 e1 (G.neg b0 (G.neg b1 (G.pos b2 (G.bind0 e2 (G.now fun _ => rfl)))))
        · refine ⟨(on, x, y, z, a1, s1), G.succ ?_, p1, by simp; omega⟩
          simp only [spec_l1Cur_hold.j1]
          exact G.bind0 e1 (G.neg b0 (G.neg b1 (G.neg b2 (G.now fun _ => rfl))))
  have j0 (on : Bool) (x y z a st : Int) (h0 : 0 ≤ a) (h1 : a ≤ 500000000090) : ∃ r : Bool × Int × Int × Int × Int × Int, Ev (fun k => spec_l1Cur_hold.j0 k c a st p i d s m w sl on x y z) r ∧ a ≤ r.2.2.2.2.1 ∧ r.2.2.2.2.1 ≤ a + 8 := by
    by_cases hm : m > 0
    · obtain ⟨b, a1, s1, e1, _, _, _, p1, q1⟩ := pick_ok hc hl (wrap64 (wrap64 (2 * m) + 1)) a st h0 (by omega)
      obtain ⟨r, er, r1, r2⟩ := j1 on x y (wrap64 (b - m)) a1 s1 (by omega) (by omega)
      refine ⟨r, G.succ ?_, by omega, by omega⟩
      simp only [spec_l1Cur_hold.j0]
      exact G.pos hm (G.bind0 e1 er)
    · obtain ⟨r, er, r1, r2⟩ := j1 on x y z a st (by omega) (by omega)
      refine ⟨r, G.succ ?_, by omega, by omega⟩
      simp only [spec_l1Cur_hold.j0]
      exact G.neg hm er
  simp only [spec_l1Cur_hold.f]
  obtain ⟨b, a1, s1, e1, p1, q1⟩ := one_ok hc hl 3 a st h0 (by omega)
  cases b with
  | true => exact ⟨_, G.bind0 e1 (G.pos rfl (G.now fun _ => rfl)), p1, by simp; omega⟩
  | false =>
    obtain ⟨v, a2, s2, e2, _, _, _, p2, q2⟩ := pick_ok hc hl 41 a1 s1 (by omega) (by omega)
    by_cases hw : w > 0
    · obtain ⟨u, a3, s3, e3, _, _, _, p3, q3⟩ := pick_ok hc hl (wrap64 (wrap64 (2 * w) + 1)) a2 s2 (by omega) (by omega)
      obtain ⟨r, er, r1, r2⟩ := j0 true (wrap64 (u - w)) (wrap64 (v - 20)) 0 a3 s3 (by omega) (by omega)
      exact ⟨r, G.bind0 e1 (G.neg (by simp) (G.bind0 e2 (G.pos hw (G.bind0 e3 er)))), by omega, by omega⟩
    · obtain ⟨r, er, r1, r2⟩ := j0 true 0 (wrap64 (v - 20)) 0 a2 s2 (by omega) (by omega)
      exact ⟨r, G.bind0 e1 (G.neg (by simp) (G.bind0 e2 (G.neg hw er))), by omega, by omega⟩
theorem rdT45 {l : List S45} {i : Nat} (h : i < l.length) : rd_T45 l (i : Int) = l[i] := by
  unfold rd_T45; exact G.getD_nat h
theorem loops_eq : ∀ k, (∀ x0 x1 x7 x15 x16 x17 c0 c1 c2 c3 c4 c5 c6, impl_LoopAt.l0 k x0 x1 x7 x15 x16 x17 c0 c1 c2 c3 c4 c5 c6 = spec_LoopAt.l0 k x0 x1 x7 x15 x16 x17 c0 c1 c2 c3 c4 c5 c6) ∧
    (∀ x0 x1 x7 x15 x16 x17 x40 c0 c1 c2 c3 c4 c5 c6 d0 d1 d2 d3 d4 d5 d6 d7, impl_LoopAt.j1 k x0 x1 x7 x15 x16 x17 x40 c0 c1 c2 c3 c4 c5 c6 d0 d1 d2 d3 d4 d5 d6 d7 = spec_LoopAt.j1 k x0 x1 x7 x15 x16 x17 x40 c0 c1 c2 c3 c4 c5 c6 d0 d1 d2 d3 d4 d5 d6 d7) := by
  intro k
  induction k with
  | zero => exact ⟨fun _ _ _ _ _ _ _ _ _ _ _ _ _ => by simp [impl_LoopAt.l0, spec_LoopAt.l0], fun _ _ _ _ _ _ _ _ _ _ _ _ _ _ _ _ _ _ _ _ _ _ => by simp [impl_LoopAt.j1, spec_LoopAt.j1]⟩
  | succ k ih =>
    refine ⟨fun _ _ _ _ _ _ _ _ _ _ _ _ _ => ?_, fun _ _ _ _ _ _ _ _ _ _ _ _ _ _ _ _ _ _ _ _ _ _ => ?_⟩
    · simp only [impl_LoopAt.l0, spec_LoopAt.l0, goodloop_eq, ih.2]
    · simp only [impl_LoopAt.j1, spec_LoopAt.j1, ih.1]
theorem loopat_eq (k : Nat) (l : List S45) (at_ : Int) : impl_LoopAt.f k l at_ = spec_LoopAt.f k l at_ := by
  simp only [impl_LoopAt.f, spec_LoopAt.f, (loops_eq k).1]
theorem loop_some (l : List S45) (at_ : Int) (hl : l.length ≤ 60) : ∀ i, i ≤ l.length → ∀ b c0 c1 c2 c3 c4 c5 c6, ∃ r, Ev (fun k => spec_LoopAt.l0 k l at_ b l l.length (i : Int) c0 c1 c2 c3 c4 c5 c6) r := by
  refine G.down_ind l.length (fun i => ∀ b c0 c1 c2 c3 c4 c5 c6, ∃ r, Ev (fun k => spec_LoopAt.l0 k l at_ b l l.length (i : Int) c0 c1 c2 c3 c4 c5 c6) r) ?_ ?_
  · intro b c0 c1 c2 c3 c4 c5 c6
    refine ⟨(c0, c1, c2, c3, c4, c5, c6, b), G.succ (G.now fun k => ?_)⟩
    simp only [spec_LoopAt.l0]; rw [if_neg (by omega)]
  · intro i hi ih b c0 c1 c2 c3 c4 c5 c6
    have hj : ∀ x d0 d1 d2 d3 d4 d5 d6 d7, ∃ r, Ev (fun k => spec_LoopAt.j1 k l at_ b l l.length (i : Int) x c0 c1 c2 c3 c4 c5 c6 d0 d1 d2 d3 d4 d5 d6 d7) r := by
      intro x d0 d1 d2 d3 d4 d5 d6 d7
      cases x with
      | true => exact ⟨_, G.succ (G.now fun k => by simp only [spec_LoopAt.j1, if_true]; rfl)⟩
      | false =>
        by_cases h : d0 ≤ at_
        · obtain ⟨r, hr⟩ := ih true d1 d2 d3 d4 d5 d6 d7
          refine ⟨r, G.succ ?_⟩
          simp only [spec_LoopAt.j1, G.w64 i (by omega)]
          exact G.neg (by simp) (G.pos h hr)
        · obtain ⟨r, hr⟩ := ih b c0 c1 c2 c3 c4 c5 c6
          refine ⟨r, G.succ ?_⟩
          simp only [spec_LoopAt.j1, G.w64 i (by omega)]
          exact G.neg (by simp) (G.neg h hr)
    obtain ⟨g, hg, _⟩ := goodloop_is (rd_T45 l i).f1.f0 (rd_T45 l i).f1.f1 (rd_T45 l i).f1.f2 (rd_T45 l i).f1.f3 (rd_T45 l i).f1.f4 (rd_T45 l i).f1.f5 (rd_T45 l i).f1.f6
    cases g with
    | false =>
      obtain ⟨r, hr⟩ := hj true _ _ _ _ _ _ _ _
      refine ⟨r, G.succ ?_⟩
      simp only [spec_LoopAt.l0]
      exact G.pos (by omega) (G.pos (by omega) (G.pos (by omega) (G.bind0 hg (G.neg (by simp) hr))))
    | true =>
      by_cases h0 : (i : Int) > 0
      · have e1 : wrap64 ((i : Int) - 1) = (i : Int) - 1 := G.w64' (by omega) (by omega)
        obtain ⟨r, hr⟩ := hj _ _ _ _ _ _ _ _ _
        refine ⟨r, G.succ ?_⟩
        simp only [spec_LoopAt.l0]
        refine G.pos (by omega) (G.pos (by omega) (G.pos (by omega) (G.bind0 hg (G.pos rfl (G.pos h0 ?_)))))
        rw [e1]
        exact G.pos (by omega) (G.pos (by omega) hr)
      · obtain ⟨r, hr⟩ := hj _ _ _ _ _ _ _ _ _
        refine ⟨r, G.succ ?_⟩
        simp only [spec_LoopAt.l0]
        exact G.pos (by omega) (G.pos (by omega) (G.pos (by omega) (G.bind0 hg (G.pos rfl (G.neg h0 hr)))))
theorem loopat_some (l : List S45) (at_ : Int) : ∃ r, Ev (fun k => spec_LoopAt.f k l at_) r := by
  simp only [spec_LoopAt.f]
  by_cases h : (l.length : Int) > 60
  · exact ⟨_, G.pos h (G.now fun _ => rfl)⟩
  · obtain ⟨r, hr⟩ := loop_some l at_ (by omega) 0 (Nat.zero_le _) false 0 0 0 0 0 0 0
    exact ⟨r, G.neg h hr⟩
/-- The loop of the last gain that has begun. -/
def own (at_ : Int) : List S45 → S30 → S30
  | [], c => c
  | g :: l, c => own at_ l (if g.f0 ≤ at_ then g.f1 else c)
theorem loop_own (l : List S45) (at_ : Int) (hl : l.length ≤ 60) : ∀ i, i ≤ l.length → ∀ (b : Bool) (c : S30), ∃ r : Int × Int × Int × Int × Int × Int × Int × Bool, Ev (fun k => spec_LoopAt.l0 k l at_ b l l.length (i : Int) c.f0 c.f1 c.f2 c.f3 c.f4 c.f5 c.f6) r ∧
    (r.2.2.2.2.2.2.2 = true → r = ((own at_ (l.drop i) c).f0, (own at_ (l.drop i) c).f1, (own at_ (l.drop i) c).f2, (own at_ (l.drop i) c).f3, (own at_ (l.drop i) c).f4, (own at_ (l.drop i) c).f5, (own at_ (l.drop i) c).f6, true)) := by
  refine G.down_ind l.length (fun i => ∀ (b : Bool) (c : S30), ∃ r : Int × Int × Int × Int × Int × Int × Int × Bool, Ev (fun k => spec_LoopAt.l0 k l at_ b l l.length (i : Int) c.f0 c.f1 c.f2 c.f3 c.f4 c.f5 c.f6) r ∧
    (r.2.2.2.2.2.2.2 = true → r = ((own at_ (l.drop i) c).f0, (own at_ (l.drop i) c).f1, (own at_ (l.drop i) c).f2, (own at_ (l.drop i) c).f3, (own at_ (l.drop i) c).f4, (own at_ (l.drop i) c).f5, (own at_ (l.drop i) c).f6, true))) ?_ ?_
  · intro b c
    refine ⟨(c.f0, c.f1, c.f2, c.f3, c.f4, c.f5, c.f6, b), G.succ (G.now fun k => ?_), fun hb => ?_⟩
    · simp only [spec_LoopAt.l0]; rw [if_neg (by omega)]
    · rw [List.drop_eq_nil_of_le (Nat.le_refl _)]
      simp only [own]
      have : b = true := hb
      rw [this]
  · intro i hi ih b c
    have hrd : rd_T45 l (i : Int) = l[i] := rdT45 hi
    have hj : ∀ x, ∃ r : Int × Int × Int × Int × Int × Int × Int × Bool, Ev (fun k => spec_LoopAt.j1 k l at_ b l l.length (i : Int) x c.f0 c.f1 c.f2 c.f3 c.f4 c.f5 c.f6 l[i].f0 l[i].f1.f0 l[i].f1.f1 l[i].f1.f2 l[i].f1.f3 l[i].f1.f4 l[i].f1.f5 l[i].f1.f6) r ∧
        (r.2.2.2.2.2.2.2 = true → r = ((own at_ (l.drop i) c).f0, (own at_ (l.drop i) c).f1, (own at_ (l.drop i) c).f2, (own at_ (l.drop i) c).f3, (own at_ (l.drop i) c).f4, (own at_ (l.drop i) c).f5, (own at_ (l.drop i) c).f6, true)) := by
      intro x
      rw [List.drop_eq_getElem_cons hi]
      simp only [own]
      cases x with
      | true => exact ⟨_, G.succ (G.now fun k => by simp only [spec_LoopAt.j1, if_true]; rfl), fun h => by simp at h⟩
      | false =>
        by_cases h : l[i].f0 ≤ at_
        · obtain ⟨r, hr, h2⟩ := ih true l[i].f1
          refine ⟨r, G.succ ?_, by rw [if_pos h]; exact h2⟩
          simp only [spec_LoopAt.j1, G.w64 i (by omega)]
          exact G.neg (by simp) (G.pos h hr)
        · obtain ⟨r, hr, h2⟩ := ih b c
          refine ⟨r, G.succ ?_, by rw [if_neg h]; exact h2⟩
          simp only [spec_LoopAt.j1, G.w64 i (by omega)]
          exact G.neg (by simp) (G.neg h hr)
    obtain ⟨g, hg, _⟩ := goodloop_is l[i].f1.f0 l[i].f1.f1 l[i].f1.f2 l[i].f1.f3 l[i].f1.f4 l[i].f1.f5 l[i].f1.f6
    cases g with
    | false =>
      obtain ⟨r, hr, h2⟩ := hj true
      refine ⟨r, G.succ ?_, h2⟩
      simp only [spec_LoopAt.l0, hrd]
      exact G.pos (by omega) (G.pos (by omega) (G.pos (by omega) (G.bind0 hg (G.neg (by simp) hr))))
    | true =>
      by_cases h0 : (i : Int) > 0
      · have e1 : wrap64 ((i : Int) - 1) = (i : Int) - 1 := G.w64' (by omega) (by omega)
        obtain ⟨r, hr, h2⟩ := hj (decide ((rd_T45 l ((i : Int) - 1)).f0 ≥ l[i].f0))
        refine ⟨r, G.succ ?_, h2⟩
        simp only [spec_LoopAt.l0, hrd]
        refine G.pos (by omega) (G.pos (by omega) (G.pos (by omega) (G.bind0 hg (G.pos rfl (G.pos h0 ?_)))))
        rw [e1]
        exact G.pos (by omega) (G.pos (by omega) hr)
      · obtain ⟨r, hr, h2⟩ := hj false
        refine ⟨r, G.succ ?_, h2⟩
        simp only [spec_LoopAt.l0, hrd]
        exact G.pos (by omega) (G.pos (by omega) (G.pos (by omega) (G.bind0 hg (G.pos rfl (G.neg h0 hr)))))
def z30' : S30 := ⟨0, 0, 0, 0, 0, 0, 0⟩
theorem loopat_own (l : List S45) (at_ : Int) : ∃ r : Int × Int × Int × Int × Int × Int × Int × Bool, Ev (fun k => spec_LoopAt.f k l at_) r ∧ (r.2.2.2.2.2.2.2 = true → l.length ≤ 60 ∧ r = ((own at_ l z30').f0, (own at_ l z30').f1, (own at_ l z30').f2, (own at_ l z30').f3, (own at_ l z30').f4, (own at_ l z30').f5, (own at_ l z30').f6, true)) := by
  simp only [spec_LoopAt.f]
  by_cases h : (l.length : Int) > 60
  · exact ⟨_, G.pos h (G.now fun _ => rfl), fun h => by simp at h⟩
  · obtain ⟨r, hr, h2⟩ := loop_own l at_ (by omega) 0 (Nat.zero_le _) false z30'
    exact ⟨r, G.neg h hr, fun hb => ⟨by omega, h2 hb⟩⟩
theorem own_loop (x1 : List Int) (l : List S45) (at_ : Int) (hl : l.length ≤ 60) (e : S30) (next : Ev (fun k => laws_FnGains.j2 k x1) true) : ∀ i, i ≤ l.length → ∀ c : S30, own at_ (l.drop i) c = e →
    Ev (fun k => laws_FnGains.l0 k x1 at_ l l.length (i : Int) e.f0 e.f1 e.f2 e.f3 e.f4 e.f5 e.f6 c.f0 c.f1 c.f2 c.f3 c.f4 c.f5 c.f6) true := by
  refine G.down_ind l.length (fun i => ∀ c : S30, own at_ (l.drop i) c = e → Ev (fun k => laws_FnGains.l0 k x1 at_ l l.length (i : Int) e.f0 e.f1 e.f2 e.f3 e.f4 e.f5 e.f6 c.f0 c.f1 c.f2 c.f3 c.f4 c.f5 c.f6) true) ?_ ?_
  · intro c hc
    rw [List.drop_eq_nil_of_le (Nat.le_refl _)] at hc
    simp only [own] at hc
    subst hc
    refine G.succ ?_
    simp only [laws_FnGains.l0]
    exact G.neg (by omega) (G.neg (by simp) next)
  · intro i hi ih c hc
    rw [List.drop_eq_getElem_cons hi] at hc
    simp only [own] at hc
    refine G.succ ?_
    simp only [laws_FnGains.l0, rdT45 hi, G.w64 i (by omega)]
    refine G.pos (by omega) (G.pos (by omega) (G.pos (by omega) (G.ite (fun h => ?_) (fun h => ?_))))
    · rw [if_pos h] at hc; exact ih _ hc
    · rw [if_neg h] at hc; exact ih _ hc
theorem gains_loop {c : List Int} (hc : Bytes c) (hl : c.length ≤ 1048576) : ∀ (d : Nat) (n a s t : Int) (out : List S45), n.toNat = d → n ≤ 1000 → out.length + d ≤ 1000 → 0 ≤ a → a ≤ 600000000000 - 40 * d →
    ∃ r, Ev (fun k => spec_DrawLoopAt.l0 k out t n c a s) r := by
  intro d
  induction d with
  | zero =>
    intro n a s t out hn hn' ho h0 h1
    obtain ⟨v, a1, s1, e1, _, _, _, p1, q1⟩ := pick_ok hc hl 25 a s h0 (by omega)
    refine ⟨(out, wrap64 (v - 8)), G.succ ?_⟩
    simp only [spec_DrawLoopAt.l0]
    exact G.neg (by omega) (G.bind0 e1 (G.now fun _ => rfl))
  | succ d ih =>
    intro n a s t out hn hn' ho h0 h1
    have hw : wrap64 (n - 1) = n - 1 := G.w64' (by omega) (by omega)
    have j2 (a s x0 x1 x2 x3 x4 x5 x6 : Int) (h0 : 0 ≤ a) (h1 : a ≤ 600000000000 - 40 * (d + 1) + 24) : ∃ r, Ev (fun k => spec_DrawLoopAt.j2 k out t n c a s x0 x1 x2 x3 x4 x5 x6) r := by
      obtain ⟨v, a1, s1, e1, _, _, _, p1, q1⟩ := pick_ok hc hl 4 a s h0 (by omega)
      obtain ⟨b, a2, s2, e2, p2, q2⟩ := one_ok hc hl 40 a1 s1 (by omega) (by omega)
      cases b with
      | true =>
        obtain ⟨r, e⟩ := ih (n - 1) a2 s2 (wrap64 ((wrap64 (t + (wrap64 (1 + v)))) - 1)) (out ++ [⟨t, ⟨x0, x1, x2, x3, x4, x5, x6⟩⟩]) (by omega) (by omega) (by simp; omega) (by omega) (by omega)
        refine ⟨r, G.succ ?_⟩
        simp only [spec_DrawLoopAt.j2, hw]
        exact G.pos (by omega) (G.bind0 rfl (G.bind0 e1 (G.bind0 e2 (G.pos rfl e))))
      | false =>
        obtain ⟨r, e⟩ := ih (n - 1) a2 s2 (wrap64 (t + (wrap64 (1 + v)))) (out ++ [⟨t, ⟨x0, x1, x2, x3, x4, x5, x6⟩⟩]) (by omega) (by omega) (by simp; omega) (by omega) (by omega)
        refine ⟨r, G.succ ?_⟩
        simp only [spec_DrawLoopAt.j2, hw]
        exact G.pos (by omega) (G.bind0 rfl (G.bind0 e1 (G.bind0 e2 (G.neg (by simp) e))))
    obtain ⟨b, a1, s1, e1, p1, q1⟩ := one_ok hc hl 40 a s h0 (by omega)
    cases b with
    | true =>
      obtain ⟨p, i, dd, sc, m, w, sl, a2, s2, e2, p2, q2⟩ := loop_ok6 hc hl a1 s1 (by omega) (by omega)
      obtain ⟨r, e⟩ := j2 a2 s2 p i dd sc m w sl (by omega) (by omega)
      refine ⟨r, G.succ ?_⟩
      simp only [spec_DrawLoopAt.l0]
      exact G.pos (by omega) (G.bind0 e1 (G.pos rfl (G.bind0 e2 e)))
    | false =>
      obtain ⟨r, e⟩ := j2 a1 s1 (Int.tmod n 7) 0 0 1 5 0 0 (by omega) (by omega)
      refine ⟨r, G.succ ?_⟩
      simp only [spec_DrawLoopAt.l0]
      exact G.pos (by omega) (G.bind0 e1 (G.neg (by simp) e))
theorem drawgains_ok {c : List Int} (hc : Bytes c) (hl : c.length ≤ 1048576) : ∃ r, Ev (fun k => spec_DrawLoopAt.f k c) r := by
  obtain ⟨x, a1, s1, e1, _, _, _, p1, q1⟩ := pick_ok hc hl 9 0 0 (by omega) (by omega)
  obtain ⟨n, a2, s2, e2, n0, n1, _, p2, q2⟩ := pick_ok hc hl 5 a1 s1 (by omega) (by omega)
  obtain ⟨b, a3, s3, e3, p3, q3⟩ := one_ok hc hl 20 a2 s2 (by omega) (by omega)
  have go : ∀ (n a s : Int), n ≤ 100 → 0 ≤ a → a ≤ 1000 → ∃ r, Ev (fun k => spec_DrawLoopAt.j0 k [] (wrap64 (x - 4)) n c a s) r := by
    intro n a s hn h0 h1
    obtain ⟨r, e⟩ := gains_loop hc hl n.toNat n a s (wrap64 (x - 4)) [] rfl (by omega) (by simp; omega) (by omega) (by omega)
    refine ⟨r, G.succ ?_⟩
    simp only [spec_DrawLoopAt.j0]; exact e
  have hn := n1 (by omega)
  simp only [spec_DrawLoopAt.f]
  cases b with
  | true =>
    obtain ⟨y, a4, s4, e4, x0, x1, _, p4, q4⟩ := pick_ok hc hl 3 a3 s3 (by omega) (by omega)
    have hx := x1 (by omega)
    have hw : wrap64 (59 + y) = 59 + y := G.w64' (by omega) (by omega)
    obtain ⟨r, e⟩ := go (59 + y) a4 s4 (by omega) (by omega) (by omega)
    refine ⟨r, G.bind0 e1 (G.bind0 e2 (G.bind0 e3 (G.pos rfl (G.bind0 e4 ?_))))⟩
    simp only [hw]; exact e
  | false =>
    obtain ⟨r, e⟩ := go n a3 s3 (by omega) (by omega) (by omega)
    exact ⟨r, G.bind0 e1 (G.bind0 e2 (G.bind0 e3 (G.neg (by simp) e)))⟩
theorem cascade_is (p i d s m w sl p' i' d' s' m' w' sl' : Int) (on : Bool) (sum last out : Int) (on' : Bool) (sum' last' out' want place speed : Int) : ∃ r q : Bool × Int × Int × Int × Bool,
    Ev (fun k => impl_HoldStep.f k p i d s m w sl on sum last out want place) r ∧ Ev (fun k => impl_HoldStep.f k p' i' d' s' m' w' sl' on' sum' last' out' r.2.2.2.1 speed) q ∧
    Ev (fun k => impl_CascadeStep.f k p i d s m w sl p' i' d' s' m' w' sl' on sum last out on' sum' last' out' want place speed) (if r.2.2.2.2 = true ∧ q.2.2.2.2 = true then (r.1, r.2.1, r.2.2.1, r.2.2.2.1, q.1, q.2.1, q.2.2.1, q.2.2.2.1, true) else (false, 0, 0, 0, false, 0, 0, 0, false)) := by
  obtain ⟨⟨r0, r1, r2, r3, r4⟩, h2, _⟩ := step_is p i d s m w sl on sum last out want place
  obtain ⟨⟨q0, q1, q2, q3, q4⟩, g2, _⟩ := step_is p' i' d' s' m' w' sl' on' sum' last' out' r3 speed
  refine ⟨_, _, h2, g2, ?_⟩
  simp only [impl_CascadeStep.f]
  cases r4 with
  | false => exact G.bind h2 (G.neg (by simp) (G.now fun _ => by simp))
  | true =>
    cases q4 with
    | false => exact G.bind h2 (G.pos rfl (G.bind g2 (G.neg (by simp) (G.now fun _ => by simp))))
    | true => exact G.bind h2 (G.pos rfl (G.bind g2 (G.pos rfl (G.now fun _ => by simp))))
theorem drawcascade_ok {c : List Int} (hc : Bytes c) (hl : c.length ≤ 1048576) : ∃ r, Ev (fun k => spec_DrawCascadeStep.f k c) r := by
  obtain ⟨p, i, d, s, m, w, sl, a1, s1, e1, p1, q1⟩ := loop_ok hc hl 0 0 (by omega) (by omega)
  obtain ⟨p', i', d', s', m', w', sl', a2, s2, e2, p2, q2⟩ := loop_ok hc hl a1 s1 (by omega) (by omega)
  obtain ⟨h, eh, h1, h2⟩ := hold_ok hc hl a2 s2 (by omega) (by omega) p i d s m w sl
  obtain ⟨h', eh', h1', h2'⟩ := hold_ok hc hl h.2.2.2.2.1 h.2.2.2.2.2 (by omega) (by omega) p' i' d' s' m' w' sl'
  obtain ⟨x, a3, s3, e3, p3, q3⟩ := level_ok hc hl h'.2.2.2.2.1 h'.2.2.2.2.2 (by omega) (by omega)
  obtain ⟨y, a4, s4, e4, p4, q4⟩ := level_ok hc hl a3 s3 (by omega) (by omega)
  obtain ⟨z, a5, s5, e5, p5, q5⟩ := level_ok hc hl a4 s4 (by omega) (by omega)
  refine ⟨(p, i, d, s, m, w, sl, p', i', d', s', m', w', sl', h.1, h.2.1, h.2.2.1, h.2.2.2.1, h'.1, h'.2.1, h'.2.2.1, h'.2.2.2.1, x, y, z), ?_⟩
  simp only [spec_DrawCascadeStep.f]
  exact G.bind0 e1 (G.bind0 e2 (G.bind eh (G.bind eh' (G.bind0 e3 (G.bind0 e4 (G.bind0 e5 (G.now fun _ => rfl)))))))
theorem FnGains : laws_FnGains.Pure := by
  intro c d hm hreach hb hm2 hreach2 hb2
  refine Ev.rounds ?_
  have byt : ∀ c : List Int, (∀ x ∈ c, (Lit.int .u8 x).wf = true) → Bytes c := fun c hb b hx => by have := hb b hx; simp [Lit.wf, IntKind.min, IntKind.max, IntKind.signed, IntKind.bits] at this; omega
  have jt : Ev (fun k => laws_FnGains.j0 k c d true) true := G.succ (G.now fun k => by simp [laws_FnGains.j0])
  simp only [laws_FnGains.f]
  refine G.ite (fun _ => jt) (fun hl => ?_)
  by_cases hl2 : (d.length : Int) > 1048576
  · rw [decide_eq_true hl2]; exact jt
  rw [decide_eq_false hl2]
  have j2 : Ev (fun k => laws_FnGains.j2 k d) true := by
    obtain ⟨⟨p, i, dd, s, m, w, sl, p', i', d', s', m', w', sl', on, sum, last, out, on', sum', last', out', want, place, speed⟩, e⟩ := drawcascade_ok (byt d hb2) (by omega)
    obtain ⟨⟨r0, r1, r2, r3, r4⟩, ⟨q0, q1, q2, q3, q4⟩, h1, h2, h3⟩ := cascade_is p i dd s m w sl p' i' d' s' m' w' sl' on sum last out on' sum' last' out' want place speed
    refine G.succ ?_
    simp only [laws_FnGains.j2]
    refine G.bind e (G.bind h3 (G.bind h1 (G.bind h2 ?_)))
    cases r4 <;> cases q4 <;> exact G.now fun _ => by simp
  obtain ⟨⟨l, at_⟩, e⟩ := drawgains_ok (byt c hb) (by omega)
  obtain ⟨r, hr, h2⟩ := loopat_own l at_
  refine G.succ ?_
  simp only [laws_FnGains.j0]
  refine G.neg (by simp) (G.bind e (G.bind (a := r) (by simp only [loopat_eq]; exact hr) (G.bind hr (G.neg (by simp) ?_))))
  cases hb : r.2.2.2.2.2.2.2 with
  | false => exact G.neg (by simp) j2
  | true =>
    obtain ⟨hl60, rfl⟩ := h2 hb
    exact G.pos rfl (own_loop d l at_ hl60 _ j2 0 (Nat.zero_le _) z30' rfl)

end Go.Proofs.Ytineniimpdjpnaa.Pure
