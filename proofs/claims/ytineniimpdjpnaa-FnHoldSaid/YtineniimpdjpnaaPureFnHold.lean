/- For all arguments the printed law Hold answers true: plain lists and numbers, no memory. Conditions: none beyond what the program's own guards ask. -/
import Derived.Test.YtineniimpdjpnaaRFnHoldx12
import Derived.Test.YtineniimpdjpnaaG
namespace Go.Proofs.Ytineniimpdjpnaa.Pure
open Go.RowKit Go.Proofs.Ytineniimpdjpnaa.PFnHold Go.Proofs.YtineniimpdjpnaaW.PrintWords Go.Proofs.YtineniimpdjpnaaW.PrintLast
set_option linter.unusedVariables false
set_option linter.unusedSimpArgs false


theorem u64_small (n : Int) (h0 : 0 ≤ n) (h1 : n < 2 ^ 24) : IntKind.u64.wrap n = n := by simp [IntKind.wrap, IntKind.bits, IntKind.signed]; omega
theorem u64_range (n : Int) : 0 ≤ IntKind.u64.wrap n ∧ IntKind.u64.wrap n < 18446744073709551616 := by simp [IntKind.wrap, IntKind.bits, IntKind.signed]; omega
theorem byte_and (x : Int) (h0 : 0 ≤ x) (h1 : x < 18446744073709551616) : 0 ≤ wrap64 (Go.bits .and .u64 (x / 1099511627776) 255) ∧ wrap64 (Go.bits .and .u64 (x / 1099511627776) 255) ≤ 255 := by
  have e : Go.bits .and .u64 (x / 1099511627776) 255 = (x / 1099511627776) % 256 := bits_mask .u64 24 (by decide) u64_small 8 (by decide) (x / 1099511627776) (by omega) (by omega)
  rw [e, G.w64' (by omega) (by omega)]
  omega
def Bytes (c : List Int) : Prop := ∀ b ∈ c, 0 ≤ b ∧ b ≤ 255
theorem next_ok {c : List Int} (hc : Bytes c) (hl : c.length ≤ 1048576) (a s : Int) (h0 : 0 ≤ a) (h1 : a ≤ 1000000000000) : ∃ b s', spec_l1Cur_next.f c a s = some (b, a + 1, s') ∧ 0 ≤ b ∧ b ≤ 255 := by
  unfold spec_l1Cur_next.f
  rw [G.w64' (i := a + 1) (by omega) (by omega)]
  by_cases h2 : a < (c.length : Int)
  · obtain ⟨i, rfl⟩ : ∃ i : Nat, a = i := ⟨a.toNat, by omega⟩
    have hi : i < c.length := by omega
    have hb := hc c[i] (List.getElem_mem hi)
    rw [if_pos h2, if_pos h0, G.rd_nat hi, G.w64' (i := c[i]) (by omega) (by omega), if_pos (by omega)]
    exact ⟨_, _, rfl, hb.1, hb.2⟩
  · rw [if_neg h2, if_neg (by omega)]
    exact ⟨_, _, rfl, (byte_and _ (u64_range _).1 (u64_range _).2).1, (byte_and _ (u64_range _).1 (u64_range _).2).2⟩
theorem pick_ok {c : List Int} (hc : Bytes c) (hl : c.length ≤ 1048576) (n a s : Int) (h0 : 0 ≤ a) (h1 : a ≤ 900000000000) : ∃ r a' s', spec_l1Cur_pick.f c a s n = some (r, a', s') ∧ 0 ≤ r ∧ (1 < n → r < n) ∧ (n ≤ 1 → r = 0) ∧ a ≤ a' ∧ a' ≤ a + 2 := by
  unfold spec_l1Cur_pick.f
  by_cases hn : n ≤ 1
  · rw [if_pos hn]; exact ⟨0, a, s, rfl, by omega, by omega, by omega, by omega, by omega⟩
  · rw [if_neg hn]
    obtain ⟨b, s1, e1, b0, b1⟩ := next_ok hc hl a s h0 (by omega)
    rw [e1]
    simp only [Option.bind_some]
    by_cases h2 : n > 200
    · obtain ⟨d, s2, e2, d0, d1⟩ := next_ok hc hl (a + 1) s1 (by omega) (by omega)
      rw [if_pos h2, e2]
      simp only [Option.bind_some]
      rw [if_neg (by omega), G.w64' (i := b * 256) (by omega) (by omega), G.w64' (by omega) (by omega), Int.tmod_eq_emod_of_nonneg (by omega)]
      exact ⟨_, _, _, rfl, Int.emod_nonneg _ (by omega), fun _ => Int.emod_lt_of_pos _ (by omega), fun h => absurd h hn, by omega, by omega⟩
    · rw [if_neg h2, if_neg (by omega), Int.tmod_eq_emod_of_nonneg (by omega)]
      exact ⟨_, _, _, rfl, Int.emod_nonneg _ (by omega), fun _ => Int.emod_lt_of_pos _ (by omega), fun h => absurd h hn, by omega, by omega⟩
theorem one_ok {c : List Int} (hc : Bytes c) (hl : c.length ≤ 1048576) (n a s : Int) (h0 : 0 ≤ a) (h1 : a ≤ 900000000000) : ∃ r a' s', spec_l1Cur_one.f c a s n = some (r, a', s') ∧ a ≤ a' ∧ a' ≤ a + 2 := by
  obtain ⟨r, a', s', e, _, _, _, h2, h3⟩ := pick_ok hc hl n a s h0 h1
  unfold spec_l1Cur_one.f
  rw [e]
  exact ⟨_, _, _, rfl, h2, h3⟩
theorem among_ok {c : List Int} (hc : Bytes c) (hl : c.length ≤ 1048576) (l : List Int) (hne : 0 < l.length) (hll : l.length ≤ 1000) (a s : Int) (h0 : 0 ≤ a) (h1 : a ≤ 900000000000) : ∃ r a' s', spec_l1Cur_among.f c a s l = some (r, a', s') ∧ r ∈ l ∧ a ≤ a' ∧ a' ≤ a + 2 := by
  obtain ⟨r, a', s', e, r0, r1, r2, h2, h3⟩ := pick_ok hc hl (l.length : Int) a s h0 h1
  unfold spec_l1Cur_among.f
  rw [e]
  simp only [Option.bind_some]
  have hr : r < l.length := by
    by_cases h : (1 : Int) < l.length
    · exact r1 h
    · have := r2 (by omega); omega
  obtain ⟨i, rfl⟩ : ∃ i : Nat, r = i := ⟨r.toNat, by omega⟩
  have hi : i < l.length := by omega
  rw [if_pos r0, if_pos hr, G.rd_nat hi]
  exact ⟨_, _, _, rfl, List.getElem_mem hi, h2, h3⟩
theorem loop_ok {c : List Int} (hc : Bytes c) (hl : c.length ≤ 1048576) (a s : Int) (h0 : 0 ≤ a) (h1 : a ≤ 500000000000) : ∃ p i d sc m w sl a' s', spec_l1Cur_loop.f c a s = some (p, i, d, sc, m, w, sl, a', s') ∧ a ≤ a' ∧ a' ≤ a + 18 := by
  obtain ⟨r1, a1, s1, e1, _, _, _, p1, q1⟩ := pick_ok hc hl 10 a s h0 (by omega)
  obtain ⟨r2, a2, s2, e2, _, _, _, p2, q2⟩ := pick_ok hc hl 4 a1 s1 (by omega) (by omega)
  obtain ⟨r3, a3, s3, e3, _, _, _, p3, q3⟩ := pick_ok hc hl 4 a2 s2 (by omega) (by omega)
  obtain ⟨r4, a4, s4, e4, _, _, _, p4, q4⟩ := pick_ok hc hl 5 a3 s3 (by omega) (by omega)
  obtain ⟨r5, a5, s5, e5, _, _, _, p5, q5⟩ := pick_ok hc hl 40 a4 s4 (by omega) (by omega)
  obtain ⟨r6, a6, s6, e6, _, _, _, p6, q6⟩ := pick_ok hc hl 60 a5 s5 (by omega) (by omega)
  obtain ⟨r7, a7, s7, e7, _, _, _, p7, q7⟩ := pick_ok hc hl 12 a6 s6 (by omega) (by omega)
  obtain ⟨r8, a8, s8, e8, _, _, _, p8, q8⟩ := pick_ok hc hl 16 a7 s7 (by omega) (by omega)
  unfold spec_l1Cur_loop.f
  simp only [e1, e2, e3, e4, e5, e6, e7, e8, Option.bind_some]
  split
  · obtain ⟨v, a9, s9, e9, _, p9, q9⟩ := among_ok hc hl [1000, 1001, -1] (by decide) (by decide) a8 s8 (by omega) (by omega)
    rw [e9]; simp only [Option.bind_some]; exact ⟨_, _, _, _, _, _, _, _, _, rfl, by omega, by omega⟩
  · split
    · obtain ⟨v, a9, s9, e9, _, p9, q9⟩ := among_ok hc hl [1000000, 1000001, 0] (by decide) (by decide) a8 s8 (by omega) (by omega)
      rw [e9]; simp only [Option.bind_some]; exact ⟨_, _, _, _, _, _, _, _, _, rfl, by omega, by omega⟩
    · split
      · obtain ⟨v, a9, s9, e9, _, p9, q9⟩ := among_ok hc hl [1000000, -1] (by decide) (by decide) a8 s8 (by omega) (by omega)
        rw [e9]; simp only [Option.bind_some]; exact ⟨_, _, _, _, _, _, _, _, _, rfl, by omega, by omega⟩
      · split
        · obtain ⟨v, a9, s9, e9, _, p9, q9⟩ := among_ok hc hl [0, 1000, 1001] (by decide) (by decide) a8 s8 (by omega) (by omega)
          rw [e9]; simp only [Option.bind_some]; exact ⟨_, _, _, _, _, _, _, _, _, rfl, by omega, by omega⟩
        · exact ⟨_, _, _, _, _, _, _, _, _, rfl, by omega, by omega⟩
theorem level_ok {c : List Int} (hc : Bytes c) (hl : c.length ≤ 1048576) (a s : Int) (h0 : 0 ≤ a) (h1 : a ≤ 800000000000) : ∃ v a' s', spec_l1Cur_level.f c a s = some (v, a', s') ∧ a ≤ a' ∧ a' ≤ a + 4 := by
  obtain ⟨b, a1, s1, e1, p1, q1⟩ := one_ok hc hl 30 a s h0 (by omega)
  unfold spec_l1Cur_level.f
  rw [e1, Option.bind_some]
  cases b with
  | true =>
    obtain ⟨v, a2, s2, e2, _, p2, q2⟩ := among_ok hc hl [1000000, -1000000, 1000001] (by decide) (by decide) a1 s1 (by omega) (by omega)
    rw [if_pos rfl, e2]; simp only [Option.bind_some]; exact ⟨_, _, _, rfl, by omega, by omega⟩
  | false =>
    obtain ⟨v, a2, s2, e2, _, _, _, p2, q2⟩ := pick_ok hc hl 61 a1 s1 (by omega) (by omega)
    rw [if_neg (by simp), e2]; simp only [Option.bind_some]; exact ⟨_, _, _, rfl, by omega, by omega⟩
theorem levels_loop {c : List Int} (hc : Bytes c) (hl : c.length ≤ 1048576) : ∀ (d : Nat) (n a s v : Int) (out : List Int), n.toNat = d → n ≤ 1000 → out.length + d ≤ 1000 → 0 ≤ a → a ≤ 600000000000 - 10 * d →
    ∃ r : List Int × Int × Int, Ev (fun k => spec_l1Cur_levels.l0 k n out v c a s) r ∧ a ≤ r.2.1 ∧ r.2.1 ≤ a + 10 * d := by
  intro d
  induction d with
  | zero =>
    intro n a s v out hn hn' ho h0 h1
    refine ⟨(out, a, s), G.succ ?_, by simp, by simp⟩
    simp only [spec_l1Cur_levels.l0]
    exact G.neg (by omega) (G.now fun _ => rfl)
  | succ d ih =>
    intro n a s v out hn hn' ho h0 h1
    have hw : wrap64 (n - 1) = n - 1 := G.w64' (by omega) (by omega)
    obtain ⟨b, a1, s1, e1, p1, q1⟩ := one_ok hc hl 4 a s h0 (by omega)
    cases b with
    | true =>
      obtain ⟨z, a2, s2, e2, p2, q2⟩ := level_ok hc hl a1 s1 (by omega) (by omega)
      obtain ⟨r, e, r1, r2⟩ := ih (n - 1) a2 s2 z (out ++ [z]) (by omega) (by omega) (by simp; omega) (by omega) (by omega)
      refine ⟨r, G.succ ?_, by omega, by omega⟩
      simp only [spec_l1Cur_levels.l0, hw]
      exact G.pos (by omega) (G.bind0 e1 (G.pos rfl (G.bind0 e2 (G.pos (by omega) e))))
    | false =>
      obtain ⟨r, e, r1, r2⟩ := ih (n - 1) a1 s1 v (out ++ [v]) (by omega) (by omega) (by simp; omega) (by omega) (by omega)
      refine ⟨r, G.succ ?_, by omega, by omega⟩
      simp only [spec_l1Cur_levels.l0, hw]
      exact G.pos (by omega) (G.bind0 e1 (G.neg (by simp) (G.pos (by omega) e)))
theorem levels_ok {c : List Int} (hc : Bytes c) (hl : c.length ≤ 1048576) (n a s : Int) (hn : n ≤ 1000) (h0 : 0 ≤ a) (h1 : a ≤ 500000000000) : ∃ r : List Int × Int × Int, Ev (fun k => spec_l1Cur_levels.f k c a s n) r := by
  obtain ⟨v, a1, s1, e1, p1, q1⟩ := level_ok hc hl a s h0 (by omega)
  obtain ⟨r, e, _⟩ := levels_loop hc hl n.toNat n a1 s1 v [] rfl hn (by simp; omega) (by omega) (by omega)
  refine ⟨r, ?_⟩
  simp only [spec_l1Cur_levels.f]
  exact G.bind0 e1 e
/-- A loop's numbers are as said. -/
def GL (p i d s m w sl : Int) : Prop := 0 ≤ p ∧ p ≤ 1000 ∧ 0 ≤ i ∧ i ≤ 1000 ∧ 0 ≤ d ∧ d ≤ 1000 ∧ 1 ≤ s ∧ s ≤ 1000 ∧ 1 ≤ m ∧ m ≤ 1000000 ∧ 0 ≤ w ∧ w ≤ 1000000 ∧ 0 ≤ sl ∧ sl ≤ 1000000
instance (p i d s m w sl : Int) : Decidable (GL p i d s m w sl) := by unfold GL; infer_instance
theorem goodloop_spec (p i d s m w sl : Int) : spec_GoodLoop.f p i d s m w sl = some (decide (GL p i d s m w sl)) := by
  simp only [spec_GoodLoop.f, G.nest]
  congr 1
  rw [Bool.eq_iff_iff]
  simp only [Bool.and_eq_true, decide_eq_true_eq]
  exact Iff.rfl
theorem goodloop_impl (p i d s m w sl : Int) : impl_GoodLoop.f p i d s m w sl = some (decide (GL p i d s m w sl)) := by
  rw [← goodloop_spec]
  simp only [spec_GoodLoop.f, impl_GoodLoop.f, impl_between.f, G.nest, Option.bind_some]
  simp [Bool.and_assoc]
theorem bdec {c : Prop} [Decidable c] {b : Bool} (h : b = true ↔ c) : b = decide c := by
  by_cases hc : c
  · rw [decide_eq_true hc]; exact h.2 hc
  · rw [decide_eq_false hc]; cases b
    · rfl
    · exact absurd (h.1 rfl) hc
theorem within_is (a b : Int) (h : 0 ≤ b) (h' : b ≤ 9000000) : impl_within.f a b = some (decide (-b ≤ a ∧ a ≤ b)) := by
  unfold impl_within.f
  rw [G.wneg (by omega) (by omega), G.nest]; congr 1; simp
theorem in_is (a b : Int) (h : 0 ≤ b) (h' : b ≤ 9000000) : spec_l13In.f a b = some (decide (-b ≤ a ∧ a ≤ b)) := within_is a b h h'
theorem value_is (a : Int) : spec_l13Value.f a = some (decide (-1000000 ≤ a ∧ a ≤ 1000000)) := by
  unfold spec_l13Value.f; rw [in_is a 1000000 (by omega) (by omega)]; rfl
/-- A loop and its hold are as said. -/
def GH (p i d s m w sl : Int) (on : Bool) (sum last out : Int) : Prop := GL p i d s m w sl ∧ -w ≤ sum ∧ sum ≤ w ∧ -m ≤ out ∧ out ≤ m ∧ -2000000 ≤ last ∧ last ≤ 2000000 ∧ (on = true ∨ sum = 0 ∧ out = 0 ∧ last = 0)
instance (p i d s m w sl : Int) (on : Bool) (sum last out : Int) : Decidable (GH p i d s m w sl on sum last out) := by unfold GH; infer_instance
theorem goodhold_is (p i d s m w sl : Int) (on : Bool) (sum last out : Int) : spec_GoodHold.f p i d s m w sl on sum last out = some (decide (GH p i d s m w sl on sum last out)) ∧ impl_GoodHold.f p i d s m w sl on sum last out = some (decide (GH p i d s m w sl on sum last out)) := by
  unfold spec_GoodHold.f impl_GoodHold.f
  rw [goodloop_spec, goodloop_impl]
  simp only [Option.bind_some]
  by_cases hl : GL p i d s m w sl
  · have hl' := hl
    obtain ⟨_, _, _, _, _, _, _, _, m0, m1, w0, w1, _, _⟩ := hl'
    rw [in_is sum w w0 (by omega), in_is out m (by omega) (by omega), in_is last 2000000 (by omega) (by omega), within_is sum w w0 (by omega), within_is out m (by omega) (by omega), within_is last 2000000 (by omega) (by omega)]
    simp only [Option.bind_some, decide_eq_true_eq, if_pos hl]
    by_cases h1 : -w ≤ sum ∧ sum ≤ w
    · rw [if_pos h1, if_pos h1]
      by_cases h2 : -m ≤ out ∧ out ≤ m
      · rw [if_pos h2, if_pos h2]
        by_cases h3 : -2000000 ≤ last ∧ last ≤ 2000000
        · rw [if_pos h3, if_pos h3]
          cases on
          · by_cases e1 : sum = 0 <;> by_cases e2 : out = 0 <;> by_cases e3 : last = 0 <;> simp [GH, hl, h1, h2, h3, e1, e2, e3] <;> omega
          · simp [GH, hl, h1, h2, h3]
        · rw [if_neg h3, if_neg h3, decide_eq_false (fun h => h3 ⟨h.2.2.2.2.2.1, h.2.2.2.2.2.2.1⟩)]; exact ⟨rfl, rfl⟩
      · rw [if_neg h2, if_neg h2, decide_eq_false (fun h => h2 ⟨h.2.2.2.1, h.2.2.2.2.1⟩)]; exact ⟨rfl, rfl⟩
    · rw [if_neg h1, if_neg h1, decide_eq_false (fun h => h1 ⟨h.2.1, h.2.2.1⟩)]; exact ⟨rfl, rfl⟩
  · rw [decide_eq_false hl, decide_eq_false (fun h : GH p i d s m w sl on sum last out => hl h.1)]; exact ⟨rfl, rfl⟩
/-- Cut to what lies between. -/
def cutv (n lo hi : Int) : Int := if n < lo then lo else if n > hi then hi else n
theorem cut_spec (n lo hi : Int) : spec_l13Cut.f n lo hi = some (cutv n lo hi) := by
  unfold spec_l13Cut.f cutv; split
  · rfl
  · split <;> rfl
theorem cut_impl (n lo hi : Int) (h : lo ≤ hi) : impl_cut.f n lo hi = some (cutv n lo hi) := by
  unfold impl_cut.f cutv mn mx; congr 1
  repeat' split
  all_goals omega
theorem cutv_bd (n lo hi : Int) (h : lo ≤ hi) : lo ≤ cutv n lo hi ∧ cutv n lo hi ≤ hi := by unfold cutv; split <;> (try split) <;> omega
theorem down_is (a b : Int) (h0 : 1 ≤ b) (h1 : b ≤ 1000000) (ha : -1000000000000 ≤ a) (ha' : a ≤ 1000000000000) : spec_l13Down.f a b = some (a / b) ∧ impl_down.f a b = some (a / b) := by
  have e : impl_down.f a b = spec_l13Down.f a b := rfl
  rw [e]
  have key : spec_l13Down.f a b = some (a / b) := by
    have hm1 := Int.tmod_lt_of_pos a (show 0 < b by omega)
    have hm0 : -b < Int.tmod a b := by
      have := Int.tmod_lt_of_pos (-a) (show 0 < b by omega)
      rw [Int.neg_tmod] at this
      omega
    have ht := Int.tmod_add_mul_tdiv a b
    have hd := Int.emod_add_mul_ediv a b
    have h2 := Int.emod_nonneg a (show b ≠ 0 by omega)
    have h3 := Int.emod_lt_of_pos a (show 0 < b by omega)
    have hq : Int.tdiv a b = if Int.tmod a b < 0 then a / b + 1 else a / b := by
      have h4 : b * (Int.tdiv a b - a / b) = a % b - Int.tmod a b := by rw [Int.mul_sub]; omega
      split
      · have : Int.tdiv a b - a / b = 1 := by
          have l0 : 0 < b * (Int.tdiv a b - a / b) := by omega
          have l1 : b * (Int.tdiv a b - a / b) < b * 2 := by omega
          have := Int.lt_of_mul_lt_mul_left l1 (by omega)
          have l2 : b * 0 < b * (Int.tdiv a b - a / b) := by omega
          have := Int.lt_of_mul_lt_mul_left l2 (by omega)
          omega
        omega
      · have : Int.tdiv a b - a / b = 0 := by
          have l0 : b * (-1) < b * (Int.tdiv a b - a / b) := by omega
          have l1 : b * (Int.tdiv a b - a / b) < b * 1 := by omega
          have := Int.lt_of_mul_lt_mul_left l1 (by omega)
          have := Int.lt_of_mul_lt_mul_left l0 (by omega)
          omega
        omega
    have hb : -1000000000000 ≤ a / b ∧ a / b ≤ 1000000000000 := by
      constructor
      · exact (Int.le_ediv_iff_mul_le (by omega)).2 (by have := Int.mul_le_mul_of_nonneg_left (show (1 : Int) ≤ b by omega) (show (0 : Int) ≤ 1000000000000 by omega); omega)
      · rcases Int.lt_or_le a 0 with h | h
        · have : a / b < 0 := Int.ediv_neg_of_neg_of_pos h (by omega)
          omega
        · have := Int.ediv_le_self b h; omega
    unfold spec_l13Down.f
    rw [if_neg (by omega)]
    by_cases h : Int.tmod a b < 0
    · rw [if_pos h] at hq
      rw [if_pos h, hq, G.w64' (i := a / b + 1) (by omega) (by omega), G.w64' (by omega) (by omega)]; congr 1; omega
    · rw [if_neg h] at hq
      rw [if_neg h, hq, G.w64' (by omega) (by omega)]
  exact ⟨key, key⟩
/-- What a step of a good loop tells: the new sum, the miss, the output. -/
def rawv (p i d s w : Int) (on : Bool) (sum last e : Int) : Int := (p * e + i * cutv (sum + e) (-w) w + d * (if on = true then e - last else 0)) / s
def sumv (p i d s m w : Int) (on : Bool) (sum last e : Int) : Int := if (rawv p i d s w on sum last e > m ∧ e > 0) ∨ (rawv p i d s w on sum last e < -m ∧ e < 0) then sum else cutv (sum + e) (-w) w
def outv (p i d s m w sl : Int) (on : Bool) (sum last out e : Int) : Int := if on = true ∧ sl > 0 then cutv (cutv (rawv p i d s w on sum last e) (-m) m) (out - sl) (out + sl) else cutv (rawv p i d s w on sum last e) (-m) m
theorem prod_bd (x y B : Int) (h0 : 0 ≤ x) (h1 : x ≤ 1000) (hy : -B ≤ y) (hy' : y ≤ B) (hB : 0 ≤ B) : -(1000 * B) ≤ x * y ∧ x * y ≤ 1000 * B := by
  have a1 : x * y ≤ x * B := Int.mul_le_mul_of_nonneg_left hy' h0
  have a2 : x * B ≤ 1000 * B := Int.mul_le_mul_of_nonneg_right h1 hB
  have a3 : x * (-B) ≤ x * y := Int.mul_le_mul_of_nonneg_left hy h0
  rw [Int.mul_neg] at a3
  omega
theorem step_is (p i d s m w sl : Int) (on : Bool) (sum last out want seen : Int) : ∃ r : Bool × Int × Int × Int × Bool, Ev (fun k => spec_HoldStep.f k p i d s m w sl on sum last out want seen) r ∧ Ev (fun k => impl_HoldStep.f k p i d s m w sl on sum last out want seen) r ∧
    ((r = (false, 0, 0, 0, false) ∧ ¬ (GH p i d s m w sl on sum last out ∧ (-1000000 ≤ want ∧ want ≤ 1000000) ∧ (-1000000 ≤ seen ∧ seen ≤ 1000000))) ∨
     (GH p i d s m w sl on sum last out ∧ (-1000000 ≤ want ∧ want ≤ 1000000) ∧ (-1000000 ≤ seen ∧ seen ≤ 1000000) ∧ r = (true, sumv p i d s m w on sum last (want - seen), want - seen, outv p i d s m w sl on sum last out (want - seen), true))) := by
  obtain ⟨g1, g2⟩ := goodhold_is p i d s m w sl on sum last out
  have jt : Ev (fun k => spec_HoldStep.j0 k want seen true p i d s m w sl on sum last out) (false, 0, 0, 0, false) := G.succ (G.now fun k => by simp [spec_HoldStep.j0])
  have jt' : Ev (fun k => impl_HoldStep.j0 k want seen true p i d s m w sl on sum last out) (false, 0, 0, 0, false) := G.succ (G.now fun k => by simp [impl_HoldStep.j0])
  simp only [spec_HoldStep.f, impl_HoldStep.f]
  by_cases hg : GH p i d s m w sl on sum last out
  · rw [decide_eq_true hg] at g1 g2
    by_cases hw : -1000000 ≤ want ∧ want ≤ 1000000
    · have w1 : spec_l13Value.f want = some true := by rw [value_is, decide_eq_true hw]
      have w2 : impl_within.f want 1000000 = some true := by rw [within_is _ _ (by omega) (by omega), decide_eq_true hw]
      by_cases hs : -1000000 ≤ seen ∧ seen ≤ 1000000
      · have s1 : spec_l13Value.f seen = some true := by rw [value_is, decide_eq_true hs]
        have s2 : impl_within.f seen 1000000 = some true := by rw [within_is _ _ (by omega) (by omega), decide_eq_true hs]
        refine ⟨_, G.bind0 g1 (G.pos rfl (G.bind0 w1 (G.pos rfl (G.bind0 s1 ?_)))), G.bind0 g2 (G.pos rfl (G.bind0 w2 (G.pos rfl (G.bind0 s2 ?_)))), Or.inr ⟨hg, hw, hs, rfl⟩⟩
        all_goals
          obtain ⟨⟨p0, p1, i0, i1, d0, d1, sc0, sc1, m0, m1, ww0, ww1, sl0, sl1⟩, h1, h2, h3, h4, h5, h6, h7⟩ := hg
          have hc := cutv_bd (sum + (want - seen)) (-w) w (by omega)
          have b1 := prod_bd p (want - seen) 2000000 p0 p1 (by omega) (by omega) (by omega)
          have b2 := prod_bd i (cutv (sum + (want - seen)) (-w) w) 1000000 i0 i1 (by omega) (by omega) (by omega)
          have eW : wrap64 (want - seen) = want - seen := G.w64' (by omega) (by omega)
          have eN (x : Int) (hx : 0 ≤ x) (hx' : x ≤ 1000000) : wrap64 (-x) = -x := G.wneg (by omega) (by omega)
          have eS : wrap64 (sum + (want - seen)) = sum + (want - seen) := G.w64' (by omega) (by omega)
        · refine G.succ ?_
          simp only [spec_HoldStep.j0, eW]
          refine G.neg (by simp) ?_
          have j1 (dv : Int) (hdv : dv = if on = true then (want - seen) - last else 0) : Ev (fun k => spec_HoldStep.j1 k (want - seen) dv p i d s m w sl on sum last out) (true, sumv p i d s m w on sum last (want - seen), want - seen, outv p i d s m w sl on sum last out (want - seen), true) := by
            have hdb : -4000000 ≤ dv ∧ dv ≤ 4000000 := by rw [hdv]; split <;> omega
            have b3 := prod_bd d dv 4000000 d0 d1 (by omega) (by omega) (by omega)
            have eR : spec_l13Down.f (p * (want - seen) + i * cutv (sum + (want - seen)) (-w) w + d * dv) s = some (rawv p i d s w on sum last (want - seen)) := by
              rw [(down_is _ s (by omega) (by omega) (by omega) (by omega)).1]; unfold rawv; rw [← hdv]
            refine G.succ ?_
            simp only [spec_HoldStep.j1, eS, eN w ww0 ww1, eN m (by omega) m1, cut_spec, Option.bind_some, G.w64' (i := p * (want - seen)) (by omega) (by omega), G.w64' (i := i * cutv (sum + (want - seen)) (-w) w) (by omega) (by omega), G.w64' (i := d * dv) (by omega) (by omega), G.w64' (i := p * (want - seen) + i * cutv (sum + (want - seen)) (-w) w) (by omega) (by omega), G.w64' (i := p * (want - seen) + i * cutv (sum + (want - seen)) (-w) w + d * dv) (by omega) (by omega), eR]
            have j2 (b : Bool) (hb : b = decide ((rawv p i d s w on sum last (want - seen) > m ∧ want - seen > 0) ∨ (rawv p i d s w on sum last (want - seen) < -m ∧ want - seen < 0))) : Ev (fun k => spec_HoldStep.j2 k b p i d s m w sl on sum last out true (cutv (sum + (want - seen)) (-w) w) (want - seen) (cutv (rawv p i d s w on sum last (want - seen)) (-m) m)) (true, sumv p i d s m w on sum last (want - seen), want - seen, outv p i d s m w sl on sum last out (want - seen), true) := by
              have eo : wrap64 (out - sl) = out - sl := G.w64' (by omega) (by omega)
              have eo' : wrap64 (out + sl) = out + sl := G.w64' (by omega) (by omega)
              have hsum : sumv p i d s m w on sum last (want - seen) = if b = true then sum else cutv (sum + (want - seen)) (-w) w := by unfold sumv; rw [hb]; simp
              refine G.succ (G.now fun k => ?_)
              simp only [spec_HoldStep.j2, eo, eo', cut_spec, Option.bind_some, outv, hsum]
              cases b <;> cases on <;> by_cases hsl : sl > 0 <;> simp [hsl]
            generalize rawv p i d s w on sum last (want - seen) = raw at j2 ⊢
            refine G.ite (fun c1 => G.ite (fun c2 => j2 _ (bdec (iff_of_true rfl (by omega)))) (fun c2 => G.ite (fun c3 => j2 _ (bdec (by rw [decide_eq_true_eq]; omega))) (fun c3 => j2 _ (bdec (iff_of_false (by simp) (by omega)))))) (fun c1 => G.ite (fun c3 => j2 _ (bdec (by rw [decide_eq_true_eq]; omega))) (fun c3 => j2 _ (bdec (iff_of_false (by simp) (by omega)))))
          cases on with
          | true =>
            refine G.pos rfl ?_
            rw [G.w64' (i := want - seen - last) (by omega) (by omega)]; exact j1 _ rfl
          | false => exact G.neg (by simp) (j1 _ rfl)
        · refine G.succ ?_
          simp only [impl_HoldStep.j0, eW]
          refine G.neg (by simp) ?_
          have j1 (dv : Int) (hdv : dv = if on = true then (want - seen) - last else 0) : Ev (fun k => impl_HoldStep.j1 k (want - seen) dv p i d s m w sl on sum last out) (true, sumv p i d s m w on sum last (want - seen), want - seen, outv p i d s m w sl on sum last out (want - seen), true) := by
            have hdb : -4000000 ≤ dv ∧ dv ≤ 4000000 := by rw [hdv]; split <;> omega
            have b3 := prod_bd d dv 4000000 d0 d1 (by omega) (by omega) (by omega)
            have eR : impl_down.f (p * (want - seen) + i * cutv (sum + (want - seen)) (-w) w + d * dv) s = some (rawv p i d s w on sum last (want - seen)) := by
              rw [(down_is _ s (by omega) (by omega) (by omega) (by omega)).2]; unfold rawv; rw [← hdv]
            refine G.succ ?_
            simp only [impl_HoldStep.j1, eS, eN w ww0 ww1, eN m (by omega) m1, cut_impl _ (-w) w (by omega), Option.bind_some, G.w64' (i := p * (want - seen)) (by omega) (by omega), G.w64' (i := i * cutv (sum + (want - seen)) (-w) w) (by omega) (by omega), G.w64' (i := d * dv) (by omega) (by omega), G.w64' (i := p * (want - seen) + i * cutv (sum + (want - seen)) (-w) w) (by omega) (by omega), G.w64' (i := p * (want - seen) + i * cutv (sum + (want - seen)) (-w) w + d * dv) (by omega) (by omega), eR]
            have j3 (sv : Int) (hs : sv = sumv p i d s m w on sum last (want - seen)) : Ev (fun k => impl_HoldStep.j3 k (want - seen) sv (rawv p i d s w on sum last (want - seen)) p i d s m w sl on sum last out) (true, sumv p i d s m w on sum last (want - seen), want - seen, outv p i d s m w sl on sum last out (want - seen), true) := by
              have eo : wrap64 (out - sl) = out - sl := G.w64' (by omega) (by omega)
              have eo' : wrap64 (out + sl) = out + sl := G.w64' (by omega) (by omega)
              refine G.succ (G.now fun k => ?_)
              simp only [impl_HoldStep.j3, eN m (by omega) m1, eo, eo', cut_impl _ (-m) m (by omega), cut_impl _ (out - sl) (out + sl) (by omega), Option.bind_some, outv, hs]
              cases on <;> by_cases hsl : sl > 0 <;> simp [hsl]
            have j2 (b : Bool) (hb : b = decide ((rawv p i d s w on sum last (want - seen) > m ∧ want - seen > 0) ∨ (rawv p i d s w on sum last (want - seen) < -m ∧ want - seen < 0))) : Ev (fun k => impl_HoldStep.j2 k (want - seen) (cutv (sum + (want - seen)) (-w) w) (rawv p i d s w on sum last (want - seen)) b p i d s m w sl on sum last out) (true, sumv p i d s m w on sum last (want - seen), want - seen, outv p i d s m w sl on sum last out (want - seen), true) := by
              have hsum : sumv p i d s m w on sum last (want - seen) = if b = true then sum else cutv (sum + (want - seen)) (-w) w := by unfold sumv; rw [hb]; simp
              refine G.succ ?_
              simp only [impl_HoldStep.j2]
              refine G.ite (fun c => j3 _ ?_) (fun c => j3 _ ?_)
              · rw [hsum, if_pos c]
              · rw [hsum, if_neg c]
            generalize rawv p i d s w on sum last (want - seen) = raw at j2 ⊢
            refine G.ite (fun c1 => G.ite (fun c2 => j2 _ (bdec (iff_of_true rfl (by omega)))) (fun c2 => G.ite (fun c3 => j2 _ (bdec (by rw [decide_eq_true_eq]; omega))) (fun c3 => j2 _ (bdec (iff_of_false (by simp) (by omega)))))) (fun c1 => G.ite (fun c3 => j2 _ (bdec (by rw [decide_eq_true_eq]; omega))) (fun c3 => j2 _ (bdec (iff_of_false (by simp) (by omega)))))
          cases on with
          | true =>
            refine G.pos rfl ?_
            rw [G.w64' (i := want - seen - last) (by omega) (by omega)]; exact j1 _ rfl
          | false => exact G.neg (by simp) (j1 _ rfl)
      · have s1 : spec_l13Value.f seen = some false := by rw [value_is, decide_eq_false hs]
        have s2 : impl_within.f seen 1000000 = some false := by rw [within_is _ _ (by omega) (by omega), decide_eq_false hs]
        exact ⟨_, G.bind0 g1 (G.pos rfl (G.bind0 w1 (G.pos rfl (G.bind0 s1 jt)))), G.bind0 g2 (G.pos rfl (G.bind0 w2 (G.pos rfl (G.bind0 s2 jt')))), Or.inl ⟨rfl, fun h => hs h.2.2⟩⟩
    · have w1 : spec_l13Value.f want = some false := by rw [value_is, decide_eq_false hw]
      have w2 : impl_within.f want 1000000 = some false := by rw [within_is _ _ (by omega) (by omega), decide_eq_false hw]
      exact ⟨_, G.bind0 g1 (G.pos rfl (G.bind0 w1 (G.neg (by simp) jt))), G.bind0 g2 (G.pos rfl (G.bind0 w2 (G.neg (by simp) jt'))), Or.inl ⟨rfl, fun h => hw h.2.1⟩⟩
  · rw [decide_eq_false hg] at g1 g2
    exact ⟨_, G.bind0 g1 (G.neg (by simp) jt), G.bind0 g2 (G.neg (by simp) jt'), Or.inl ⟨rfl, fun h => hg h.1⟩⟩
/-- A good loop's hold stays good. -/
theorem gh_step {p i d s m w sl : Int} {on : Bool} {sum last out e : Int} (h : GH p i d s m w sl on sum last out) (e0 : -2000000 ≤ e) (e1 : e ≤ 2000000) : GH p i d s m w sl true (sumv p i d s m w on sum last e) e (outv p i d s m w sl on sum last out e) := by
  obtain ⟨hg, h1, h2, h3, h4, h5, h6, h7⟩ := h
  have hg' := hg
  obtain ⟨_, _, _, _, _, _, _, _, m0, m1, w0, w1, s0, s1⟩ := hg'
  have c1 := cutv_bd (sum + e) (-w) w (by omega)
  have c2 := cutv_bd (rawv p i d s w on sum last e) (-m) m (by omega)
  refine ⟨hg, ?_, ?_, ?_, ?_, e0, e1, .inl rfl⟩
  · unfold sumv; split <;> omega
  · unfold sumv; split <;> omega
  · unfold outv; split
    · generalize cutv (rawv p i d s w on sum last e) (-m) m = x at *
      unfold cutv; split <;> (try split) <;> omega
    · omega
  · unfold outv; split
    · generalize cutv (rawv p i d s w on sum last e) (-m) m = x at *
      unfold cutv; split <;> (try split) <;> omega
    · omega
/-- Outputs and the hold at the end follow wants and sights, step by step. -/
def Fol (p i d s m w sl : Int) : Bool → Int → Int → Int → List Int → List Int → List Int → Bool × Int × Int × Int → Prop
  | on, sum, last, out, [], [], [], e => e = (on, sum, last, out)
  | on, sum, last, out, x :: X, y :: Y, o :: O, e => GH p i d s m w sl on sum last out ∧ (-1000000 ≤ x ∧ x ≤ 1000000) ∧ (-1000000 ≤ y ∧ y ≤ 1000000) ∧ o = outv p i d s m w sl on sum last out (x - y) ∧ Fol p i d s m w sl true (sumv p i d s m w on sum last (x - y)) (x - y) (outv p i d s m w sl on sum last out (x - y)) X Y O e
  | _, _, _, _, _, _, _, _ => False
theorem run_l (p i d s m w sl : Int) (X Y : List Int) (hxy : Y.length = X.length) (hl : X.length ≤ 60) : ∀ j, j ≤ X.length → ∀ (on : Bool) (sum last out : Int) (acc : List Int), acc.length = j → ∃ r : List Int × Bool × Int × Int × Int × Bool,
    Ev (fun k => spec_RunHold.l0 k X Y acc X.length (j : Int) p i d s m w sl on sum last out) r ∧ Ev (fun k => impl_RunHold.l0 k X Y acc X.length (j : Int) p i d s m w sl on sum last out) r ∧
    (r = ([], false, 0, 0, 0, false) ∨ ∃ (O : List Int) (e : Bool × Int × Int × Int), r = (acc ++ O, e.1, e.2.1, e.2.2.1, e.2.2.2, true) ∧ O.length = X.length - j ∧ Fol p i d s m w sl on sum last out (X.drop j) (Y.drop j) O e) := by
  refine G.down_ind X.length (fun j => ∀ (on : Bool) (sum last out : Int) (acc : List Int), acc.length = j → ∃ r : List Int × Bool × Int × Int × Int × Bool,
    Ev (fun k => spec_RunHold.l0 k X Y acc X.length (j : Int) p i d s m w sl on sum last out) r ∧ Ev (fun k => impl_RunHold.l0 k X Y acc X.length (j : Int) p i d s m w sl on sum last out) r ∧
    (r = ([], false, 0, 0, 0, false) ∨ ∃ (O : List Int) (e : Bool × Int × Int × Int), r = (acc ++ O, e.1, e.2.1, e.2.2.1, e.2.2.2, true) ∧ O.length = X.length - j ∧ Fol p i d s m w sl on sum last out (X.drop j) (Y.drop j) O e)) ?_ ?_
  · intro on sum last out acc _
    refine ⟨(acc, on, sum, last, out, true), G.succ (G.now fun k => ?_), G.succ (G.now fun k => ?_), .inr ⟨[], (on, sum, last, out), by simp, by simp, ?_⟩⟩
    · simp only [spec_RunHold.l0]; rw [if_neg (by omega)]
    · simp only [impl_RunHold.l0]; rw [if_neg (by omega)]
    · rw [List.drop_eq_nil_of_le (Nat.le_refl _), List.drop_eq_nil_of_le (by omega)]; rfl
  · intro j hj ih on sum last out acc ha
    have hy : j < Y.length := by omega
    obtain ⟨r, h1, h2, h3⟩ := step_is p i d s m w sl on sum last out X[j] Y[j]
    rcases h3 with ⟨rfl, _⟩ | ⟨hg, hx', hy', rfl⟩
    · refine ⟨([], false, 0, 0, 0, false), G.succ ?_, G.succ ?_, .inl rfl⟩
      · simp only [spec_RunHold.l0, G.rd_nat hj, G.rd_nat hy]
        exact G.pos (by omega) (G.pos (by omega) (G.pos (by omega) (G.pos (by omega) (G.bind h1 (G.neg (by simp) (G.now fun _ => rfl))))))
      · simp only [impl_RunHold.l0, G.rd_nat hj, G.rd_nat hy]
        exact G.pos (by omega) (G.pos (by omega) (G.pos (by omega) (G.pos (by omega) (G.bind h2 (G.neg (by simp) (G.now fun _ => rfl))))))
    · obtain ⟨r, e1, e2, e3⟩ := ih true (sumv p i d s m w on sum last (X[j] - Y[j])) (X[j] - Y[j]) (outv p i d s m w sl on sum last out (X[j] - Y[j])) (acc ++ [outv p i d s m w sl on sum last out (X[j] - Y[j])]) (by simp [ha])
      refine ⟨r, G.succ ?_, G.succ ?_, ?_⟩
      · simp only [spec_RunHold.l0, G.rd_nat hj, G.rd_nat hy, G.w64 j (by omega)]
        exact G.pos (by omega) (G.pos (by omega) (G.pos (by omega) (G.pos (by omega) (G.bind h1 (G.pos rfl (G.pos (by omega) e1))))))
      · simp only [impl_RunHold.l0, G.rd_nat hj, G.rd_nat hy, G.w64 j (by omega)]
        exact G.pos (by omega) (G.pos (by omega) (G.pos (by omega) (G.pos (by omega) (G.bind h2 (G.pos rfl (G.pos (by omega) e2))))))
      · rcases e3 with rfl | ⟨O, e, rfl, hO, hf⟩
        · exact .inl rfl
        · refine .inr ⟨outv p i d s m w sl on sum last out (X[j] - Y[j]) :: O, e, by simp, by simp; omega, ?_⟩
          rw [List.drop_eq_getElem_cons hj, List.drop_eq_getElem_cons hy]
          exact ⟨hg, hx', hy', rfl, hf⟩
theorem run_is (p i d s m w sl : Int) (on : Bool) (sum last out : Int) (X Y : List Int) : ∃ r : List Int × Bool × Int × Int × Int × Bool,
    Ev (fun k => spec_RunHold.f k p i d s m w sl on sum last out X Y) r ∧ Ev (fun k => impl_RunHold.f k p i d s m w sl on sum last out X Y) r ∧ r.1.length ≤ 60 ∧
    (r = ([], false, 0, 0, 0, false) ∨ GH p i d s m w sl on sum last out ∧ Y.length = X.length ∧ X.length ≤ 60 ∧ ∃ (O : List Int) (e : Bool × Int × Int × Int), r = (O, e.1, e.2.1, e.2.2.1, e.2.2.2, true) ∧ O.length = X.length ∧ Fol p i d s m w sl on sum last out X Y O e) := by
  obtain ⟨g1, g2⟩ := goodhold_is p i d s m w sl on sum last out
  have jt : Ev (fun k => spec_RunHold.j0 k X Y true p i d s m w sl on sum last out) ([], false, 0, 0, 0, false) := G.succ (G.now fun k => by simp [spec_RunHold.j0])
  have jt' : Ev (fun k => impl_RunHold.j0 k X Y true p i d s m w sl on sum last out) ([], false, 0, 0, 0, false) := G.succ (G.now fun k => by simp [impl_RunHold.j0])
  simp only [spec_RunHold.f, impl_RunHold.f]
  by_cases hg : GH p i d s m w sl on sum last out
  · rw [decide_eq_true hg] at g1 g2
    by_cases hl : (X.length : Int) > 60
    · exact ⟨([], false, 0, 0, 0, false), G.bind0 g1 (G.pos rfl (G.pos hl jt)), G.bind0 g2 (G.pos rfl (G.pos hl jt')), by simp, .inl rfl⟩
    · by_cases hxy : Y.length = X.length
      · obtain ⟨r, e1, e2, e3⟩ := run_l p i d s m w sl X Y hxy (by omega) 0 (Nat.zero_le _) on sum last out [] rfl
        refine ⟨r, G.bind0 g1 (G.pos rfl (G.neg hl (G.succ ?_))), G.bind0 g2 (G.pos rfl (G.neg hl (G.succ ?_))), ?_⟩
        · simp only [spec_RunHold.j0, hxy, bne_self_eq_false]
          exact G.neg (by simp) e1
        · simp only [impl_RunHold.j0, hxy, bne_self_eq_false]
          exact G.neg (by simp) e2
        · rcases e3 with rfl | ⟨O, e, rfl, hO, hf⟩
          · exact ⟨by simp, .inl rfl⟩
          · exact ⟨by simp; omega, .inr ⟨hg, hxy, by omega, O, e, by simp, by omega, hf⟩⟩
      · have b1 : ((Y.length : Int) != (X.length : Int)) = true := by simp; omega
        have b2 : ((X.length : Int) != (Y.length : Int)) = true := by simp; omega
        refine ⟨([], false, 0, 0, 0, false), G.bind0 g1 (G.pos rfl (G.neg hl ?_)), G.bind0 g2 (G.pos rfl (G.neg hl ?_)), by simp, .inl rfl⟩
        · rw [b1]; exact jt
        · rw [b2]; exact jt'
  · rw [decide_eq_false hg] at g1 g2
    exact ⟨([], false, 0, 0, 0, false), G.bind0 g1 (G.neg (by simp) jt), G.bind0 g2 (G.neg (by simp) jt'), by simp, .inl rfl⟩
theorem abs_is (a : Int) (h0 : -9000000 ≤ a) (h1 : a ≤ 9000000) : ∃ r, spec_l4Abs.f a = some r ∧ (∀ m : Int, -m ≤ a → a ≤ m → r ≤ m) := by
  unfold spec_l4Abs.f
  split
  · rw [G.wneg (by omega) (by omega)]; exact ⟨_, rfl, fun m _ _ => by omega⟩
  · exact ⟨_, rfl, fun m _ _ => by omega⟩
theorem fine_is {p i d s m w sl : Int} {on : Bool} {sum last out e : Int} (h : GH p i d s m w sl on sum last out) (e0 : -2000000 ≤ e) (e1 : e ≤ 2000000) :
    Ev (fun k => spec_HoldFine.f k p i d s m w sl on sum last out true (sumv p i d s m w on sum last e) e (outv p i d s m w sl on sum last out e) e) true := by
  obtain ⟨_, n1, n2, n3, n4, _, _, _⟩ := gh_step h e0 e1
  obtain ⟨⟨p0, p1, i0, i1, d0, d1, sc0, sc1, m0, m1, ww0, ww1, sl0, sl1⟩, h1, h2, h3, h4, h5, h6, h7⟩ := h
  have hc := cutv_bd (sum + e) (-w) w (by omega)
  have b1 := prod_bd p e 2000000 p0 p1 (by omega) (by omega) (by omega)
  have b2 := prod_bd i (cutv (sum + e) (-w) w) 1000000 i0 i1 (by omega) (by omega) (by omega)
  have j1 (dv : Int) (hdv : dv = if on = true then e - last else 0) : Ev (fun k => spec_HoldFine.j1 k e dv p i d s m w sl on sum last out true (sumv p i d s m w on sum last e) e (outv p i d s m w sl on sum last out e)) true := by
    have hdb : -4000000 ≤ dv ∧ dv ≤ 4000000 := by rw [hdv]; split <;> omega
    have b3 := prod_bd d dv 4000000 d0 d1 (by omega) (by omega) (by omega)
    have eR : spec_l13Down.f (p * e + i * cutv (sum + e) (-w) w + d * dv) s = some (rawv p i d s w on sum last e) := by
      rw [(down_is _ s (by omega) (by omega) (by omega) (by omega)).1]; unfold rawv; rw [← hdv]
    refine G.succ ?_
    simp only [spec_HoldFine.j1, G.w64' (i := sum + e) (by omega) (by omega), G.wneg (i := w) (by omega) (by omega), G.wneg (i := m) (by omega) (by omega), cut_spec, Option.bind_some, G.w64' (i := p * e) (by omega) (by omega), G.w64' (i := i * cutv (sum + e) (-w) w) (by omega) (by omega), G.w64' (i := d * dv) (by omega) (by omega), G.w64' (i := p * e + i * cutv (sum + e) (-w) w) (by omega) (by omega), G.w64' (i := p * e + i * cutv (sum + e) (-w) w + d * dv) (by omega) (by omega), eR]
    have hs (hc : (rawv p i d s w on sum last e > m ∧ e > 0) ∨ (rawv p i d s w on sum last e < -m ∧ e < 0)) : (sumv p i d s m w on sum last e == sum) = true := by unfold sumv; rw [if_pos hc]; simp
    generalize rawv p i d s w on sum last e = raw at hs ⊢
    refine G.ite (fun c1 => G.ite (fun c2 => G.now fun _ => by rw [hs (.inl ⟨c1, c2⟩)]) (fun c2 => G.ite (fun c3 => G.ite (fun c4 => G.now fun _ => by rw [hs (.inr ⟨c3, c4⟩)]) (fun _ => G.now fun _ => rfl)) (fun _ => G.now fun _ => rfl))) (fun c1 => G.ite (fun c3 => G.ite (fun c4 => G.now fun _ => by rw [hs (.inr ⟨c3, c4⟩)]) (fun _ => G.now fun _ => rfl)) (fun _ => G.now fun _ => rfl))
  have j0 : Ev (fun k => spec_HoldFine.j0 k e false p i d s m w sl on sum last out true (sumv p i d s m w on sum last e) e (outv p i d s m w sl on sum last out e)) true := by
    refine G.succ ?_
    simp only [spec_HoldFine.j0]
    refine G.neg (by simp) ?_
    cases on with
    | true =>
      refine G.pos rfl ?_
      rw [G.w64' (i := e - last) (by omega) (by omega)]; exact j1 _ rfl
    | false => exact G.neg (by simp) (j1 _ rfl)
  simp only [spec_HoldFine.f]
  refine G.pos trivial (G.pos trivial ?_)
  cases on with
  | false => exact G.neg (by simp) j0
  | true =>
    refine G.pos rfl (G.ite (fun hsl => ?_) (fun _ => j0))
    rw [G.w64' (i := outv p i d s m w sl true sum last out e - out) (by omega) (by omega)]
    obtain ⟨r, er, hr⟩ := abs_is (outv p i d s m w sl true sum last out e - out) (by omega) (by omega)
    have ho : -sl ≤ outv p i d s m w sl true sum last out e - out ∧ outv p i d s m w sl true sum last out e - out ≤ sl := by
      have c2 := cutv_bd (cutv (rawv p i d s w true sum last e) (-m) m) (out - sl) (out + sl) (by omega)
      unfold outv; rw [if_pos ⟨rfl, hsl⟩]; omega
    have := hr sl ho.1 ho.2
    refine G.bind0 er ?_
    rw [decide_eq_false (by omega)]; exact j0
theorem holds_loop (p i d s m w sl : Int) (X Y : List Int) (hxy : Y.length = X.length) (hl : X.length ≤ 60) (O : List Int) (hO : O.length = X.length) (e : Bool × Int × Int × Int) : ∀ j, j ≤ X.length → ∀ (on : Bool) (sum last out : Int), Fol p i d s m w sl on sum last out (X.drop j) (Y.drop j) (O.drop j) e →
    Ev (fun k => laws_FnHold.l0 k X Y O X.length (j : Int) p i d s m w sl on sum last out e.1 e.2.1 e.2.2.1 e.2.2.2) true := by
  refine G.down_ind X.length (fun j => ∀ (on : Bool) (sum last out : Int), Fol p i d s m w sl on sum last out (X.drop j) (Y.drop j) (O.drop j) e → Ev (fun k => laws_FnHold.l0 k X Y O X.length (j : Int) p i d s m w sl on sum last out e.1 e.2.1 e.2.2.1 e.2.2.2) true) ?_ ?_
  · intro on sum last out hf
    rw [List.drop_eq_nil_of_le (Nat.le_refl _), List.drop_eq_nil_of_le (by omega), List.drop_eq_nil_of_le (by omega)] at hf
    have hf' : e = (on, sum, last, out) := hf
    subst hf'
    refine G.succ ?_
    simp only [laws_FnHold.l0]
    exact G.neg (by omega) (G.now fun _ => by simp)
  · intro j hj ih on sum last out hf
    have hy : j < Y.length := by omega
    have ho : j < O.length := by omega
    rw [List.drop_eq_getElem_cons hj, List.drop_eq_getElem_cons hy, List.drop_eq_getElem_cons ho] at hf
    obtain ⟨hg, hx', hy', hoj, hf⟩ := hf
    obtain ⟨r, h1, h2, h3⟩ := step_is p i d s m w sl on sum last out X[j] Y[j]
    rcases h3 with ⟨_, hn⟩ | ⟨_, _, _, rfl⟩
    · exact absurd ⟨hg, hx', hy'⟩ hn
    · have g1 := (goodhold_is p i d s m w sl true (sumv p i d s m w on sum last (X[j] - Y[j])) (X[j] - Y[j]) (outv p i d s m w sl on sum last out (X[j] - Y[j]))).1
      rw [decide_eq_true (gh_step hg (by omega) (by omega))] at g1
      have hw : wrap64 (X[j] - Y[j]) = X[j] - Y[j] := G.w64' (by omega) (by omega)
      refine G.succ ?_
      simp only [laws_FnHold.l0, G.rd_nat hj, G.rd_nat hy, G.rd_nat ho]
      refine G.pos (by omega) (G.pos (by omega) (G.pos (by omega) (G.pos (by omega) (G.bind h2 (G.pos rfl (G.bind0 g1 (G.pos rfl (G.pos (by omega) ?_))))))))
      rw [← hoj]
      simp only [bne_self_eq_false]
      refine G.succ ?_
      simp only [laws_FnHold.j1, G.rd_nat hj, G.rd_nat hy, G.w64 j (by omega), hw]
      refine G.neg (by simp) (G.pos (by omega) (G.pos (by omega) (G.pos (by omega) ?_)))
      rw [hoj]
      exact G.bind (fine_is hg (by omega) (by omega)) (G.pos rfl (ih _ _ _ _ hf))
theorem hold_ok {c : List Int} (hc : Bytes c) (hl : c.length ≤ 1048576) (a st : Int) (h0 : 0 ≤ a) (h1 : a ≤ 500000000000) (p i d s m w sl : Int) : ∃ r : Bool × Int × Int × Int × Int × Int, Ev (fun k => spec_l1Cur_hold.f k c a st p i d s m w sl) r ∧ a ≤ r.2.2.2.2.1 ∧ r.2.2.2.2.1 ≤ a + 20 := by
  have j1 (on : Bool) (x y z a st : Int) (h0 : 0 ≤ a) (h1 : a ≤ 500000000100) : ∃ r : Bool × Int × Int × Int × Int × Int, Ev (fun k => spec_l1Cur_hold.j1 k c a st p i d s m w sl on x y z) r ∧ a ≤ r.2.2.2.2.1 ∧ r.2.2.2.2.1 ≤ a + 4 := by
    obtain ⟨b, a1, s1, e1, _, _, _, p1, q1⟩ := pick_ok hc hl 24 a st h0 (by omega)
    by_cases b0 : b = 0
    · refine ⟨(false, x, y, z, a1, s1), G.succ ?_, p1, by simp; omega⟩
      simp only [spec_l1Cur_hold.j1]
      exact G.bind0 e1 (G.pos b0 (G.now fun _ => rfl))
    · by_cases b1 : b = 1
      · refine ⟨(on, wrap64 (w + 1), y, z, a1, s1), G.succ ?_, p1, by simp; omega⟩
        simp only [spec_l1Cur_hold.j1]
        exact G.bind0 e1 (G.neg b0 (G.pos b1 (G.now fun _ => rfl)))
      · by_cases b2 : b = 2
        · obtain ⟨v, a2, s2, e2, _, p2, q2⟩ := among_ok hc hl [2000000, 2000001] (by decide) (by decide) a1 s1 (by omega) (by omega)
          refine ⟨(on, x, v, z, a2, s2), G.succ ?_, by simp; omega, by simp; omega⟩
          simp only [spec_l1Cur_hold.j1]
          exact G.bind0 e1 (G.neg b0 (G.neg b1 (G.pos b2 (G.bind0 e2 (G.now fun _ => rfl)))))
        · refine ⟨(on, x, y, z, a1, s1), G.succ ?_, p1, by simp; omega⟩
          simp only [spec_l1Cur_hold.j1]
          exact G.bind0 e1 (G.neg b0 (G.neg b1 (G.neg b2 (G.now fun _ => rfl))))
  have j0 (on : Bool) (x y z a st : Int) (h0 : 0 ≤ a) (h1 : a ≤ 500000000090) : ∃ r : Bool × Int × Int × Int × Int × Int, Ev (fun k => spec_l1Cur_hold.j0 k c a st p i d s m w sl on x y z) r ∧ a ≤ r.2.2.2.2.1 ∧ r.2.2.2.2.1 ≤ a + 8 := by
    by_cases hm : m > 0
    · obtain ⟨b, a1, s1, e1, _, _, _, p1, q1⟩ := pick_ok hc hl (wrap64 (wrap64 (2 * m) + 1)) a st h0 (by omega)
      obtain ⟨r, er, r1, r2⟩ := j1 on x y (wrap64 (b - m)) a1 s1 (by omega) (by omega)
      refine ⟨r, G.succ ?_, by omega, by omega⟩
      simp only [spec_l1Cur_hold.j0]
      exact G.pos hm (G.bind0 e1 er)
    · obtain ⟨r, er, r1, r2⟩ := j1 on x y z a st (by omega) (by omega)
      refine ⟨r, G.succ ?_, by omega, by omega⟩
      simp only [spec_l1Cur_hold.j0]
      exact G.neg hm er
  simp only [spec_l1Cur_hold.f]
  obtain ⟨b, a1, s1, e1, p1, q1⟩ := one_ok hc hl 3 a st h0 (by omega)
  cases b with
  | true => exact ⟨_, G.bind0 e1 (G.pos rfl (G.now fun _ => rfl)), p1, by simp; omega⟩
  | false =>
    obtain ⟨v, a2, s2, e2, _, _, _, p2, q2⟩ := pick_ok hc hl 41 a1 s1 (by omega) (by omega)
    by_cases hw : w > 0
    · obtain ⟨u, a3, s3, e3, _, _, _, p3, q3⟩ := pick_ok hc hl (wrap64 (wrap64 (2 * w) + 1)) a2 s2 (by omega) (by omega)
      obtain ⟨r, er, r1, r2⟩ := j0 true (wrap64 (u - w)) (wrap64 (v - 20)) 0 a3 s3 (by omega) (by omega)
      exact ⟨r, G.bind0 e1 (G.neg (by simp) (G.bind0 e2 (G.pos hw (G.bind0 e3 er)))), by omega, by omega⟩
    · obtain ⟨r, er, r1, r2⟩ := j0 true 0 (wrap64 (v - 20)) 0 a2 s2 (by omega) (by omega)
      exact ⟨r, G.bind0 e1 (G.neg (by simp) (G.bind0 e2 (G.neg hw er))), by omega, by omega⟩
theorem levels_ok2 {c : List Int} (hc : Bytes c) (hl : c.length ≤ 1048576) (n a s : Int) (hn : n ≤ 100) (h0 : 0 ≤ a) (h1 : a ≤ 500000000000) : ∃ r : List Int × Int × Int, Ev (fun k => spec_l1Cur_levels.f k c a s n) r ∧ a ≤ r.2.1 ∧ r.2.1 ≤ a + 1010 := by
  obtain ⟨v, a1, s1, e1, p1, q1⟩ := level_ok hc hl a s h0 (by omega)
  obtain ⟨r, e, r1, r2⟩ := levels_loop hc hl n.toNat n a1 s1 v [] rfl (by omega) (by simp; omega) (by omega) (by omega)
  refine ⟨r, ?_, by omega, by omega⟩
  simp only [spec_l1Cur_levels.f]
  exact G.bind0 e1 e
theorem drawhold_ok {c : List Int} (hc : Bytes c) (hl : c.length ≤ 1048576) : ∃ r, Ev (fun k => spec_DrawRunHold.f k c) r := by
  obtain ⟨p, i, d, sc, m, w, sl, a1, s1, e1, p1, q1⟩ := loop_ok hc hl 0 0 (by omega) (by omega)
  obtain ⟨n, a2, s2, e2, n0, n1, _, p2, q2⟩ := pick_ok hc hl 9 a1 s1 (by omega) (by omega)
  obtain ⟨b, a3, s3, e3, p3, q3⟩ := one_ok hc hl 20 a2 s2 (by omega) (by omega)
  have go : ∀ (n a s : Int), 0 ≤ n → n ≤ 90 → 0 ≤ a → a ≤ 1000 → ∃ r, Ev (fun k => spec_DrawRunHold.j0 k n c a s p i d sc m w sl) r := by
    intro n a s hn0 hn h0 h1
    obtain ⟨L, eL, l1, l2⟩ := levels_ok2 hc hl n a s (by omega) h0 (by omega)
    obtain ⟨b, a5, s5, e5, p5, q5⟩ := one_ok hc hl 24 L.2.1 L.2.2 (by omega) (by omega)
    obtain ⟨h, eh, h1', h2'⟩ := hold_ok hc hl a5 s5 (by omega) (by omega) p i d sc m w sl
    cases b with
    | true =>
      obtain ⟨M, eM, _, _⟩ := levels_ok2 hc hl (wrap64 (n + 1)) h.2.2.2.2.1 h.2.2.2.2.2 (by rw [G.w64' (by omega) (by omega)]; omega) (by omega) (by omega)
      refine ⟨(p, i, d, sc, m, w, sl, h.1, h.2.1, h.2.2.1, h.2.2.2.1, L.1, M.1), G.succ ?_⟩
      simp only [spec_DrawRunHold.j0]
      exact G.bind eL (G.bind0 e5 (G.pos rfl (G.bind eh (G.bind eM (G.now fun _ => rfl)))))
    | false =>
      obtain ⟨M, eM, _, _⟩ := levels_ok2 hc hl n h.2.2.2.2.1 h.2.2.2.2.2 (by omega) (by omega) (by omega)
      refine ⟨(p, i, d, sc, m, w, sl, h.1, h.2.1, h.2.2.1, h.2.2.2.1, L.1, M.1), G.succ ?_⟩
      simp only [spec_DrawRunHold.j0]
      exact G.bind eL (G.bind0 e5 (G.neg (by simp) (G.bind eh (G.bind eM (G.now fun _ => rfl)))))
  have hn := n1 (by omega)
  simp only [spec_DrawRunHold.f]
  cases b with
  | true =>
    obtain ⟨x, a4, s4, e4, x0, x1, _, p4, q4⟩ := pick_ok hc hl 3 a3 s3 (by omega) (by omega)
    have hx := x1 (by omega)
    have hw : wrap64 (59 + x) = 59 + x := G.w64' (by omega) (by omega)
    obtain ⟨r, e⟩ := go (59 + x) a4 s4 (by omega) (by omega) (by omega) (by omega)
    refine ⟨r, G.bind0 e1 (G.bind0 e2 (G.bind0 e3 (G.pos rfl (G.bind0 e4 ?_))))⟩
    simp only [hw]; exact e
  | false =>
    obtain ⟨r, e⟩ := go n a3 s3 (by omega) (by omega) (by omega) (by omega)
    exact ⟨r, G.bind0 e1 (G.bind0 e2 (G.bind0 e3 (G.neg (by simp) e)))⟩
theorem FnHold : laws_FnHold.Pure := by
  intro c hm hreach hb
  refine Ev.rounds ?_
  have byt : Bytes c := fun b hx => by have := hb b hx; simp [Lit.wf, IntKind.min, IntKind.max, IntKind.signed, IntKind.bits] at this; omega
  simp only [laws_FnHold.f]
  refine G.ite (fun _ => G.now fun _ => rfl) (fun hl => ?_)
  obtain ⟨⟨p, i, d, s, m, w, sl, on, sum, last, out, X, Y⟩, e⟩ := drawhold_ok byt (by omega)
  obtain ⟨r, h1, h2, _, h3⟩ := run_is p i d s m w sl on sum last out X Y
  refine G.bind e (G.bind h2 (G.bind h1 (G.neg (by simp) ?_)))
  rcases h3 with rfl | ⟨hg, hxy, hl60, O, e', rfl, hO, hf⟩
  · exact G.neg (by simp) (G.now fun _ => rfl)
  · exact G.pos rfl (holds_loop p i d s m w sl X Y hxy hl60 O hO e' 0 (Nat.zero_le _) on sum last out hf)

end Go.Proofs.Ytineniimpdjpnaa.Pure
