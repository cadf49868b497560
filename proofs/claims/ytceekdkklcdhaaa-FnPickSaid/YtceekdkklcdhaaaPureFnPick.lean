/- For all arguments the printed law Pick answers true: plain lists and numbers, no memory. Conditions: none beyond what the program's own guards ask. -/
import Derived.Test.YtceekdkklcdhaaaRFnPickx5
import Derived.Test.YtceekdkklcdhaaaG
namespace Go.Proofs.Ytceekdkklcdhaaa.Pure
open Go.RowKit Go.Proofs.Ytceekdkklcdhaaa.PFnPick Go.Proofs.YtceekdkklcdhaaaW.PrintWords Go.Proofs.YtceekdkklcdhaaaW.PrintLast
set_option linter.unusedVariables false
set_option linter.unusedSimpArgs false


theorem rdT44 {l : List S44} {i : Nat} (h : i < l.length) : rd_T44 l (i : Int) = l[i] := by
  unfold rd_T44; exact G.getD_nat h
theorem u64_small (n : Int) (h0 : 0 ≤ n) (h1 : n < 2 ^ 24) : IntKind.u64.wrap n = n := by simp [IntKind.wrap, IntKind.bits, IntKind.signed]; omega
theorem u64_range (n : Int) : 0 ≤ IntKind.u64.wrap n ∧ IntKind.u64.wrap n < 18446744073709551616 := by simp [IntKind.wrap, IntKind.bits, IntKind.signed]; omega
theorem byte_and (x : Int) (h0 : 0 ≤ x) (h1 : x < 18446744073709551616) : 0 ≤ wrap64 (Go.bits .and .u64 (x / 1099511627776) 255) ∧ wrap64 (Go.bits .and .u64 (x / 1099511627776) 255) ≤ 255 := by
  have e : Go.bits .and .u64 (x / 1099511627776) 255 = (x / 1099511627776) % 256 := bits_mask .u64 24 (by decide) u64_small 8 (by decide) (x / 1099511627776) (by omega) (by omega)
  rw [e, G.w64' (by omega) (by omega)]
  omega
def Bytes (c : List Int) : Prop := ∀ b ∈ c, 0 ≤ b ∧ b ≤ 255
theorem next_ok {c : List Int} (hc : Bytes c) (hl : c.length ≤ 1048576) (a s : Int) (h0 : 0 ≤ a) (h1 : a ≤ 1000000000000) : ∃ b s', spec_l1Cur_next.f c a s = some (b, a + 1, s') ∧ 0 ≤ b ∧ b ≤ 255 := by
  unfold spec_l1Cur_next.f
  rw [G.w64' (i := a + 1) (by omega) (by omega)]
  by_cases h2 : a < (c.length : Int)
  · obtain ⟨i, rfl⟩ : ∃ i : Nat, a = i := ⟨a.toNat, by omega⟩
    have hi : i < c.length := by omega
    have hb := hc c[i] (List.getElem_mem hi)
    rw [if_pos h2, if_pos h0, G.rd_nat hi, G.w64' (i := c[i]) (by omega) (by omega), if_pos (by omega)]
    exact ⟨_, _, rfl, hb.1, hb.2⟩
  · rw [if_neg h2, if_neg (by omega)]
    exact ⟨_, _, rfl, (byte_and _ (u64_range _).1 (u64_range _).2).1, (byte_and _ (u64_range _).1 (u64_range _).2).2⟩
theorem pick_ok {c : List Int} (hc : Bytes c) (hl : c.length ≤ 1048576) (n a s : Int) (h0 : 0 ≤ a) (h1 : a ≤ 900000000000) : ∃ r a' s', spec_l1Cur_pick.f c a s n = some (r, a', s') ∧ 0 ≤ r ∧ (1 < n → r < n) ∧ (n ≤ 1 → r = 0) ∧ a ≤ a' ∧ a' ≤ a + 2 := by
  unfold spec_l1Cur_pick.f
  by_cases hn : n ≤ 1
  · rw [if_pos hn]; exact ⟨0, a, s, rfl, by omega, by omega, by omega, by omega, by omega⟩
  · rw [if_neg hn]
    obtain ⟨b, s1, e1, b0, b1⟩ := next_ok hc hl a s h0 (by omega)
    rw [e1]
    simp only [Option.bind_some]
    by_cases h2 : n > 200
    · obtain ⟨d, s2, e2, d0, d1⟩ := next_ok hc hl (a + 1) s1 (by omega) (by omega)
      rw [if_pos h2, e2]
      simp only [Option.bind_some]
      rw [if_neg (by omega), G.w64' (i := b * 256) (by omega) (by omega), G.w64' (by omega) (by omega), Int.tmod_eq_emod_of_nonneg (by omega)]
      exact ⟨_, _, _, rfl, Int.emod_nonneg _ (by omega), fun _ => Int.emod_lt_of_pos _ (by omega), fun h => absurd h hn, by omega, by omega⟩
    · rw [if_neg h2, if_neg (by omega), Int.tmod_eq_emod_of_nonneg (by omega)]
      exact ⟨_, _, _, rfl, Int.emod_nonneg _ (by omega), fun _ => Int.emod_lt_of_pos _ (by omega), fun h => absurd h hn, by omega, by omega⟩
theorem one_ok {c : List Int} (hc : Bytes c) (hl : c.length ≤ 1048576) (n a s : Int) (h0 : 0 ≤ a) (h1 : a ≤ 900000000000) : ∃ r a' s', spec_l1Cur_one.f c a s n = some (r, a', s') ∧ a ≤ a' ∧ a' ≤ a + 2 := by
  obtain ⟨r, a', s', e, _, _, _, h2, h3⟩ := pick_ok hc hl n a s h0 h1
  unfold spec_l1Cur_one.f
  rw [e]
  exact ⟨_, _, _, rfl, h2, h3⟩
theorem among_ok {c : List Int} (hc : Bytes c) (hl : c.length ≤ 1048576) (l : List Int) (hne : 0 < l.length) (hll : l.length ≤ 1000) (a s : Int) (h0 : 0 ≤ a) (h1 : a ≤ 900000000000) : ∃ r a' s', spec_l1Cur_among.f c a s l = some (r, a', s') ∧ r ∈ l ∧ a ≤ a' ∧ a' ≤ a + 2 := by
  obtain ⟨r, a', s', e, r0, r1, r2, h2, h3⟩ := pick_ok hc hl (l.length : Int) a s h0 h1
  unfold spec_l1Cur_among.f
  rw [e]
  simp only [Option.bind_some]
  have hr : r < l.length := by
    by_cases h : (1 : Int) < l.length
    · exact r1 h
    · have := r2 (by omega); omega
  obtain ⟨i, rfl⟩ : ∃ i : Nat, r = i := ⟨r.toNat, by omega⟩
  have hi : i < l.length := by omega
  rw [if_pos r0, if_pos hr, G.rd_nat hi]
  exact ⟨_, _, _, rfl, List.getElem_mem hi, h2, h3⟩
theorem cloud_loop {c : List Int} (hc : Bytes c) (hl : c.length ≤ 1048576) (big : Bool) : ∀ (d : Nat) (n a s : Int) (out : List S44), n.toNat = d → n ≤ 1000 → out.length + d ≤ 1000 → 0 ≤ a → a ≤ 600000000000 - 14 * d →
    ∃ r : List S44 × Int × Int, Ev (fun k => spec_l1Cur_cloud.l0 k out n big c a s) r ∧ r.1.length = out.length + d ∧ a ≤ r.2.1 ∧ r.2.1 ≤ a + 14 * d := by
  intro d
  induction d with
  | zero =>
    intro n a s out hn hn' ho h0 h1
    refine ⟨(out, a, s), G.succ ?_, by simp, by simp, by simp⟩
    simp only [spec_l1Cur_cloud.l0]
    exact G.neg (by omega) (G.now fun _ => rfl)
  | succ d ih =>
    intro n a s out hn hn' ho h0 h1
    have hw : wrap64 (n - 1) = n - 1 := G.w64' (by omega) (by omega)
    have last : ∀ (x y a s : Int), 0 ≤ a → a ≤ 600000000000 - 14 * d - 4 → ∃ r : List S44 × Int × Int, Ev (fun k => spec_l1Cur_cloud.j2 k out n big c a s x y) r ∧ r.1.length = out.length + (d + 1) ∧ a ≤ r.2.1 ∧ r.2.1 ≤ a + 14 * d + 4 := by
      intro x y a s h0 h1
      obtain ⟨b, a1, s1, e1, p1, q1⟩ := one_ok hc hl 60 a s h0 (by omega)
      cases b with
      | true =>
        obtain ⟨z, a2, s2, e2, m2, p2, q2⟩ := among_ok hc hl [-1, 1000001] (by decide) (by decide) a1 s1 (by omega) (by omega)
        obtain ⟨r, e, r1, r2, r3⟩ := ih (n - 1) a2 s2 (out ++ [⟨x, z⟩]) (by omega) (by omega) (by simp; omega) (by omega) (by omega)
        refine ⟨r, G.succ ?_, by simp at r1; omega, by omega, by omega⟩
        simp only [spec_l1Cur_cloud.j2, hw]
        exact G.bind0 e1 (G.pos rfl (G.bind0 e2 (G.pos (by omega) e)))
      | false =>
        obtain ⟨r, e, r1, r2, r3⟩ := ih (n - 1) a1 s1 (out ++ [⟨x, y⟩]) (by omega) (by omega) (by simp; omega) (by omega) (by omega)
        refine ⟨r, G.succ ?_, by simp at r1; omega, by omega, by omega⟩
        simp only [spec_l1Cur_cloud.j2, hw]
        exact G.bind0 e1 (G.neg (by simp) (G.pos (by omega) e))
    obtain ⟨x, a1, s1, e1, x0, x1, _, p1, q1⟩ := pick_ok hc hl 41 a s h0 (by omega)
    obtain ⟨y, a2, s2, e2, y0, y1, _, p2, q2⟩ := pick_ok hc hl 6 a1 s1 (by omega) (by omega)
    cases big with
    | true =>
      obtain ⟨u, a3, s3, e3, m3, p3, q3⟩ := among_ok hc hl [1000000, -1000000, 999999, 0, 500000] (by decide) (by decide) a2 s2 (by omega) (by omega)
      obtain ⟨v, a4, s4, e4, m4, p4, q4⟩ := among_ok hc hl [1000000, 999999, 1, 0] (by decide) (by decide) a3 s3 (by omega) (by omega)
      obtain ⟨r, e, r1, r2, r3⟩ := last u v a4 s4 (by omega) (by omega)
      refine ⟨r, G.succ ?_, r1, by omega, by omega⟩
      simp only [spec_l1Cur_cloud.l0]
      exact G.pos (by omega) (G.bind0 e1 (G.bind0 e2 (G.pos (by trivial) (G.bind0 e3 (G.bind0 e4 e)))))
    | false =>
      obtain ⟨r, e, r1, r2, r3⟩ := last (wrap64 (x - 20)) y a2 s2 (by omega) (by omega)
      refine ⟨r, G.succ ?_, r1, by omega, by omega⟩
      simp only [spec_l1Cur_cloud.l0]
      exact G.pos (by omega) (G.bind0 e1 (G.bind0 e2 (G.neg (by simp) e)))
theorem cloud_ok {c : List Int} (hc : Bytes c) (hl : c.length ≤ 1048576) (a s : Int) (h0 : 0 ≤ a) (h1 : a ≤ 500000000000) : ∃ r : List S44 × Int × Int, Ev (fun k => spec_l1Cur_cloud.f k c a s) r ∧ r.1.length ≤ 61 ∧ a ≤ r.2.1 ∧ r.2.1 ≤ a + 1000 := by
  obtain ⟨n, a1, s1, e1, n0, n1, _, p1, q1⟩ := pick_ok hc hl 9 a s h0 (by omega)
  obtain ⟨b, a2, s2, e2, p2, q2⟩ := one_ok hc hl 16 a1 s1 (by omega) (by omega)
  have go : ∀ (m a s : Int), 0 ≤ m → m ≤ 61 → 0 ≤ a → a ≤ 500000000100 → ∃ r : List S44 × Int × Int, Ev (fun k => spec_l1Cur_cloud.j0 k [] m c a s) r ∧ r.1.length ≤ 61 ∧ a ≤ r.2.1 ∧ r.2.1 ≤ a + 900 := by
    intro m a s m0 m1 h0 h1
    obtain ⟨b, a3, s3, e3, p3, q3⟩ := one_ok hc hl 6 a s h0 (by omega)
    obtain ⟨r, e, r1, r2, r3⟩ := cloud_loop hc hl b m.toNat m a3 s3 [] rfl (by omega) (by simp; omega) (by omega) (by omega)
    refine ⟨r, G.succ ?_, by simp at r1; omega, by omega, by omega⟩
    simp only [spec_l1Cur_cloud.j0]
    exact G.bind0 e3 e
  have := n1 (by omega)
  simp only [spec_l1Cur_cloud.f]
  cases b with
  | true =>
    obtain ⟨x, a3, s3, e3, x0, x1, _, p3, q3⟩ := pick_ok hc hl 3 a2 s2 (by omega) (by omega)
    have := x1 (by omega)
    obtain ⟨r, e, r1, r2, r3⟩ := go (wrap64 (59 + x)) a3 s3 (by rw [G.w64' (by omega) (by omega)]; omega) (by rw [G.w64' (by omega) (by omega)]; omega) (by omega) (by omega)
    exact ⟨r, G.bind0 e1 (G.bind0 e2 (G.pos rfl (G.bind0 e3 e))), r1, by omega, by omega⟩
  | false =>
    obtain ⟨r, e, r1, r2, r3⟩ := go n a2 s2 (by omega) (by omega) (by omega) (by omega)
    exact ⟨r, G.bind0 e1 (G.bind0 e2 (G.neg (by simp) e)), r1, by omega, by omega⟩
def good (m : S44) : Bool := decide (-1000000 ≤ m.f0 ∧ m.f0 ≤ 1000000 ∧ 0 ≤ m.f1 ∧ m.f1 ≤ 1000000)
theorem in_is (a : Int) : spec_l11In.f a = some (decide (-1000000 ≤ a ∧ a ≤ 1000000)) := by
  simp only [spec_l11In.f, G.nest]; congr 1; simp
theorem within_is (a : Int) : impl_within.f a 1000000 = some (decide (-1000000 ≤ a ∧ a ≤ 1000000)) := by
  unfold impl_within.f; rw [G.wneg (by omega) (by omega)]; exact in_is a
theorem body (m : S44) {α : Type} (x y : α) : (if good m = true then x else y) = if -1000000 ≤ m.f0 ∧ m.f0 ≤ 1000000 then (if m.f1 < 0 then y else if m.f1 > 1000000 then y else x) else y := by
  unfold good
  by_cases h : -1000000 ≤ m.f0 ∧ m.f0 ≤ 1000000
  · rw [if_pos h]
    by_cases h1 : m.f1 < 0
    · rw [if_pos h1, if_neg (by simp; omega)]
    · rw [if_neg h1]
      by_cases h2 : m.f1 > 1000000
      · rw [if_pos h2, if_neg (by simp; omega)]
      · rw [if_neg h2, if_pos (by simp; omega)]
  · rw [if_neg h, if_neg (by simp; omega)]
theorem goodcloud_spec (l : List S44) : Ev (fun k => spec_GoodCloud.f k l) (l.all good && decide (l.length ≤ 60)) := by
  simp only [spec_GoodCloud.f]
  refine G.ite (fun h => G.now fun _ => ?_) (fun h => ?_)
  · rw [decide_eq_false (by omega), Bool.and_false]
  · rw [decide_eq_true (by omega)]
    refine G.all_loop (F := fun k i => spec_GoodCloud.l0 k l l.length i) l good true ?_ ?_
    · intro k; simp only [spec_GoodCloud.l0]; rw [if_neg (by omega)]
    · intro k i h
      simp only [spec_GoodCloud.l0, in_is, Option.bind_some]
      rw [if_pos (by omega), if_pos (by omega), if_pos (by omega), rdT44 h, G.w64 _ (by omega), body]
      simp only [decide_eq_true_eq]
theorem goodcloud_impl (l : List S44) (hl : l.length ≤ 1048576) : Ev (fun k => impl_GoodCloud.f k l) (l.all good && decide (l.length ≤ 60)) := by
  simp only [impl_GoodCloud.f]
  refine G.all_loop (F := fun k i => impl_GoodCloud.l0 k l l l.length i) l good _ ?_ ?_
  · intro k; simp only [impl_GoodCloud.l0]; rw [if_neg (by omega)]; congr 1; simp; omega
  · intro k i h
    simp only [impl_GoodCloud.l0, within_is, Option.bind_some]
    rw [if_pos (by omega), if_pos (by omega), if_pos (by omega), rdT44 h, G.w64 _ (by omega), body]
    simp only [decide_eq_true_eq]
theorem good_at {l : List S44} (h : l.all good = true) {i : Nat} (hi : i < l.length) : -1000000 ≤ l[i].f0 ∧ l[i].f0 ≤ 1000000 ∧ 0 ≤ l[i].f1 ∧ l[i].f1 ≤ 1000000 := by
  have := List.all_eq_true.1 h l[i] (List.getElem_mem hi)
  simpa [good] using this
/-- The sum of the weights. -/
def wsum : List S44 → Int
  | [] => 0
  | m :: t => m.f1 + wsum t
theorem wsum_bd {l : List S44} (h : l.all good = true) : 0 ≤ wsum l ∧ wsum l ≤ 1000000 * l.length := by
  induction l with
  | nil => simp [wsum]
  | cons m t ih =>
    simp only [List.all_cons, Bool.and_eq_true] at h
    have h1 := ih h.2
    have h2 : 0 ≤ m.f1 ∧ m.f1 ≤ 1000000 := by have := h.1; simp [good] at this; omega
    simp only [wsum, List.length_cons]
    omega
theorem wsum_drop {l : List S44} {i : Nat} (hi : i < l.length) : wsum (l.drop i) = l[i].f1 + wsum (l.drop (i + 1)) := by
  rw [List.drop_eq_getElem_cons hi]; rfl
theorem all_drop {l : List S44} (h : l.all good = true) (i : Nat) : (l.drop i).all good = true := by
  rw [List.all_eq_true] at h ⊢
  exact fun x hx => h x (List.mem_of_mem_drop hx)
theorem sum_l0 (l : List S44) (hg : l.all good = true) (hl : l.length ≤ 60) : ∀ i, i ≤ l.length → ∀ s : Int, 0 ≤ s → s ≤ 1000000 * i → Ev (fun k => spec_l11Sum.l0 k s l l.length (i : Int)) (s + wsum (l.drop i)) ∧ Ev (fun k => impl_weights.l0 k s l l.length (i : Int)) (s + wsum (l.drop i)) := by
  refine G.down_ind l.length (fun i => ∀ s : Int, 0 ≤ s → s ≤ 1000000 * i → Ev (fun k => spec_l11Sum.l0 k s l l.length (i : Int)) (s + wsum (l.drop i)) ∧ Ev (fun k => impl_weights.l0 k s l l.length (i : Int)) (s + wsum (l.drop i))) ?_ ?_
  · intro s _ _
    rw [List.drop_eq_nil_of_le (Nat.le_refl _)]
    refine ⟨G.succ (G.now fun k => ?_), G.succ (G.now fun k => ?_)⟩
    · simp only [spec_l11Sum.l0]; rw [if_neg (by omega)]; simp [wsum]
    · simp only [impl_weights.l0]; rw [if_neg (by omega)]; simp [wsum]
  · intro i hi ih s h0 h1
    obtain ⟨_, _, g2, g3⟩ := good_at hg hi
    obtain ⟨e1, e2⟩ := ih (s + l[i].f1) (by omega) (by omega)
    rw [wsum_drop hi, ← Int.add_assoc]
    refine ⟨G.succ ?_, G.succ ?_⟩
    · simp only [spec_l11Sum.l0, rdT44 hi]
      refine G.pos (by omega) (G.pos (by omega) (G.pos (by omega) ?_))
      rw [G.w64 _ (by omega), G.w64' (by omega) (by omega)]; exact e1
    · simp only [impl_weights.l0, rdT44 hi]
      refine G.pos (by omega) (G.pos (by omega) (G.pos (by omega) ?_))
      rw [G.w64 _ (by omega), G.w64' (by omega) (by omega)]; exact e2
theorem sum_is (l : List S44) (hg : l.all good = true) (hl : l.length ≤ 60) : Ev (fun k => spec_l11Sum.f k l) (wsum l) ∧ Ev (fun k => impl_weights.f k l) (wsum l) := by
  have := sum_l0 l hg hl 0 (Nat.zero_le _) 0 (by omega) (by omega)
  simpa [spec_l11Sum.f, impl_weights.f] using this
/-- The mote in which a place lies. -/
def pickAt : List S44 → Int → S44
  | [], _ => z44
  | m :: t, p => if p < m.f1 then m else pickAt t (p - m.f1)
theorem inner_is (l : List S44) (hg : l.all good = true) (hl : l.length ≤ 60) (n coin t j : Int) (jj : wrap64 (j + 1) = j + 1) (out : List S44) (ho : out.length ≤ 60) : ∀ i, i ≤ l.length → ∀ p : Int, 0 ≤ p → p < wsum (l.drop i) →
    ∀ r, (Ev (fun k => spec_PickCloud.l0 k l n coin t (out ++ [⟨(pickAt (l.drop i) p).f0, 1⟩]) (j + 1)) r → Ev (fun k => spec_PickCloud.l1 k l n coin t out j p (i : Int)) r) ∧
    (Ev (fun k => impl_PickCloud.l0 k l n coin t (out ++ [⟨(pickAt (l.drop i) p).f0, 1⟩]) n (j + 1)) r → Ev (fun k => impl_PickCloud.l1 k l n coin t out p n j l l.length (i : Int)) r) := by
  refine G.down_ind l.length (fun i => ∀ p : Int, 0 ≤ p → p < wsum (l.drop i) → ∀ r, (Ev (fun k => spec_PickCloud.l0 k l n coin t (out ++ [⟨(pickAt (l.drop i) p).f0, 1⟩]) (j + 1)) r → Ev (fun k => spec_PickCloud.l1 k l n coin t out j p (i : Int)) r) ∧ (Ev (fun k => impl_PickCloud.l0 k l n coin t (out ++ [⟨(pickAt (l.drop i) p).f0, 1⟩]) n (j + 1)) r → Ev (fun k => impl_PickCloud.l1 k l n coin t out p n j l l.length (i : Int)) r)) ?_ ?_
  · intro p h0 h1 r
    rw [List.drop_eq_nil_of_le (Nat.le_refl _)] at h1
    simp only [wsum] at h1
    omega
  · intro i hi ih p h0 h1 r
    obtain ⟨_, _, g2, g3⟩ := good_at hg hi
    have hb := wsum_bd (all_drop hg (i + 1))
    have hb' : wsum (l.drop (i + 1)) ≤ 60000000 := by
      have h60 : (l.drop (i + 1)).length ≤ 60 := by simp; omega
      omega
    rw [wsum_drop hi] at h1
    rw [List.drop_eq_getElem_cons hi]
    by_cases hp : p < l[i].f1
    · have e : pickAt (l[i] :: l.drop (i + 1)) p = l[i] := by simp only [pickAt]; rw [if_pos hp]
      rw [e]
      refine ⟨fun h => G.succ ?_, fun h => G.succ ?_⟩
      · simp only [spec_PickCloud.l1, rdT44 hi, jj]
        exact G.pos (by omega) (G.pos (by omega) (G.neg (by omega) (G.pos (by omega) h)))
      · simp only [impl_PickCloud.l1, rdT44 hi, jj]
        exact G.pos (by omega) (G.pos (by omega) (G.pos (by omega) (G.pos hp (G.pos (by omega) h))))
    · have e : pickAt (l[i] :: l.drop (i + 1)) p = pickAt (l.drop (i + 1)) (p - l[i].f1) := by simp only [pickAt]; rw [if_neg hp]
      rw [e]
      obtain ⟨i1, i2⟩ := ih (p - l[i].f1) (by omega) (by omega) r
      refine ⟨fun h => G.succ ?_, fun h => G.succ ?_⟩
      · simp only [spec_PickCloud.l1, rdT44 hi]
        refine G.pos (by omega) (G.pos (by omega) (G.pos (by omega) ?_))
        rw [G.w64' (i := p - l[i].f1) (by omega) (by omega), G.w64 i (by omega)]
        exact i1 h
      · simp only [impl_PickCloud.l1, rdT44 hi]
        refine G.pos (by omega) (G.pos (by omega) (G.pos (by omega) (G.neg hp ?_)))
        rw [G.w64' (i := p - l[i].f1) (by omega) (by omega), G.w64 i (by omega)]
        exact i2 h
/-- The picked motes from the j-th on. -/
def picks (l : List S44) (n coin t : Int) : Nat → Nat → List S44
  | _, 0 => []
  | j, m + 1 => ⟨(pickAt l ((coin + j * t) / n)).f0, 1⟩ :: picks l n coin t (j + 1) m
theorem picks_length (l : List S44) (n coin t : Int) (m : Nat) : ∀ j, (picks l n coin t j m).length = m := by
  induction m with
  | zero => intro j; rfl
  | succ m ih => intro j; simp [picks, ih]
theorem outer_is (l : List S44) (hg : l.all good = true) (hl : l.length ≤ 60) (n : Nat) (h1 : 1 ≤ n) (hn : n ≤ 60) (coin : Int) (c0 : 0 ≤ coin) (c1 : coin < wsum l) :
    ∀ j, j ≤ n → ∀ out : List S44, out.length = j → Ev (fun k => spec_PickCloud.l0 k l n coin (wsum l) out (j : Int)) (out ++ picks l n coin (wsum l) j (n - j), true) ∧ Ev (fun k => impl_PickCloud.l0 k l n coin (wsum l) out n (j : Int)) (out ++ picks l n coin (wsum l) j (n - j), true) := by
  have hb := wsum_bd hg
  have hb' : wsum l ≤ 60000000 := by omega
  refine G.down_ind n (fun j => ∀ out : List S44, out.length = j → Ev (fun k => spec_PickCloud.l0 k l n coin (wsum l) out (j : Int)) (out ++ picks l n coin (wsum l) j (n - j), true) ∧ Ev (fun k => impl_PickCloud.l0 k l n coin (wsum l) out n (j : Int)) (out ++ picks l n coin (wsum l) j (n - j), true)) ?_ ?_
  · intro out _
    rw [Nat.sub_self]
    refine ⟨G.succ (G.now fun k => ?_), G.succ (G.now fun k => ?_)⟩
    · simp only [spec_PickCloud.l0]; rw [if_neg (by omega)]; simp [picks]
    · simp only [impl_PickCloud.l0]; rw [if_neg (by omega)]; simp [picks]
  · intro j hj ih out ho
    have hjt : 0 ≤ (j : Int) * wsum l ∧ (j : Int) * wsum l ≤ 3600000000 := by
      constructor
      · exact Int.mul_nonneg (by omega) (by omega)
      · have := Int.mul_le_mul (show (j : Int) ≤ 60 by omega) hb' (by omega) (by omega); omega
    have hlt : coin + (j : Int) * wsum l < n * wsum l := by
      have := Int.mul_le_mul_of_nonneg_right (show ((j : Int) + 1) ≤ n by omega) hb.1
      rw [Int.add_mul, Int.one_mul] at this
      omega
    have hp0 : 0 ≤ (coin + (j : Int) * wsum l) / n := Int.ediv_nonneg (by omega) (by omega)
    have hp1 : (coin + (j : Int) * wsum l) / n < wsum l := Int.ediv_lt_of_lt_mul (by omega) (by rw [Int.mul_comm (wsum l)]; exact hlt)
    have e1 : wrap64 (Int.tdiv (wrap64 (coin + wrap64 ((j : Int) * wsum l))) n) = (coin + (j : Int) * wsum l) / n := by
      rw [G.w64' (i := (j : Int) * wsum l) (by omega) (by omega), G.w64' (i := coin + (j : Int) * wsum l) (by omega) (by omega), Int.tdiv_eq_ediv_of_nonneg (by omega), G.w64' (by omega) (by omega)]
    have e2 : picks l n coin (wsum l) j (n - j) = ⟨(pickAt l ((coin + j * wsum l) / n)).f0, 1⟩ :: picks l n coin (wsum l) (j + 1) (n - (j + 1)) := by
      rw [show n - j = (n - (j + 1)) + 1 by omega]; rfl
    obtain ⟨i1, i2⟩ := ih (out ++ [⟨(pickAt l ((coin + j * wsum l) / n)).f0, 1⟩]) (by simp [ho])
    rw [List.append_assoc, List.singleton_append, ← e2] at i1 i2
    obtain ⟨g1, g2⟩ := inner_is l hg hl n coin (wsum l) j (by rw [G.w64' (by omega) (by omega)]) out (by omega) 0 (Nat.zero_le _) ((coin + (j : Int) * wsum l) / n) hp0 hp1 (out ++ picks l n coin (wsum l) j (n - j), true)
    refine ⟨G.succ ?_, G.succ ?_⟩
    · simp only [spec_PickCloud.l0, e1]
      exact G.pos (by omega) (G.neg (by omega) (g1 i1))
    · simp only [impl_PickCloud.l0, e1]
      exact G.pos (by omega) (G.neg (by omega) (g2 i2))
/-- Both pick alike: nothing, or the n motes of 'picks'. -/
theorem pick_is (l : List S44) (n coin : Int) (hl : l.length ≤ 1048576) : ∃ r, Ev (fun k => spec_PickCloud.f k l n coin) r ∧ Ev (fun k => impl_PickCloud.f k l n coin) r ∧ r.1.length ≤ 60 ∧
    (r = ([], false) ∨ (l.all good = true ∧ l.length ≤ 60 ∧ 1 ≤ n ∧ n ≤ 60 ∧ 0 ≤ coin ∧ coin < wsum l ∧ r = (picks l n coin (wsum l) 0 n.toNat, true))) := by
  have jt : Ev (fun k => spec_PickCloud.j0 k l n coin true) ([], false) := G.succ (G.now fun k => by simp [spec_PickCloud.j0])
  have jt' : Ev (fun k => impl_PickCloud.j0 k l n coin true) ([], false) := G.succ (G.now fun k => by simp [impl_PickCloud.j0])
  have jt1 (t : Int) : Ev (fun k => spec_PickCloud.j1 k l n coin t true) ([], false) := G.succ (G.now fun k => by simp [spec_PickCloud.j1])
  simp only [spec_PickCloud.f, impl_PickCloud.f, impl_found.f]
  have hs := goodcloud_spec l
  have hi := goodcloud_impl l hl
  cases hg : (l.all good && decide (l.length ≤ 60)) with
  | false =>
    rw [hg] at hs hi
    exact ⟨([], false), G.bind hs (G.neg (by simp) jt), G.bind (a := false) (G.bind hi (G.neg (by simp) (G.now fun _ => rfl))) (G.neg (by simp) jt'), by simp, Or.inl rfl⟩
  | true =>
    rw [hg] at hs hi
    simp only [Bool.and_eq_true, decide_eq_true_eq] at hg
    obtain ⟨s1, s2⟩ := sum_is l hg.1 hg.2
    have hb := wsum_bd hg.1
    have hf : Ev (fun k => (impl_GoodCloud.f k l).bind fun t138 => if t138 = true then (impl_weights.f k l).bind fun t139 => some (decide (t139 > 0)) else some false) (decide (wsum l > 0)) := G.bind hi (G.pos rfl (G.bind s2 (G.now fun _ => rfl)))
    by_cases n0 : n < 1
    · refine ⟨([], false), G.bind hs (G.pos rfl (G.pos n0 jt)), G.bind hf (G.ite (fun _ => G.pos n0 jt') (fun _ => jt')), by simp, Or.inl rfl⟩
    · by_cases n1 : n > 60
      · refine ⟨([], false), G.bind hs (G.pos rfl (G.neg n0 ?_)), G.bind hf (G.ite (fun _ => G.neg n0 (G.pos n1 jt')) (fun _ => jt')), by simp, Or.inl rfl⟩
        rw [decide_eq_true n1]; exact jt
      · have js (r) (h : Ev (fun k => if coin < 0 then spec_PickCloud.j1 k l n coin (wsum l) true else spec_PickCloud.j1 k l n coin (wsum l) (decide (coin ≥ wsum l))) r) : Ev (fun k => spec_PickCloud.j0 k l n coin (decide (n > 60))) r := by
          rw [decide_eq_false n1]; refine G.succ ?_; simp only [spec_PickCloud.j0]
          exact G.neg (by simp) (G.bind s1 h)
        by_cases c0 : coin < 0
        · refine ⟨([], false), G.bind hs (G.pos rfl (G.neg n0 (js _ (G.pos c0 (jt1 _))))), G.bind hf (G.ite (fun _ => G.neg n0 (G.neg n1 (G.pos c0 jt'))) (fun _ => jt')), by simp, Or.inl rfl⟩
        · by_cases c1 : coin ≥ wsum l
          · refine ⟨([], false), G.bind hs (G.pos rfl (G.neg n0 (js _ (G.neg c0 ?_)))), G.bind hf (G.ite (fun _ => G.neg n0 (G.neg n1 (G.neg c0 (G.bind s2 ?_)))) (fun _ => jt')), by simp, Or.inl rfl⟩
            · rw [decide_eq_true c1]; exact jt1 _
            · rw [decide_eq_true c1]; exact jt'
          · obtain ⟨m, rfl⟩ : ∃ m : Nat, n = m := ⟨n.toNat, by omega⟩
            obtain ⟨o1, o2⟩ := outer_is l hg.1 hg.2 m (by omega) (by omega) coin (by omega) (by omega) 0 (Nat.zero_le _) [] rfl
            rw [List.nil_append, Nat.sub_zero] at o1 o2
            refine ⟨(picks l m coin (wsum l) 0 m, true), G.bind hs (G.pos rfl (G.neg n0 (js _ (G.neg c0 ?_)))), G.bind hf (G.pos (by simp; omega) (G.neg n0 (G.neg n1 (G.neg c0 (G.bind s2 ?_))))), by simp [picks_length]; omega, Or.inr ⟨hg.1, hg.2, by omega, by omega, by omega, by omega, by simp⟩⟩
            · rw [decide_eq_false c1]; refine G.succ ?_; simp only [spec_PickCloud.j1]; exact G.neg (by simp) o1
            · rw [decide_eq_false c1]; refine G.succ ?_; simp only [impl_PickCloud.j0]; exact G.neg (by simp) (G.bind s2 o2)
theorem div_up (X Y t : Int) (ht : 0 < t) : X / t + Y / t ≤ (X + Y) / t ∧ (X + Y) / t ≤ X / t + (Y + t - 1) / t := by
  have a1 := Int.ediv_mul_le X (show t ≠ 0 by omega)
  have a2 := Int.ediv_mul_le Y (show t ≠ 0 by omega)
  have b1 := Int.lt_ediv_add_one_mul_self X ht
  have b2 := Int.lt_ediv_add_one_mul_self (Y + t - 1) ht
  constructor
  · refine Int.le_ediv_of_mul_le ht ?_
    rw [Int.add_mul]; omega
  · refine Int.le_of_lt_add_one (Int.ediv_lt_of_lt_mul ht ?_)
    have : (X / t + (Y + t - 1) / t + 1) * t = (X / t + 1) * t + ((Y + t - 1) / t + 1) * t - t := by
      simp only [Int.add_mul]; omega
    omega
theorem place_lt (coin t n x : Int) (k : Nat) (ht : 0 < t) (hn : 0 < n) : (coin + k * t) / n < x ↔ (k : Int) < (x * n - coin - 1) / t + 1 := by
  rw [Int.ediv_lt_iff_lt_mul hn, Int.lt_add_one_iff, Int.le_ediv_iff_mul_le ht]
  omega
theorem count_range (a b : Int) (h0 : 0 ≤ a) (h1 : a ≤ b) (n : Nat) : (((List.range n).countP fun k : Nat => decide (a ≤ (k : Int) ∧ (k : Int) < b) : Nat) : Int) = min b n - min a n := by
  induction n with
  | zero => simp; omega
  | succ n ih =>
    rw [List.range_succ, List.countP_append]
    simp only [List.countP_cons, List.countP_nil]
    push_cast
    rw [ih]
    by_cases h : a ≤ (n : Int) ∧ (n : Int) < b
    · simp [h]; omega
    · simp [h]; omega
theorem count_in (coin t : Int) (n : Nat) (ht : 0 < t) (hn : 0 < n) (c0 : 0 ≤ coin) (c1 : coin < t) (S w : Int) (hS : 0 ≤ S) (hw : 0 ≤ w) (hT : S + w ≤ t) :
    w * n / t ≤ (((List.range n).countP fun k : Nat => decide (S ≤ (coin + (k : Int) * t) / n ∧ (coin + (k : Int) * t) / n < S + w) : Nat) : Int) ∧
    (((List.range n).countP fun k : Nat => decide (S ≤ (coin + (k : Int) * t) / n ∧ (coin + (k : Int) * t) / n < S + w) : Nat) : Int) ≤ (w * n + t - 1) / t := by
  have e : ((List.range n).countP fun k : Nat => decide (S ≤ (coin + (k : Int) * t) / n ∧ (coin + (k : Int) * t) / n < S + w)) = ((List.range n).countP fun k : Nat => decide ((S * n - coin - 1) / t + 1 ≤ (k : Int) ∧ (k : Int) < ((S + w) * n - coin - 1) / t + 1)) := by
    congr 1
    funext k
    have p1 := place_lt coin t n S k ht (by omega)
    have p2 := place_lt coin t n (S + w) k ht (by omega)
    congr 1
    apply propext
    constructor <;> intro h <;> omega
  have d := div_up (S * n - coin - 1) (w * n) t ht
  have eq : S * n - coin - 1 + w * n = (S + w) * n - coin - 1 := by rw [Int.add_mul]; omega
  rw [eq] at d
  have hwn : 0 ≤ w * n := Int.mul_nonneg hw (by omega)
  have hSn : 0 ≤ S * n := Int.mul_nonneg hS (by omega)
  have q0 : 0 ≤ w * n / t := Int.ediv_nonneg hwn (by omega)
  have l0 : -1 ≤ (S * n - coin - 1) / t := Int.le_ediv_of_mul_le ht (by omega)
  have l1 : ((S + w) * n - coin - 1) / t < n := by
    refine Int.ediv_lt_of_lt_mul ht ?_
    have := Int.mul_le_mul_of_nonneg_right hT (show (0 : Int) ≤ n by omega)
    rw [Int.mul_comm (n : Int) t]; omega
  rw [e, count_range _ _ (by omega) (by omega)]
  omega

theorem countP_split {α : Type} (p q r : α → Bool) (l : List α) (h : ∀ x, p x = (q x || r x)) (h2 : ∀ x, (q x && r x) = false) : l.countP p = l.countP q + l.countP r := by
  induction l with
  | nil => rfl
  | cons a l ih =>
    simp only [List.countP_cons, ih, h a]
    have := h2 a
    cases hq : q a <;> cases hr : r a <;> simp [hq, hr] at this ⊢ <;> omega
def loOf (A n t : Int) : List S44 → Int
  | [] => 0
  | m :: l => (if m.f0 = A then m.f1 * n / t else 0) + loOf A n t l
def hiOf (A n t : Int) : List S44 → Int
  | [] => 0
  | m :: l => (if m.f0 = A then (m.f1 * n + t - 1) / t else 0) + hiOf A n t l
theorem sum_pos (l : List S44) (h : ∀ m ∈ l, 0 ≤ m.f1) : 0 ≤ wsum l := by
  induction l with
  | nil => simp [wsum]
  | cons m l ih =>
    have := h m (by simp)
    have := ih (fun x hx => h x (by simp [hx]))
    simp only [wsum]; omega
theorem fair_count (A coin t : Int) (n : Nat) (ht : 0 < t) (hn : 0 < n) (c0 : 0 ≤ coin) (c1 : coin < t) (l : List S44) : ∀ (S E : Int), (∀ m ∈ l, 0 ≤ m.f1) → 0 ≤ S → E = S + wsum l → E ≤ t →
    loOf A n t l ≤ (((List.range n).countP fun k : Nat => decide (S ≤ (coin + (k : Int) * t) / n ∧ (coin + (k : Int) * t) / n < E ∧ (pickAt l ((coin + (k : Int) * t) / n - S)).f0 = A) : Nat) : Int) ∧
    (((List.range n).countP fun k : Nat => decide (S ≤ (coin + (k : Int) * t) / n ∧ (coin + (k : Int) * t) / n < E ∧ (pickAt l ((coin + (k : Int) * t) / n - S)).f0 = A) : Nat) : Int) ≤ hiOf A n t l := by
  induction l with
  | nil =>
    intro S E _ _ hE _
    have e : ((List.range n).countP fun k : Nat => decide (S ≤ (coin + (k : Int) * t) / n ∧ (coin + (k : Int) * t) / n < E ∧ (pickAt [] ((coin + (k : Int) * t) / n - S)).f0 = A)) = 0 := by
      rw [List.countP_eq_zero]
      intro k _
      simp only [wsum] at hE; simp only [decide_eq_true_eq]; omega
    rw [e]; simp [loOf, hiOf]
  | cons m l ih =>
    intro S E hg h0 hE h1
    have hm := hg m (by simp)
    have hp := sum_pos l (fun x hx => hg x (by simp [hx]))
    simp only [wsum] at hE
    have i := ih (S + m.f1) E (fun x hx => hg x (by simp [hx])) (by omega) (by omega) (by omega)
    have c := count_in coin t n ht hn c0 c1 S m.f1 h0 hm (by omega)
    have sp := countP_split (fun k : Nat => decide (S ≤ (coin + (k : Int) * t) / n ∧ (coin + (k : Int) * t) / n < E ∧ (pickAt (m :: l) ((coin + (k : Int) * t) / n - S)).f0 = A))
      (fun k : Nat => decide (S ≤ (coin + (k : Int) * t) / n ∧ (coin + (k : Int) * t) / n < S + m.f1) && decide (m.f0 = A))
      (fun k : Nat => decide (S + m.f1 ≤ (coin + (k : Int) * t) / n ∧ (coin + (k : Int) * t) / n < E ∧ (pickAt l ((coin + (k : Int) * t) / n - (S + m.f1))).f0 = A)) (List.range n)
      (fun k => by
        by_cases hk : (coin + (k : Int) * t) / n - S < m.f1
        · simp only [pickAt, if_pos hk, ← Bool.decide_and, ← Bool.decide_or]
          congr 1; apply propext; constructor
          · intro h; exact Or.inl ⟨⟨h.1, by omega⟩, h.2.2⟩
          · rintro (h | h)
            · exact ⟨h.1.1, by omega, h.2⟩
            · omega
        · simp only [pickAt, if_neg hk, ← Bool.decide_and, ← Bool.decide_or]
          rw [show (coin + (k : Int) * t) / n - S - m.f1 = (coin + (k : Int) * t) / n - (S + m.f1) by omega]
          congr 1; apply propext; constructor
          · intro h; exact Or.inr ⟨by omega, by omega, h.2.2⟩
          · rintro (h | h)
            · omega
            · exact ⟨by omega, by omega, h.2.2⟩)
      (fun k => by
        simp only [← Bool.decide_and, decide_eq_false_iff_not]; omega)
    rw [sp]
    simp only [loOf, hiOf]
    by_cases hA : m.f0 = A
    · simp only [hA, decide_true, Bool.and_true, if_true] at *
      omega
    · have z : ((List.range n).countP fun k : Nat => decide (S ≤ (coin + (k : Int) * t) / n ∧ (coin + (k : Int) * t) / n < S + m.f1) && decide (m.f0 = A)) = 0 := by
        rw [List.countP_eq_zero]; intro k _; simp [hA]
      rw [z, if_neg hA, if_neg hA]
      omega
theorem picks_count (A coin t : Int) (n : Nat) (l : List S44) (m : Nat) : ∀ j, (picks l n coin t j m).countP (fun p => decide (p.f0 = A ∧ p.f1 = 1)) = (List.range' j m).countP (fun k : Nat => decide ((pickAt l ((coin + (k : Int) * t) / n)).f0 = A)) := by
  induction m with
  | zero => intro j; rfl
  | succ m ih => intro j; simp only [picks, List.range'_succ, List.countP_cons, ih, and_true]
theorem fairly_is (A coin : Int) (n : Nat) (l : List S44) (hg : ∀ m ∈ l, 0 ≤ m.f1) (hn : 0 < n) (c0 : 0 ≤ coin) (c1 : coin < wsum l) :
    loOf A n (wsum l) l ≤ ((picks l n coin (wsum l) 0 n).countP (fun p => decide (p.f0 = A ∧ p.f1 = 1)) : Nat) ∧ (((picks l n coin (wsum l) 0 n).countP (fun p => decide (p.f0 = A ∧ p.f1 = 1)) : Nat) : Int) ≤ hiOf A n (wsum l) l := by
  have f := fair_count A coin (wsum l) n (by omega) hn c0 c1 l 0 (wsum l) hg (by omega) (by omega) (by omega)
  have e : ((List.range n).countP fun k : Nat => decide ((0 : Int) ≤ (coin + (k : Int) * wsum l) / n ∧ (coin + (k : Int) * wsum l) / n < wsum l ∧ (pickAt l ((coin + (k : Int) * wsum l) / n - 0)).f0 = A)) = (List.range n).countP (fun k : Nat => decide ((pickAt l ((coin + (k : Int) * wsum l) / n)).f0 = A)) := by
    refine List.countP_congr fun k hk => ?_
    have hk' : k < n := by simpa using hk
    have hkt : 0 ≤ (k : Int) * wsum l := Int.mul_nonneg (by omega) (by omega)
    have hlt : coin + (k : Int) * wsum l < n * wsum l := by
      have := Int.mul_le_mul_of_nonneg_right (show ((k : Int) + 1) ≤ n by omega) (show 0 ≤ wsum l by omega)
      rw [Int.add_mul, Int.one_mul] at this
      omega
    have hp0 : 0 ≤ (coin + (k : Int) * wsum l) / n := Int.ediv_nonneg (by omega) (by omega)
    have hp1 : (coin + (k : Int) * wsum l) / n < wsum l := Int.ediv_lt_of_lt_mul (by omega) (by rw [Int.mul_comm (wsum l)]; exact hlt)
    simp only [Int.sub_zero, decide_eq_true_eq]
    exact ⟨fun h => h.2.2, fun h => ⟨hp0, hp1, h⟩⟩
  rw [e] at f
  rw [picks_count, ← List.range_eq_range']
  exact f
theorem sum_any (l : List S44) (hl : l.length ≤ 1000) : ∃ t, Ev (fun k => spec_l11Sum.f k l) t := by
  have h : ∀ i, i ≤ l.length → ∀ s : Int, ∃ t, Ev (fun k => spec_l11Sum.l0 k s l l.length (i : Int)) t := by
    refine G.down_ind l.length (fun i => ∀ s : Int, ∃ t, Ev (fun k => spec_l11Sum.l0 k s l l.length (i : Int)) t) ?_ ?_
    · intro s
      refine ⟨s, G.succ ?_⟩
      simp only [spec_l11Sum.l0]; exact G.neg (by omega) (G.now fun _ => rfl)
    · intro i hi ih s
      obtain ⟨t, ht⟩ := ih (wrap64 (s + l[i].f1))
      refine ⟨t, G.succ ?_⟩
      simp only [spec_l11Sum.l0, rdT44 hi, G.w64 i (by omega)]
      exact G.pos (by omega) (G.pos (by omega) (G.pos (by omega) ht))
  exact h 0 (Nat.zero_le _) 0
theorem wide_ok {c : List Int} (hc : Bytes c) (hl : c.length ≤ 1048576) (a s : Int) (h0 : 0 ≤ a) (h1 : a ≤ 500000000000) : ∃ r : Int × Int × Int, Ev (fun k => spec_l1Cur_wide.f k c a s) r ∧ a ≤ r.2.1 ∧ r.2.1 ≤ a + 8 := by
  have h : ∀ i : Nat, i ≤ 8 → ∀ (n a s : Int), 0 ≤ a → a ≤ 500000000000 + (i : Int) → ∃ r : Int × Int × Int, Ev (fun k => spec_l1Cur_wide.l0 k n ((i : Nat) : Int) c a s) r ∧ a ≤ r.2.1 ∧ r.2.1 ≤ a + (8 - (i : Int)) := by
    refine G.down_ind 8 (fun i : Nat => ∀ (n a s : Int), 0 ≤ a → a ≤ 500000000000 + (i : Int) → ∃ r : Int × Int × Int, Ev (fun k => spec_l1Cur_wide.l0 k n ((i : Nat) : Int) c a s) r ∧ a ≤ r.2.1 ∧ r.2.1 ≤ a + (8 - (i : Int))) ?_ ?_
    · intro n a s h0 h1
      refine ⟨(n, a, s), G.succ ?_, by simp, by simp⟩
      simp only [spec_l1Cur_wide.l0]; exact G.neg (by omega) (G.now fun _ => rfl)
    · intro i hi ih n a s h0 h1
      obtain ⟨b, s', e, b0, b1⟩ := next_ok hc hl a s h0 (by omega)
      obtain ⟨r, hr, r1, r2⟩ := ih (Go.bits .or .i64 (wrap64 (n * 256)) b) (a + 1) s' (by omega) (by omega)
      refine ⟨r, G.succ ?_, by omega, by omega⟩
      simp only [spec_l1Cur_wide.l0, G.w64 i (by omega)]
      exact G.pos (by omega) (G.bind0 e hr)
  obtain ⟨r, h, r1, r2⟩ := h 0 (by omega) 0 a s h0 (by omega)
  exact ⟨r, h, r1, by simpa using r2⟩
theorem draw_pick {c : List Int} (hc : Bytes c) (hl : c.length ≤ 1048576) : ∃ r : List S44 × Int × Int, Ev (fun k => spec_DrawPickCloud.f k c) r ∧ r.1.length ≤ 61 := by
  obtain ⟨m, e1, m1, p1, q1⟩ := cloud_ok hc hl 0 0 (by omega) (by omega)
  obtain ⟨n, a2, s2, e2, n0, n1, _, p2, q2⟩ := pick_ok hc hl 12 m.2.1 m.2.2 (by omega) (by omega)
  obtain ⟨b, a3, s3, e3, p3, q3⟩ := one_ok hc hl 12 a2 s2 (by omega) (by omega)
  obtain ⟨t, et⟩ := sum_any m.1 (by omega)
  have j1 (n coin a s : Int) (h0 : 0 ≤ a) (h1 : a ≤ 500000000000) : ∃ r : List S44 × Int × Int, Ev (fun k => spec_DrawPickCloud.j1 k m.1 n t coin c a s) r ∧ r.1 = m.1 := by
    obtain ⟨b, a3, s3, e3, p3, q3⟩ := one_ok hc hl 12 a s (by omega) (by omega)
    cases b with
    | true =>
      obtain ⟨z, a4, s4, e4, _, p4, q4⟩ := among_ok hc hl [-1, t, wrap64 (t - 1)] (by simp) (by simp) a3 s3 (by omega) (by omega)
      refine ⟨(m.1, n, z), G.succ ?_, rfl⟩
      simp only [spec_DrawPickCloud.j1]
      exact G.bind0 e3 (G.pos rfl (G.bind0 e4 (G.now fun _ => rfl)))
    | false =>
      refine ⟨(m.1, n, coin), G.succ ?_, rfl⟩
      simp only [spec_DrawPickCloud.j1]
      exact G.bind0 e3 (G.neg (by simp) (G.now fun _ => rfl))
  have j0 (n a s : Int) (h0 : 0 ≤ a) (h1 : a ≤ 400000000000) : ∃ r : List S44 × Int × Int, Ev (fun k => spec_DrawPickCloud.j0 k m.1 n c a s) r ∧ r.1 = m.1 := by
    by_cases ht : t > 0
    · obtain ⟨w, ew, w1, w2⟩ := wide_ok hc hl a s h0 (by omega)
      obtain ⟨v, ev⟩ : ∃ v, spec_l8Mod.f w.1 t = some v := by
        unfold spec_l8Mod.f
        rw [if_neg (by omega)]
        split
        · exact ⟨_, rfl⟩
        · exact ⟨_, rfl⟩
      obtain ⟨r, er, hr⟩ := j1 n v w.2.1 w.2.2 (by omega) (by omega)
      refine ⟨r, G.succ ?_, hr⟩
      simp only [spec_DrawPickCloud.j0]
      exact G.bind et (G.pos ht (G.bind ew (G.bind0 ev er)))
    · obtain ⟨r, er, hr⟩ := j1 n 0 a s h0 (by omega)
      refine ⟨r, G.succ ?_, hr⟩
      simp only [spec_DrawPickCloud.j0]
      exact G.bind et (G.neg ht er)
  simp only [spec_DrawPickCloud.f]
  cases b with
  | true =>
    obtain ⟨z, a4, s4, e4, _, p4, q4⟩ := among_ok hc hl [0, 60, 61] (by simp) (by simp) a3 s3 (by omega) (by omega)
    obtain ⟨r, er, hr⟩ := j0 z a4 s4 (by omega) (by omega)
    exact ⟨r, G.bind e1 (G.bind0 e2 (G.bind0 e3 (G.pos rfl (G.bind0 e4 er)))), by rw [hr]; exact m1⟩
  | false =>
    obtain ⟨r, er, hr⟩ := j0 (wrap64 (1 + n)) a3 s3 (by omega) (by omega)
    exact ⟨r, G.bind e1 (G.bind0 e2 (G.bind0 e3 (G.neg (by simp) er))), by rw [hr]; exact m1⟩
def isAt (A : Int) (p : S44) : Bool := decide (p.f0 = A ∧ p.f1 = 1)
theorem fair_l3 (x0 p : List S44) (hp : p.length ≤ 60) (n t lo hi N2 A W x24 : Int) (x22 : List S44) {r : Bool} (next : Ev (fun k => spec_Fairly.l0 k x0 p n t x22 N2 (wrap64 (x24 + 1))) r) :
    ∀ i, i ≤ p.length → ∀ g : Int, 0 ≤ g → g ≤ i → lo ≤ g + ((p.drop i).countP (isAt A) : Nat) → g + ((p.drop i).countP (isAt A) : Nat) ≤ hi → Ev (fun k => spec_Fairly.l3 k x0 p n t lo hi g x22 N2 x24 p p.length (i : Int) A W) r := by
  refine G.down_ind p.length (fun i => ∀ g : Int, 0 ≤ g → g ≤ i → lo ≤ g + ((p.drop i).countP (isAt A) : Nat) → g + ((p.drop i).countP (isAt A) : Nat) ≤ hi → Ev (fun k => spec_Fairly.l3 k x0 p n t lo hi g x22 N2 x24 p p.length (i : Int) A W) r) ?_ ?_
  · intro g g0 g1 h0 h1
    rw [List.drop_eq_nil_of_le (Nat.le_refl _)] at h0 h1
    simp at h0 h1
    refine G.succ ?_
    simp only [spec_Fairly.l3]
    exact G.neg (by omega) (G.neg (by omega) (G.neg (by omega) next))
  · intro i hi' ih g g0 g1 h0 h1
    rw [List.drop_eq_getElem_cons hi', List.countP_cons] at h0 h1
    refine G.succ ?_
    simp only [spec_Fairly.l3, rdT44 hi', G.w64 i (by omega), G.w64' (i := g + 1) (by omega) (by omega)]
    refine G.pos (by omega) (G.pos (by omega) (G.pos (by omega) ?_))
    by_cases hA : p[i].f0 = A
    · by_cases h1' : p[i].f1 = 1
      · have e : isAt A p[i] = true := by simp [isAt, hA, h1']
        rw [e] at h0 h1
        simp at h0 h1
        exact G.pos hA (G.pos h1' (ih (g + 1) (by omega) (by omega) (by omega) (by omega)))
      · have e : isAt A p[i] = false := by simp [isAt, h1']
        rw [e] at h0 h1
        simp at h0 h1
        exact G.pos hA (G.neg h1' (ih g (by omega) (by omega) (by omega) (by omega)))
    · have e : isAt A p[i] = false := by simp [isAt, hA]
      rw [e] at h0 h1
      simp at h0 h1
      exact G.neg hA (ih g (by omega) (by omega) (by omega) (by omega))
theorem term_bd (w n t : Int) (w0 : 0 ≤ w) (w1 : w ≤ 1000000) (n0 : 1 ≤ n) (n1 : n ≤ 60) (t0 : 0 < t) (t1 : t ≤ 60000000) : wrap64 (Int.tdiv (wrap64 (w * n)) t) = w * n / t ∧ wrap64 (Int.tdiv (wrap64 (wrap64 (wrap64 (w * n) + t) - 1)) t) = (w * n + t - 1) / t ∧ 0 ≤ w * n / t ∧ w * n / t ≤ 60000000 ∧ 0 ≤ (w * n + t - 1) / t ∧ (w * n + t - 1) / t ≤ 120000000 := by
  have b0 : 0 ≤ w * n := Int.mul_nonneg w0 (by omega)
  have b1 : w * n ≤ 60000000 := by have := Int.mul_le_mul w1 n1 (by omega) (by omega); omega
  have c0 : 0 ≤ w * n / t := Int.ediv_nonneg b0 (by omega)
  have c1 : w * n / t ≤ w * n := Int.ediv_le_self _ b0
  have d0 : 0 ≤ (w * n + t - 1) / t := Int.ediv_nonneg (by omega) (by omega)
  have d1 : (w * n + t - 1) / t ≤ w * n + t - 1 := Int.ediv_le_self _ (by omega)
  refine ⟨?_, ?_, c0, by omega, d0, by omega⟩
  · rw [G.w64' (i := w * n) (by omega) (by omega), Int.tdiv_eq_ediv_of_nonneg b0, G.w64' (by omega) (by omega)]
  · rw [G.w64' (i := w * n) (by omega) (by omega), G.w64' (i := w * n + t) (by omega) (by omega), G.w64' (i := w * n + t - 1) (by omega) (by omega), Int.tdiv_eq_ediv_of_nonneg (by omega), G.w64' (by omega) (by omega)]
theorem of_bd (l : List S44) (hg : l.all good = true) (A n t : Int) (n0 : 1 ≤ n) (n1 : n ≤ 60) (t0 : 0 < t) (t1 : t ≤ 60000000) : 0 ≤ loOf A n t l ∧ loOf A n t l ≤ 60000000 * l.length ∧ 0 ≤ hiOf A n t l ∧ hiOf A n t l ≤ 120000000 * l.length := by
  induction l with
  | nil => simp [loOf, hiOf]
  | cons m l ih =>
    simp only [List.all_cons, Bool.and_eq_true] at hg
    have h1 := ih hg.2
    have h2 : 0 ≤ m.f1 ∧ m.f1 ≤ 1000000 := by have := hg.1; simp [good] at this; omega
    obtain ⟨_, _, a, b, c, d⟩ := term_bd m.f1 n t h2.1 h2.2 n0 n1 t0 t1
    simp only [loOf, hiOf, List.length_cons]
    split <;> omega
theorem fair_l2 (l p : List S44) (hg : l.all good = true) (hl : l.length ≤ 60) (hp : p.length ≤ 60) (n t N2 A W x24 : Int) (n0 : 1 ≤ n) (n1 : n ≤ 60) (t0 : 0 < t) (t1 : t ≤ 60000000) (x22 : List S44) {r : Bool} (next : Ev (fun k => spec_Fairly.l0 k l p n t x22 N2 (wrap64 (x24 + 1))) r)
    (hc : loOf A n t l ≤ (p.countP (isAt A) : Nat) ∧ ((p.countP (isAt A) : Nat) : Int) ≤ hiOf A n t l) :
    ∀ i, i ≤ l.length → ∀ lo hi : Int, 0 ≤ lo → lo ≤ 60000000 * i → 0 ≤ hi → hi ≤ 120000000 * i → lo + loOf A n t (l.drop i) = loOf A n t l → hi + hiOf A n t (l.drop i) = hiOf A n t l → Ev (fun k => spec_Fairly.l2 k l p n t lo hi x22 N2 x24 l l.length (i : Int) A W) r := by
  refine G.down_ind l.length (fun i => ∀ lo hi : Int, 0 ≤ lo → lo ≤ 60000000 * i → 0 ≤ hi → hi ≤ 120000000 * i → lo + loOf A n t (l.drop i) = loOf A n t l → hi + hiOf A n t (l.drop i) = hiOf A n t l → Ev (fun k => spec_Fairly.l2 k l p n t lo hi x22 N2 x24 l l.length (i : Int) A W) r) ?_ ?_
  · intro lo hi _ _ _ _ h0 h1
    rw [List.drop_eq_nil_of_le (Nat.le_refl _)] at h0 h1
    simp only [loOf, hiOf, Int.add_zero] at h0 h1
    refine G.succ ?_
    simp only [spec_Fairly.l2]
    refine G.neg (by omega) ?_
    exact fair_l3 l p hp n t lo hi N2 A W x24 x22 next 0 (Nat.zero_le _) 0 (by omega) (by omega) (by simp; omega) (by simp; omega)
  · intro i hi' ih lo hi a0 a1 b0 b1 h0 h1
    obtain ⟨_, _, g2, g3⟩ := good_at hg hi'
    obtain ⟨e1, e2, c0, c1, d0, d1⟩ := term_bd l[i].f1 n t g2 g3 n0 n1 t0 t1
    rw [List.drop_eq_getElem_cons hi'] at h0 h1
    simp only [loOf, hiOf] at h0 h1
    refine G.succ ?_
    simp only [spec_Fairly.l2, rdT44 hi', G.w64 i (by omega), e1, e2, G.w64' (i := lo + l[i].f1 * n / t) (by omega) (by omega), G.w64' (i := hi + (l[i].f1 * n + t - 1) / t) (by omega) (by omega)]
    refine G.pos (by omega) (G.pos (by omega) (G.pos (by omega) ?_))
    by_cases hA : l[i].f0 = A
    · rw [if_pos hA] at h0 h1
      exact G.pos hA (G.neg (by omega) (ih _ _ (by omega) (by omega) (by omega) (by omega) (by omega) (by omega)))
    · rw [if_neg hA] at h0 h1
      exact G.neg hA (ih _ _ (by omega) (by omega) (by omega) (by omega) (by omega) (by omega))
theorem fair_l1 (l p : List S44) (hl : l.length ≤ 60) (n t x8 N2 A W x24 : Int) (x22 : List S44) {r : Bool} (next : Ev (fun k => spec_Fairly.l0 k l p n t x22 N2 (wrap64 (x24 + 1))) r)
    (go : Ev (fun k => spec_Fairly.l2 k l p n t 0 0 x22 N2 x24 l l.length 0 A W) r) :
    ∀ i, i ≤ l.length → ∀ b : Bool, Ev (fun k => spec_Fairly.l1 k l p n t x8 b x22 N2 x24 l l.length (i : Int) A W) r := by
  refine G.down_ind l.length (fun i => ∀ b : Bool, Ev (fun k => spec_Fairly.l1 k l p n t x8 b x22 N2 x24 l l.length (i : Int) A W) r) ?_ ?_
  · intro b
    refine G.succ ?_
    simp only [spec_Fairly.l1]
    exact G.neg (by omega) (G.ite (fun _ => go) (fun _ => next))
  · intro i hi ih b
    refine G.succ ?_
    simp only [spec_Fairly.l1, rdT44 hi, G.w64 i (by omega)]
    exact G.pos (by omega) (G.pos (by omega) (G.pos (by omega) (G.ite (fun _ => G.ite (fun _ => ih _) (fun _ => ih _)) (fun _ => ih _))))
theorem fairly_ok (l p : List S44) (hg : l.all good = true) (hl : l.length ≤ 60) (hp : p.length ≤ 60) (n : Int) (n0 : 1 ≤ n) (n1 : n ≤ 60) (t0 : 0 < wsum l)
    (hc : ∀ A, loOf A n (wsum l) l ≤ (p.countP (isAt A) : Nat) ∧ ((p.countP (isAt A) : Nat) : Int) ≤ hiOf A n (wsum l) l) : Ev (fun k => spec_Fairly.f k l p n) true := by
  have hb := wsum_bd hg
  simp only [spec_Fairly.f]
  refine G.bind (sum_is l hg hl).1 ?_
  have h : ∀ i, i ≤ l.length → Ev (fun k => spec_Fairly.l0 k l p n (wsum l) l l.length (i : Int)) true := by
    refine G.down_ind l.length (fun i => Ev (fun k => spec_Fairly.l0 k l p n (wsum l) l l.length (i : Int)) true) ?_ ?_
    · refine G.succ ?_
      simp only [spec_Fairly.l0]; exact G.neg (by omega) (G.now fun _ => rfl)
    · intro i hi ih
      have nx : Ev (fun k => spec_Fairly.l0 k l p n (wsum l) l l.length (wrap64 ((i : Int) + 1))) true := by rw [G.w64 i (by omega)]; exact ih
      refine G.succ ?_
      simp only [spec_Fairly.l0, rdT44 hi]
      refine G.pos (by omega) (G.pos (by omega) (G.pos (by omega) ?_))
      refine fair_l1 l p hl n (wsum l) i _ _ _ i l nx ?_ 0 (Nat.zero_le _) true
      exact fair_l2 l p hg hl hp n (wsum l) _ _ _ i n0 n1 t0 (by omega) l nx (hc l[i].f0) 0 (Nat.zero_le _) 0 0 (by omega) (by omega) (by omega) (by omega) (by simp) (by simp)
  exact h 0 (Nat.zero_le _)
theorem FnPick : laws_FnPick.Pure := by
  intro c hm hreach hb
  refine Ev.rounds ?_
  have byt : Bytes c := fun b hx => by have := hb b hx; simp [Lit.wf, IntKind.min, IntKind.max, IntKind.signed, IntKind.bits] at this; omega
  simp only [laws_FnPick.f]
  refine G.ite (fun _ => G.now fun _ => rfl) (fun hl => ?_)
  obtain ⟨⟨l, n, coin⟩, e1, hl1⟩ := draw_pick byt (by omega)
  simp only at hl1
  obtain ⟨r, h1, h2, h3, h4⟩ := pick_is l n coin (by omega)
  refine G.bind e1 (G.bind h2 (G.bind h1 (G.neg (by simp) (G.pos rfl ?_))))
  rcases h4 with rfl | ⟨hg, hl60, n0, n1, c0, c1, rfl⟩
  · exact G.neg (by simp) (G.now fun _ => rfl)
  · obtain ⟨m, rfl⟩ : ∃ m : Nat, n = m := ⟨n.toNat, by omega⟩
    rw [Int.toNat_natCast]
    refine G.pos rfl (G.pos (by rw [picks_length]) (G.bind (a := true) ?_ (G.now fun _ => rfl)))
    refine fairly_ok l _ hg hl60 (by rw [picks_length]; omega) m n0 n1 (by omega) fun A => ?_
    have hpos : ∀ x ∈ l, 0 ≤ x.f1 := fun x hx => by have := List.all_eq_true.1 hg x hx; simp [good] at this; omega
    exact fairly_is A coin m l hpos (by omega) c0 c1

end Go.Proofs.Ytceekdkklcdhaaa.Pure
