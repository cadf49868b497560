/- For all arguments the printed law ExactPickCloud answers true: plain lists and numbers, no memory. Conditions: none beyond what the program's own guards ask. -/
import Derived.Test.YteinhgiongoplaaPFnExactPickCloudx4
import Derived.Test.YteinhgiongoplaaG
namespace Go.Proofs.Yteinhgiongoplaa.Pure
open Go.RowKit Go.Proofs.Yteinhgiongoplaa.PFnExactPickCloud Go.Proofs.YteinhgiongoplaaW.PrintWords Go.Proofs.YteinhgiongoplaaW.PrintLast
set_option linter.unusedVariables false
set_option linter.unusedSimpArgs false

theorem rdT48 {l : List S48} {i : Nat} (h : i < l.length) : rd_T48 l (i : Int) = l[i] := by
  unfold rd_T48; exact G.getD_nat h

theorem rdT45 {l : List S45} {i : Nat} (h : i < l.length) : rd_T45 l (i : Int) = l[i] := by
  unfold rd_T45; exact G.getD_nat h

theorem laws_eqMoteS_refl (l : List S45) (hl : l.length ≤ 1048576) : Ev (fun k => laws_eqMoteS.f k l l) true := by
  unfold laws_eqMoteS.f
  refine G.pos rfl (G.true_loop (F := fun k i => laws_eqMoteS.l0 k l l i) l.length ?_ ?_)
  · intro k; simp only [laws_eqMoteS.l0]; rw [if_neg (by omega)]
  · intro k i h
    simp only [laws_eqMoteS.l0, laws_eqMote.f, if_true, Option.bind_some]
    rw [if_pos (by omega), if_pos (by omega), if_pos (by omega), G.w64 _ (by omega)]

def laws_markMoteS_el (m : Int) : S45 := ⟨m, m + 1⟩
theorem laws_markMoteS_ev (l : List S45) (m : Int) (h0 : 0 ≤ m) (h1 : m ≤ 4194304) (hl : l.length ≤ 1048576) : Ev (fun k => laws_markMoteS.f k l m) (m + l.length * 2, G.marks laws_markMoteS_el m 2 l.length) := by
  simp only [laws_markMoteS.f]
  have h := G.mark_loop laws_markMoteS_el m 2 l.length (fun k l m i => laws_markMoteS.l0 k l m i) ?_ ?_ l rfl
  · simpa using h
  · intro k l' m hl'; simp only [laws_markMoteS.l0]; rw [if_neg (by omega)]
  · intro k l' i h hl'
    simp only [laws_markMoteS.l0, List.length_set]
    simp only [if_pos (show (i : Int) < l'.length by omega), if_pos (show (0 : Int) ≤ i by omega), G.w64 i (by omega), Int.toNat_natCast]
    rw [G.w64' (by omega) (by omega)]; rw [G.w64' (by omega) (by omega)]
    simp [laws_markMoteS_el, rd_T45, List.getD_eq_getElem?_getD, List.getElem?_set, List.set_set, show i < l'.length by omega]
    try (congr 1; omega)

theorem laws_szMoteS_le (l : List S48) (a : Int) (ha : 0 ≤ a) (ha' : a ≤ 1048576) (h : (l.length : Int) ≤ a) : laws_szMoteS.f l a = some (a - l.length) := by
  unfold laws_szMoteS.f
  rw [G.w64' (by omega) (by omega), if_neg (by omega)]
theorem laws_szMoteS_gt (l : List S48) (a : Int) (ha : 0 ≤ a) (ha' : a ≤ 1048576) (hm : l.length ≤ 9223372036854775807) (h : a < (l.length : Int)) : laws_szMoteS.f l a = some (-1) := by
  unfold laws_szMoteS.f
  rw [G.w64' (by omega) (by omega), if_pos (by omega)]

def laws_toMoteS_cv (x : S48) : S45 := ⟨x.f0, x.f1⟩
theorem laws_toMoteS_ev (l : List S48) (hl : l.length ≤ 1048576) : Ev (fun k => laws_toMoteS.f k l) (l.map laws_toMoteS_cv) := by
  simp only [laws_toMoteS.f]
  refine G.pos (by omega) (G.pos (by omega) ?_)
  have h := G.to_loop (fun k out i => laws_toMoteS.l0 k l out i) l laws_toMoteS_cv ?_ ?_ 0 (Nat.zero_le _) (List.replicate l.length z45) (by simp) (by simp)
  · simpa using h
  · intro k out; simp only [laws_toMoteS.l0]; rw [if_neg (by omega)]
  · intro k out i h ho
    simp only [laws_toMoteS.l0, laws_toMote.f, Option.bind_some]
    rw [if_pos (by omega), if_pos (by omega), if_pos (by omega), G.w64 _ (by omega), rdT48 h]
    simp [laws_toMoteS_cv]

theorem laws_heldMoteS_ev (m : Int) (n : Nat) (h0 : 0 ≤ m) (h1 : m ≤ 4194304) (hl : n ≤ 1048576) : Ev (fun k => laws_heldMoteS.f k (G.marks laws_markMoteS_el m 2 n) m) (m + n * 2) := by
  simp only [laws_heldMoteS.f]
  have h := G.held_loop m 2 n (fun k m' i => laws_heldMoteS.l0 k (G.marks laws_markMoteS_el m 2 n) m' i) ?_ ?_
  · simpa using h
  · intro k m'; simp only [laws_heldMoteS.l0]; rw [if_neg (by rw [G.marks_length]; omega)]
  · intro k i h
    have hr : rd_T45 (G.marks laws_markMoteS_el m 2 n) (i : Int) = laws_markMoteS_el (m + i * 2) := by rw [rdT45 (by rw [G.marks_length]; exact h), G.marks_get]; rfl
    have en : ((2 : Nat) : Int) = 2 := rfl
    simp only [laws_heldMoteS.l0, hr, laws_markMoteS_el, en]
    rw [if_pos (by rw [G.marks_length]; omega), if_pos (by omega)]
    simp only [G.w64 i (by omega), G.w64' (i := m + (i : Int) * 2 + 1) (by omega) (by omega), G.w64' (i := m + (i : Int) * 2 + 1 + 1) (by omega) (by omega), if_true]
    congr 1; omega

def good (m : S45) : Bool := decide (-1000000 ≤ m.f0 ∧ m.f0 ≤ 1000000 ∧ 0 ≤ m.f1 ∧ m.f1 ≤ 1000000)
theorem in_is (a : Int) : spec_l11In.f a = some (decide (-1000000 ≤ a ∧ a ≤ 1000000)) := by
  simp only [spec_l11In.f, G.nest]; congr 1; simp
theorem within_is (a : Int) : impl_within.f a 1000000 = some (decide (-1000000 ≤ a ∧ a ≤ 1000000)) := by
  unfold impl_within.f; rw [G.wneg (by omega) (by omega)]; exact in_is a
theorem body (m : S45) {α : Type} (x y : α) : (if good m = true then x else y) = if -1000000 ≤ m.f0 ∧ m.f0 ≤ 1000000 then (if m.f1 < 0 then y else if m.f1 > 1000000 then y else x) else y := by
  unfold good
  by_cases h : -1000000 ≤ m.f0 ∧ m.f0 ≤ 1000000
  · rw [if_pos h]
    by_cases h1 : m.f1 < 0
    · rw [if_pos h1, if_neg (by simp; omega)]
    · rw [if_neg h1]
      by_cases h2 : m.f1 > 1000000
      · rw [if_pos h2, if_neg (by simp; omega)]
      · rw [if_neg h2, if_pos (by simp; omega)]
  · rw [if_neg h, if_neg (by simp; omega)]
theorem goodcloud_spec (l : List S45) : Ev (fun k => spec_GoodCloud.f k l) (l.all good && decide (l.length ≤ 60)) := by
  simp only [spec_GoodCloud.f]
  refine G.ite (fun h => G.now fun _ => ?_) (fun h => ?_)
  · rw [decide_eq_false (by omega), Bool.and_false]
  · rw [decide_eq_true (by omega)]
    refine G.all_loop (F := fun k i => spec_GoodCloud.l0 k l l.length i) l good true ?_ ?_
    · intro k; simp only [spec_GoodCloud.l0]; rw [if_neg (by omega)]
    · intro k i h
      simp only [spec_GoodCloud.l0, in_is, Option.bind_some]
      rw [if_pos (by omega), if_pos (by omega), if_pos (by omega), rdT45 h, G.w64 _ (by omega), body]
      simp only [decide_eq_true_eq]
theorem goodcloud_impl (l : List S45) (hl : l.length ≤ 1048576) : Ev (fun k => impl_GoodCloud.f k l) (l.all good && decide (l.length ≤ 60)) := by
  simp only [impl_GoodCloud.f]
  refine G.all_loop (F := fun k i => impl_GoodCloud.l0 k l l l.length i) l good _ ?_ ?_
  · intro k; simp only [impl_GoodCloud.l0]; rw [if_neg (by omega)]; congr 1; simp; omega
  · intro k i h
    simp only [impl_GoodCloud.l0, within_is, Option.bind_some]
    rw [if_pos (by omega), if_pos (by omega), if_pos (by omega), rdT45 h, G.w64 _ (by omega), body]
    simp only [decide_eq_true_eq]
theorem good_at {l : List S45} (h : l.all good = true) {i : Nat} (hi : i < l.length) : -1000000 ≤ l[i].f0 ∧ l[i].f0 ≤ 1000000 ∧ 0 ≤ l[i].f1 ∧ l[i].f1 ≤ 1000000 := by
  have := List.all_eq_true.1 h l[i] (List.getElem_mem hi)
  simpa [good] using this
/-- The sum of the weights. -/
def wsum : List S45 → Int
  | [] => 0
  | m :: t => m.f1 + wsum t
theorem wsum_bd {l : List S45} (h : l.all good = true) : 0 ≤ wsum l ∧ wsum l ≤ 1000000 * l.length := by
  induction l with
  | nil => simp [wsum]
  | cons m t ih =>
    simp only [List.all_cons, Bool.and_eq_true] at h
    have h1 := ih h.2
    have h2 : 0 ≤ m.f1 ∧ m.f1 ≤ 1000000 := by have := h.1; simp [good] at this; omega
    simp only [wsum, List.length_cons]
    omega
theorem wsum_drop {l : List S45} {i : Nat} (hi : i < l.length) : wsum (l.drop i) = l[i].f1 + wsum (l.drop (i + 1)) := by
  rw [List.drop_eq_getElem_cons hi]; rfl
theorem all_drop {l : List S45} (h : l.all good = true) (i : Nat) : (l.drop i).all good = true := by
  rw [List.all_eq_true] at h ⊢
  exact fun x hx => h x (List.mem_of_mem_drop hx)
theorem sum_l0 (l : List S45) (hg : l.all good = true) (hl : l.length ≤ 60) : ∀ i, i ≤ l.length → ∀ s : Int, 0 ≤ s → s ≤ 1000000 * i → Ev (fun k => spec_l11Sum.l0 k s l l.length (i : Int)) (s + wsum (l.drop i)) ∧ Ev (fun k => impl_weights.l0 k s l l.length (i : Int)) (s + wsum (l.drop i)) := by
  refine G.down_ind l.length (fun i => ∀ s : Int, 0 ≤ s → s ≤ 1000000 * i → Ev (fun k => spec_l11Sum.l0 k s l l.length (i : Int)) (s + wsum (l.drop i)) ∧ Ev (fun k => impl_weights.l0 k s l l.length (i : Int)) (s + wsum (l.drop i))) ?_ ?_
  · intro s _ _
    rw [List.drop_eq_nil_of_le (Nat.le_refl _)]
    refine ⟨G.succ (G.now fun k => ?_), G.succ (G.now fun k => ?_)⟩
    · simp only [spec_l11Sum.l0]; rw [if_neg (by omega)]; simp [wsum]
    · simp only [impl_weights.l0]; rw [if_neg (by omega)]; simp [wsum]
  · intro i hi ih s h0 h1
    obtain ⟨_, _, g2, g3⟩ := good_at hg hi
    obtain ⟨e1, e2⟩ := ih (s + l[i].f1) (by omega) (by omega)
    rw [wsum_drop hi, ← Int.add_assoc]
    refine ⟨G.succ ?_, G.succ ?_⟩
    · simp only [spec_l11Sum.l0, rdT45 hi]
      refine G.pos (by omega) (G.pos (by omega) (G.pos (by omega) ?_))
      rw [G.w64 _ (by omega), G.w64' (by omega) (by omega)]; exact e1
    · simp only [impl_weights.l0, rdT45 hi]
      refine G.pos (by omega) (G.pos (by omega) (G.pos (by omega) ?_))
      rw [G.w64 _ (by omega), G.w64' (by omega) (by omega)]; exact e2
theorem sum_is (l : List S45) (hg : l.all good = true) (hl : l.length ≤ 60) : Ev (fun k => spec_l11Sum.f k l) (wsum l) ∧ Ev (fun k => impl_weights.f k l) (wsum l) := by
  have := sum_l0 l hg hl 0 (Nat.zero_le _) 0 (by omega) (by omega)
  simpa [spec_l11Sum.f, impl_weights.f] using this
/-- The mote in which a place lies. -/
def pickAt : List S45 → Int → S45
  | [], _ => z45
  | m :: t, p => if p < m.f1 then m else pickAt t (p - m.f1)
theorem inner_is (l : List S45) (hg : l.all good = true) (hl : l.length ≤ 60) (n coin t j : Int) (jj : wrap64 (j + 1) = j + 1) (out : List S45) (ho : out.length ≤ 60) : ∀ i, i ≤ l.length → ∀ p : Int, 0 ≤ p → p < wsum (l.drop i) →
    ∀ r, (Ev (fun k => spec_PickCloud.l0 k l n coin t (out ++ [⟨(pickAt (l.drop i) p).f0, 1⟩]) (j + 1)) r → Ev (fun k => spec_PickCloud.l1 k l n coin t out j p (i : Int)) r) ∧
    (Ev (fun k => impl_PickCloud.l0 k l n coin t (out ++ [⟨(pickAt (l.drop i) p).f0, 1⟩]) n (j + 1)) r → Ev (fun k => impl_PickCloud.l1 k l n coin t out p n j l l.length (i : Int)) r) := by
  refine G.down_ind l.length (fun i => ∀ p : Int, 0 ≤ p → p < wsum (l.drop i) → ∀ r, (Ev (fun k => spec_PickCloud.l0 k l n coin t (out ++ [⟨(pickAt (l.drop i) p).f0, 1⟩]) (j + 1)) r → Ev (fun k => spec_PickCloud.l1 k l n coin t out j p (i : Int)) r) ∧ (Ev (fun k => impl_PickCloud.l0 k l n coin t (out ++ [⟨(pickAt (l.drop i) p).f0, 1⟩]) n (j + 1)) r → Ev (fun k => impl_PickCloud.l1 k l n coin t out p n j l l.length (i : Int)) r)) ?_ ?_
  · intro p h0 h1 r
    rw [List.drop_eq_nil_of_le (Nat.le_refl _)] at h1
    simp only [wsum] at h1
    omega
  · intro i hi ih p h0 h1 r
    obtain ⟨_, _, g2, g3⟩ := good_at hg hi
    have hb := wsum_bd (all_drop hg (i + 1))
    have hb' : wsum (l.drop (i + 1)) ≤ 60000000 := by
      have h60 : (l.drop (i + 1)).length ≤ 60 := by simp; omega
      omega
    rw [wsum_drop hi] at h1
    rw [List.drop_eq_getElem_cons hi]
    by_cases hp : p < l[i].f1
    · have e : pickAt (l[i] :: l.drop (i + 1)) p = l[i] := by simp only [pickAt]; rw [if_pos hp]
      rw [e]
      refine ⟨fun h => G.succ ?_, fun h => G.succ ?_⟩
      · simp only [spec_PickCloud.l1, rdT45 hi, jj]
        exact G.pos (by omega) (G.pos (by omega) (G.neg (by omega) (G.pos (by omega) h)))
      · simp only [impl_PickCloud.l1, rdT45 hi, jj]
        exact G.pos (by omega) (G.pos (by omega) (G.pos (by omega) (G.pos hp (G.pos (by omega) h))))
    · have e : pickAt (l[i] :: l.drop (i + 1)) p = pickAt (l.drop (i + 1)) (p - l[i].f1) := by simp only [pickAt]; rw [if_neg hp]
      rw [e]
      obtain ⟨i1, i2⟩ := ih (p - l[i].f1) (by omega) (by omega) r
      refine ⟨fun h => G.succ ?_, fun h => G.succ ?_⟩
      · simp only [spec_PickCloud.l1, rdT45 hi]
        refine G.pos (by omega) (G.pos (by omega) (G.pos (by omega) ?_))
        rw [G.w64' (i := p - l[i].f1) (by omega) (by omega), G.w64 i (by omega)]
        exact i1 h
      · simp only [impl_PickCloud.l1, rdT45 hi]
        refine G.pos (by omega) (G.pos (by omega) (G.pos (by omega) (G.neg hp ?_)))
        rw [G.w64' (i := p - l[i].f1) (by omega) (by omega), G.w64 i (by omega)]
        exact i2 h
/-- The picked motes from the j-th on. -/
def picks (l : List S45) (n coin t : Int) : Nat → Nat → List S45
  | _, 0 => []
  | j, m + 1 => ⟨(pickAt l ((coin + j * t) / n)).f0, 1⟩ :: picks l n coin t (j + 1) m
theorem picks_length (l : List S45) (n coin t : Int) (m : Nat) : ∀ j, (picks l n coin t j m).length = m := by
  induction m with
  | zero => intro j; rfl
  | succ m ih => intro j; simp [picks, ih]
theorem outer_is (l : List S45) (hg : l.all good = true) (hl : l.length ≤ 60) (n : Nat) (h1 : 1 ≤ n) (hn : n ≤ 60) (coin : Int) (c0 : 0 ≤ coin) (c1 : coin < wsum l) :
    ∀ j, j ≤ n → ∀ out : List S45, out.length = j → Ev (fun k => spec_PickCloud.l0 k l n coin (wsum l) out (j : Int)) (out ++ picks l n coin (wsum l) j (n - j), true) ∧ Ev (fun k => impl_PickCloud.l0 k l n coin (wsum l) out n (j : Int)) (out ++ picks l n coin (wsum l) j (n - j), true) := by
  have hb := wsum_bd hg
  have hb' : wsum l ≤ 60000000 := by omega
  refine G.down_ind n (fun j => ∀ out : List S45, out.length = j → Ev (fun k => spec_PickCloud.l0 k l n coin (wsum l) out (j : Int)) (out ++ picks l n coin (wsum l) j (n - j), true) ∧ Ev (fun k => impl_PickCloud.l0 k l n coin (wsum l) out n (j : Int)) (out ++ picks l n coin (wsum l) j (n - j), true)) ?_ ?_
  · intro out _
    rw [Nat.sub_self]
    refine ⟨G.succ (G.now fun k => ?_), G.succ (G.now fun k => ?_)⟩
    · simp only [spec_PickCloud.l0]; rw [if_neg (by omega)]; simp [picks]
    · simp only [impl_PickCloud.l0]; rw [if_neg (by omega)]; simp [picks]
  · intro j hj ih out ho
    have hjt : 0 ≤ (j : Int) * wsum l ∧ (j : Int) * wsum l ≤ 3600000000 := by
      constructor
      · exact Int.mul_nonneg (by omega) (by omega)
      · have := Int.mul_le_mul (show (j : Int) ≤ 60 by omega) hb' (by omega) (by omega); omega
    have hlt : coin + (j : Int) * wsum l < n * wsum l := by
      have := Int.mul_le_mul_of_nonneg_right (show ((j : Int) + 1) ≤ n by omega) hb.1
      rw [Int.add_mul, Int.one_mul] at this
      omega
    have hp0 : 0 ≤ (coin + (j : Int) * wsum l) / n := Int.ediv_nonneg (by omega) (by omega)
    have hp1 : (coin + (j : Int) * wsum l) / n < wsum l := Int.ediv_lt_of_lt_mul (by omega) (by rw [Int.mul_comm (wsum l)]; exact hlt)
    have e1 : wrap64 (Int.tdiv (wrap64 (coin + wrap64 ((j : Int) * wsum l))) n) = (coin + (j : Int) * wsum l) / n := by
      rw [G.w64' (i := (j : Int) * wsum l) (by omega) (by omega), G.w64' (i := coin + (j : Int) * wsum l) (by omega) (by omega), Int.tdiv_eq_ediv_of_nonneg (by omega), G.w64' (by omega) (by omega)]
    have e2 : picks l n coin (wsum l) j (n - j) = ⟨(pickAt l ((coin + j * wsum l) / n)).f0, 1⟩ :: picks l n coin (wsum l) (j + 1) (n - (j + 1)) := by
      rw [show n - j = (n - (j + 1)) + 1 by omega]; rfl
    obtain ⟨i1, i2⟩ := ih (out ++ [⟨(pickAt l ((coin + j * wsum l) / n)).f0, 1⟩]) (by simp [ho])
    rw [List.append_assoc, List.singleton_append, ← e2] at i1 i2
    obtain ⟨g1, g2⟩ := inner_is l hg hl n coin (wsum l) j (by rw [G.w64' (by omega) (by omega)]) out (by omega) 0 (Nat.zero_le _) ((coin + (j : Int) * wsum l) / n) hp0 hp1 (out ++ picks l n coin (wsum l) j (n - j), true)
    refine ⟨G.succ ?_, G.succ ?_⟩
    · simp only [spec_PickCloud.l0, e1]
      exact G.pos (by omega) (G.neg (by omega) (g1 i1))
    · simp only [impl_PickCloud.l0, e1]
      exact G.pos (by omega) (G.neg (by omega) (g2 i2))
/-- Both pick alike: nothing, or the n motes of 'picks'. -/
theorem pick_is (l : List S45) (n coin : Int) (hl : l.length ≤ 1048576) : ∃ r, Ev (fun k => spec_PickCloud.f k l n coin) r ∧ Ev (fun k => impl_PickCloud.f k l n coin) r ∧ r.1.length ≤ 60 ∧
    (r = ([], false) ∨ (l.all good = true ∧ l.length ≤ 60 ∧ 1 ≤ n ∧ n ≤ 60 ∧ 0 ≤ coin ∧ coin < wsum l ∧ r = (picks l n coin (wsum l) 0 n.toNat, true))) := by
  have jt : Ev (fun k => spec_PickCloud.j0 k l n coin true) ([], false) := G.succ (G.now fun k => by simp [spec_PickCloud.j0])
  have jt' : Ev (fun k => impl_PickCloud.j0 k l n coin true) ([], false) := G.succ (G.now fun k => by simp [impl_PickCloud.j0])
  have jt1 (t : Int) : Ev (fun k => spec_PickCloud.j1 k l n coin t true) ([], false) := G.succ (G.now fun k => by simp [spec_PickCloud.j1])
  simp only [spec_PickCloud.f, impl_PickCloud.f, impl_found.f]
  have hs := goodcloud_spec l
  have hi := goodcloud_impl l hl
  cases hg : (l.all good && decide (l.length ≤ 60)) with
  | false =>
    rw [hg] at hs hi
    exact ⟨([], false), G.bind hs (G.neg (by simp) jt), G.bind (a := false) (G.bind hi (G.neg (by simp) (G.now fun _ => rfl))) (G.neg (by simp) jt'), by simp, Or.inl rfl⟩
  | true =>
    rw [hg] at hs hi
    simp only [Bool.and_eq_true, decide_eq_true_eq] at hg
    obtain ⟨s1, s2⟩ := sum_is l hg.1 hg.2
    have hb := wsum_bd hg.1
    have hf : Ev (fun k => (impl_GoodCloud.f k l).bind fun t138 => if t138 = true then (impl_weights.f k l).bind fun t139 => some (decide (t139 > 0)) else some false) (decide (wsum l > 0)) := G.bind hi (G.pos rfl (G.bind s2 (G.now fun _ => rfl)))
    by_cases n0 : n < 1
    · refine ⟨([], false), G.bind hs (G.pos rfl (G.pos n0 jt)), G.bind hf (G.ite (fun _ => G.pos n0 jt') (fun _ => jt')), by simp, Or.inl rfl⟩
    · by_cases n1 : n > 60
      · refine ⟨([], false), G.bind hs (G.pos rfl (G.neg n0 ?_)), G.bind hf (G.ite (fun _ => G.neg n0 (G.pos n1 jt')) (fun _ => jt')), by simp, Or.inl rfl⟩
        rw [decide_eq_true n1]; exact jt
      · have js (r) (h : Ev (fun k => if coin < 0 then spec_PickCloud.j1 k l n coin (wsum l) true else spec_PickCloud.j1 k l n coin (wsum l) (decide (coin ≥ wsum l))) r) : Ev (fun k => spec_PickCloud.j0 k l n coin (decide (n > 60))) r := by
          rw [decide_eq_false n1]; refine G.succ ?_; simp only [spec_PickCloud.j0]
          exact G.neg (by simp) (G.bind s1 h)
        by_cases c0 : coin < 0
        · refine ⟨([], false), G.bind hs (G.pos rfl (G.neg n0 (js _ (G.pos c0 (jt1 _))))), G.bind hf (G.ite (fun _ => G.neg n0 (G.neg n1 (G.pos c0 jt'))) (fun _ => jt')), by simp, Or.inl rfl⟩
        · by_cases c1 : coin ≥ wsum l
          · refine ⟨([], false), G.bind hs (G.pos rfl (G.neg n0 (js _ (G.neg c0 ?_)))), G.bind hf (G.ite (fun _ => G.neg n0 (G.neg n1 (G.neg c0 (G.bind s2 ?_)))) (fun _ => jt')), by simp, Or.inl rfl⟩
            · rw [decide_eq_true c1]; exact jt1 _
            · rw [decide_eq_true c1]; exact jt'
          · obtain ⟨m, rfl⟩ : ∃ m : Nat, n = m := ⟨n.toNat, by omega⟩
            obtain ⟨o1, o2⟩ := outer_is l hg.1 hg.2 m (by omega) (by omega) coin (by omega) (by omega) 0 (Nat.zero_le _) [] rfl
            rw [List.nil_append, Nat.sub_zero] at o1 o2
            refine ⟨(picks l m coin (wsum l) 0 m, true), G.bind hs (G.pos rfl (G.neg n0 (js _ (G.neg c0 ?_)))), G.bind hf (G.pos (by simp; omega) (G.neg n0 (G.neg n1 (G.neg c0 (G.bind s2 ?_))))), by simp [picks_length]; omega, Or.inr ⟨hg.1, hg.2, by omega, by omega, by omega, by omega, by simp⟩⟩
            · rw [decide_eq_false c1]; refine G.succ ?_; simp only [spec_PickCloud.j1]; exact G.neg (by simp) o1
            · rw [decide_eq_false c1]; refine G.succ ?_; simp only [impl_PickCloud.j0]; exact G.neg (by simp) (G.bind s2 o2)
theorem FnExactPickCloud (l : List S48) (n coin : Int) {P Q R : Prop} (ok : l.length ≤ 9223372036854775807 ∧ P) (ok1 : Q) (ok2 : R) : ∃ k, laws_FnExactPickCloud.f k l n coin = some true := by
  refine Ev.rounds ?_
  simp only [laws_FnExactPickCloud.f]
  by_cases hl : l.length ≤ 1048576
  · rw [laws_szMoteS_le l _ (by omega) (by omega) (by omega)]
    have ht := laws_toMoteS_ev l hl
    have hl' : (l.map laws_toMoteS_cv).length ≤ 1048576 := by simpa using hl
    generalize l.map laws_toMoteS_cv = m at ht hl'
    obtain ⟨⟨o, b⟩, h1, h2, h3, _⟩ := pick_is m n coin hl'
    have h3' : o.length ≤ 60 := h3
    have ho := laws_eqMoteS_refl o (by omega)
    have hm := laws_eqMoteS_refl m hl'
    have hmk := laws_markMoteS_ev o 1 (by omega) (by omega) (by omega)
    have hh := laws_heldMoteS_ev 1 o.length (by omega) (by omega) (by omega)
    have hmk1 := laws_markMoteS_ev m 1 (by omega) (by omega) hl'
    refine G.bind0 rfl (G.neg (by omega) (G.bind ht (G.bind h1 (G.bind ht (G.bind h2 (G.bind ho (G.pos rfl ?_)))))))
    simp only [bne_self_eq_false]
    refine G.succ ?_
    simp only [laws_FnExactPickCloud.j0]
    refine G.neg (by simp) (G.bind ht (G.bind hm (G.pos rfl (G.bind hmk1 (G.neg (by omega) (G.bind ho (G.pos rfl ?_)))))))
    simp only [bne_self_eq_false]
    refine G.succ ?_
    simp only [laws_FnExactPickCloud.j1]
    refine G.neg (by simp) (G.bind hmk (G.bind hh (G.neg (by omega) (G.pos rfl (G.bind ht (G.bind h2 (G.bind ho (G.pos rfl ?_))))))))
    simp only [bne_self_eq_false]
    refine G.succ ?_
    simp only [laws_FnExactPickCloud.j2]
    exact G.neg (by simp) (G.bind hh (G.neg (by omega) (G.pos rfl (G.now fun _ => rfl))))
  · rw [laws_szMoteS_gt l _ (by omega) (by omega) ok.1 (by omega)]
    exact G.bind0 rfl (G.pos (by omega) (G.now fun _ => rfl))

end Go.Proofs.Yteinhgiongoplaa.Pure
