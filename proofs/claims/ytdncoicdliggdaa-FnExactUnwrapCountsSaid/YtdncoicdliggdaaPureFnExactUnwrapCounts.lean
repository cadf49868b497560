/- For all arguments the printed law ExactUnwrapCounts answers true: plain lists and numbers, no memory. Conditions: none beyond what the program's own guards ask. -/
import Derived.Test.YtdncoicdliggdaaPFnExactUnwrapCountsx3
import Derived.Test.YtdncoicdliggdaaG
namespace Go.Proofs.Ytdncoicdliggdaa.Pure
open Go.RowKit Go.Proofs.Ytdncoicdliggdaa.PFnExactUnwrapCounts Go.Proofs.YtdncoicdliggdaaW.PrintWords Go.Proofs.YtdncoicdliggdaaW.PrintLast
set_option linter.unusedVariables false
set_option linter.unusedSimpArgs false

theorem laws_eqIntS_refl (l : List Int) (hl : l.length ≤ 1048576) : Ev (fun k => laws_eqIntS.f k l l) true := by
  unfold laws_eqIntS.f
  refine G.pos rfl (G.true_loop (F := fun k i => laws_eqIntS.l0 k l l i) l.length ?_ ?_)
  · intro k; simp only [laws_eqIntS.l0]; rw [if_neg (by omega)]
  · intro k i h
    simp only [laws_eqIntS.l0]
    rw [if_pos (by omega), if_pos (by omega), if_pos (by omega), if_pos trivial, G.w64 _ (by omega)]

theorem laws_heldIntS_ev (m : Int) (n : Nat) (h0 : 0 ≤ m) (h1 : m ≤ 4194304) (hl : n ≤ 1048576) : Ev (fun k => laws_heldIntS.f k (G.marks id m 1 n) m) (m + n) := by
  simp only [laws_heldIntS.f]
  have h := G.held_loop m 1 n (fun k m' i => laws_heldIntS.l0 k (G.marks id m 1 n) m' i) ?_ ?_
  · simpa using h
  · intro k m'; simp only [laws_heldIntS.l0]; rw [if_neg (by rw [G.marks_length]; omega)]
  · intro k i h
    simp only [laws_heldIntS.l0]
    rw [if_pos (by rw [G.marks_length]; omega), if_pos (by omega), G.rd_nat (by rw [G.marks_length]; omega), G.marks_get, if_pos (by simp), G.w64 _ (by omega), G.w64' (by omega) (by omega)]
    congr 1
    omega

theorem laws_markIntS_ev (l : List Int) (m : Int) (h0 : 0 ≤ m) (h1 : m ≤ 4194304) (hl : l.length ≤ 1048576) : Ev (fun k => laws_markIntS.f k l m) (m + l.length, G.marks id m 1 l.length) := by
  simp only [laws_markIntS.f]
  have h := G.mark_loop id m 1 l.length (fun k l m i => laws_markIntS.l0 k l m i) ?_ ?_ l rfl
  · simpa using h
  · intro k l' m hl'; simp only [laws_markIntS.l0]; rw [if_neg (by omega)]
  · intro k l' i h hl'
    simp only [laws_markIntS.l0]
    rw [if_pos (by omega), if_pos (by omega), G.w64 _ (by omega), G.w64' (by omega) (by omega)]
    simp only [Int.toNat_natCast, id]
    congr 1
    omega

theorem laws_toIntS_ev (l : List Int) (hl : l.length ≤ 1048576) : Ev (fun k => laws_toIntS.f k l) l := by
  simp only [laws_toIntS.f]
  refine G.pos (by omega) (G.pos (by omega) ?_)
  have h := G.to_loop (fun k out i => laws_toIntS.l0 k l out i) l id ?_ ?_ 0 (Nat.zero_le _) (List.replicate l.length 0) (by simp) (by simp)
  · simpa using h
  · intro k out; simp only [laws_toIntS.l0]; rw [if_neg (by omega)]
  · intro k out i h ho
    simp only [laws_toIntS.l0]
    rw [if_pos (by omega), if_pos (by omega), if_pos (by omega), G.w64 _ (by omega), G.rd_nat h]
    simp

theorem mod_is (x n : Int) (hn : 0 < n) (hn' : n ≤ 1000000) (hx : -1000000000000 ≤ x) (hx' : x ≤ 1000000000000) : spec_l8Mod.f x n = some (x % n) ∧ impl_wrap.f x n = some (x % n) := by
  have hm1 := Int.tmod_lt_of_pos x hn
  have hm0 : -n < Int.tmod x n := by
    have := Int.tmod_lt_of_pos (-x) hn
    rw [Int.neg_tmod] at this
    omega
  have he := Int.emod_nonneg x (show n ≠ 0 by omega)
  have he' := Int.emod_lt_of_pos x hn
  have hd := Int.emod_add_mul_ediv x n
  have ht := Int.tmod_add_mul_tdiv x n
  have key : Int.tmod x n = if Int.tmod x n < 0 then x % n - n else x % n := by
    have h1 : (Int.tmod x n) % n = x % n := by
      have e : x % n = (Int.tmod x n + n * Int.tdiv x n) % n := by rw [ht]
      rw [e, Int.add_mul_emod_self_left]
    split
    · rw [← h1, ← Int.add_mul_emod_self_left (Int.tmod x n) n 1, Int.mul_one, Int.emod_eq_of_lt (by omega) (by omega)]; omega
    · rw [← h1, Int.emod_eq_of_lt (by omega) (by omega)]
  unfold spec_l8Mod.f impl_wrap.f
  rw [if_neg (show ¬ n = 0 by omega), if_neg (show ¬ n = 0 by omega), G.w64' (i := Int.tmod x n + n) (by omega) (by omega)]
  by_cases h : Int.tmod x n < 0
  · rw [if_pos h] at key
    rw [if_pos h]
    refine ⟨by congr 1; omega, ?_⟩
    rw [Int.tmod_eq_of_lt (by omega) (by omega)]; congr 1; omega
  · rw [if_neg h] at key
    rw [if_neg h]
    refine ⟨by congr 1, ?_⟩
    rw [Int.tmod_eq_emod_of_nonneg (by omega), key, Int.add_emod_right, Int.emod_emod_of_dvd _ (Int.dvd_refl n)]
theorem loops_is (l : List Int) (n : Int) (hn : 2 ≤ n) (hn' : n ≤ 1000000) (hl : l.length ≤ 60) : ∀ i, i ≤ l.length → ∀ out : List Int, out.length = i →
    (∀ v, out[i - 1]? = some v → 0 < i → ∃ p c, l[i - 1]? = some p ∧ v = p + n * c ∧ -(n * i) ≤ v ∧ v ≤ n * i ∧ 0 ≤ p ∧ p < n) →
    ∃ r, Ev (fun k => spec_UnwrapCounts.l0 k l n out l l.length (i : Int)) r ∧ Ev (fun k => impl_UnwrapCounts.l0 k n out l l.length (i : Int)) r ∧ r.1.length ≤ 60 := by
  refine G.down_ind l.length (fun i => ∀ out : List Int, out.length = i → (∀ v, out[i - 1]? = some v → 0 < i → ∃ p c, l[i - 1]? = some p ∧ v = p + n * c ∧ -(n * i) ≤ v ∧ v ≤ n * i ∧ 0 ≤ p ∧ p < n) → ∃ r, Ev (fun k => spec_UnwrapCounts.l0 k l n out l l.length (i : Int)) r ∧ Ev (fun k => impl_UnwrapCounts.l0 k n out l l.length (i : Int)) r ∧ r.1.length ≤ 60) ?_ ?_
  · intro out ho _
    refine ⟨(out, true), G.succ (G.now fun k => ?_), G.succ (G.now fun k => ?_), by simp; omega⟩
    · simp only [spec_UnwrapCounts.l0]; rw [if_neg (by omega)]
    · simp only [impl_UnwrapCounts.l0]; rw [if_neg (by omega)]
  · intro i hi ih out ho hv
    have fin : ∀ b : Bool, ∃ r, (r.1.length ≤ 60) ∧ Ev (fun k => spec_UnwrapCounts.j2 k l n out i l[i] l l.length i true) r ∧ Ev (fun k => impl_UnwrapCounts.j2 k n out i l[i] l l.length i true) r := fun _ =>
      ⟨([], false), by simp, G.succ (G.now fun k => by simp [spec_UnwrapCounts.j2]), G.succ (G.now fun k => by simp [impl_UnwrapCounts.j2])⟩
    have go : 0 ≤ l[i] → l[i] < n → ∃ r, (r.1.length ≤ 60) ∧ Ev (fun k => spec_UnwrapCounts.j2 k l n out i l[i] l l.length i false) r ∧ Ev (fun k => impl_UnwrapCounts.j2 k n out i l[i] l l.length i false) r := by
      intro g0 g1
      by_cases h0 : i = 0
      · subst h0
        obtain ⟨r, h1, h2, h3⟩ := ih (out ++ [l[0]]) (by simp [ho]) (fun v hv' _ => ⟨l[0], 0, by simp [List.getElem?_eq_getElem hi], by
          have : out = [] := List.length_eq_zero_iff.1 ho
          subst this
          simp at hv'
          rw [← hv']; simp, by
          have : out = [] := List.length_eq_zero_iff.1 ho
          subst this
          simp at hv'
          rw [← hv']; simp; omega, by
          have : out = [] := List.length_eq_zero_iff.1 ho
          subst this
          simp at hv'
          rw [← hv']; simp; omega, g0, g1⟩)
        refine ⟨r, h3, G.succ ?_, G.succ ?_⟩
        · simp only [spec_UnwrapCounts.j2]
          refine G.neg (by simp) (G.pos (by simp) (G.pos (by omega) ?_))
          rw [G.w64 _ (by omega)]; exact h1
        · simp only [impl_UnwrapCounts.j2]
          refine G.neg (by simp) (G.pos (by simp) (G.pos (by omega) ?_))
          rw [G.w64 _ (by omega)]; exact h2
      · have hout : out[i - 1]? = some out[i - 1] := List.getElem?_eq_getElem (by omega)
        obtain ⟨p, c, hp, hvc, hb0, hb1, hp0, hp1⟩ := hv out[i - 1] hout (by omega)
        have hp' : l[i - 1] = p := by rw [List.getElem?_eq_getElem (by omega)] at hp; exact Option.some.inj hp
        have e1 : wrap64 ((i : Int) - 1) = ((i - 1 : Nat) : Int) := by rw [G.w64' (by omega) (by omega)]; omega
        have hni : n * i ≤ 60000000 := by
          have := Int.mul_le_mul (show n ≤ 1000000 from hn') (show (i : Int) ≤ 60 by omega) (by omega) (by omega); omega
        have hmod : (l[i] - out[i - 1]) % n = (l[i] - p) % n := by
          rw [hvc, show l[i] - (p + n * c) = (l[i] - p) + n * (-c) by rw [Int.mul_neg]; omega, Int.add_mul_emod_self_left]
        obtain ⟨m1, _⟩ := mod_is (l[i] - p) n (by omega) hn' (by omega) (by omega)
        obtain ⟨_, m2⟩ := mod_is (l[i] - out[i - 1]) n (by omega) hn' (by omega) (by omega)
        rw [hmod] at m2
        have t0 := Int.emod_nonneg (l[i] - p) (show n ≠ 0 by omega)
        have t1 := Int.emod_lt_of_pos (l[i] - p) (show 0 < n by omega)
        have td := Int.emod_add_mul_ediv (l[i] - p) n
        generalize (l[i] - p) % n = t at m1 m2 t0 t1 td
        generalize (l[i] - p) / n = q at td
        have next : ∀ o : Int, (∃ c', o = l[i] + n * c') → -(n * (i + 1 : Nat)) ≤ o → o ≤ n * (i + 1 : Nat) → ∃ r, Ev (fun k => spec_UnwrapCounts.l0 k l n (out ++ [o]) l l.length ((i + 1 : Nat) : Int)) r ∧ Ev (fun k => impl_UnwrapCounts.l0 k n (out ++ [o]) l l.length ((i + 1 : Nat) : Int)) r ∧ r.1.length ≤ 60 := by
          intro o ⟨c', hc'⟩ ho0 ho1
          refine ih (out ++ [o]) (by simp [ho]) (fun v hv' _ => ?_)
          have : v = o := by
            simp only [Nat.add_sub_cancel] at hv'
            rw [List.getElem?_append_right (by omega), ho] at hv'
            simp at hv'; exact hv'.symm
          subst this
          exact ⟨l[i], c', by simp [List.getElem?_eq_getElem hi], hc', ho0, ho1, g0, g1⟩
        have en : n * ((i + 1 : Nat) : Int) = n * i + n := by rw [Int.natCast_add, Int.mul_add]; simp
        have ec (x : Int) : n * (c + x) = n * c + n * x := Int.mul_add ..
        rcases Int.lt_or_le n (2 * t) with hb | hb
        · obtain ⟨r, h1, h2, h3⟩ := next (out[i - 1] + (t - n)) ⟨c + (-q - 1), by rw [ec, show n * (-q - 1) = -(n * q) - n by rw [Int.mul_sub, Int.mul_neg]; omega]; omega⟩ (by rw [en]; omega) (by rw [en]; omega)
          refine ⟨r, h3, G.succ ?_, G.succ ?_⟩
          · simp only [spec_UnwrapCounts.j2, e1]
            refine G.neg (by simp) (G.neg (by omega) (G.pos (by omega) (G.pos (by omega) ?_)))
            rw [G.rd_nat (l := l) (by omega), hp', G.w64' (i := l[i] - p) (by omega) (by omega)]
            refine G.bind0 m1 (G.pos (by rw [G.w64' (by omega) (by omega)]; exact hb) (G.pos (by omega) (G.pos (by omega) ?_)))
            rw [G.rd_nat (l := out) (by omega), G.w64' (i := t - n) (by omega) (by omega), G.w64' (i := out[i - 1] + (t - n)) (by omega) (by omega), G.w64 _ (by omega)]; exact h1
          · simp only [impl_UnwrapCounts.j2, e1]
            refine G.neg (by simp) (G.neg (by omega) (G.pos (by omega) (G.pos (by omega) ?_)))
            rw [G.rd_nat (l := out) (by omega), G.w64' (i := l[i] - out[i - 1]) (by omega) (by omega)]
            refine G.bind0 m2 (G.pos (by rw [G.w64' (by omega) (by omega)]; exact hb) (G.pos (by omega) ?_))
            rw [G.w64' (i := t - n) (by omega) (by omega), G.w64' (i := out[i - 1] + (t - n)) (by omega) (by omega), G.w64 _ (by omega)]; exact h2
        · obtain ⟨r, h1, h2, h3⟩ := next (out[i - 1] + t) ⟨c + (-q), by rw [ec, Int.mul_neg]; omega⟩ (by rw [en]; omega) (by rw [en]; omega)
          refine ⟨r, h3, G.succ ?_, G.succ ?_⟩
          · simp only [spec_UnwrapCounts.j2, e1]
            refine G.neg (by simp) (G.neg (by omega) (G.pos (by omega) (G.pos (by omega) ?_)))
            rw [G.rd_nat (l := l) (by omega), hp', G.w64' (i := l[i] - p) (by omega) (by omega)]
            refine G.bind0 m1 (G.neg (by rw [G.w64' (by omega) (by omega)]; omega) (G.pos (by omega) (G.pos (by omega) ?_)))
            rw [G.rd_nat (l := out) (by omega), G.w64' (i := out[i - 1] + t) (by omega) (by omega), G.w64 _ (by omega)]; exact h1
          · simp only [impl_UnwrapCounts.j2, e1]
            refine G.neg (by simp) (G.neg (by omega) (G.pos (by omega) (G.pos (by omega) ?_)))
            rw [G.rd_nat (l := out) (by omega), G.w64' (i := l[i] - out[i - 1]) (by omega) (by omega)]
            refine G.bind0 m2 (G.neg (by rw [G.w64' (by omega) (by omega)]; omega) (G.pos (by omega) ?_))
            rw [G.w64' (i := out[i - 1] + t) (by omega) (by omega), G.w64 _ (by omega)]; exact h2
    by_cases g0 : l[i] < 0
    · obtain ⟨r, h3, h1, h2⟩ := fin true
      refine ⟨r, G.succ ?_, G.succ ?_, h3⟩
      · simp only [spec_UnwrapCounts.l0]
        refine G.pos (by omega) (G.pos (by omega) (G.pos (by omega) ?_)); rw [G.rd_nat hi]; exact G.pos g0 h1
      · simp only [impl_UnwrapCounts.l0]
        refine G.pos (by omega) (G.pos (by omega) (G.pos (by omega) ?_)); rw [G.rd_nat hi]; exact G.pos g0 h2
    · by_cases g1 : l[i] < n
      · obtain ⟨r, h3, h1, h2⟩ := go (by omega) g1
        refine ⟨r, G.succ ?_, G.succ ?_, h3⟩
        · simp only [spec_UnwrapCounts.l0]
          refine G.pos (by omega) (G.pos (by omega) (G.pos (by omega) ?_)); rw [G.rd_nat hi]; refine G.neg g0 ?_; rw [decide_eq_false (by omega)]; exact h1
        · simp only [impl_UnwrapCounts.l0]
          refine G.pos (by omega) (G.pos (by omega) (G.pos (by omega) ?_)); rw [G.rd_nat hi]; refine G.neg g0 ?_; rw [decide_eq_false (by omega)]; exact h2
      · obtain ⟨r, h3, h1, h2⟩ := fin true
        refine ⟨r, G.succ ?_, G.succ ?_, h3⟩
        · simp only [spec_UnwrapCounts.l0]
          refine G.pos (by omega) (G.pos (by omega) (G.pos (by omega) ?_)); rw [G.rd_nat hi]; refine G.neg g0 ?_; rw [decide_eq_true (by omega)]; exact h1
        · simp only [impl_UnwrapCounts.l0]
          refine G.pos (by omega) (G.pos (by omega) (G.pos (by omega) ?_)); rw [G.rd_nat hi]; refine G.neg g0 ?_; rw [decide_eq_true (by omega)]; exact h2
theorem unwrap_is (l : List Int) (n : Int) (hl : l.length ≤ 1048576) : ∃ r, Ev (fun k => spec_UnwrapCounts.f k l n) r ∧ Ev (fun k => impl_UnwrapCounts.f k l n) r ∧ r.1.length ≤ 60 := by
  have js : Ev (fun k => spec_UnwrapCounts.j0 k l n true) ([], false) := G.succ (G.now fun k => by simp [spec_UnwrapCounts.j0])
  have ji : Ev (fun k => impl_UnwrapCounts.j0 k l n true) ([], false) := G.succ (G.now fun k => by simp [impl_UnwrapCounts.j0])
  have hs : spec_l8Size.f n = some (decide (2 ≤ n ∧ n ≤ 1000000)) := by
    simp only [spec_l8Size.f, G.nest]; congr 1; simp
  have hg : impl_goodSize.f n = some (decide (2 ≤ n ∧ n ≤ 1000000)) := hs
  simp only [spec_UnwrapCounts.f, impl_UnwrapCounts.f]
  by_cases h1 : (l.length : Int) < 1
  · refine ⟨([], false), G.bind0 hs (G.ite (fun _ => G.pos h1 js) (fun _ => js)), G.pos h1 ji, by simp⟩
  · by_cases h2 : (l.length : Int) > 60
    · refine ⟨([], false), G.bind0 hs (G.ite (fun _ => G.neg h1 ?_) (fun _ => js)), G.neg h1 (G.pos h2 ji), by simp⟩
      rw [decide_eq_true h2]; exact js
    · by_cases hn : 2 ≤ n ∧ n ≤ 1000000
      · obtain ⟨r, e1, e2, e3⟩ := loops_is l n hn.1 hn.2 (by omega) 0 (Nat.zero_le _) [] rfl (fun v _ h => absurd h (Nat.lt_irrefl 0))
        refine ⟨r, G.bind0 hs (G.pos (by simp [hn]) (G.neg h1 ?_)), G.neg h1 (G.neg h2 (G.bind0 hg ?_)), e3⟩
        · rw [decide_eq_false h2]; refine G.succ ?_
          simp only [spec_UnwrapCounts.j0]; exact G.neg (by simp) e1
        · rw [decide_eq_true hn]; refine G.succ ?_
          simp only [impl_UnwrapCounts.j0]; exact G.neg (by simp) e2
      · refine ⟨([], false), G.bind0 hs (G.neg (by simp [hn]) js), G.neg h1 (G.neg h2 (G.bind0 hg ?_)), by simp⟩
        rw [decide_eq_false hn]; exact ji
theorem FnExactUnwrapCounts : laws_FnExactUnwrapCounts.Pure := by
  intro l n _ hm _ _
  refine Ev.rounds ?_
  simp only [laws_FnExactUnwrapCounts.f]
  refine G.ite (fun _ => G.now fun _ => rfl) (fun hl => ?_)
  have hl' : l.length ≤ 1048576 := by omega
  obtain ⟨⟨o, b⟩, h1, h2, h3⟩ := unwrap_is l n hl'
  have h3' : o.length ≤ 60 := h3
  have ht := laws_toIntS_ev l hl'
  have ho := laws_eqIntS_refl o (by omega)
  have hmk := laws_markIntS_ev o 1 (by omega) (by omega) (by omega)
  have hh := laws_heldIntS_ev 1 o.length (by omega) (by omega) (by omega)
  refine G.bind ht (G.bind h1 (G.bind ht (G.bind h2 (G.bind ho (G.pos rfl ?_)))))
  simp only [bne_self_eq_false]
  refine G.succ ?_
  simp only [laws_FnExactUnwrapCounts.j0]
  refine G.neg (by simp) (G.bind ht (G.bind (laws_eqIntS_refl l hl') (G.pos rfl (G.bind (laws_markIntS_ev l 1 (by omega) (by omega) hl') (G.neg (by omega) (G.bind ho (G.pos rfl ?_)))))))
  simp only [bne_self_eq_false]
  refine G.succ ?_
  simp only [laws_FnExactUnwrapCounts.j1]
  refine G.neg (by simp) (G.bind hmk (G.bind hh (G.neg (by omega) (G.pos rfl (G.bind ht (G.bind h2 (G.bind ho (G.pos rfl ?_))))))))
  simp only [bne_self_eq_false]
  refine G.succ ?_
  simp only [laws_FnExactUnwrapCounts.j2]
  exact G.neg (by simp) (G.bind hh (G.neg (by omega) (G.pos rfl (G.now fun _ => rfl))))

end Go.Proofs.Ytdncoicdliggdaa.Pure
