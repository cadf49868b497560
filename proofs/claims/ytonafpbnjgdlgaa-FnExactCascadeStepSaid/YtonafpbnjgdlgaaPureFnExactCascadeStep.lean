/- For all arguments the printed law ExactCascadeStep answers true: plain lists and numbers, no memory. Conditions: none beyond what the program's own guards ask. -/
import Derived.Test.YtonafpbnjgdlgaaRFnExactCascadeStepx7
import Derived.Test.YtonafpbnjgdlgaaG
namespace Go.Proofs.Ytonafpbnjgdlgaa.Pure
open Go.RowKit Go.Proofs.Ytonafpbnjgdlgaa.PFnExactCascadeStep Go.Proofs.YtonafpbnjgdlgaaW.PrintWords Go.Proofs.YtonafpbnjgdlgaaW.PrintLast
set_option linter.unusedVariables false
set_option linter.unusedSimpArgs false


/-- A loop's numbers are as said. -/
def GL (p i d s m w sl : Int) : Prop := 0 ≤ p ∧ p ≤ 1000 ∧ 0 ≤ i ∧ i ≤ 1000 ∧ 0 ≤ d ∧ d ≤ 1000 ∧ 1 ≤ s ∧ s ≤ 1000 ∧ 1 ≤ m ∧ m ≤ 1000000 ∧ 0 ≤ w ∧ w ≤ 1000000 ∧ 0 ≤ sl ∧ sl ≤ 1000000
instance (p i d s m w sl : Int) : Decidable (GL p i d s m w sl) := by unfold GL; infer_instance
theorem goodloop_spec (p i d s m w sl : Int) : spec_GoodLoop.f p i d s m w sl = some (decide (GL p i d s m w sl)) := by
  simp only [spec_GoodLoop.f, G.nest]
  congr 1
  rw [Bool.eq_iff_iff]
  simp only [Bool.and_eq_true, decide_eq_true_eq]
  exact Iff.rfl
theorem goodloop_impl (p i d s m w sl : Int) : impl_GoodLoop.f p i d s m w sl = some (decide (GL p i d s m w sl)) := by
  rw [← goodloop_spec]
  simp only [spec_GoodLoop.f, impl_GoodLoop.f, impl_between.f, G.nest, Option.bind_some]
  simp [Bool.and_assoc]
theorem bdec {c : Prop} [Decidable c] {b : Bool} (h : b = true ↔ c) : b = decide c := by
  by_cases hc : c
  · rw [decide_eq_true hc]; exact h.2 hc
  · rw [decide_eq_false hc]; cases b
    · rfl
    · exact absurd (h.1 rfl) hc
theorem within_is (a b : Int) (h : 0 ≤ b) (h' : b ≤ 9000000) : impl_within.f a b = some (decide (-b ≤ a ∧ a ≤ b)) := by
  unfold impl_within.f
  rw [G.wneg (by omega) (by omega), G.nest]; congr 1; simp
theorem in_is (a b : Int) (h : 0 ≤ b) (h' : b ≤ 9000000) : spec_l13In.f a b = some (decide (-b ≤ a ∧ a ≤ b)) := within_is a b h h'
theorem value_is (a : Int) : spec_l13Value.f a = some (decide (-1000000 ≤ a ∧ a ≤ 1000000)) := by
  unfold spec_l13Value.f; rw [in_is a 1000000 (by omega) (by omega)]; rfl
/-- A loop and its hold are as said. -/
def GH (p i d s m w sl : Int) (on : Bool) (sum last out : Int) : Prop := GL p i d s m w sl ∧ -w ≤ sum ∧ sum ≤ w ∧ -m ≤ out ∧ out ≤ m ∧ -2000000 ≤ last ∧ last ≤ 2000000 ∧ (on = true ∨ sum = 0 ∧ out = 0 ∧ last = 0)
instance (p i d s m w sl : Int) (on : Bool) (sum last out : Int) : Decidable (GH p i d s m w sl on sum last out) := by unfold GH; infer_instance
theorem goodhold_is (p i d s m w sl : Int) (on : Bool) (sum last out : Int) : spec_GoodHold.f p i d s m w sl on sum last out = some (decide (GH p i d s m w sl on sum last out)) ∧ impl_GoodHold.f p i d s m w sl on sum last out = some (decide (GH p i d s m w sl on sum last out)) := by
  unfold spec_GoodHold.f impl_GoodHold.f
  rw [goodloop_spec, goodloop_impl]
  simp only [Option.bind_some]
  by_cases hl : GL p i d s m w sl
  · have hl' := hl
    obtain ⟨_, _, _, _, _, _, _, _, m0, m1, w0, w1, _, _⟩ := hl'
    rw [in_is sum w w0 (by omega), in_is out m (by omega) (by omega), in_is last 2000000 (by omega) (by omega), within_is sum w w0 (by omega), within_is out m (by omega) (by omega), within_is last 2000000 (by omega) (by omega)]
    simp only [Option.bind_some, decide_eq_true_eq, if_pos hl]
    by_cases h1 : -w ≤ sum ∧ sum ≤ w
    · rw [if_pos h1, if_pos h1]
      by_cases h2 : -m ≤ out ∧ out ≤ m
      · rw [if_pos h2, if_pos h2]
        by_cases h3 : -2000000 ≤ last ∧ last ≤ 2000000
        · rw [if_pos h3, if_pos h3]
          cases on
          · by_cases e1 : sum = 0 <;> by_cases e2 : out = 0 <;> by_cases e3 : last = 0 <;> simp [GH, hl, h1, h2, h3, e1, e2, e3] <;> omega
          · simp [GH, hl, h1, h2, h3]
        · rw [if_neg h3, if_neg h3, decide_eq_false (fun h => h3 ⟨h.2.2.2.2.2.1, h.2.2.2.2.2.2.1⟩)]; exact ⟨rfl, rfl⟩
      · rw [if_neg h2, if_neg h2, decide_eq_false (fun h => h2 ⟨h.2.2.2.1, h.2.2.2.2.1⟩)]; exact ⟨rfl, rfl⟩
    · rw [if_neg h1, if_neg h1, decide_eq_false (fun h => h1 ⟨h.2.1, h.2.2.1⟩)]; exact ⟨rfl, rfl⟩
  · rw [decide_eq_false hl, decide_eq_false (fun h : GH p i d s m w sl on sum last out => hl h.1)]; exact ⟨rfl, rfl⟩
/-- Cut to what lies between. -/
def cutv (n lo hi : Int) : Int := if n < lo then lo else if n > hi then hi else n
theorem cut_spec (n lo hi : Int) : spec_l13Cut.f n lo hi = some (cutv n lo hi) := by
  unfold spec_l13Cut.f cutv; split
  · rfl
  · split <;> rfl
theorem cut_impl (n lo hi : Int) (h : lo ≤ hi) : impl_cut.f n lo hi = some (cutv n lo hi) := by
  unfold impl_cut.f cutv mn mx; congr 1
  repeat' split
  all_goals omega
theorem cutv_bd (n lo hi : Int) (h : lo ≤ hi) : lo ≤ cutv n lo hi ∧ cutv n lo hi ≤ hi := by unfold cutv; split <;> (try split) <;> omega
theorem down_is (a b : Int) (h0 : 1 ≤ b) (h1 : b ≤ 1000000) (ha : -1000000000000 ≤ a) (ha' : a ≤ 1000000000000) : spec_l13Down.f a b = some (a / b) ∧ impl_down.f a b = some (a / b) := by
  have e : impl_down.f a b = spec_l13Down.f a b := rfl
  rw [e]
  have key : spec_l13Down.f a b = some (a / b) := by
    have hm1 := Int.tmod_lt_of_pos a (show 0 < b by omega)
    have hm0 : -b < Int.tmod a b := by
      have := Int.tmod_lt_of_pos (-a) (show 0 < b by omega)
      rw [Int.neg_tmod] at this
      omega
    have ht := Int.tmod_add_mul_tdiv a b
    have hd := Int.emod_add_mul_ediv a b
    have h2 := Int.emod_nonneg a (show b ≠ 0 by omega)
    have h3 := Int.emod_lt_of_pos a (show 0 < b by omega)
    have hq : Int.tdiv a b = if Int.tmod a b < 0 then a / b + 1 else a / b := by
      have h4 : b * (Int.tdiv a b - a / b) = a % b - Int.tmod a b := by rw [Int.mul_sub]; omega
      split
      · have : Int.tdiv a b - a / b = 1 := by
          have l0 : 0 < b * (Int.tdiv a b - a / b) := by omega
          have l1 : b * (Int.tdiv a b - a / b) < b * 2 := by omega
          have := Int.lt_of_mul_lt_mul_left l1 (by omega)
          have l2 : b * 0 < b * (Int.tdiv a b - a / b) := by omega
          have := Int.lt_of_mul_lt_mul_left l2 (by omega)
          omega
        omega
      · have : Int.tdiv a b - a / b = 0 := by
          have l0 : b * (-1) < b * (Int.tdiv a b - a / b) := by omega
          have l1 : b * (Int.tdiv a b - a / b) < b * 1 := by omega
          have := Int.lt_of_mul_lt_mul_left l1 (by omega)
          have := Int.lt_of_mul_lt_mul_left l0 (by omega)
          omega
        omega
    have hb : -1000000000000 ≤ a / b ∧ a / b ≤ 1000000000000 := by
      constructor
      · exact (Int.le_ediv_iff_mul_le (by omega)).2 (by have := Int.mul_le_mul_of_nonneg_left (show (1 : Int) ≤ b by omega) (show (0 : Int) ≤ 1000000000000 by omega); omega)
      · rcases Int.lt_or_le a 0 with h | h
        · have : a / b < 0 := Int.ediv_neg_of_neg_of_pos h (by omega)
          omega
        · have := Int.ediv_le_self b h; omega
    unfold spec_l13Down.f
    rw [if_neg (by omega)]
    by_cases h : Int.tmod a b < 0
    · rw [if_pos h] at hq
      rw [if_pos h, hq, G.w64' (i := a / b + 1) (by omega) (by omega), G.w64' (by omega) (by omega)]; congr 1; omega
    · rw [if_neg h] at hq
      rw [if_neg h, hq, G.w64' (by omega) (by omega)]
  exact ⟨key, key⟩
/-- What a step of a good loop tells: the new sum, the miss, the output. -/
def rawv (p i d s w : Int) (on : Bool) (sum last e : Int) : Int := (p * e + i * cutv (sum + e) (-w) w + d * (if on = true then e - last else 0)) / s
def sumv (p i d s m w : Int) (on : Bool) (sum last e : Int) : Int := if (rawv p i d s w on sum last e > m ∧ e > 0) ∨ (rawv p i d s w on sum last e < -m ∧ e < 0) then sum else cutv (sum + e) (-w) w
def outv (p i d s m w sl : Int) (on : Bool) (sum last out e : Int) : Int := if on = true ∧ sl > 0 then cutv (cutv (rawv p i d s w on sum last e) (-m) m) (out - sl) (out + sl) else cutv (rawv p i d s w on sum last e) (-m) m
theorem prod_bd (x y B : Int) (h0 : 0 ≤ x) (h1 : x ≤ 1000) (hy : -B ≤ y) (hy' : y ≤ B) (hB : 0 ≤ B) : -(1000 * B) ≤ x * y ∧ x * y ≤ 1000 * B := by
  have a1 : x * y ≤ x * B := Int.mul_le_mul_of_nonneg_left hy' h0
  have a2 : x * B ≤ 1000 * B := Int.mul_le_mul_of_nonneg_right h1 hB
  have a3 : x * (-B) ≤ x * y := Int.mul_le_mul_of_nonneg_left hy h0
  rw [Int.mul_neg] at a3
  omega
theorem step_is (p i d s m w sl : Int) (on : Bool) (sum last out want seen : Int) : ∃ r : Bool × Int × Int × Int × Bool, Ev (fun k => spec_HoldStep.f k p i d s m w sl on sum last out want seen) r ∧ Ev (fun k => impl_HoldStep.f k p i d s m w sl on sum last out want seen) r ∧
    ((r = (false, 0, 0, 0, false) ∧ ¬ (GH p i d s m w sl on sum last out ∧ (-1000000 ≤ want ∧ want ≤ 1000000) ∧ (-1000000 ≤ seen ∧ seen ≤ 1000000))) ∨
     (GH p i d s m w sl on sum last out ∧ (-1000000 ≤ want ∧ want ≤ 1000000) ∧ (-1000000 ≤ seen ∧ seen ≤ 1000000) ∧ r = (true, sumv p i d s m w on sum last (want - seen), want - seen, outv p i d s m w sl on sum last out (want - seen), true))) := by
  obtain ⟨g1, g2⟩ := goodhold_is p i d s m w sl on sum last out
  have jt : Ev (fun k => spec_HoldStep.j0 k want seen true p i d s m w sl on sum last out) (false, 0, 0, 0, false) := G.succ (G.now fun k => by simp [spec_HoldStep.j0])
  have jt' : Ev (fun k => impl_HoldStep.j0 k want seen true p i d s m w sl on sum last out) (false, 0, 0, 0, false) := G.succ (G.now fun k => by simp [impl_HoldStep.j0])
  simp only [spec_HoldStep.f, impl_HoldStep.f]
  by_cases hg : GH p i d s m w sl on sum last out
  · rw [decide_eq_true hg] at g1 g2
    by_cases hw : -1000000 ≤ want ∧ want ≤ 1000000
    · have w1 : spec_l13Value.f want = some true := by rw [value_is, decide_eq_true hw]
      have w2 : impl_within.f want 1000000 = some true := by rw [within_is _ _ (by omega) (by omega), decide_eq_true hw]
      by_cases hs : -1000000 ≤ seen ∧ seen ≤ 1000000
      · have s1 : spec_l13Value.f seen = some true := by rw [value_is, decide_eq_true hs]
        have s2 : impl_within.f seen 1000000 = some true := by rw [within_is _ _ (by omega) (by omega), decide_eq_true hs]
        refine ⟨_, G.bind0 g1 (G.pos rfl (G.bind0 w1 (G.pos rfl (G.bind0 s1 ?_)))), G.bind0 g2 (G.pos rfl (G.bind0 w2 (G.pos rfl (G.bind0 s2 ?_)))), Or.inr ⟨hg, hw, hs, rfl⟩⟩
        all_goals
          obtain ⟨⟨p0, p1, i0, i1, d0, d1, sc0, sc1, m0, m1, ww0, ww1, sl0, sl1⟩, h1, h2, h3, h4, h5, h6, h7⟩ := hg
          have hc := cutv_bd (sum + (want - seen)) (-w) w (by omega)
          have b1 := prod_bd p (want - seen) 2000000 p0 p1 (by omega) (by omega) (by omega)
          have b2 := prod_bd i (cutv (sum + (want - seen)) (-w) w) 1000000 i0 i1 (by omega) (by omega) (by omega)
          have eW : wrap64 (want - seen) = want - seen := G.w64' (by omega) (by omega)
          have eN (x : Int) (hx : 0 ≤ x) (hx' : x ≤ 1000000) : wrap64 (-x) = -x := G.wneg (by omega) (by omega)
          have eS : wrap64 (sum + (want - seen)) = sum + (want - seen) := G.w64' (by omega) (by omega)
        · refine G.succ ?_
          simp only [spec_HoldStep.j0, eW]
          refine G.neg (by simp) ?_
          have j1 (dv : Int) (hdv : dv = if on = true then (want - seen) - last else 0) : Ev (fun k => spec_HoldStep.j1 k (want - seen) dv p i d s m w sl on sum last out) (true, sumv p i d s m w on sum last (want - seen), want - seen, outv p i d s m w sl on sum last out (want - seen), true) := by
            have hdb : -4000000 ≤ dv ∧ dv ≤ 4000000 := by rw [hdv]; split <;> omega
            have b3 := prod_bd d dv 4000000 d0 d1 (by omega) (by omega) (by omega)
            have eR : spec_l13Down.f (p * (want - seen) + i * cutv (sum + (want - seen)) (-w) w + d * dv) s = some (rawv p i d s w on sum last (want - seen)) := by
              rw [(down_is _ s (by omega) (by omega) (by omega) (by omega)).1]; unfold rawv; rw [← hdv]
            refine G.succ ?_
            simp only [spec_HoldStep.j1, eS, eN w ww0 ww1, eN m (by omega) m1, cut_spec, Option.bind_some, G.w64' (i := p * (want - seen)) (by omega) (by omega), G.w64' (i := i * cutv (sum + (want - seen)) (-w) w) (by omega) (by omega), G.w64' (i := d * dv) (by omega) (by omega), G.w64' (i := p * (want - seen) + i * cutv (sum + (want - seen)) (-w) w) (by omega) (by omega), G.w64' (i := p * (want - seen) + i * cutv (sum + (want - seen)) (-w) w + d * dv) (by omega) (by omega), eR]
            have j2 (b : Bool) (hb : b = decide ((rawv p i d s w on sum last (want - seen) > m ∧ want - seen > 0) ∨ (rawv p i d s w on sum last (want - seen) < -m ∧ want - seen < 0))) : Ev (fun k => spec_HoldStep.j2 k b p i d s m w sl on sum last out true (cutv (sum + (want - seen)) (-w) w) (want - seen) (cutv (rawv p i d s w on sum last (want - seen)) (-m) m)) (true, sumv p i d s m w on sum last (want - seen), want - seen, outv p i d s m w sl on sum last out (want - seen), true) := by
              have eo : wrap64 (out - sl) = out - sl := G.w64' (by omega) (by omega)
              have eo' : wrap64 (out + sl) = out + sl := G.w64' (by omega) (by omega)
              have hsum : sumv p i d s m w on sum last (want - seen) = if b = true then sum else cutv (sum + (want - seen)) (-w) w := by unfold sumv; rw [hb]; simp
              refine G.succ (G.now fun k => ?_)
              simp only [spec_HoldStep.j2, eo, eo', cut_spec, Option.bind_some, outv, hsum]
              cases b <;> cases on <;> by_cases hsl : sl > 0 <;> simp [hsl]
            generalize rawv p i d s w on sum last (want - seen) = raw at j2 ⊢
            refine G.ite (fun c1 => G.ite (fun c2 => j2 _ (bdec (iff_of_true rfl (by omega)))) (fun c2 => G.ite (fun c3 => j2 _ (bdec (by rw [decide_eq_true_eq]; omega))) (fun c3 => j2 _ (bdec (iff_of_false (by simp) (by omega)))))) (fun c1 => G.ite (fun c3 => j2 _ (bdec (by rw [decide_eq_true_eq]; omega))) (fun c3 => j2 _ (bdec (iff_of_false (by simp) (by omega)))))
          cases on with
          | true =>
            refine G.pos rfl ?_
            rw [G.w64' (i := want - seen - last) (by omega) (by omega)]; exact j1 _ rfl
          | false => exact G.neg (by simp) (j1 _ rfl)
        · refine G.succ ?_
          simp only [impl_HoldStep.j0, eW]
          refine G.neg (by simp) ?_
          have j1 (dv : Int) (hdv : dv = if on = true then (want - seen) - last else 0) : Ev (fun k => impl_HoldStep.j1 k (want - seen) dv p i d s m w sl on sum last out) (true, sumv p i d s m w on sum last (want - seen), want - seen, outv p i d s m w sl on sum last out (want - seen), true) := by
            have hdb : -4000000 ≤ dv ∧ dv ≤ 4000000 := by rw [hdv]; split <;> omega
            have b3 := prod_bd d dv 4000000 d0 d1 (by omega) (by omega) (by omega)
            have eR : impl_down.f (p * (want - seen) + i * cutv (sum + (want - seen)) (-w) w + d * dv) s = some (rawv p i d s w on sum last (want - seen)) := by
              rw [(down_is _ s (by omega) (by omega) (by omega) (by omega)).2]; unfold rawv; rw [← hdv]
            refine G.succ ?_
            simp only [impl_HoldStep.j1, eS, eN w ww0 ww1, eN m (by omega) m1, cut_impl _ (-w) w (by omega), Option.bind_some, G.w64' (i := p * (want - seen)) (by omega) (by omega), G.w64' (i := i * cutv (sum + (want - seen)) (-w) w) (by omega) (by omega), G.w64' (i := d * dv) (by omega) (by omega), G.w64' (i := p * (want - seen) + i * cutv (sum + (want - seen)) (-w) w) (by omega) (by omega), G.w64' (i := p * (want - seen) + i * cutv (sum + (want - seen)) (-w) w + d * dv) (by omega) (by omega), eR]
            have j3 (sv : Int) (hs : sv = sumv p i d s m w on sum last (want - seen)) : Ev (fun k => impl_HoldStep.j3 k (want - seen) sv (rawv p i d s w on sum last (want - seen)) p i d s m w sl on sum last out) (true, sumv p i d s m w on sum last (want - seen), want - seen, outv p i d s m w sl on sum last out (want - seen), true) := by
              have eo : wrap64 (out - sl) = out - sl := G.w64' (by omega) (by omega)
              have eo' : wrap64 (out + sl) = out + sl := G.w64' (by omega) (by omega)
              refine G.succ (G.now fun k => ?_)
              simp only [impl_HoldStep.j3, eN m (by omega) m1, eo, eo', cut_impl _ (-m) m (by omega), cut_impl _ (out - sl) (out + sl) (by omega), Option.bind_some, outv, hs]
              cases on <;> by_cases hsl : sl > 0 <;> simp [hsl]
            have j2 (b : Bool) (hb : b = decide ((rawv p i d s w on sum last (want - seen) > m ∧ want - seen > 0) ∨ (rawv p i d s w on sum last (want - seen) < -m ∧ want - seen < 0))) : Ev (fun k => impl_HoldStep.j2 k (want - seen) (cutv (sum + (want - seen)) (-w) w) (rawv p i d s w on sum last (want - seen)) b p i d s m w sl on sum last out) (true, sumv p i d s m w on sum last (want - seen), want - seen, outv p i d s m w sl on sum last out (want - seen), true) := by
              have hsum : sumv p i d s m w on sum last (want - seen) = if b = true then sum else cutv (sum + (want - seen)) (-w) w := by unfold sumv; rw [hb]; simp
              refine G.succ ?_
              simp only [impl_HoldStep.j2]
              refine G.ite (fun c => j3 _ ?_) (fun c => j3 _ ?_)
              · rw [hsum, if_pos c]
              · rw [hsum, if_neg c]
            generalize rawv p i d s w on sum last (want - seen) = raw at j2 ⊢
            refine G.ite (fun c1 => G.ite (fun c2 => j2 _ (bdec (iff_of_true rfl (by omega)))) (fun c2 => G.ite (fun c3 => j2 _ (bdec (by rw [decide_eq_true_eq]; omega))) (fun c3 => j2 _ (bdec (iff_of_false (by simp) (by omega)))))) (fun c1 => G.ite (fun c3 => j2 _ (bdec (by rw [decide_eq_true_eq]; omega))) (fun c3 => j2 _ (bdec (iff_of_false (by simp) (by omega)))))
          cases on with
          | true =>
            refine G.pos rfl ?_
            rw [G.w64' (i := want - seen - last) (by omega) (by omega)]; exact j1 _ rfl
          | false => exact G.neg (by simp) (j1 _ rfl)
      · have s1 : spec_l13Value.f seen = some false := by rw [value_is, decide_eq_false hs]
        have s2 : impl_within.f seen 1000000 = some false := by rw [within_is _ _ (by omega) (by omega), decide_eq_false hs]
        exact ⟨_, G.bind0 g1 (G.pos rfl (G.bind0 w1 (G.pos rfl (G.bind0 s1 jt)))), G.bind0 g2 (G.pos rfl (G.bind0 w2 (G.pos rfl (G.bind0 s2 jt')))), Or.inl ⟨rfl, fun h => hs h.2.2⟩⟩
    · have w1 : spec_l13Value.f want = some false := by rw [value_is, decide_eq_false hw]
      have w2 : impl_within.f want 1000000 = some false := by rw [within_is _ _ (by omega) (by omega), decide_eq_false hw]
      exact ⟨_, G.bind0 g1 (G.pos rfl (G.bind0 w1 (G.neg (by simp) jt))), G.bind0 g2 (G.pos rfl (G.bind0 w2 (G.neg (by simp) jt'))), Or.inl ⟨rfl, fun h => hw h.2.1⟩⟩
  · rw [decide_eq_false hg] at g1 g2
    exact ⟨_, G.bind0 g1 (G.neg (by simp) jt), G.bind0 g2 (G.neg (by simp) jt'), Or.inl ⟨rfl, fun h => hg h.1⟩⟩
theorem cascade_is (p i d s m w sl p' i' d' s' m' w' sl' : Int) (on : Bool) (sum last out : Int) (on' : Bool) (sum' last' out' want place speed : Int) : ∃ r : Bool × Int × Int × Int × Bool × Int × Int × Int × Bool,
    Ev (fun k => spec_CascadeStep.f k p i d s m w sl p' i' d' s' m' w' sl' on sum last out on' sum' last' out' want place speed) r ∧ Ev (fun k => impl_CascadeStep.f k p i d s m w sl p' i' d' s' m' w' sl' on sum last out on' sum' last' out' want place speed) r := by
  obtain ⟨⟨r0, r1, r2, r3, r4⟩, h1, h2, _⟩ := step_is p i d s m w sl on sum last out want place
  simp only [spec_CascadeStep.f, impl_CascadeStep.f]
  cases r4 with
  | false => exact ⟨_, G.bind h1 (G.neg (by simp) (G.now fun _ => rfl)), G.bind h2 (G.neg (by simp) (G.now fun _ => rfl))⟩
  | true =>
    obtain ⟨⟨q0, q1, q2, q3, q4⟩, g1, g2, _⟩ := step_is p' i' d' s' m' w' sl' on' sum' last' out' r3 speed
    cases q4 with
    | false => exact ⟨_, G.bind h1 (G.pos rfl (G.bind g1 (G.neg (by simp) (G.now fun _ => rfl)))), G.bind h2 (G.pos rfl (G.bind g2 (G.neg (by simp) (G.now fun _ => rfl))))⟩
    | true => exact ⟨_, G.bind h1 (G.pos rfl (G.bind g1 (G.pos rfl (G.now fun _ => rfl)))), G.bind h2 (G.pos rfl (G.bind g2 (G.pos rfl (G.now fun _ => rfl))))⟩
theorem FnExactCascadeStep (p i d s m w sl p' i' d' s' m' w' sl' : Int) (on : Bool) (sum last out : Int) (on' : Bool) (sum' last' out' want place speed : Int) {P0 P1 P2 P3 P4 P5 P6 : Prop} (ok0 : P0) (ok1 : P1) (ok2 : P2) (ok3 : P3) (ok4 : P4) (ok5 : P5) (ok6 : P6) :
    ∃ k, laws_FnExactCascadeStep.f k p i d s m w sl p' i' d' s' m' w' sl' on sum last out on' sum' last' out' want place speed = some true := by
  refine Ev.rounds ?_
  obtain ⟨⟨r0, r1, r2, r3, q0, q1, q2, q3, b⟩, h1, h2⟩ := cascade_is p i d s m w sl p' i' d' s' m' w' sl' on sum last out on' sum' last' out' want place speed
  simp only [laws_FnExactCascadeStep.f, laws_toLoop.f, laws_toHold.f, Option.bind_some]
  have e1 : laws_eqHold.f r0 r1 r2 r3 r0 r1 r2 r3 = some true := by simp [laws_eqHold.f]
  have e2 : laws_eqHold.f q0 q1 q2 q3 q0 q1 q2 q3 = some true := by simp [laws_eqHold.f]
  exact G.bind h1 (G.bind h2 (G.bind0 e1 (G.pos rfl (G.bind0 e2 (G.pos rfl (G.neg (by simp) (G.now fun _ => rfl)))))))

end Go.Proofs.Ytonafpbnjgdlgaa.Pure
