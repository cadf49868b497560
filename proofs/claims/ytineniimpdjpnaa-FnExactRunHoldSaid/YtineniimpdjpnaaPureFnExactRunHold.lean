/- For all arguments the printed law ExactRunHold answers true: plain lists and numbers, no memory. Conditions: none beyond what the program's own guards ask. -/
import Derived.Test.YtineniimpdjpnaaRFnExactRunHoldx9
import Derived.Test.YtineniimpdjpnaaG
namespace Go.Proofs.Ytineniimpdjpnaa.Pure
open Go.RowKit Go.Proofs.Ytineniimpdjpnaa.PFnExactRunHold Go.Proofs.YtineniimpdjpnaaW.PrintWords Go.Proofs.YtineniimpdjpnaaW.PrintLast
set_option linter.unusedVariables false
set_option linter.unusedSimpArgs false

theorem laws_eqIntS_refl (l : List Int) (hl : l.length ≤ 1048576) : Ev (fun k => laws_eqIntS.f k l l) true := by
  unfold laws_eqIntS.f
  refine G.pos rfl (G.true_loop (F := fun k i => laws_eqIntS.l0 k l l i) l.length ?_ ?_)
  · intro k; simp only [laws_eqIntS.l0]; rw [if_neg (by omega)]
  · intro k i h
    simp only [laws_eqIntS.l0]
    rw [if_pos (by omega), if_pos (by omega), if_pos (by omega), if_pos trivial, G.w64 _ (by omega)]

theorem laws_markIntS_ev (l : List Int) (m : Int) (h0 : 0 ≤ m) (h1 : m ≤ 4194304) (hl : l.length ≤ 1048576) : Ev (fun k => laws_markIntS.f k l m) (m + l.length, G.marks id m 1 l.length) := by
  simp only [laws_markIntS.f]
  have h := G.mark_loop id m 1 l.length (fun k l m i => laws_markIntS.l0 k l m i) ?_ ?_ l rfl
  · simpa using h
  · intro k l' m hl'; simp only [laws_markIntS.l0]; rw [if_neg (by omega)]
  · intro k l' i h hl'
    simp only [laws_markIntS.l0]
    rw [if_pos (by omega), if_pos (by omega), G.w64 _ (by omega), G.w64' (by omega) (by omega)]
    simp only [Int.toNat_natCast, id]
    congr 1
    omega

theorem laws_toIntS_ev (l : List Int) (hl : l.length ≤ 1048576) : Ev (fun k => laws_toIntS.f k l) l := by
  simp only [laws_toIntS.f]
  refine G.pos (by omega) (G.pos (by omega) ?_)
  have h := G.to_loop (fun k out i => laws_toIntS.l0 k l out i) l id ?_ ?_ 0 (Nat.zero_le _) (List.replicate l.length 0) (by simp) (by simp)
  · simpa using h
  · intro k out; simp only [laws_toIntS.l0]; rw [if_neg (by omega)]
  · intro k out i h ho
    simp only [laws_toIntS.l0]
    rw [if_pos (by omega), if_pos (by omega), if_pos (by omega), G.w64 _ (by omega), G.rd_nat h]
    simp

theorem laws_heldIntS_ev (m : Int) (n : Nat) (h0 : 0 ≤ m) (h1 : m ≤ 4194304) (hl : n ≤ 1048576) : Ev (fun k => laws_heldIntS.f k (G.marks id m 1 n) m) (m + n) := by
  simp only [laws_heldIntS.f]
  have h := G.held_loop m 1 n (fun k m' i => laws_heldIntS.l0 k (G.marks id m 1 n) m' i) ?_ ?_
  · simpa using h
  · intro k m'; simp only [laws_heldIntS.l0]; rw [if_neg (by rw [G.marks_length]; omega)]
  · intro k i h
    simp only [laws_heldIntS.l0]
    rw [if_pos (by rw [G.marks_length]; omega), if_pos (by omega), G.rd_nat (by rw [G.marks_length]; omega), G.marks_get, if_pos (by simp), G.w64 _ (by omega), G.w64' (by omega) (by omega)]
    congr 1
    omega

/-- A loop's numbers are as said. -/
def GL (p i d s m w sl : Int) : Prop := 0 ≤ p ∧ p ≤ 1000 ∧ 0 ≤ i ∧ i ≤ 1000 ∧ 0 ≤ d ∧ d ≤ 1000 ∧ 1 ≤ s ∧ s ≤ 1000 ∧ 1 ≤ m ∧ m ≤ 1000000 ∧ 0 ≤ w ∧ w ≤ 1000000 ∧ 0 ≤ sl ∧ sl ≤ 1000000
instance (p i d s m w sl : Int) : Decidable (GL p i d s m w sl) := by unfold GL; infer_instance
theorem goodloop_spec (p i d s m w sl : Int) : spec_GoodLoop.f p i d s m w sl = some (decide (GL p i d s m w sl)) := by
  simp only [spec_GoodLoop.f, G.nest]
  congr 1
  rw [Bool.eq_iff_iff]
  simp only [Bool.and_eq_true, decide_eq_true_eq]
  exact Iff.rfl
theorem goodloop_impl (p i d s m w sl : Int) : impl_GoodLoop.f p i d s m w sl = some (decide (GL p i d s m w sl)) := by
  rw [← goodloop_spec]
  simp only [spec_GoodLoop.f, impl_GoodLoop.f, impl_between.f, G.nest, Option.bind_some]
  simp [Bool.and_assoc]
theorem bdec {c : Prop} [Decidable c] {b : Bool} (h : b = true ↔ c) : b = decide c := by
  by_cases hc : c
  · rw [decide_eq_true hc]; exact h.2 hc
  · rw [decide_eq_false hc]; cases b
    · rfl
    · exact absurd (h.1 rfl) hc
theorem within_is (a b : Int) (h : 0 ≤ b) (h' : b ≤ 9000000) : impl_within.f a b = some (decide (-b ≤ a ∧ a ≤ b)) := by
  unfold impl_within.f
  rw [G.wneg (by omega) (by omega), G.nest]; congr 1; simp
theorem in_is (a b : Int) (h : 0 ≤ b) (h' : b ≤ 9000000) : spec_l13In.f a b = some (decide (-b ≤ a ∧ a ≤ b)) := within_is a b h h'
theorem value_is (a : Int) : spec_l13Value.f a = some (decide (-1000000 ≤ a ∧ a ≤ 1000000)) := by
  unfold spec_l13Value.f; rw [in_is a 1000000 (by omega) (by omega)]; rfl
/-- A loop and its hold are as said. -/
def GH (p i d s m w sl : Int) (on : Bool) (sum last out : Int) : Prop := GL p i d s m w sl ∧ -w ≤ sum ∧ sum ≤ w ∧ -m ≤ out ∧ out ≤ m ∧ -2000000 ≤ last ∧ last ≤ 2000000 ∧ (on = true ∨ sum = 0 ∧ out = 0 ∧ last = 0)
instance (p i d s m w sl : Int) (on : Bool) (sum last out : Int) : Decidable (GH p i d s m w sl on sum last out) := by unfold GH; infer_instance
theorem goodhold_is (p i d s m w sl : Int) (on : Bool) (sum last out : Int) : spec_GoodHold.f p i d s m w sl on sum last out = some (decide (GH p i d s m w sl on sum last out)) ∧ impl_GoodHold.f p i d s m w sl on sum last out = some (decide (GH p i d s m w sl on sum last out)) := by
  unfold spec_GoodHold.f impl_GoodHold.f
  rw [goodloop_spec, goodloop_impl]
  simp only [Option.bind_some]
  by_cases hl : GL p i d s m w sl
  · have hl' := hl
    obtain ⟨_, _, _, _, _, _, _, _, m0, m1, w0, w1, _, _⟩ := hl'
    rw [in_is sum w w0 (by omega), in_is out m (by omega) (by omega), in_is last 2000000 (by omega) (by omega), within_is sum w w0 (by omega), within_is out m (by omega) (by omega), within_is last 2000000 (by omega) (by omega)]
    simp only [Option.bind_some, decide_eq_true_eq, if_pos hl]
    by_cases h1 : -w ≤ sum ∧ sum ≤ w
    · rw [if_pos h1, if_pos h1]
      by_cases h2 : -m ≤ out ∧ out ≤ m
      · rw [if_pos h2, if_pos h2]
        by_cases h3 : -2000000 ≤ last ∧ last ≤ 2000000
        · rw [if_pos h3, if_pos h3]
          cases on
          · by_cases e1 : sum = 0 <;> by_cases e2 : out = 0 <;> by_cases e3 : last = 0 <;> simp [GH, hl, h1, h2, h3, e1, e2, e3] <;> omega
          · simp [GH, hl, h1, h2, h3]
        · rw [if_neg h3, if_neg h3, decide_eq_false (fun h => h3 ⟨h.2.2.2.2.2.1, h.2.2.2.2.2.2.1⟩)]; exact ⟨rfl, rfl⟩
      · rw [if_neg h2, if_neg h2, decide_eq_false (fun h => h2 ⟨h.2.2.2.1, h.2.2.2.2.1⟩)]; exact ⟨rfl, rfl⟩
    · rw [if_neg h1, if_neg h1, decide_eq_false (fun h => h1 ⟨h.2.1, h.2.2.1⟩)]; exact ⟨rfl, rfl⟩
  · rw [decide_eq_false hl, decide_eq_false (fun h : GH p i d s m w sl on sum last out => hl h.1)]; exact ⟨rfl, rfl⟩
/-- Cut to what lies between. -/
def cutv (n lo hi : Int) : Int := if n < lo then lo else if n > hi then hi else n
theorem cut_spec (n lo hi : Int) : spec_l13Cut.f n lo hi = some (cutv n lo hi) := by
  unfold spec_l13Cut.f cutv; split
  · rfl
  · split <;> rfl
theorem cut_impl (n lo hi : Int) (h : lo ≤ hi) : impl_cut.f n lo hi = some (cutv n lo hi) := by
  unfold impl_cut.f cutv mn mx; congr 1
  repeat' split
  all_goals omega
theorem cutv_bd (n lo hi : Int) (h : lo ≤ hi) : lo ≤ cutv n lo hi ∧ cutv n lo hi ≤ hi := by unfold cutv; split <;> (try split) <;> omega
theorem down_is (a b : Int) (h0 : 1 ≤ b) (h1 : b ≤ 1000000) (ha : -1000000000000 ≤ a) (ha' : a ≤ 1000000000000) : spec_l13Down.f a b = some (a / b) ∧ impl_down.f a b = some (a / b) := by
  have e : impl_down.f a b = spec_l13Down.f a b := rfl
  rw [e]
  have key : spec_l13Down.f a b = some (a / b) := by
    have hm1 := Int.tmod_lt_of_pos a (show 0 < b by omega)
    have hm0 : -b < Int.tmod a b := by
      have := Int.tmod_lt_of_pos (-a) (show 0 < b by omega)
      rw [Int.neg_tmod] at this
      omega
    have ht := Int.tmod_add_mul_tdiv a b
    have hd := Int.emod_add_mul_ediv a b
    have h2 := Int.emod_nonneg a (show b ≠ 0 by omega)
    have h3 := Int.emod_lt_of_pos a (show 0 < b by omega)
    have hq : Int.tdiv a b = if Int.tmod a b < 0 then a / b + 1 else a / b := by
      have h4 : b * (Int.tdiv a b - a / b) = a % b - Int.tmod a b := by rw [Int.mul_sub]; omega
      split
      · have : Int.tdiv a b - a / b = 1 := by
          have l0 : 0 < b * (Int.tdiv a b - a / b) := by omega
          have l1 : b * (Int.tdiv a b - a / b) < b * 2 := by omega
          have := Int.lt_of_mul_lt_mul_left l1 (by omega)
          have l2 : b * 0 < b * (Int.tdiv a b - a / b) := by omega
          have := Int.lt_of_mul_lt_mul_left l2 (by omega)
          omega
        omega
      · have : Int.tdiv a b - a / b = 0 := by
          have l0 : b * (-1) < b * (Int.tdiv a b - a / b) := by omega
          have l1 : b * (Int.tdiv a b - a / b) < b * 1 := by omega
          have := Int.lt_of_mul_lt_mul_left l1 (by omega)
          have := Int.lt_of_mul_lt_mul_left l0 (by omega)
          omega
        omega
    have hb : -1000000000000 ≤ a / b ∧ a / b ≤ 1000000000000 := by
      constructor
      · exact (Int.le_ediv_iff_mul_le (by omega)).2 (by have := Int.mul_le_mul_of_nonneg_left (show (1 : Int) ≤ b by omega) (show (0 : Int) ≤ 1000000000000 by omega); omega)
      · rcases Int.lt_or_le a 0 with h | h
        · have : a / b < 0 := Int.ediv_neg_of_neg_of_pos h (by omega)
          omega
        · have := Int.ediv_le_self b h; omega
    unfold spec_l13Down.f
    rw [if_neg (by omega)]
    by_cases h : Int.tmod a b < 0
    · rw [if_pos h] at hq
      rw [if_pos h, hq, G.w64' (i := a / b + 1) (by omega) (by omega), G.w64' (by omega) (by omega)]; congr 1; omega
    · rw [if_neg h] at hq
      rw [if_neg h, hq, G.w64' (by omega) (by omega)]
  exact ⟨key, key⟩
/-- What a step of a good loop tells: the new sum, the miss, the output. -/
def rawv (p i d s w : Int) (on : Bool) (sum last e : Int) : Int := (p * e + i * cutv (sum + e) (-w) w + d * (if on = true then e - last else 0)) / s
def sumv (p i d s m w : Int) (on : Bool) (sum last e : Int) : Int := if (rawv p i d s w on sum last e > m ∧ e > 0) ∨ (rawv p i d s w on sum last e < -m ∧ e < 0) then sum else cutv (sum + e) (-w) w
def outv (p i d s m w sl : Int) (on : Bool) (sum last out e : Int) : Int := if on = true ∧ sl > 0 then cutv (cutv (rawv p i d s w on sum last e) (-m) m) (out - sl) (out + sl) else cutv (rawv p i d s w on sum last e) (-m) m
theorem prod_bd (x y B : Int) (h0 : 0 ≤ x) (h1 : x ≤ 1000) (hy : -B ≤ y) (hy' : y ≤ B) (hB : 0 ≤ B) : -(1000 * B) ≤ x * y ∧ x * y ≤ 1000 * B := by
  have a1 : x * y ≤ x * B := Int.mul_le_mul_of_nonneg_left hy' h0
  have a2 : x * B ≤ 1000 * B := Int.mul_le_mul_of_nonneg_right h1 hB
  have a3 : x * (-B) ≤ x * y := Int.mul_le_mul_of_nonneg_left hy h0
  rw [Int.mul_neg] at a3
  omega
theorem step_is (p i d s m w sl : Int) (on : Bool) (sum last out want seen : Int) : ∃ r : Bool × Int × Int × Int × Bool, Ev (fun k => spec_HoldStep.f k p i d s m w sl on sum last out want seen) r ∧ Ev (fun k => impl_HoldStep.f k p i d s m w sl on sum last out want seen) r ∧
    ((r = (false, 0, 0, 0, false) ∧ ¬ (GH p i d s m w sl on sum last out ∧ (-1000000 ≤ want ∧ want ≤ 1000000) ∧ (-1000000 ≤ seen ∧ seen ≤ 1000000))) ∨
     (GH p i d s m w sl on sum last out ∧ (-1000000 ≤ want ∧ want ≤ 1000000) ∧ (-1000000 ≤ seen ∧ seen ≤ 1000000) ∧ r = (true, sumv p i d s m w on sum last (want - seen), want - seen, outv p i d s m w sl on sum last out (want - seen), true))) := by
  obtain ⟨g1, g2⟩ := goodhold_is p i d s m w sl on sum last out
  have jt : Ev (fun k => spec_HoldStep.j0 k want seen true p i d s m w sl on sum last out) (false, 0, 0, 0, false) := G.succ (G.now fun k => by simp [spec_HoldStep.j0])
  have jt' : Ev (fun k => impl_HoldStep.j0 k want seen true p i d s m w sl on sum last out) (false, 0, 0, 0, false) := G.succ (G.now fun k => by simp [impl_HoldStep.j0])
  simp only [spec_HoldStep.f, impl_HoldStep.f]
  by_cases hg : GH p i d s m w sl on sum last out
  · rw [decide_eq_true hg] at g1 g2
    by_cases hw : -1000000 ≤ want ∧ want ≤ 1000000
    · have w1 : spec_l13Value.f want = some true := by rw [value_is, decide_eq_true hw]
      have w2 : impl_within.f want 1000000 = some true := by rw [within_is _ _ (by omega) (by omega), decide_eq_true hw]
      by_cases hs : -1000000 ≤ seen ∧ seen ≤ 1000000
      · have s1 : spec_l13Value.f seen = some true := by rw [value_is, decide_eq_true hs]
        have s2 : impl_within.f seen 1000000 = some true := by rw [within_is _ _ (by omega) (by omega), decide_eq_true hs]
        refine ⟨_, G.bind0 g1 (G.pos rfl (G.bind0 w1 (G.pos rfl (G.bind0 s1 ?_)))), G.bind0 g2 (G.pos rfl (G.bind0 w2 (G.pos rfl (G.bind0 s2 ?_)))), Or.inr ⟨hg, hw, hs, rfl⟩⟩
        all_goals
          obtain ⟨⟨p0, p1, i0, i1, d0, d1, sc0, sc1, m0, m1, ww0, ww1, sl0, sl1⟩, h1, h2, h3, h4, h5, h6, h7⟩ := hg
          have hc := cutv_bd (sum + (want - seen)) (-w) w (by omega)
          have b1 := prod_bd p (want - seen) 2000000 p0 p1 (by omega) (by omega) (by omega)
          have b2 := prod_bd i (cutv (sum + (want - seen)) (-w) w) 1000000 i0 i1 (by omega) (by omega) (by omega)
          have eW : wrap64 (want - seen) = want - seen := G.w64' (by omega) (by omega)
          have eN (x : Int) (hx : 0 ≤ x) (hx' : x ≤ 1000000) : wrap64 (-x) = -x := G.wneg (by omega) (by omega)
          have eS : wrap64 (sum + (want - seen)) = sum + (want - seen) := G.w64' (by omega) (by omega)
        · refine G.succ ?_
          simp only [spec_HoldStep.j0, eW]
          refine G.neg (by simp) ?_
          have j1 (dv : Int) (hdv : dv = if on = true then (want - seen) - last else 0) : Ev (fun k => spec_HoldStep.j1 k (want - seen) dv p i d s m w sl on sum last out) (true, sumv p i d s m w on sum last (want - seen), want - seen, outv p i d s m w sl on sum last out (want - seen), true) := by
            have hdb : -4000000 ≤ dv ∧ dv ≤ 4000000 := by rw [hdv]; split <;> omega
            have b3 := prod_bd d dv 4000000 d0 d1 (by omega) (by omega) (by omega)
            have eR : spec_l13Down.f (p * (want - seen) + i * cutv (sum + (want - seen)) (-w) w + d * dv) s = some (rawv p i d s w on sum last (want - seen)) := by
              rw [(down_is _ s (by omega) (by omega) (by omega) (by omega)).1]; unfold rawv; rw [← hdv]
            refine G.succ ?_
            simp only [spec_HoldStep.j1, eS, eN w ww0 ww1, eN m (by omega) m1, cut_spec, Option.bind_some, G.w64' (i := p * (want - seen)) (by omega) (by omega), G.w64' (i := i * cutv (sum + (want - seen)) (-w) w) (by omega) (by omega), G.w64' (i := d * dv) (by omega) (by omega), G.w64' (i := p * (want - seen) + i * cutv (sum + (want - seen)) (-w) w) (by omega) (by omega), G.w64' (i := p * (want - seen) + i * cutv (sum + (want - seen)) (-w) w + d * dv) (by omega) (by omega), eR]
            have j2 (b : Bool) (hb : b = decide ((rawv p i d s w on sum last (want - seen) > m ∧ want - seen > 0) ∨ (rawv p i d s w on sum last (want - seen) < -m ∧ want - seen < 0))) : Ev (fun k => spec_HoldStep.j2 k b p i d s m w sl on sum last out true (cutv (sum + (want - seen)) (-w) w) (want - seen) (cutv (rawv p i d s w on sum last (want - seen)) (-m) m)) (true, sumv p i d s m w on sum last (want - seen), want - seen, outv p i d s m w sl on sum last out (want - seen), true) := by
              have eo : wrap64 (out - sl) = out - sl := G.w64' (by omega) (by omega)
              have eo' : wrap64 (out + sl) = out + sl := G.w64' (by omega) (by omega)
              have hsum : sumv p i d s m w on sum last (want - seen) = if b = true then sum else cutv (sum + (want - seen)) (-w) w := by unfold sumv; rw [hb]; simp
              refine G.succ (G.now fun k => ?_)
              simp only [spec_HoldStep.j2, eo, eo', cut_spec, Option.bind_some, outv, hsum]
              cases b <;> cases on <;> by_cases hsl : sl > 0 <;> simp [hsl]
            generalize rawv p i d s w on sum last (want - seen) = raw at j2 ⊢
            refine G.ite (fun c1 => G.ite (fun c2 => j2 _ (bdec (iff_of_true rfl (by omega)))) (fun c2 => G.ite (fun c3 => j2 _ (bdec (by rw [decide_eq_true_eq]; omega))) (fun c3 => j2 _ (bdec (iff_of_false (by simp) (by omega)))))) (fun c1 => G.ite (fun c3 => j2 _ (bdec (by rw [decide_eq_true_eq]; omega))) (fun c3 => j2 _ (bdec (iff_of_false (by simp) (by omega)))))
          cases on with
          | true =>
            refine G.pos rfl ?_
            rw [G.w64' (i := want - seen - last) (by omega) (by omega)]; exact j1 _ rfl
          | false => exact G.neg (by simp) (j1 _ rfl)
        · refine G.succ ?_
          simp only [impl_HoldStep.j0, eW]
          refine G.neg (by simp) ?_
          have j1 (dv : Int) (hdv : dv = if on = true then (want - seen) - last else 0) : Ev (fun k => impl_HoldStep.j1 k (want - seen) dv p i d s m w sl on sum last out) (true, sumv p i d s m w on sum last (want - seen), want - seen, outv p i d s m w sl on sum last out (want - seen), true) := by
            have hdb : -4000000 ≤ dv ∧ dv ≤ 4000000 := by rw [hdv]; split <;> omega
            have b3 := prod_bd d dv 4000000 d0 d1 (by omega) (by omega) (by omega)
            have eR : impl_down.f (p * (want - seen) + i * cutv (sum + (want - seen)) (-w) w + d * dv) s = some (rawv p i d s w on sum last (want - seen)) := by
              rw [(down_is _ s (by omega) (by omega) (by omega) (by omega)).2]; unfold rawv; rw [← hdv]
            refine G.succ ?_
            simp only [impl_HoldStep.j1, eS, eN w ww0 ww1, eN m (by omega) m1, cut_impl _ (-w) w (by omega), Option.bind_some, G.w64' (i := p * (want - seen)) (by omega) (by omega), G.w64' (i := i * cutv (sum + (want - seen)) (-w) w) (by omega) (by omega), G.w64' (i := d * dv) (by omega) (by omega), G.w64' (i := p * (want - seen) + i * cutv (sum + (want - seen)) (-w) w) (by omega) (by omega), G.w64' (i := p * (want - seen) + i * cutv (sum + (want - seen)) (-w) w + d * dv) (by omega) (by omega), eR]
            have j3 (sv : Int) (hs : sv = sumv p i d s m w on sum last (want - seen)) : Ev (fun k => impl_HoldStep.j3 k (want - seen) sv (rawv p i d s w on sum last (want - seen)) p i d s m w sl on sum last out) (true, sumv p i d s m w on sum last (want - seen), want - seen, outv p i d s m w sl on sum last out (want - seen), true) := by
              have eo : wrap64 (out - sl) = out - sl := G.w64' (by omega) (by omega)
              have eo' : wrap64 (out + sl) = out + sl := G.w64' (by omega) (by omega)
              refine G.succ (G.now fun k => ?_)
              simp only [impl_HoldStep.j3, eN m (by omega) m1, eo, eo', cut_impl _ (-m) m (by omega), cut_impl _ (out - sl) (out + sl) (by omega), Option.bind_some, outv, hs]
              cases on <;> by_cases hsl : sl > 0 <;> simp [hsl]
            have j2 (b : Bool) (hb : b = decide ((rawv p i d s w on sum last (want - seen) > m ∧ want - seen > 0) ∨ (rawv p i d s w on sum last (want - seen) < -m ∧ want - seen < 0))) : Ev (fun k => impl_HoldStep.j2 k (want - seen) (cutv (sum + (want - seen)) (-w) w) (rawv p i d s w on sum last (want - seen)) b p i d s m w sl on sum last out) (true, sumv p i d s m w on sum last (want - seen), want - seen, outv p i d s m w sl on sum last out (want - seen), true) := by
              have hsum : sumv p i d s m w on sum last (want - seen) = if b = true then sum else cutv (sum + (want - seen)) (-w) w := by unfold sumv; rw [hb]; simp
              refine G.succ ?_
              simp only [impl_HoldStep.j2]
              refine G.ite (fun c => j3 _ ?_) (fun c => j3 _ ?_)
              · rw [hsum, if_pos c]
              · rw [hsum, if_neg c]
            generalize rawv p i d s w on sum last (want - seen) = raw at j2 ⊢
            refine G.ite (fun c1 => G.ite (fun c2 => j2 _ (bdec (iff_of_true rfl (by omega)))) (fun c2 => G.ite (fun c3 => j2 _ (bdec (by rw [decide_eq_true_eq]; omega))) (fun c3 => j2 _ (bdec (iff_of_false (by simp) (by omega)))))) (fun c1 => G.ite (fun c3 => j2 _ (bdec (by rw [decide_eq_true_eq]; omega))) (fun c3 => j2 _ (bdec (iff_of_false (by simp) (by omega)))))
          cases on with
          | true =>
            refine G.pos rfl ?_
            rw [G.w64' (i := want - seen - last) (by omega) (by omega)]; exact j1 _ rfl
          | false => exact G.neg (by simp) (j1 _ rfl)
      · have s1 : spec_l13Value.f seen = some false := by rw [value_is, decide_eq_false hs]
        have s2 : impl_within.f seen 1000000 = some false := by rw [within_is _ _ (by omega) (by omega), decide_eq_false hs]
        exact ⟨_, G.bind0 g1 (G.pos rfl (G.bind0 w1 (G.pos rfl (G.bind0 s1 jt)))), G.bind0 g2 (G.pos rfl (G.bind0 w2 (G.pos rfl (G.bind0 s2 jt')))), Or.inl ⟨rfl, fun h => hs h.2.2⟩⟩
    · have w1 : spec_l13Value.f want = some false := by rw [value_is, decide_eq_false hw]
      have w2 : impl_within.f want 1000000 = some false := by rw [within_is _ _ (by omega) (by omega), decide_eq_false hw]
      exact ⟨_, G.bind0 g1 (G.pos rfl (G.bind0 w1 (G.neg (by simp) jt))), G.bind0 g2 (G.pos rfl (G.bind0 w2 (G.neg (by simp) jt'))), Or.inl ⟨rfl, fun h => hw h.2.1⟩⟩
  · rw [decide_eq_false hg] at g1 g2
    exact ⟨_, G.bind0 g1 (G.neg (by simp) jt), G.bind0 g2 (G.neg (by simp) jt'), Or.inl ⟨rfl, fun h => hg h.1⟩⟩
/-- A good loop's hold stays good. -/
theorem gh_step {p i d s m w sl : Int} {on : Bool} {sum last out e : Int} (h : GH p i d s m w sl on sum last out) (e0 : -2000000 ≤ e) (e1 : e ≤ 2000000) : GH p i d s m w sl true (sumv p i d s m w on sum last e) e (outv p i d s m w sl on sum last out e) := by
  obtain ⟨hg, h1, h2, h3, h4, h5, h6, h7⟩ := h
  have hg' := hg
  obtain ⟨_, _, _, _, _, _, _, _, m0, m1, w0, w1, s0, s1⟩ := hg'
  have c1 := cutv_bd (sum + e) (-w) w (by omega)
  have c2 := cutv_bd (rawv p i d s w on sum last e) (-m) m (by omega)
  refine ⟨hg, ?_, ?_, ?_, ?_, e0, e1, .inl rfl⟩
  · unfold sumv; split <;> omega
  · unfold sumv; split <;> omega
  · unfold outv; split
    · generalize cutv (rawv p i d s w on sum last e) (-m) m = x at *
      unfold cutv; split <;> (try split) <;> omega
    · omega
  · unfold outv; split
    · generalize cutv (rawv p i d s w on sum last e) (-m) m = x at *
      unfold cutv; split <;> (try split) <;> omega
    · omega
/-- Outputs and the hold at the end follow wants and sights, step by step. -/
def Fol (p i d s m w sl : Int) : Bool → Int → Int → Int → List Int → List Int → List Int → Bool × Int × Int × Int → Prop
  | on, sum, last, out, [], [], [], e => e = (on, sum, last, out)
  | on, sum, last, out, x :: X, y :: Y, o :: O, e => GH p i d s m w sl on sum last out ∧ (-1000000 ≤ x ∧ x ≤ 1000000) ∧ (-1000000 ≤ y ∧ y ≤ 1000000) ∧ o = outv p i d s m w sl on sum last out (x - y) ∧ Fol p i d s m w sl true (sumv p i d s m w on sum last (x - y)) (x - y) (outv p i d s m w sl on sum last out (x - y)) X Y O e
  | _, _, _, _, _, _, _, _ => False
theorem run_l (p i d s m w sl : Int) (X Y : List Int) (hxy : Y.length = X.length) (hl : X.length ≤ 60) : ∀ j, j ≤ X.length → ∀ (on : Bool) (sum last out : Int) (acc : List Int), acc.length = j → ∃ r : List Int × Bool × Int × Int × Int × Bool,
    Ev (fun k => spec_RunHold.l0 k X Y acc X.length (j : Int) p i d s m w sl on sum last out) r ∧ Ev (fun k => impl_RunHold.l0 k X Y acc X.length (j : Int) p i d s m w sl on sum last out) r ∧
    (r = ([], false, 0, 0, 0, false) ∨ ∃ (O : List Int) (e : Bool × Int × Int × Int), r = (acc ++ O, e.1, e.2.1, e.2.2.1, e.2.2.2, true) ∧ O.length = X.length - j ∧ Fol p i d s m w sl on sum last out (X.drop j) (Y.drop j) O e) := by
  refine G.down_ind X.length (fun j => ∀ (on : Bool) (sum last out : Int) (acc : List Int), acc.length = j → ∃ r : List Int × Bool × Int × Int × Int × Bool,
    Ev (fun k => spec_RunHold.l0 k X Y acc X.length (j : Int) p i d s m w sl on sum last out) r ∧ Ev (fun k => impl_RunHold.l0 k X Y acc X.length (j : Int) p i d s m w sl on sum last out) r ∧
    (r = ([], false, 0, 0, 0, false) ∨ ∃ (O : List Int) (e : Bool × Int × Int × Int), r = (acc ++ O, e.1, e.2.1, e.2.2.1, e.2.2.2, true) ∧ O.length = X.length - j ∧ Fol p i d s m w sl on sum last out (X.drop j) (Y.drop j) O e)) ?_ ?_
  · intro on sum last out acc _
    refine ⟨(acc, on, sum, last, out, true), G.succ (G.now fun k => ?_), G.succ (G.now fun k => ?_), .inr ⟨[], (on, sum, last, out), by simp, by simp, ?_⟩⟩
    · simp only [spec_RunHold.l0]; rw [if_neg (by omega)]
    · simp only [impl_RunHold.l0]; rw [if_neg (by omega)]
    · rw [List.drop_eq_nil_of_le (Nat.le_refl _), List.drop_eq_nil_of_le (by omega)]; rfl
  · intro j hj ih on sum last out acc ha
    have hy : j < Y.length := by omega
    obtain ⟨r, h1, h2, h3⟩ := step_is p i d s m w sl on sum last out X[j] Y[j]
    rcases h3 with ⟨rfl, _⟩ | ⟨hg, hx', hy', rfl⟩
    · refine ⟨([], false, 0, 0, 0, false), G.succ ?_, G.succ ?_, .inl rfl⟩
      · simp only [spec_RunHold.l0, G.rd_nat hj, G.rd_nat hy]
        exact G.pos (by omega) (G.pos (by omega) (G.pos (by omega) (G.pos (by omega) (G.bind h1 (G.neg (by simp) (G.now fun _ => rfl))))))
      · simp only [impl_RunHold.l0, G.rd_nat hj, G.rd_nat hy]
        exact G.pos (by omega) (G.pos (by omega) (G.pos (by omega) (G.pos (by omega) (G.bind h2 (G.neg (by simp) (G.now fun _ => rfl))))))
    · obtain ⟨r, e1, e2, e3⟩ := ih true (sumv p i d s m w on sum last (X[j] - Y[j])) (X[j] - Y[j]) (outv p i d s m w sl on sum last out (X[j] - Y[j])) (acc ++ [outv p i d s m w sl on sum last out (X[j] - Y[j])]) (by simp [ha])
      refine ⟨r, G.succ ?_, G.succ ?_, ?_⟩
      · simp only [spec_RunHold.l0, G.rd_nat hj, G.rd_nat hy, G.w64 j (by omega)]
        exact G.pos (by omega) (G.pos (by omega) (G.pos (by omega) (G.pos (by omega) (G.bind h1 (G.pos rfl (G.pos (by omega) e1))))))
      · simp only [impl_RunHold.l0, G.rd_nat hj, G.rd_nat hy, G.w64 j (by omega)]
        exact G.pos (by omega) (G.pos (by omega) (G.pos (by omega) (G.pos (by omega) (G.bind h2 (G.pos rfl (G.pos (by omega) e2))))))
      · rcases e3 with rfl | ⟨O, e, rfl, hO, hf⟩
        · exact .inl rfl
        · refine .inr ⟨outv p i d s m w sl on sum last out (X[j] - Y[j]) :: O, e, by simp, by simp; omega, ?_⟩
          rw [List.drop_eq_getElem_cons hj, List.drop_eq_getElem_cons hy]
          exact ⟨hg, hx', hy', rfl, hf⟩
theorem run_is (p i d s m w sl : Int) (on : Bool) (sum last out : Int) (X Y : List Int) : ∃ r : List Int × Bool × Int × Int × Int × Bool,
    Ev (fun k => spec_RunHold.f k p i d s m w sl on sum last out X Y) r ∧ Ev (fun k => impl_RunHold.f k p i d s m w sl on sum last out X Y) r ∧ r.1.length ≤ 60 ∧
    (r = ([], false, 0, 0, 0, false) ∨ GH p i d s m w sl on sum last out ∧ Y.length = X.length ∧ X.length ≤ 60 ∧ ∃ (O : List Int) (e : Bool × Int × Int × Int), r = (O, e.1, e.2.1, e.2.2.1, e.2.2.2, true) ∧ O.length = X.length ∧ Fol p i d s m w sl on sum last out X Y O e) := by
  obtain ⟨g1, g2⟩ := goodhold_is p i d s m w sl on sum last out
  have jt : Ev (fun k => spec_RunHold.j0 k X Y true p i d s m w sl on sum last out) ([], false, 0, 0, 0, false) := G.succ (G.now fun k => by simp [spec_RunHold.j0])
  have jt' : Ev (fun k => impl_RunHold.j0 k X Y true p i d s m w sl on sum last out) ([], false, 0, 0, 0, false) := G.succ (G.now fun k => by simp [impl_RunHold.j0])
  simp only [spec_RunHold.f, impl_RunHold.f]
  by_cases hg : GH p i d s m w sl on sum last out
  · rw [decide_eq_true hg] at g1 g2
    by_cases hl : (X.length : Int) > 60
    · exact ⟨([], false, 0, 0, 0, false), G.bind0 g1 (G.pos rfl (G.pos hl jt)), G.bind0 g2 (G.pos rfl (G.pos hl jt')), by simp, .inl rfl⟩
    · by_cases hxy : Y.length = X.length
      · obtain ⟨r, e1, e2, e3⟩ := run_l p i d s m w sl X Y hxy (by omega) 0 (Nat.zero_le _) on sum last out [] rfl
        refine ⟨r, G.bind0 g1 (G.pos rfl (G.neg hl (G.succ ?_))), G.bind0 g2 (G.pos rfl (G.neg hl (G.succ ?_))), ?_⟩
        · simp only [spec_RunHold.j0, hxy, bne_self_eq_false]
          exact G.neg (by simp) e1
        · simp only [impl_RunHold.j0, hxy, bne_self_eq_false]
          exact G.neg (by simp) e2
        · rcases e3 with rfl | ⟨O, e, rfl, hO, hf⟩
          · exact ⟨by simp, .inl rfl⟩
          · exact ⟨by simp; omega, .inr ⟨hg, hxy, by omega, O, e, by simp, by omega, hf⟩⟩
      · have b1 : ((Y.length : Int) != (X.length : Int)) = true := by simp; omega
        have b2 : ((X.length : Int) != (Y.length : Int)) = true := by simp; omega
        refine ⟨([], false, 0, 0, 0, false), G.bind0 g1 (G.pos rfl (G.neg hl ?_)), G.bind0 g2 (G.pos rfl (G.neg hl ?_)), by simp, .inl rfl⟩
        · rw [b1]; exact jt
        · rw [b2]; exact jt'
  · rw [decide_eq_false hg] at g1 g2
    exact ⟨([], false, 0, 0, 0, false), G.bind0 g1 (G.neg (by simp) jt), G.bind0 g2 (G.neg (by simp) jt'), by simp, .inl rfl⟩
theorem FnExactRunHold (p i d s m w sl : Int) (on : Bool) (sum last out : Int) (X Y : List Int) {P0 P1 P2 P3 : Prop} (ok0 : P0) (ok1 : P1) (ok2 : P2) (ok3 : P3) : ∃ k, laws_FnExactRunHold.f k p i d s m w sl on sum last out X Y = some true := by
  refine Ev.rounds ?_
  simp only [laws_FnExactRunHold.f, laws_toLoop.f, laws_toHold.f, Option.bind_some]
  refine G.ite (fun _ => G.now fun _ => rfl) (fun hx => G.ite (fun _ => G.now fun _ => rfl) (fun hy => ?_))
  have hx' : X.length ≤ 1048576 := by omega
  have hy' : Y.length ≤ 1048576 := by omega
  obtain ⟨⟨o, b0, b1, b2, b3, b4⟩, h1, h2, h3, _⟩ := run_is p i d s m w sl on sum last out X Y
  have h3' : o.length ≤ 60 := h3
  have htx := laws_toIntS_ev X hx'
  have hty := laws_toIntS_ev Y hy'
  have ho := laws_eqIntS_refl o (by omega)
  have he : laws_eqHold.f b0 b1 b2 b3 b0 b1 b2 b3 = some true := by simp [laws_eqHold.f]
  have hmk := laws_markIntS_ev o 1 (by omega) (by omega) (by omega)
  have hh := laws_heldIntS_ev 1 o.length (by omega) (by omega) (by omega)
  refine G.bind htx (G.bind hty (G.bind h1 (G.bind htx (G.bind hty (G.bind h2 (G.bind ho (G.pos rfl (G.bind0 he (G.pos rfl ?_)))))))))
  simp only [bne_self_eq_false]
  refine G.succ ?_
  simp only [laws_FnExactRunHold.j0]
  refine G.neg (by simp) (G.bind htx (G.bind (laws_eqIntS_refl X hx') (G.pos rfl (G.bind hty (G.bind (laws_eqIntS_refl Y hy') (G.pos rfl (G.bind (laws_markIntS_ev X 1 (by omega) (by omega) hx') (G.bind (laws_markIntS_ev Y (1 + X.length) (by omega) (by omega) hy') (G.neg (by omega) (G.bind ho (G.pos rfl (G.bind0 he (G.pos rfl ?_)))))))))))))
  simp only [bne_self_eq_false]
  refine G.succ ?_
  simp only [laws_FnExactRunHold.j1, laws_toLoop.f, laws_toHold.f, Option.bind_some]
  refine G.neg (by simp) (G.bind hmk (G.bind hh (G.neg (by omega) (G.pos rfl (G.bind htx (G.bind hty (G.bind h2 (G.bind ho (G.pos rfl (G.bind0 he (G.pos rfl ?_)))))))))))
  simp only [bne_self_eq_false]
  refine G.succ ?_
  simp only [laws_FnExactRunHold.j2]
  exact G.neg (by simp) (G.bind hh (G.neg (by omega) (G.pos rfl (G.now fun _ => rfl))))

end Go.Proofs.Ytineniimpdjpnaa.Pure
