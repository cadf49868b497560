/- A grid of cells, w wide and h high, numbered row by row: the next cell along one of four ways, how far one gets over free cells, and what a step does. Plain lists and numbers. -/
import Init
namespace Go.Proofs.Ytffkkpdldjnkbaa.Grid
set_option linter.unusedVariables false
set_option linter.unusedSimpArgs false

/-- The next cell is within the grid. -/
def can (w h at_ : Nat) (way : Int) : Prop :=
  (way = 0 ∧ at_ % w + 1 < w) ∨ (way = 1 ∧ at_ / w + 1 < h) ∨ (way = 2 ∧ 0 < at_ % w) ∨ (way = 3 ∧ 0 < at_ / w)
instance (w h at_ : Nat) (way : Int) : Decidable (can w h at_ way) := by unfold can; infer_instance
def nto (w at_ : Nat) (way : Int) : Nat := if way = 0 then at_ + 1 else if way = 1 then at_ + w else if way = 2 then at_ - 1 else at_ - w
def nxt (w h at_ : Nat) (way : Int) : Option Nat := if can w h at_ way then some (nto w at_ way) else none
/-- How many steps are left to the edge. -/
def mu (w h at_ : Nat) (way : Int) : Nat := if way = 0 then w - 1 - at_ % w else if way = 1 then h - 1 - at_ / w else if way = 2 then at_ % w else at_ / w

theorem coords {w h at_ : Nat} (hw : 0 < w) (hl : at_ < w * h) : at_ % w < w ∧ at_ / w < h ∧ at_ = w * (at_ / w) + at_ % w :=
  ⟨Nat.mod_lt _ hw, Nat.div_lt_of_lt_mul hl, (Nat.div_add_mod _ _).symm⟩
theorem of_coords {w : Nat} (q r : Nat) (hr : r < w) : (w * q + r) % w = r ∧ (w * q + r) / w = q := by
  have hw : 0 < w := by omega
  exact ⟨by rw [Nat.mul_add_mod, Nat.mod_eq_of_lt hr], by rw [Nat.mul_add_div hw, Nat.div_eq_of_lt hr, Nat.add_zero]⟩
theorem to_coords {w h at_ : Nat} {way : Int} (hw : 0 < w) (hl : at_ < w * h) (hc : can w h at_ way) :
    (way = 0 ∧ (nto w at_ way) % w = at_ % w + 1 ∧ (nto w at_ way) / w = at_ / w ∧ (nto w at_ way : Int) = at_ + 1) ∨
    (way = 1 ∧ (nto w at_ way) % w = at_ % w ∧ (nto w at_ way) / w = at_ / w + 1 ∧ (nto w at_ way : Int) = at_ + w) ∨
    (way = 2 ∧ (nto w at_ way) % w = at_ % w - 1 ∧ (nto w at_ way) / w = at_ / w ∧ (nto w at_ way : Int) = at_ - 1) ∨
    (way = 3 ∧ (nto w at_ way) % w = at_ % w ∧ (nto w at_ way) / w = at_ / w - 1 ∧ (nto w at_ way : Int) = at_ - w) := by
  obtain ⟨h1, h2, h3⟩ := coords hw hl
  rcases hc with ⟨rfl, hc⟩ | ⟨rfl, hc⟩ | ⟨rfl, hc⟩ | ⟨rfl, hc⟩
  · left
    obtain ⟨a, b⟩ := of_coords (w := w) (at_ / w) (at_ % w + 1) hc
    have e : nto w at_ 0 = w * (at_ / w) + (at_ % w + 1) := by show at_ + 1 = _; omega
    exact ⟨rfl, by rw [e, a], by rw [e, b], rfl⟩
  · right; left
    obtain ⟨a, b⟩ := of_coords (w := w) (at_ / w + 1) (at_ % w) h1
    have e : nto w at_ 1 = w * (at_ / w + 1) + at_ % w := by show at_ + w = _; rw [Nat.mul_add, Nat.mul_one]; omega
    exact ⟨rfl, by rw [e, a], by rw [e, b], rfl⟩
  · right; right; left
    obtain ⟨a, b⟩ := of_coords (w := w) (at_ / w) (at_ % w - 1) (by omega)
    have e : nto w at_ 2 = w * (at_ / w) + (at_ % w - 1) := by show at_ - 1 = _; omega
    refine ⟨rfl, by rw [e, a], by rw [e, b], ?_⟩
    show ((at_ - 1 : Nat) : Int) = _
    omega
  · right; right; right
    obtain ⟨q, hq⟩ : ∃ q, at_ / w = q + 1 := ⟨at_ / w - 1, by omega⟩
    obtain ⟨a, b⟩ := of_coords (w := w) q (at_ % w) h1
    rw [hq, Nat.mul_add, Nat.mul_one] at h3
    have e : nto w at_ 3 = w * q + at_ % w := by show at_ - w = _; omega
    refine ⟨rfl, by rw [e, a], by rw [e, b]; omega, ?_⟩
    show ((at_ - w : Nat) : Int) = _
    omega
theorem to_lt {w h at_ : Nat} {way : Int} (hw : 0 < w) (hl : at_ < w * h) (hc : can w h at_ way) : nto w at_ way < w * h := by
  obtain ⟨h1, h2, h3⟩ := coords hw hl
  rcases hc with ⟨rfl, hc⟩ | ⟨rfl, hc⟩ | ⟨rfl, hc⟩ | ⟨rfl, hc⟩
  · show at_ + 1 < _
    have : w * (at_ / w + 1) ≤ w * h := Nat.mul_le_mul_left _ h2
    rw [Nat.mul_add, Nat.mul_one] at this; omega
  · show at_ + w < _
    have : w * (at_ / w + 2) ≤ w * h := Nat.mul_le_mul_left _ hc
    rw [Nat.mul_add] at this; omega
  · show at_ - 1 < _; omega
  · show at_ - w < _; omega
theorem mu_to {w h at_ : Nat} {way : Int} (hw : 0 < w) (hl : at_ < w * h) (hc : can w h at_ way) : mu w h (nto w at_ way) way + 1 = mu w h at_ way := by
  obtain ⟨h1, h2, h3⟩ := coords hw hl
  rcases to_coords hw hl hc with ⟨rfl, a, b, _⟩ | ⟨rfl, a, b, _⟩ | ⟨rfl, a, b, _⟩ | ⟨rfl, a, b, _⟩ <;> unfold can at hc <;> simp [mu] <;> simp only [a, b] <;> clear a b h3 <;> generalize at_ % w = r at * <;> generalize at_ / w = q at * <;> omega
theorem mu_lt {w h at_ : Nat} {way : Int} (hw : 0 < w) (hw' : w ≤ 16) (hh : h ≤ 16) (hl : at_ < w * h) : mu w h at_ way < 16 := by
  obtain ⟨h1, h2, h3⟩ := coords hw hl
  clear h3
  unfold mu
  generalize at_ % w = r at *
  generalize at_ / w = q at *
  split
  · omega
  · split
    · omega
    · split <;> omega

/-- The next cell, where it is free. -/
def nxf (w h : Nat) (l : List Int) (at_ : Nat) (way : Int) : Option Nat := if can w h at_ way ∧ l.getD (nto w at_ way) 1 = 0 then some (nto w at_ way) else none
/-- How far one gets over free cells. -/
def farN (w h : Nat) (l : List Int) (way : Int) : Nat → Nat → Nat
  | 0, _ => 0
  | f + 1, at_ => match nxf w h l at_ way with
    | none => 0
    | some j => farN w h l way f j + 1
def far (w h : Nat) (l : List Int) (way : Int) (at_ : Nat) : Nat := farN w h l way (mu w h at_ way + 1) at_
theorem nxf_some {w h : Nat} {l : List Int} {at_ j : Nat} {way : Int} (hj : nxf w h l at_ way = some j) : can w h at_ way ∧ l.getD j 1 = 0 ∧ j = nto w at_ way := by
  unfold nxf at hj
  by_cases hc : can w h at_ way ∧ l.getD (nto w at_ way) 1 = 0
  · rw [if_pos hc] at hj; cases hj; exact ⟨hc.1, hc.2, rfl⟩
  · rw [if_neg hc] at hj; cases hj
theorem far_none {w h : Nat} {l : List Int} {way : Int} {at_ : Nat} (hn : nxf w h l at_ way = none) : far w h l way at_ = 0 := by
  unfold far; simp only [farN, hn]
theorem far_some {w h : Nat} {l : List Int} {way : Int} {at_ j : Nat} (hw : 0 < w) (hl : at_ < w * h) (hn : nxf w h l at_ way = some j) : far w h l way at_ = far w h l way j + 1 := by
  obtain ⟨hc, _, rfl⟩ := nxf_some hn
  unfold far
  rw [← mu_to hw hl hc]
  conv => lhs; rw [farN, hn]
theorem far_le {w h : Nat} {l : List Int} {way : Int} (f at_ : Nat) : farN w h l way f at_ ≤ f := by
  induction f generalizing at_ with
  | zero => exact Nat.le_refl _
  | succ f ih =>
    simp only [farN]
    split
    · omega
    · have := ih (by assumption); omega
theorem far_lt {w h : Nat} {l : List Int} {way : Int} {at_ : Nat} (hw : 0 < w) (hw' : w ≤ 16) (hh : h ≤ 16) (hl : at_ < w * h) : far w h l way at_ ≤ 16 := by
  have := mu_lt (way := way) hw hw' hh hl
  have := far_le (w := w) (h := h) (l := l) (way := way) (mu w h at_ way + 1) at_
  unfold far; omega
theorem far_pos {w h : Nat} {l : List Int} {way : Int} {at_ : Nat} (hw : 0 < w) (hl : at_ < w * h) : 0 < far w h l way at_ ↔ ∃ j, nxf w h l at_ way = some j := by
  rcases hn : nxf w h l at_ way with _ | j
  · rw [far_none hn]; simp
  · rw [far_some hw hl hn]; simp
/-- A place, or -1. -/
def ofO : Option Nat → Int
  | none => -1
  | some j => j
/-- Where a step leads. -/
def step (w h : Nat) (l : List Int) (way : Int) (at_ : Nat) : Nat := (nxf w h l at_ way).getD at_
theorem step_lt {w h : Nat} {l : List Int} {way : Int} {at_ : Nat} (hw : 0 < w) (hl : at_ < w * h) : step w h l way at_ < w * h := by
  unfold step
  rcases hn : nxf w h l at_ way with _ | j
  · exact hl
  · obtain ⟨hc, _, rfl⟩ := nxf_some hn; exact to_lt hw hl hc
end Go.Proofs.Ytffkkpdldjnkbaa.Grid
