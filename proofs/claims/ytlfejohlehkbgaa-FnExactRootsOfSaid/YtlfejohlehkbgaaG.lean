/- Plain lemmas on rounds ('Ev') and on lists read by an index: shared by the pure proofs of this seat. -/
import Derived.Test.YtlfejohlehkbgaaWWords
import Derived.OpenShut
namespace Go.Proofs.Ytlfejohlehkbgaa.G
open Go.RowKit Go.Proofs.YtlfejohlehkbgaaW.PrintWords
set_option linter.unusedVariables false
set_option linter.unusedSimpArgs false

theorem now {α : Type} {g : Nat → Option α} {r : α} (h : ∀ k, g k = some r) : Ev g r := ⟨0, fun k _ => h k⟩
theorem succ {α : Type} {g : Nat → Option α} {r : α} (h : Ev (fun k => g (k + 1)) r) : Ev g r := by
  obtain ⟨K, h⟩ := h
  refine ⟨K + 1, fun n hn => ?_⟩
  obtain ⟨m, rfl⟩ : ∃ m, n = m + 1 := ⟨n - 1, by omega⟩
  exact h m (by omega)
theorem ite {α : Type} {c : Prop} [Decidable c] {f g : Nat → Option α} {r : α} (h1 : c → Ev f r) (h2 : ¬ c → Ev g r) : Ev (fun k => if c then f k else g k) r := by
  by_cases h : c
  · simp only [if_pos h]; exact h1 h
  · simp only [if_neg h]; exact h2 h
theorem pos {α : Type} {c : Prop} [Decidable c] {f g : Nat → Option α} {r : α} (h : c) (h1 : Ev f r) : Ev (fun k => if c then f k else g k) r := by
  simp only [if_pos h]; exact h1
theorem neg {α : Type} {c : Prop} [Decidable c] {f g : Nat → Option α} {r : α} (h : ¬ c) (h1 : Ev g r) : Ev (fun k => if c then f k else g k) r := by
  simp only [if_neg h]; exact h1
theorem bind {α β : Type} {g : Nat → Option α} {f : Nat → α → Option β} {a : α} {r : β} (h : Ev g a) (k : Ev (fun n => f n a) r) : Ev (fun n => (g n).bind (f n)) r := Ev.bind h k

theorem down_ind (n : Nat) (P : Nat → Prop) (hend : P n) (hstep : ∀ i, i < n → P (i + 1) → P i) : ∀ i, i ≤ n → P i := by
  intro i hi
  obtain ⟨d, hd⟩ : ∃ d, n - i = d := ⟨_, rfl⟩
  induction d generalizing i with
  | zero => obtain rfl : i = n := by omega
            exact hend
  | succ d ih => exact hstep i (by omega) (ih (i + 1) (by omega) (by omega))

theorem w64 (i : Nat) (h : i < 9223372036854775807) : wrap64 ((i : Int) + 1) = ((i + 1 : Nat) : Int) := by
  unfold wrap64; omega
theorem w64' {i : Int} (h0 : -9223372036854775808 ≤ i) (h1 : i ≤ 9223372036854775807) : wrap64 i = i := by
  unfold wrap64; omega
theorem getD_nat {α : Type} {l : List α} {i : Nat} {z : α} (h : i < l.length) : l.getD ((i : Int)).toNat z = l[i] := by
  simp [List.getD_eq_getElem?_getD, List.getElem?_eq_getElem h]
theorem take_set_succ {α : Type} (out : List α) (i : Nat) (x : α) (h : i < out.length) : (out.set i x).take (i + 1) = out.take i ++ [x] := by
  rw [List.take_succ_eq_append_getElem (by simpa using h)]
  simp [List.take_set_of_le]
theorem take_succ' {α : Type} (l : List α) (i : Nat) (h : i < l.length) : l.take (i + 1) = l.take i ++ [l[i]] := List.take_succ_eq_append_getElem h

theorem to_loop {α β : Type} (F : Nat → List β → Int → Option (List β)) (l : List α) (f : α → β)
    (hend : ∀ k out, F (k + 1) out (l.length : Int) = some out)
    (hstep : ∀ k out (i : Nat) (h : i < l.length), out.length = l.length → F (k + 1) out (i : Int) = F k (out.set i (f l[i])) ((i + 1 : Nat) : Int)) :
    ∀ i, i ≤ l.length → ∀ out, out.length = l.length → out.take i = (l.take i).map f → Ev (fun k => F k out (i : Int)) (l.map f) := by
  refine down_ind l.length (fun i => ∀ out, out.length = l.length → out.take i = (l.take i).map f → Ev (fun k => F k out (i : Int)) (l.map f)) ?_ ?_
  · intro out ho ht
    refine succ (now fun k => ?_)
    rw [hend]
    rw [List.take_of_length_le (by omega), List.take_of_length_le (by omega)] at ht
    rw [ht]
  · intro i hi ih out ho ht
    refine succ ?_
    simp only [hstep _ out i hi ho]
    refine ih _ (by simpa using ho) ?_
    rw [take_set_succ _ _ _ (by omega), ht, take_succ' l i hi, List.map_append]; rfl

theorem all_loop {α : Type} {F : Nat → Int → Option Bool} (l : List α) (p : α → Bool) (e : Bool) (hend : ∀ k, F (k + 1) (l.length : Int) = some e)
    (hstep : ∀ k (i : Nat) (h : i < l.length), F (k + 1) (i : Int) = if p l[i] = true then F k ((i + 1 : Nat) : Int) else some false) :
    Ev (fun k => F k 0) (l.all p && e) := by
  have h : ∀ i, i ≤ l.length → Ev (fun k => F k (i : Int)) ((l.drop i).all p && e) := by
    refine down_ind l.length (fun i => Ev (fun k => F k (i : Int)) ((l.drop i).all p && e)) ?_ ?_
    · refine succ (now fun k => ?_)
      rw [hend]; simp
    · intro i hi ih
      refine succ ?_
      simp only [hstep _ i hi]
      rw [List.drop_eq_getElem_cons hi, List.all_cons]
      by_cases hp : p l[i] = true
      · simp only [if_pos hp, hp, Bool.true_and]; exact ih
      · simp only [if_neg hp]; simp only [Bool.not_eq_true] at hp; simp only [hp, Bool.false_and]; exact now fun _ => rfl
  exact h 0 (Nat.zero_le _)

def marks {β : Type} (el : Int → β) (m0 : Int) (s n : Nat) : List β := (List.range n).map fun j : Nat => el (m0 + (j : Int) * s)
theorem marks_length {β : Type} (el : Int → β) (m0 : Int) (s n : Nat) : (marks el m0 s n).length = n := by simp [marks]
theorem marks_get {β : Type} (el : Int → β) (m0 : Int) (s n i : Nat) (h : i < (marks el m0 s n).length) : (marks el m0 s n)[i] = el (m0 + i * s) := by simp [marks]
theorem mark_loop {β : Type} (el : Int → β) (m0 : Int) (s n : Nat) (F : Nat → List β → Int → Int → Option (Int × List β))
    (hend : ∀ k l m, l.length = n → F (k + 1) l m (n : Int) = some (m, l))
    (hstep : ∀ k l (i : Nat), i < n → l.length = n → F (k + 1) l (m0 + i * s) (i : Int) = F k (l.set i (el (m0 + i * s))) (m0 + ((i + 1 : Nat) : Int) * s) ((i + 1 : Nat) : Int))
    (l : List β) (hl : l.length = n) : Ev (fun k => F k l m0 0) (m0 + n * s, marks el m0 s n) := by
  have h : ∀ i, i ≤ n → ∀ l : List β, l.length = n → l.take i = (marks el m0 s n).take i → Ev (fun k => F k l (m0 + i * s) (i : Int)) (m0 + n * s, marks el m0 s n) := by
    refine down_ind n (fun i => ∀ l : List β, l.length = n → l.take i = (marks el m0 s n).take i → Ev (fun k => F k l (m0 + i * s) (i : Int)) (m0 + n * s, marks el m0 s n)) ?_ ?_
    · intro l hl ht
      refine succ (now fun k => ?_)
      rw [hend _ _ _ hl]
      rw [List.take_of_length_le (by omega), List.take_of_length_le (by rw [marks_length]; omega)] at ht
      rw [ht]
    · intro i hi ih l hl ht
      refine succ ?_
      simp only [hstep _ l i hi hl]
      refine ih _ (by simpa using hl) ?_
      rw [take_set_succ _ _ _ (by omega), ht, take_succ' (marks el m0 s n) i (by rw [marks_length]; exact hi), marks_get]
  have := h 0 (Nat.zero_le _) l hl rfl
  simpa using this
theorem held_loop (m0 : Int) (s n : Nat) (F : Nat → Int → Int → Option Int)
    (hend : ∀ k m, F (k + 1) m (n : Int) = some m)
    (hstep : ∀ k (i : Nat), i < n → F (k + 1) (m0 + i * s) (i : Int) = F k (m0 + ((i + 1 : Nat) : Int) * s) ((i + 1 : Nat) : Int)) :
    Ev (fun k => F k m0 0) (m0 + n * s) := by
  have h : ∀ i, i ≤ n → Ev (fun k => F k (m0 + i * s) (i : Int)) (m0 + n * s) := by
    refine down_ind n (fun i => Ev (fun k => F k (m0 + i * s) (i : Int)) (m0 + n * s)) ?_ ?_
    · exact succ (now fun k => hend k _)
    · intro i hi ih
      refine succ ?_
      simp only [hstep _ i hi]
      exact ih
  have := h 0 (Nat.zero_le _)
  simpa using this

end Go.Proofs.Ytlfejohlehkbgaa.G
