/- Plain lemmas on rounds ('Ev') and on lists read by an index: shared by the pure proofs of this seat. -/
import Derived.Test.YtbhnnobpjmnngaaWWords
import Derived.OpenShut
namespace Go.Proofs.Ytbhnnobpjmnngaa.G
open Go.RowKit Go.Proofs.YtbhnnobpjmnngaaW.PrintWords
set_option linter.unusedVariables false
set_option linter.unusedSimpArgs false

theorem now {α : Type} {g : Nat → Option α} {r : α} (h : ∀ k, g k = some r) : Ev g r := ⟨0, fun k _ => h k⟩
theorem succ {α : Type} {g : Nat → Option α} {r : α} (h : Ev (fun k => g (k + 1)) r) : Ev g r := by
  obtain ⟨K, h⟩ := h
  refine ⟨K + 1, fun n hn => ?_⟩
  obtain ⟨m, rfl⟩ : ∃ m, n = m + 1 := ⟨n - 1, by omega⟩
  exact h m (by omega)
theorem ite {α : Type} {c : Prop} [Decidable c] {f g : Nat → Option α} {r : α} (h1 : c → Ev f r) (h2 : ¬ c → Ev g r) : Ev (fun k => if c then f k else g k) r := by
  by_cases h : c
  · simp only [if_pos h]; exact h1 h
  · simp only [if_neg h]; exact h2 h
theorem pos {α : Type} {c : Prop} [Decidable c] {f g : Nat → Option α} {r : α} (h : c) (h1 : Ev f r) : Ev (fun k => if c then f k else g k) r := by
  simp only [if_pos h]; exact h1
theorem neg {α : Type} {c : Prop} [Decidable c] {f g : Nat → Option α} {r : α} (h : ¬ c) (h1 : Ev g r) : Ev (fun k => if c then f k else g k) r := by
  simp only [if_neg h]; exact h1
theorem eqv {α : Type} {g : Nat → Option α} {r s : α} (h : Ev g r) (e : r = s) : Ev g s := e ▸ h
theorem bind0 {α β : Type} {g : Option α} {f : Nat → α → Option β} {a : α} {r : β} (h : g = some a) (k : Ev (fun n => f n a) r) : Ev (fun n => g.bind (f n)) r := by
  subst h; exact k
theorem bind {α β : Type} {g : Nat → Option α} {f : Nat → α → Option β} {a : α} {r : β} (h : Ev g a) (k : Ev (fun n => f n a) r) : Ev (fun n => (g n).bind (f n)) r := Ev.bind h k

theorem down_ind (n : Nat) (P : Nat → Prop) (hend : P n) (hstep : ∀ i, i < n → P (i + 1) → P i) : ∀ i, i ≤ n → P i := by
  intro i hi
  obtain ⟨d, hd⟩ : ∃ d, n - i = d := ⟨_, rfl⟩
  induction d generalizing i with
  | zero => obtain rfl : i = n := by omega
            exact hend
  | succ d ih => exact hstep i (by omega) (ih (i + 1) (by omega) (by omega))

theorem w64 (i : Nat) (h : i < 9223372036854775807) : wrap64 ((i : Int) + 1) = ((i + 1 : Nat) : Int) := by
  unfold wrap64; omega
theorem w64' {i : Int} (h0 : -9223372036854775808 ≤ i) (h1 : i ≤ 9223372036854775807) : wrap64 i = i := by
  unfold wrap64; omega
theorem rd_nat {l : List Int} {i : Nat} (h : i < l.length) : rd l (i : Int) = l[i] := by
  simp [rd, List.getD_eq_getElem?_getD, List.getElem?_eq_getElem h]
theorem getD_nat {α : Type} {l : List α} {i : Nat} {z : α} (h : i < l.length) : l.getD ((i : Int)).toNat z = l[i] := by
  simp [List.getD_eq_getElem?_getD, List.getElem?_eq_getElem h]
theorem all_loop {α : Type} {F : Nat → Int → Option Bool} (l : List α) (p : α → Bool) (e : Bool) (hend : ∀ k, F (k + 1) (l.length : Int) = some e)
    (hstep : ∀ k (i : Nat) (h : i < l.length), F (k + 1) (i : Int) = if p l[i] = true then F k ((i + 1 : Nat) : Int) else some false) :
    Ev (fun k => F k 0) (l.all p && e) := by
  have h : ∀ i, i ≤ l.length → Ev (fun k => F k (i : Int)) ((l.drop i).all p && e) := by
    refine down_ind l.length (fun i => Ev (fun k => F k (i : Int)) ((l.drop i).all p && e)) ?_ ?_
    · refine succ (now fun k => ?_)
      rw [hend]; simp
    · intro i hi ih
      refine succ ?_
      simp only [hstep _ i hi]
      rw [List.drop_eq_getElem_cons hi, List.all_cons]
      by_cases hp : p l[i] = true
      · simp only [if_pos hp, hp, Bool.true_and]; exact ih
      · simp only [if_neg hp]; simp only [Bool.not_eq_true] at hp; simp only [hp, Bool.false_and]; exact now fun _ => rfl
  exact h 0 (Nat.zero_le _)

end Go.Proofs.Ytbhnnobpjmnngaa.G
