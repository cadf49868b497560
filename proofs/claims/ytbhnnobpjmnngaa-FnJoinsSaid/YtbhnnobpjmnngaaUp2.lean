/- More short words of printed texts (compress2.py). -/
import Derived.Test.YtbhnnobpjmnngaaUp
namespace Go.Proofs.YtbhnnobpjmnngaaW.PrintWords
open Go.RowKit
abbrev N_ (v : Value) (k : Nat) : Prop := some k ≠ v.ownBlock
theorem sB {α : Type} (l : List α) (i : Nat) (a : α) : l.toArray.setIfInBounds i a = (l.set i a).toArray := by simp only [List.setIfInBounds_toArray]
theorem sC {α : Type} (a b : α) (l : List α) : (a :: l).set 0 b = b :: l := rfl
theorem sD {α : Type} (a b : α) (l : List α) (n : Nat) : (a :: l).set (n + 1) b = a :: l.set n b := rfl
section
variable {α : Type} {d : Kd α} {w W : World} {e b : Nat} {ok : Nat → Prop} {v : Value} {xs : List α}
theorem cu {A : Option Addr} {n : Nat} [Up W w] (h : d.C w A n xs) : d.C W A n xs := Kd.C_below h Up.h
theorem fr1 {g t : Nat} {cells : Array Value} (h : d.R e w b ok v xs) (hb : w.heap[g]? = some (.cells cells t (0, 0))) (ht : ∀ q, q ∈ e :: d.E → q ≠ t) (i1 : Nat) (x1 : Value) : d.R e (w.setCell ⟨g, i1, none⟩ x1) b (fun k => ok k ∧ k ≠ g) v xs := Kd.R_far (Kd.R_types h hb ht) (fun _ hk => hk.2) x1
theorem fr2 {g t : Nat} {cells : Array Value} (h : d.R e w b ok v xs) (hb : w.heap[g]? = some (.cells cells t (0, 0))) (ht : ∀ q, q ∈ e :: d.E → q ≠ t) (i1 : Nat) (x1 : Value) (i2 : Nat) (x2 : Value) : d.R e ((w.setCell ⟨g, i1, none⟩ x1).setCell ⟨g, i2, none⟩ x2) b (fun k => ok k ∧ k ≠ g) v xs := Kd.R_far (fr1 h hb ht i1 x1) (fun _ hk => hk.2) x2
end
end Go.Proofs.YtbhnnobpjmnngaaW.PrintWords
