/- More short words of printed texts (compress2.py). -/
import Derived.Test.YtlfejohlehkbgaaUp
namespace Go.Proofs.YtlfejohlehkbgaaW.PrintWords
open Go.RowKit
abbrev N_ (v : Value) (k : Nat) : Prop := some k ≠ v.ownBlock
theorem sB {α : Type} (l : List α) (i : Nat) (a : α) : l.toArray.setIfInBounds i a = (l.set i a).toArray := by simp only [List.setIfInBounds_toArray]
theorem sC {α : Type} (a b : α) (l : List α) : (a :: l).set 0 b = b :: l := rfl
theorem sD {α : Type} (a b : α) (l : List α) (n : Nat) : (a :: l).set (n + 1) b = a :: l.set n b := rfl
section
variable {α : Type} {d : Kd α} {w W : World} {e b : Nat} {ok : Nat → Prop} {v : Value} {xs : List α}
theorem cu {A : Option Addr} {n : Nat} [Up W w] (h : d.C w A n xs) : d.C W A n xs := Kd.C_below h Up.h
end
end Go.Proofs.YtlfejohlehkbgaaW.PrintWords
