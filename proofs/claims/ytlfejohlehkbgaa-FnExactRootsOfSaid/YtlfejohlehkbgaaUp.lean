/- What holds of a block, or of a row, holds behind plain steps (new blocks, draws): the steps are found by the instances. -/
import Derived.Test.YtlfejohlehkbgaaWWords
import Derived.Test.YtlfejohlehkbgaaWMore
namespace Go.Proofs.YtlfejohlehkbgaaW.PrintWords
open Go.RowKit
class Up (W : World) (w : outParam World) : Prop where
  h : Below w.heap.size w W
instance (priority := low) Up.refl (w : World) : Up w w := ⟨Below.refl _ _⟩
instance Up.alloc (W w : World) (o : Obj) [Up W w] : Up (W.alloc o) w := ⟨below_alloc Up.h o⟩
instance Up.drew (W w : World) [Up W w] : Up W.drew w := ⟨below_drew1 Up.h⟩
instance Up.drewN (W w : World) (n : Nat) [Up W w] : Up (W.drewN n) w := ⟨pw_below_drewN Up.h n⟩
theorem pk {W w : World} [Up W w] {g : Nat} {o : Obj} (h : w.heap[g]? = some o) : W.heap[g]? = some o := blk_below h Up.h
theorem rk {W w : World} [Up W w] {α : Type} {d : Kd α} {e b : Nat} {ok : Nat → Prop} {v : Value} {xs : List α} (h : d.R e w b ok v xs) : d.R e W b ok v xs := Kd.R_below h Up.h
theorem un {w0 w W : World} [Up W w] (h : Below w0.heap.size w0 w) : Below w0.heap.size w0 W := below_then h h.size Up.h
class Sz (W : World) (w : outParam World) : Prop where
  h : w.heap.size ≤ W.heap.size
instance (priority := low) Sz.refl (w : World) : Sz w w := ⟨Nat.le_refl _⟩
instance Sz.alloc (W w : World) (o : Obj) [Sz W w] : Sz (W.alloc o) w := ⟨by rw [World.size_alloc]; have := Sz.h (W := W) (w := w); omega⟩
instance Sz.drew (W w : World) [Sz W w] : Sz W.drew w := ⟨Sz.h (W := W)⟩
instance Sz.drewN (W w : World) (n : Nat) [Sz W w] : Sz (W.drewN n) w := ⟨Sz.h (W := W)⟩
instance Sz.setCell (W w : World) (a : Addr) (v : Value) [Sz W w] : Sz (W.setCell a v) w := ⟨by rw [World.size_setCell]; exact Sz.h⟩
theorem bl {W w : World} [Sz W w] {g : Nat} {o : Obj} (h : w.heap[g]? = some o) : g < W.heap.size := Nat.lt_of_lt_of_le (blk_lt h) Sz.h
theorem bA {w W : World} (h : Below w.heap.size w W) (o : Obj) : Below w.heap.size w (W.alloc o) := below_alloc h o
theorem bN {B : Nat} {w W : World} (h : Below B w W) (n : Nat) : Below B w (W.drewN n) := pw_below_drewN h n
theorem bD {B : Nat} {w W : World} (h : Below B w W) : Below B w W.drew := below_drew1 h
theorem lA {α β : Type} (f : α → β) (l : List α) : l.toArray.map f = (l.map f).toArray := by simp only [List.map_toArray]
theorem lB {α β : Type} (f : α → β) (a : α) (l : List α) : (a :: l).map f = f a :: l.map f := rfl
theorem lC {α β : Type} (f : α → β) : ([] : List α).map f = [] := rfl
theorem lD {α : Type} (i : Nat) (l : List α) : (l.drop i).length = l.length - i := List.length_drop
theorem lE {α : Type} (i : Nat) (l : List α) : (l.take i).length = min i l.length := List.length_take
theorem a_ {p : Prop} (h : p) : Aside0 p := ⟨h⟩
theorem bz {w W : World} {g j : Nat} {v : Value} (h : Below w.heap.size w W) (hg : Aside0 (w.heap.size ≤ g)) : Below w.heap.size w (W.setCell ⟨g, j, none⟩ v) := below_set h hg.out
theorem bs {w0 w W : World} [Sz W w] (h : Below w0.heap.size w0 w) : w0.heap.size ≤ W.heap.size := Nat.le_trans h.size Sz.h
theorem bsg {w0 w W : World} {g : Nat} [Sz W w] (hg : g = W.heap.size) (h : Below w0.heap.size w0 w) : w0.heap.size ≤ g := hg ▸ bs h
theorem nel {w W : World} {g b : Nat} {o : Obj} [Sz W w] (hg : g = W.heap.size) (h : w.heap[b]? = some o) : b ≠ g := hg ▸ Nat.ne_of_lt (bl h)
theorem nle {w W : World} {g b : Nat} {o : Obj} [Sz W w] (hg : g = W.heap.size) (h : w.heap[b]? = some o) : g ≠ b := hg ▸ Nat.ne_of_gt (bl h)
section
variable {α β γ δ ε : Type} {d : Kd α} {d' : Kd β} {d1 : Kd γ} {d2 : Kd δ} {w w1 W : World} {e e' e1 e2 e3 e4 b b' N : Nat} {ok ok' ok1 ok2 ok3 ok4 : Nat → Prop} {v u v1 v2 v3 v4 : Value} {xs : List α} {ys : List β}
theorem nw [Sz W w] (h : d.R e w1 W.heap.size ok v xs) (H : d'.R e' w b' ok' u ys) : d.R e w1 W.heap.size (fun k => ok k ∧ some k ≠ u.ownBlock) v xs := Kd.R_new' h fun k hk => Nat.lt_of_lt_of_le (Kd.R_lt H k hk) Sz.h
variable {γ1 γ2 γ3 γ4 : Type} {k1 : Kd γ1} {k2 : Kd γ2} {k3 : Kd γ3} {k4 : Kd γ4} {z1 : List γ1} {z2 : List γ2} {z3 : List γ3} {z4 : List γ4}
end
end Go.Proofs.YtlfejohlehkbgaaW.PrintWords
