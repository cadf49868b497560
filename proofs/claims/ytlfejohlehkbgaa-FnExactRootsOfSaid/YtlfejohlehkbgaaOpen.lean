/- How an argument that reads as data is taken as cells of a kind ('Kd'), and handed back: for the rows of this seat. -/
import Derived.Test.YtlfejohlehkbgaaWWords
import Derived.WalkKit
import Derived.ProofKit
import Derived.OpenShut
import Derived.ShutString
import Derived.ChangeOld
import Derived.Below
import Derived.SizedLaws
import Derived.Deep.Slices
namespace Go.Proofs.Ytlfejohlehkbgaa.Open
open Go.RowKit Go.Proofs.YtlfejohlehkbgaaW.PrintWords
set_option linter.unusedVariables false
set_option linter.unusedSimpArgs false

def Opens (P : Program) {α : Type} (d : Kd α) (ok : α → Prop) (t : TypeId) : Prop :=
  ∀ {H : Type} (enc : TypeId × Value → H) (w : World) (base : Nat) (spare : Nat → Bool) (held : Bool) (fuel : Nat) (cs : List Value) (x : DataW H × List MemPlace),
    DataW.trod enc P w base spare held fuel t cs = some x → ∃ a, d.K w a cs ∧ ok a

section
variable {P : Program} {t e : TypeId}

def flt : Kd Nat := Kd.scalar (Value.float .f64) (fun _ => rfl)
theorem trod_float {k : FloatKind} {H : Type} {enc : TypeId × Value → H} {w : World} {base : Nat} {spare : Nat → Bool} {held : Bool} {fuel : Nat} {cs : List Value} {x : DataW H × List MemPlace}
    (ht : P.underlying t = some (.float k)) (h : DataW.trod enc P w base spare held fuel t cs = some x) : ∃ n, cs = [.float k n] ∧ x = (.lit (.float k n), []) ∧ (Lit.float k n).wf = true := by
  cases fuel with
  | zero => simp [DataW.trod] at h
  | succ n =>
    unfold DataW.trod at h
    rw [ht] at h
    split at h <;> simp_all
theorem opens_float (ht : P.underlying t = some (.float .f64)) : Opens P flt (fun n => (Lit.float .f64 n).wf = true) t := by
  intro H enc w base spare held fuel cs x h
  obtain ⟨n, hcs, _, hw⟩ := trod_float ht h
  exact ⟨n, hcs, hw⟩
theorem add_add (a : Addr) (x y : Nat) : (a.add x).add y = a.add (x + y) := by
  unfold Addr.add
  by_cases hx : x = 0
  · subst hx; simp
  · by_cases hy : y = 0
    · subst hy; simp
    · simp [hx, hy, Nat.add_assoc]

theorem opens_slice {α : Type} {d : Kd α} {ok : α → Prop} (ht : P.underlying t = some (.slice e)) (hs : P.cellsOf e = d.sz) (ho : Opens P d ok e) :
    Opens P (Kd.slice e d) (fun l => l.length ≤ 9223372036854775807 ∧ ∀ a ∈ l, ok a) t := by
  intro H enc w base spare held fuel cs x h
  rcases DataW.trod_slice ht h with ⟨rfl, rfl⟩ | ⟨a, len, cap, elems, rest, n, _, rfl, rfl, hb, hl, hm, hlen, hel, _, _⟩
  · exact ⟨[], ⟨none, 0, rfl, Nat.le_refl _, Kd.C_nil d w⟩, by simp, by simp⟩
  · have one : ∀ i, i < len → ∃ v cs', d.K w v cs' ∧ ok v ∧ cs'.length = d.sz ∧ ∀ j u, cs'[j]? = some u → w.cell? (a.add (i * d.sz + j)) = some u := by
      intro i hi
      have h1 := hel i hi
      rw [List.getElem?_eq_getElem (by omega)] at h1
      obtain ⟨cs', hc, ht'⟩ := Option.bind_eq_some_iff.1 h1
      obtain ⟨v, hK, hok⟩ := ho enc w base spare held n cs' _ ht'
      obtain ⟨_, hcl, hcell⟩ := World.cells?_some hc
      refine ⟨v, cs', hK, hok, by rw [hcl, hs], fun j u hu => ?_⟩
      have hj : j < cs'.length := by
        rcases Nat.lt_or_ge j cs'.length with h | h
        · exact h
        · rw [List.getElem?_eq_none h] at hu; cases hu
      rw [← add_add, ← hs, hcell j (by omega)]
      exact hu
    have hA : ∃ l : List α, l.length = len ∧ ∀ i v, l[i]? = some v → ok v ∧ ∃ cs', cs'.length = d.sz ∧ d.K w v cs' ∧ ∀ j u, cs'[j]? = some u → w.cell? (a.add (i * d.sz + j)) = some u := by
      clear hel h
      have key : ∀ m, m ≤ len → ∃ l : List α, l.length = m ∧ ∀ i v, l[i]? = some v → ok v ∧ ∃ cs', cs'.length = d.sz ∧ d.K w v cs' ∧ ∀ j u, cs'[j]? = some u → w.cell? (a.add (i * d.sz + j)) = some u := by
        intro m
        induction m with
        | zero => intro _; exact ⟨[], rfl, fun i v hv => by simp at hv⟩
        | succ m ih =>
          intro hm
          obtain ⟨l, hll, hl'⟩ := ih (by omega)
          obtain ⟨v, cs', hK, hok, hcl, hcell⟩ := one m (by omega)
          refine ⟨l ++ [v], by simp [hll], fun i u hu => ?_⟩
          rw [List.getElem?_append] at hu
          split at hu
          · exact hl' i u hu
          · rename_i hni
            have hi : i = m := by
              rcases Nat.lt_or_ge (i - l.length) 1 with h | h
              · omega
              · rw [List.getElem?_eq_none (by simpa using h)] at hu; cases hu
            subst hi
            have : v = u := by simpa [hll] using hu
            subst this
            exact ⟨hok, cs', hcl, hK, hcell⟩
      exact key len (Nat.le_refl _)
    obtain ⟨l, rfl, hl'⟩ := hA
    have hmax : l.length ≤ 9223372036854775807 := by unfold maxLen at hm; omega
    refine ⟨l, ⟨some a, cap, rfl, hl, rfl, hmax, fun _ => ⟨a, rfl, fun j p hp => ?_⟩⟩, hmax, fun v hv => ?_⟩
    · obtain ⟨_, cs', h1, h2, h3⟩ := hl' j p hp
      exact ⟨cs', h1, h2, h3⟩
    · obtain ⟨i, hi⟩ := List.mem_iff_getElem?.1 hv
      exact (hl' i v hi).1

theorem below_all {H : Type} {enc : TypeId × Value → H} (hl : laidOutB P = true) {W W' : World} (hb : Below W.heap.size W W') : ∀ (ts : List TypeId), (∀ t ∈ ts, P.readableRec t = true ∧ t < P.types.size) →
    ∀ (vs : List Value) (ds : List (DataW H)) (ps : List MemPlace), DataW.TrodAll enc P W 0 (fun _ => true) true ts vs ds ps → (∀ x ∈ ps, x.block < W.heap.size) →
    DataW.TrodAll enc P W' 0 (fun b => decide (b < W.heap.size)) true ts vs ds ps
  | [], _, [], [], _, h, _ => h
  | t :: ts, ht, v :: vs, d :: ds, ps, ⟨p, q, h1, h2, he⟩, hp => by
    subst he
    exact ⟨p, q, Below.trod hl (ht t List.mem_cons_self).1 (ht t List.mem_cons_self).2 h1 hb (fun x hx => hp x (List.mem_append_left _ hx)),
      below_all hl hb ts (fun t' h' => ht t' (List.mem_cons_of_mem _ h')) vs ds q h2 (fun x hx => hp x (List.mem_append_right _ hx)), rfl⟩
  | [], _, _ :: _, _, _, h, _ => h.elim
  | [], _, [], _ :: _, _, h, _ => h.elim
  | _ :: _, _, [], _, _, h, _ => h.elim
  | _ :: _, _, _ :: _, [], _, h, _ => h.elim
end
end Go.Proofs.Ytlfejohlehkbgaa.Open
