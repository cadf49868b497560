/- How an argument that reads as data is taken as cells of a kind ('Kd'), and handed back: for the rows of this seat. -/
import Derived.Test.YtlfejohlehkbgaaWWords
import Derived.WalkKit
import Derived.ProofKit
import Derived.OpenShut
import Derived.ShutString
import Derived.ChangeOld
import Derived.Below
import Derived.SizedLaws
import Derived.Deep.Slices
namespace Go.Proofs.Ytlfejohlehkbgaa.Open
open Go.RowKit Go.Proofs.YtlfejohlehkbgaaW.PrintWords
set_option linter.unusedVariables false
set_option linter.unusedSimpArgs false

def Opens (P : Program) {α : Type} (d : Kd α) (ok : α → Prop) (t : TypeId) : Prop :=
  ∀ {H : Type} (enc : TypeId × Value → H) (w : World) (base : Nat) (spare : Nat → Bool) (held : Bool) (fuel : Nat) (cs : List Value) (x : DataW H × List MemPlace),
    DataW.trod enc P w base spare held fuel t cs = some x → ∃ a, d.K w a cs ∧ ok a

section
variable {P : Program} {t e : TypeId}

def flt : Kd Nat := Kd.scalar (Value.float .f64) (fun _ => rfl)
theorem trod_float {k : FloatKind} {H : Type} {enc : TypeId × Value → H} {w : World} {base : Nat} {spare : Nat → Bool} {held : Bool} {fuel : Nat} {cs : List Value} {x : DataW H × List MemPlace}
    (ht : P.underlying t = some (.float k)) (h : DataW.trod enc P w base spare held fuel t cs = some x) : ∃ n, cs = [.float k n] ∧ x = (.lit (.float k n), []) ∧ (Lit.float k n).wf = true := by
  cases fuel with
  | zero => simp [DataW.trod] at h
  | succ n =>
    unfold DataW.trod at h
    rw [ht] at h
    split at h <;> simp_all
theorem opens_float (ht : P.underlying t = some (.float .f64)) : Opens P flt (fun n => (Lit.float .f64 n).wf = true) t := by
  intro H enc w base spare held fuel cs x h
  obtain ⟨n, hcs, _, hw⟩ := trod_float ht h
  exact ⟨n, hcs, hw⟩
theorem add_add (a : Addr) (x y : Nat) : (a.add x).add y = a.add (x + y) := by
  unfold Addr.add
  by_cases hx : x = 0
  · subst hx; simp
  · by_cases hy : y = 0
    · subst hy; simp
    · simp [hx, hy, Nat.add_assoc]

theorem opens_slice {α : Type} {d : Kd α} {ok : α → Prop} (ht : P.underlying t = some (.slice e)) (hs : P.cellsOf e = d.sz) (ho : Opens P d ok e) :
    Opens P (Kd.slice e d) (fun l => l.length ≤ 9223372036854775807 ∧ ∀ a ∈ l, ok a) t := by
  intro H enc w base spare held fuel cs x h
  rcases DataW.trod_slice ht h with ⟨rfl, rfl⟩ | ⟨a, len, cap, elems, rest, n, _, rfl, rfl, hb, hl, hm, hlen, hel, _, _⟩
  · exact ⟨[], ⟨none, 0, rfl, Nat.le_refl _, Kd.C_nil d w⟩, by simp, by simp⟩
  · have one : ∀ i, i < len → ∃ v cs', d.K w v cs' ∧ ok v ∧ cs'.length = d.sz ∧ ∀ j u, cs'[j]? = some u → w.cell? (a.add (i * d.sz + j)) = some u := by
      intro i hi
      have h1 := hel i hi
      rw [List.getElem?_eq_getElem (by omega)] at h1
      obtain ⟨cs', hc, ht'⟩ := Option.bind_eq_some_iff.1 h1
      obtain ⟨v, hK, hok⟩ := ho enc w base spare held n cs' _ ht'
      obtain ⟨_, hcl, hcell⟩ := World.cells?_some hc
      refine ⟨v, cs', hK, hok, by rw [hcl, hs], fun j u hu => ?_⟩
      have hj : j < cs'.length := by
        rcases Nat.lt_or_ge j cs'.length with h | h
        · exact h
        · rw [List.getElem?_eq_none h] at hu; cases hu
      rw [← add_add, ← hs, hcell j (by omega)]
      exact hu
    have hA : ∃ l : List α, l.length = len ∧ ∀ i v, l[i]? = some v → ok v ∧ ∃ cs', cs'.length = d.sz ∧ d.K w v cs' ∧ ∀ j u, cs'[j]? = some u → w.cell? (a.add (i * d.sz + j)) = some u := by
      clear hel h
      have key : ∀ m, m ≤ len → ∃ l : List α, l.length = m ∧ ∀ i v, l[i]? = some v → ok v ∧ ∃ cs', cs'.length = d.sz ∧ d.K w v cs' ∧ ∀ j u, cs'[j]? = some u → w.cell? (a.add (i * d.sz + j)) = some u := by
        intro m
        induction m with
        | zero => intro _; exact ⟨[], rfl, fun i v hv => by simp at hv⟩
        | succ m ih =>
          intro hm
          obtain ⟨l, hll, hl'⟩ := ih (by omega)
          obtain ⟨v, cs', hK, hok, hcl, hcell⟩ := one m (by omega)
          refine ⟨l ++ [v], by simp [hll], fun i u hu => ?_⟩
          rw [List.getElem?_append] at hu
          split at hu
          · exact hl' i u hu
          · rename_i hni
            have hi : i = m := by
              rcases Nat.lt_or_ge (i - l.length) 1 with h | h
              · omega
              · rw [List.getElem?_eq_none (by simpa using h)] at hu; cases hu
            subst hi
            have : v = u := by simpa [hll] using hu
            subst this
            exact ⟨hok, cs', hcl, hK, hcell⟩
      exact key len (Nat.le_refl _)
    obtain ⟨l, rfl, hl'⟩ := hA
    have hmax : l.length ≤ 9223372036854775807 := by unfold maxLen at hm; omega
    refine ⟨l, ⟨some a, cap, rfl, hl, rfl, hmax, fun _ => ⟨a, rfl, fun j p hp => ?_⟩⟩, hmax, fun v hv => ?_⟩
    · obtain ⟨_, cs', h1, h2, h3⟩ := hl' j p hp
      exact ⟨cs', h1, h2, h3⟩
    · obtain ⟨i, hi⟩ := List.mem_iff_getElem?.1 hv
      exact (hl' i v hi).1

def OpensF (P : Program) {α : Type} (d : Kd α) (ok : α → Prop) (fs : List Field) (off : Nat) : Prop :=
  ∀ {H : Type} (enc : TypeId × Value → H) (w : World) (base : Nat) (spare : Nat → Bool) (held : Bool) (fuel : Nat) (cs : List Value) (xs : List (DataW H × List MemPlace)),
    (∀ (i : Nat) (f : Field), fs[i]? = some f → DataW.trod enc P w base spare held fuel f.type ((cs.drop f.offset).take (P.cellsOf f.type)) = xs[i]?) → xs.length = fs.length → cs.length = off + d.sz → ∃ a, d.K w a (cs.drop off) ∧ ok a

theorem opensF_one {α : Type} {d : Kd α} {ok : α → Prop} {f : Field} {off : Nat} (hf : f.offset = off) (hs : P.cellsOf f.type = d.sz) (ho : Opens P d ok f.type) : OpensF P d ok [f] off := by
  intro H enc w base spare held fuel cs xs h hl hc
  have h0 := h 0 f rfl
  rw [hf, hs, List.take_of_length_le (by simp; omega), List.getElem?_eq_getElem (by rw [hl]; simp)] at h0
  exact ho enc w base spare held fuel _ _ h0

theorem opensF_cons {α β : Type} {d : Kd α} {d' : Kd β} {ok : α → Prop} {ok' : β → Prop} {f : Field} {fs : List Field} {off : Nat} (hf : f.offset = off) (hs : P.cellsOf f.type = d.sz)
    (ho : Opens P d ok f.type) (hr : OpensF P d' ok' fs (off + d.sz)) : OpensF P (Kd.pair d d') (fun p => ok p.1 ∧ ok' p.2) (f :: fs) off := by
  intro H enc w base spare held fuel cs xs h hl hc
  have hc' : cs.length = off + d.sz + d'.sz := by rw [hc]; show off + (d.sz + d'.sz) = _; omega
  have h0 := h 0 f rfl
  rw [hf, hs, List.getElem?_eq_getElem (by rw [hl]; simp)] at h0
  obtain ⟨a, hK, hok⟩ := ho enc w base spare held fuel _ _ h0
  obtain ⟨b, hK', hok'⟩ := hr enc w base spare held fuel cs xs.tail (fun i g hg => by rw [h (i + 1) g (by simpa using hg)]; simp [List.getElem?_tail]) (by simp [hl]) hc'
  refine ⟨(a, b), ⟨_, _, ?_, hK, hK'⟩, hok, hok'⟩
  rw [← List.drop_drop, List.take_append_drop]

theorem opens_struct {α : Type} {d : Kd α} {ok : α → Prop} {fs : Array Field} (ht : P.underlying t = some (.struct fs)) (hs : P.cellsOf t = d.sz) (ho : OpensF P d ok fs.toList 0) : Opens P d ok t := by
  intro H enc w base spare held fuel cs x h
  obtain ⟨xs, n, _, _, hl, hx, hf⟩ := DataW.trod_struct ht h
  have := ho enc w base spare held n cs xs (fun i f hi => hf i f (by simpa using hi)) (by simpa using hx) (by rw [hl, hs, Nat.zero_add])
  simpa using this

theorem opens_iso {α β : Type} {d : Kd α} {ok : α → Prop} (ho : Opens P d ok t) (f : β → α) (g : α → β) (hfg : ∀ a, f (g a) = a) : Opens P (Kd.iso d f) (fun b => ok (f b)) t := by
  intro H enc w base spare held fuel cs x h
  obtain ⟨a, hK, hok⟩ := ho enc w base spare held fuel cs x h
  exact ⟨g a, by show d.K w (f (g a)) cs; rw [hfg]; exact hK, by show ok (f (g a)); rw [hfg]; exact hok⟩

theorem below_all {H : Type} {enc : TypeId × Value → H} (hl : laidOutB P = true) {W W' : World} (hb : Below W.heap.size W W') : ∀ (ts : List TypeId), (∀ t ∈ ts, P.readableRec t = true ∧ t < P.types.size) →
    ∀ (vs : List Value) (ds : List (DataW H)) (ps : List MemPlace), DataW.TrodAll enc P W 0 (fun _ => true) true ts vs ds ps → (∀ x ∈ ps, x.block < W.heap.size) →
    DataW.TrodAll enc P W' 0 (fun b => decide (b < W.heap.size)) true ts vs ds ps
  | [], _, [], [], _, h, _ => h
  | t :: ts, ht, v :: vs, d :: ds, ps, ⟨p, q, h1, h2, he⟩, hp => by
    subst he
    exact ⟨p, q, Below.trod hl (ht t List.mem_cons_self).1 (ht t List.mem_cons_self).2 h1 hb (fun x hx => hp x (List.mem_append_left _ hx)),
      below_all hl hb ts (fun t' h' => ht t' (List.mem_cons_of_mem _ h')) vs ds q h2 (fun x hx => hp x (List.mem_append_right _ hx)), rfl⟩
  | [], _, _ :: _, _, _, h, _ => h.elim
  | [], _, [], _ :: _, _, h, _ => h.elim
  | _ :: _, _, [], _, _, h, _ => h.elim
  | _ :: _, _, _ :: _, [], _, h, _ => h.elim
end
end Go.Proofs.Ytlfejohlehkbgaa.Open
