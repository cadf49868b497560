-- Written by a program of this session out of the loaded functions' print; helper lemmas as print.sh lays them.
import Derived.Test.YtbhnnobpjmnngaaUp2
import Derived.Test.YtbhnnobpjmnngaaUp
import Derived.Test.YtbhnnobpjmnngaaRel
import Derived.Test.YtbhnnobpjmnngaaRFnJoinsx0
import Derived.Test.YtbhnnobpjmnngaaRFnJoinsx1
import Derived.Test.YtbhnnobpjmnngaaRFnJoinsx3
namespace Go.Proofs.Ytbhnnobpjmnngaa.PFnJoins
open Go.RowKit Go.Proofs.YtbhnnobpjmnngaaW.PrintWords Go.Proofs.YtbhnnobpjmnngaaW.PrintLast Go.Proofs.YtbhnnobpjmnngaaW.PrintMore
attribute [local go_sem] max2_int min2_int max_two min_two max_three min_three max_four min_four go_fstore go_fneg go_fadd go_fsub go_fmul go_fquo go_fmax go_fmin go_fconv go_bits go_frombits  -- for this text's walks alone
set_option linter.unusedVariables false
set_option linter.unusedSimpArgs false

/-! ### spec_l17Boxes: function 11 -/
/-- A list, its first word any other one. -/
def IncL (inc : Bool) (l l' : List Nat) : Prop := match inc with
 | true => ∃ v : Nat, v < 18446744073709551616 ∧ l' = l.set (0 : Int).toNat v
 | false => l' = l
def spec_l17Boxes.f (k : Nat) (l0 : List Int) : Option (List Nat × List Nat × List Nat × List Nat × Bool) := (spec_l1Cur_dim.f l0 0 0).bind fun bt251 => ((spec_l1Cur_box.f k l0 bt251.2.1 bt251.2.2 bt251.1).bind fun bt254 => ((spec_l1Cur_one.f l0 bt254.2.2.1 bt254.2.2.2 4).bind fun bt263 => (if bt263.1 = true then ((some (([] : List Nat) : List Nat)).bind fun y266 => (if y266.length + bt254.1.length < 17592186044416 then ((some (y266 ++ bt254.1 : List Nat)).bind fun y269 => ((some (([] : List Nat) : List Nat)).bind fun y272 => (if y272.length + bt254.2.1.length < 17592186044416 then ((some (y272 ++ bt254.2.1 : List Nat)).bind fun y275 => (if (y275.length : Int) > 0 then (if 0 < (y275.length : Int) then (some (bt254.1, bt254.2.1, y269, y275, true)) else (none)) else (some (bt254.1, bt254.2.1, y269, y275, false)))) else (none)))) else (none))) else ((spec_l1Cur_one.f l0 bt263.2.1 bt263.2.2 20).bind fun bt281 => (if bt281.1 = true then ((spec_l1Cur_box.f k l0 bt281.2.1 bt281.2.2 (wrap64 (bt251.1 + 1))).bind fun bt284 => (some (bt254.1, bt254.2.1, bt284.1, bt284.2.1, false))) else ((spec_l1Cur_box.f k l0 bt281.2.1 bt281.2.2 bt251.1).bind fun bt292 => (some (bt254.1, bt254.2.1, bt292.1, bt292.2.1, false))))))))
theorem spec_l17Boxes.mono : ∀ a0 k, LeO (spec_l17Boxes.f k a0) (spec_l17Boxes.f (k + 1) a0) := by
 intro a0 k
 unfold spec_l17Boxes.f
 repeat' first
   | (with_reducible exact spec_l1Cur_box.mono _ _ _ _ _)
   | (with_reducible exact LeO.refl _)
   | (with_reducible exact LeO.none _)
   | (with_reducible refine LeO.ite ?_ ?_)
   | (with_reducible refine LeO.bind ?_ (fun _ => ?_))
   | exact spec_l1Cur_box.mono _ _ _ _ _
   | exact LeO.none _
   | refine LeO.ite ?_ ?_
   | refine LeO.bind ?_ (fun _ => ?_)
def spec_l17Boxes.T5 : Bool × List (List Nat × List Nat) := (true, [([], []), ([], []), ([1], [1]), ([0, 2], [0, 2]), ([], []), ([], []), ([5], [5]), ([4, 6, 3], [4, 6]), ([3, 7], [3, 7]), ([], []), ([9, 8, 7, 0, 1, 2, 3, 4, 5, 6, 7, 8, 9], [8, 9])])
def spec_l17Boxes.B5 : List Nat := [0, 0, 2, 7, 0, 0, 32, 127, 255, 0, 1023]
theorem spec_l17Boxes.tab5 : rtab .any (opsOf Try.f11 5) = spec_l17Boxes.T5 := by kernel_rfl
theorem spec_l17Boxes.bits5 : waitsOk spec_l17Boxes.T5.2 spec_l17Boxes.B5 = true := by kernel_rfl
section
open Go.Proofs.Ytbhnnobpjmnngaa
attribute [local go_sem] go_tadd
set_option maxHeartbeats 8000000 in
set_option maxRecDepth 100000 in
theorem spec_l17Boxes.calls (k : Nat) (A0 : Option Addr) (c0 : Nat) (l0 : List Int) (r1 : List Nat) (r2 : List Nat) (r3 : List Nat) (r4 : List Nat) (inc : Bool) (w : World) (hr0 : Kd.C (Kd.int .u8) w A0 l0.length l0) (hc0 : l0.length ≤ c0) (h : spec_l17Boxes.f k l0 = some (r1, r2, r3, r4, inc)) :
  Calls Try.prog 11 #[.slice A0 l0.length c0] w fun e w' => ∃ r4_, IncL inc r4 r4_ ∧ ∃ v0_ v1_ v2_ v3_ : Value, e = .returned (.tuple #[.agg #[v0_, v1_], .agg #[v2_, v3_]]) ∧ Kd.R Kd.flt 33 w' w.heap.size (fun k_ => N_ v1_ k_ ∧ N_ v2_ k_ ∧ N_ v3_ k_) v0_ r1 ∧ Kd.R Kd.flt 33 w' w.heap.size (fun k_ => N_ v0_ k_ ∧ N_ v2_ k_ ∧ N_ v3_ k_) v1_ r2 ∧ Kd.R Kd.flt 33 w' w.heap.size (fun k_ => N_ v0_ k_ ∧ N_ v1_ k_ ∧ N_ v3_ k_) v2_ r3 ∧ Kd.R Kd.flt 33 w' w.heap.size (fun k_ => N_ v0_ k_ ∧ N_ v1_ k_ ∧ N_ v2_ k_) v3_ r4_ ∧ Below w.heap.size w w' := by
 have hu25 := Try.underlying25
 have hu38 := Try.underlying38
 have HR0 := Aside0.mk hr0
 have HC0 := Aside0.mk hc0
 clear hr0 hc0
 have HB := a_ (Below.refl w.heap.size w)
 have H : ((spec_l1Cur_dim.f l0 0 0).bind fun bt251 => ((spec_l1Cur_box.f k l0 bt251.2.1 bt251.2.2 bt251.1).bind fun bt254 => ((spec_l1Cur_one.f l0 bt254.2.2.1 bt254.2.2.2 4).bind fun bt263 => (if bt263.1 = true then ((some (([] : List Nat) : List Nat)).bind fun y266 => (if y266.length + bt254.1.length < 17592186044416 then ((some (y266 ++ bt254.1 : List Nat)).bind fun y269 => ((some (([] : List Nat) : List Nat)).bind fun y272 => (if y272.length + bt254.2.1.length < 17592186044416 then ((some (y272 ++ bt254.2.1 : List Nat)).bind fun y275 => (if (y275.length : Int) > 0 then (if 0 < (y275.length : Int) then (some (bt254.1, bt254.2.1, y269, y275, true)) else (none)) else (some (bt254.1, bt254.2.1, y269, y275, false)))) else (none)))) else (none))) else ((spec_l1Cur_one.f l0 bt263.2.1 bt263.2.2 20).bind fun bt281 => (if bt281.1 = true then ((spec_l1Cur_box.f k l0 bt281.2.1 bt281.2.2 (wrap64 (bt251.1 + 1))).bind fun bt284 => (some (bt254.1, bt254.2.1, bt284.1, bt284.2.1, false))) else ((spec_l1Cur_box.f k l0 bt281.2.1 bt281.2.2 bt251.1).bind fun bt292 => (some (bt254.1, bt254.2.1, bt292.1, bt292.2.1, false))))))))) = some (r1, r2, r3, r4, inc) := h
 clear h
 replace H := Option.bind_eq_some_iff.mp H
 obtain ⟨⟨t251, t252, t253⟩, A20, H⟩ := H
 replace H : ((spec_l1Cur_box.f k l0 t252 t253 t251).bind fun bt254 => ((spec_l1Cur_one.f l0 bt254.2.2.1 bt254.2.2.2 4).bind fun bt263 => (if bt263.1 = true then ((some (([] : List Nat) : List Nat)).bind fun y266 => (if y266.length + bt254.1.length < 17592186044416 then ((some (y266 ++ bt254.1 : List Nat)).bind fun y269 => ((some (([] : List Nat) : List Nat)).bind fun y272 => (if y272.length + bt254.2.1.length < 17592186044416 then ((some (y272 ++ bt254.2.1 : List Nat)).bind fun y275 => (if (y275.length : Int) > 0 then (if 0 < (y275.length : Int) then (some (bt254.1, bt254.2.1, y269, y275, true)) else (none)) else (some (bt254.1, bt254.2.1, y269, y275, false)))) else (none)))) else (none))) else ((spec_l1Cur_one.f l0 bt263.2.1 bt263.2.2 20).bind fun bt281 => (if bt281.1 = true then ((spec_l1Cur_box.f k l0 bt281.2.1 bt281.2.2 (wrap64 (t251 + 1))).bind fun bt284 => (some (bt254.1, bt254.2.1, bt284.1, bt284.2.1, false))) else ((spec_l1Cur_box.f k l0 bt281.2.1 bt281.2.2 t251).bind fun bt292 => (some (bt254.1, bt254.2.1, bt292.1, bt292.2.1, false)))))))) = some (r1, r2, r3, r4, inc) := H
 have A2 := Aside0.mk A20
 clear A20
 replace H := Option.bind_eq_some_iff.mp H
 obtain ⟨⟨t254, t257, t260, t261⟩, A30, H⟩ := H
 replace H : ((spec_l1Cur_one.f l0 t260 t261 4).bind fun bt263 => (if bt263.1 = true then ((some (([] : List Nat) : List Nat)).bind fun y266 => (if y266.length + t254.length < 17592186044416 then ((some (y266 ++ t254 : List Nat)).bind fun y269 => ((some (([] : List Nat) : List Nat)).bind fun y272 => (if y272.length + t257.length < 17592186044416 then ((some (y272 ++ t257 : List Nat)).bind fun y275 => (if (y275.length : Int) > 0 then (if 0 < (y275.length : Int) then (some (t254, t257, y269, y275, true)) else (none)) else (some (t254, t257, y269, y275, false)))) else (none)))) else (none))) else ((spec_l1Cur_one.f l0 bt263.2.1 bt263.2.2 20).bind fun bt281 => (if bt281.1 = true then ((spec_l1Cur_box.f k l0 bt281.2.1 bt281.2.2 (wrap64 (t251 + 1))).bind fun bt284 => (some (t254, t257, bt284.1, bt284.2.1, false))) else ((spec_l1Cur_box.f k l0 bt281.2.1 bt281.2.2 t251).bind fun bt292 => (some (t254, t257, bt292.1, bt292.2.1, false))))))) = some (r1, r2, r3, r4, inc) := H
 have A3 := Aside0.mk A30
 clear A30
 replace H := Option.bind_eq_some_iff.mp H
 obtain ⟨⟨t263, t264, t265⟩, A40, H⟩ := H
 replace H : (if t263 = true then ((some (([] : List Nat) : List Nat)).bind fun y266 => (if y266.length + t254.length < 17592186044416 then ((some (y266 ++ t254 : List Nat)).bind fun y269 => ((some (([] : List Nat) : List Nat)).bind fun y272 => (if y272.length + t257.length < 17592186044416 then ((some (y272 ++ t257 : List Nat)).bind fun y275 => (if (y275.length : Int) > 0 then (if 0 < (y275.length : Int) then (some (t254, t257, y269, y275, true)) else (none)) else (some (t254, t257, y269, y275, false)))) else (none)))) else (none))) else ((spec_l1Cur_one.f l0 t264 t265 20).bind fun bt281 => (if bt281.1 = true then ((spec_l1Cur_box.f k l0 bt281.2.1 bt281.2.2 (wrap64 (t251 + 1))).bind fun bt284 => (some (t254, t257, bt284.1, bt284.2.1, false))) else ((spec_l1Cur_box.f k l0 bt281.2.1 bt281.2.2 t251).bind fun bt292 => (some (t254, t257, bt292.1, bt292.2.1, false)))))) = some (r1, r2, r3, r4, inc) := H
 have A4 := Aside0.mk A40
 clear A40
 by_cases c5 : t263 = true
 ·subst c5
  have H1 : ((some (([] : List Nat) : List Nat)).bind fun y266 => (if y266.length + t254.length < 17592186044416 then ((some (y266 ++ t254 : List Nat)).bind fun y269 => ((some (([] : List Nat) : List Nat)).bind fun y272 => (if y272.length + t257.length < 17592186044416 then ((some (y272 ++ t257 : List Nat)).bind fun y275 => (if (y275.length : Int) > 0 then (if 0 < (y275.length : Int) then (some (t254, t257, y269, y275, true)) else (none)) else (some (t254, t257, y269, y275, false)))) else (none)))) else (none))) = some (r1, r2, r3, r4, inc) := by rw [if_pos rfl] at H; exact H
  clear H
  have H := H1
  clear H1
  obtain ⟨y266, hy266⟩ : ∃ y_ : List Nat, y_ = ([] : List Nat) := ⟨_, rfl⟩
  replace H : (if y266.length + t254.length < 17592186044416 then ((some (y266 ++ t254 : List Nat)).bind fun y269 => ((some (([] : List Nat) : List Nat)).bind fun y272 => (if y272.length + t257.length < 17592186044416 then ((some (y272 ++ t257 : List Nat)).bind fun y275 => (if (y275.length : Int) > 0 then (if 0 < (y275.length : Int) then (some (t254, t257, y269, y275, true)) else (none)) else (some (t254, t257, y269, y275, false)))) else (none)))) else (none)) = some (r1, r2, r3, r4, inc) := by first | (rw [hy266]; with_reducible exact H) | (have H2_ := (Option.bind_some _ _).symm.trans H; rw [hy266]; with_reducible exact H2_) | (have H2_ := (Option.bind_some _ _).symm.trans H; with_reducible exact H2_) | with_reducible exact H | (rw [hy266]; exact H) | exact H
  have Ny266 := Aside0.mk hy266
  clear hy266
  by_cases c6 : y266.length + t254.length < 17592186044416
  ·rw [if_pos c6] at H
   have LMc6 := Aside0.mk c6
   clear c6
   obtain ⟨y269, hy269⟩ : ∃ y_ : List Nat, y_ = (y266 ++ t254) := ⟨_, rfl⟩
   replace H : ((some (([] : List Nat) : List Nat)).bind fun y272 => (if y272.length + t257.length < 17592186044416 then ((some (y272 ++ t257 : List Nat)).bind fun y275 => (if (y275.length : Int) > 0 then (if 0 < (y275.length : Int) then (some (t254, t257, y269, y275, true)) else (none)) else (some (t254, t257, y269, y275, false)))) else (none))) = some (r1, r2, r3, r4, inc) := by first | (rw [hy269]; with_reducible exact H) | (have H2_ := (Option.bind_some _ _).symm.trans H; rw [hy269]; with_reducible exact H2_) | (have H2_ := (Option.bind_some _ _).symm.trans H; with_reducible exact H2_) | with_reducible exact H | (rw [hy269]; exact H) | exact H
   have Ny269 := Aside0.mk hy269
   clear hy269
   obtain ⟨y272, hy272⟩ : ∃ y_ : List Nat, y_ = ([] : List Nat) := ⟨_, rfl⟩
   replace H : (if y272.length + t257.length < 17592186044416 then ((some (y272 ++ t257 : List Nat)).bind fun y275 => (if (y275.length : Int) > 0 then (if 0 < (y275.length : Int) then (some (t254, t257, y269, y275, true)) else (none)) else (some (t254, t257, y269, y275, false)))) else (none)) = some (r1, r2, r3, r4, inc) := by first | (rw [hy272]; with_reducible exact H) | (have H2_ := (Option.bind_some _ _).symm.trans H; rw [hy272]; with_reducible exact H2_) | (have H2_ := (Option.bind_some _ _).symm.trans H; with_reducible exact H2_) | with_reducible exact H | (rw [hy272]; exact H) | exact H
   have Ny272 := Aside0.mk hy272
   clear hy272
   by_cases c7 : y272.length + t257.length < 17592186044416
   ·rw [if_pos c7] at H
    have LMc7 := Aside0.mk c7
    clear c7
    obtain ⟨y275, hy275⟩ : ∃ y_ : List Nat, y_ = (y272 ++ t257) := ⟨_, rfl⟩
    replace H : (if (y275.length : Int) > 0 then (if 0 < (y275.length : Int) then (some (t254, t257, y269, y275, true)) else (none)) else (some (t254, t257, y269, y275, false))) = some (r1, r2, r3, r4, inc) := by first | (rw [hy275]; with_reducible exact H) | (have H2_ := (Option.bind_some _ _).symm.trans H; rw [hy275]; with_reducible exact H2_) | (have H2_ := (Option.bind_some _ _).symm.trans H; with_reducible exact H2_) | with_reducible exact H | (rw [hy275]; exact H) | exact H
    have Ny275 := Aside0.mk hy275
    clear hy275
    have HQ := Aside0.mk H
    clear H
    go_enter Try.func11, Try.ntmps11
    try go_wp2_with (first | ((with_reducible refine gate_dst (N := 2) rfl ?_); refine box_event ?hg (N := 2) ?hd (cs := #[.slice none 0 0, .slice none 0 0]) (t := 25) ?hr ?_; (case hd => rfl); (case hg => rfl); (case hr => first | (go_simp; done) | (go_simp; rfl)); intro gb248 hg w12 hbox hb; have BK248 := a_ (hbox); have GW248 := a_ (bsg hg HB.out); have GE248 := a_ (bsg hg HB.out); replace HB := a_ (below_step (un HB.out) hb); clear hb hbox hg) | ((with_reducible refine gate_dst (N := 3) rfl ?_); refine box_event ?hg (N := 3) ?hd (cs := #[.slice none 0 0, .slice none 0 0]) (t := 25) ?hr ?_; (case hd => rfl); (case hg => rfl); (case hr => first | (go_simp; done) | (go_simp; rfl)); intro gb249 hg w13 hbox hb; have BK249 := a_ (hbox); have GW249 := a_ (bsg hg HB.out); have GE249 := a_ (bsg hg HB.out); replace HB := a_ (below_step (by repeat (with_reducible first | exact HB.out | refine bz ?_ (by assumption) | apply bA | apply bN | apply bD)) hb); have NB248_249 := a_ (nel hg BK248.out); have NB249_248 := a_ (nle hg BK248.out); replace BK248 := a_ (blk_below (pk BK248.out) hb); clear hb hbox hg) | ((with_reducible refine gate_dst (N := 10) rfl ?_); refine box_event ?hg (N := 10) ?hd (cs := #[.slice A0 l0.length c0, .int .i64 0, .int .u64 0]) (t := 38) ?hr ?_; (case hd => rfl); (case hg => rfl); (case hr => first | (go_simp; done) | (go_simp; rfl)); intro gb250 hg w14 hbox hb; have GW250 := a_ (bsg hg HB.out); have GE250 := a_ (bsg hg HB.out); have NB248_250 := a_ (nel hg BK248.out); have NB250_248 := a_ (nle hg BK248.out); replace BK248 := a_ (blk_below (pk BK248.out) hb); have NB249_250 := a_ (nel hg BK249.out); have NB250_249 := a_ (nle hg BK249.out); replace BK249 := a_ (blk_below (pk BK249.out) hb); have HI250 := a_ (show IsS38 w w14 gb250 l0 0 0 from ⟨_, _, hbox, (by rw [hg]; exact (below_size (by repeat (with_reducible first | exact HB.out | refine bz ?_ (by assumption) | apply bA | apply bN | apply bD))) : w.heap.size ≤ gb250), HR0.out⟩); replace HB := a_ (below_step (by repeat (with_reducible first | exact HB.out | refine bz ?_ (by assumption) | apply bA | apply bN | apply bD)) hb); clear hb hbox hg) | ((with_reducible refine gate_callee (f := 15) rfl ?_); refine goesL_ (some 12) rfl rfl Try.func15 (by kernel_rfl) rfl #[.pointer (some ⟨gb250, 0, none⟩)] rfl (by (try simp only [lA, lB, lC]); first | done | rfl | (simp only [lD, lE]; rfl)) ?_; (with_reducible refine (spec_l1Cur_dim.calls gb250 l0 0 0 t251 t252 t253 w _ ?side1 ?side2 A2.out).mono ?_); (case side1 => repeat (first | (with_reducible first | exact HI250.out | apply IsS38.alloc | apply IsS38.drewN | apply IsS38.drew | apply IsS38.set_1 | apply IsS38.set_2 | refine IsS38.far ?_ NB250_248.out _ | refine IsS38.far ?_ NB250_249.out _) | exact HI250.out)); (case side2 => repeat (first | (with_reducible first | exact HB.out | apply below_alloc | apply pw_below_drewN | apply below_drew1 | refine below_set ?_ (IsS38.ge HI250.out) | refine below_set ?_ GE248.out | refine below_set ?_ GE249.out) | exact HB.out)); rintro e w15 ⟨rfl, hi, hb, hk⟩; refine ⟨_, rfl, ?_⟩; replace BK248 := a_ (KeepBut.blk hk (g' := gb248) (o := .cells #[.slice none 0 0, .slice none 0 0] 25 (0, 0)) (pk BK248.out) NB248_250.out (by simp)); replace BK249 := a_ (KeepBut.blk hk (g' := gb249) (o := .cells #[.slice none 0 0, .slice none 0 0] 25 (0, 0)) (pk BK249.out) NB249_250.out (by simp)); replace HB := a_ (hb); replace HI250 := a_ (hi); clear hb hk hi) | ((with_reducible refine gate_callee (f := 16) rfl ?_); refine goesL_ (some 15) rfl rfl Try.func16 (by kernel_rfl) rfl #[.pointer (some ⟨gb250, 0, none⟩), .int .i64 t251] rfl (by (try simp only [lA, lB, lC]); first | done | rfl | (simp only [lD, lE]; rfl)) ?_; (with_reducible refine (spec_l1Cur_box.calls k gb250 l0 t252 t253 t251 t254 t257 t260 t261 w _ ?side1 ?side2 A3.out).mono ?_); (case side1 => repeat (first | (with_reducible first | exact HI250.out | apply IsS38.alloc | apply IsS38.drewN | apply IsS38.drew | apply IsS38.set_1 | apply IsS38.set_2 | refine IsS38.far ?_ NB250_248.out _ | refine IsS38.far ?_ NB250_249.out _) | exact HI250.out)); (case side2 => repeat (first | (with_reducible first | exact HB.out | apply below_alloc | apply pw_below_drewN | apply below_drew1 | refine below_set ?_ (IsS38.ge HI250.out) | refine below_set ?_ GE248.out | refine below_set ?_ GE249.out) | exact HB.out)); rintro e w16 ⟨v255, v258, rfl, ho0, ho1, hi, hb, hk⟩; refine ⟨_, rfl, ?_⟩; replace BK248 := a_ (KeepBut.blk hk (g' := gb248) (o := .cells #[.slice none 0 0, .slice none 0 0] 25 (0, 0)) (pk BK248.out) NB248_250.out (by simp)); replace BK249 := a_ (KeepBut.blk hk (g' := gb249) (o := .cells #[.slice none 0 0, .slice none 0 0] 25 (0, 0)) (pk BK249.out) NB249_250.out (by simp)); have HO256 := a_ (Kd.R_lower ho0 (below_size (by repeat (first | (with_reducible first | exact HB.out | apply below_alloc | apply pw_below_drewN | apply below_drew1 | refine below_set ?_ (IsS38.ge HI250.out) | refine below_set ?_ GE248.out | refine below_set ?_ GE249.out) | exact HB.out)))); have HO259 := a_ (Kd.R_lower ho1 (below_size (by repeat (first | (with_reducible first | exact HB.out | apply below_alloc | apply pw_below_drewN | apply below_drew1 | refine below_set ?_ (IsS38.ge HI250.out) | refine below_set ?_ GE248.out | refine below_set ?_ GE249.out) | exact HB.out)))); replace HB := a_ (hb); replace HI250 := a_ (hi); clear hb hk hi ho0 ho1) | ((with_reducible refine gate_dst (N := 6) rfl ?_); refine box_event ?hg (N := 6) ?hd (cs := #[.slice none 0 0, .slice none 0 0]) (t := 25) ?hr ?_; (case hd => rfl); (case hg => rfl); (case hr => first | (go_simp; done) | (go_simp; rfl)); intro gb262 hg w17 hbox hb; replace HO256 := a_ (Kd.R_below (rk HO256.out) hb); replace HO259 := a_ (Kd.R_below (rk HO259.out) hb); have BK262 := a_ (hbox); have GW262 := a_ (by rw [hg]; exact (below_size (by repeat (first | (with_reducible first | exact HB.out | apply below_alloc | apply pw_below_drewN | apply below_drew1 | refine below_set ?_ (IsS38.ge HI250.out) | refine below_set ?_ GE248.out | refine below_set ?_ GE249.out) | exact HB.out))) : w.heap.size ≤ gb262); have GE262 := a_ (by rw [hg]; exact (below_size (by repeat (first | (with_reducible first | exact HB.out | apply below_alloc | apply pw_below_drewN | apply below_drew1 | refine below_set ?_ (IsS38.ge HI250.out) | refine below_set ?_ GE248.out | refine below_set ?_ GE249.out) | exact HB.out))) : w.heap.size ≤ gb262); replace HB := a_ (below_step (by repeat (first | (with_reducible first | exact HB.out | apply below_alloc | apply pw_below_drewN | apply below_drew1 | refine below_set ?_ (IsS38.ge HI250.out) | refine below_set ?_ GE248.out | refine below_set ?_ GE249.out) | exact HB.out)) hb); have NB248_262 := a_ (nel hg BK248.out); have NB262_248 := a_ (nle hg BK248.out); replace BK248 := a_ (blk_below (pk BK248.out) hb); have NB249_262 := a_ (nel hg BK249.out); have NB262_249 := a_ (nle hg BK249.out); replace BK249 := a_ (blk_below (pk BK249.out) hb); have NB250_262 := a_ (by rw [hg]; exact Nat.ne_of_lt (IsS38.lt (show IsS38 w _ gb250 l0 t260 t261 from by repeat (first | (with_reducible first | exact HI250.out | apply IsS38.alloc | apply IsS38.drewN | apply IsS38.drew | apply IsS38.set_1 | apply IsS38.set_2 | refine IsS38.far ?_ NB250_248.out _ | refine IsS38.far ?_ NB250_249.out _) | exact HI250.out))) : gb250 ≠ gb262); have NB262_250 := a_ (by rw [hg]; exact Nat.ne_of_gt (IsS38.lt (show IsS38 w _ gb250 l0 t260 t261 from by repeat (first | (with_reducible first | exact HI250.out | apply IsS38.alloc | apply IsS38.drewN | apply IsS38.drew | apply IsS38.set_1 | apply IsS38.set_2 | refine IsS38.far ?_ NB250_248.out _ | refine IsS38.far ?_ NB250_249.out _) | exact HI250.out))) : gb262 ≠ gb250); replace HI250 := a_ (IsS38.below (by repeat (first | (with_reducible first | exact HI250.out | apply IsS38.alloc | apply IsS38.drewN | apply IsS38.drew | apply IsS38.set_1 | apply IsS38.set_2 | refine IsS38.far ?_ NB250_248.out _ | refine IsS38.far ?_ NB250_249.out _) | exact HI250.out)) hb); clear hb hbox hg; obtain ⟨Ao18, co18, eo18⟩ := Kd.R_slice HO256.out; subst eo18; have hnb19 := NB262_248.out; have hnc19 := NB248_262.out; have hnb20 := NB262_249.out; have hnc20 := NB249_262.out; have hnb21 := NB262_250.out; have hnc21 := NB250_262.out; have hcz22_0 : _ = some (Value.slice none 0 0) := (blk_cell BK262.out 0).trans rfl; have hcz22_1 : _ = some (Value.slice none 0 0) := (blk_cell BK262.out 1).trans rfl; have hfz22_0 := blk_frozen BK262.out 0; have hfz22_1 := blk_frozen BK262.out 1; obtain ⟨Ao23, co23, eo23⟩ := Kd.R_slice HO259.out; subst eo23) | ((with_reducible refine gate_callee (f := 17) rfl ?_); refine goesL_ (some 17) rfl rfl Try.func17 (by kernel_rfl) rfl #[.pointer (some ⟨gb250, 0, none⟩), .int .i64 4] rfl (by (try simp only [lA, lB, lC]); first | done | rfl | (simp only [lD, lE]; rfl)) ?_; (with_reducible refine (spec_l1Cur_one.calls gb250 l0 t260 t261 4 true t264 t265 w _ ?side1 ?side2 A4.out).mono ?_); (case side1 => repeat (first | (with_reducible first | exact HI250.out | apply IsS38.alloc | apply IsS38.drewN | apply IsS38.drew | apply IsS38.set_1 | apply IsS38.set_2 | refine IsS38.far ?_ NB250_248.out _ | refine IsS38.far ?_ NB250_249.out _ | refine IsS38.far ?_ NB250_262.out _) | exact HI250.out)); (case side2 => repeat (first | (with_reducible first | exact HB.out | apply below_alloc | apply pw_below_drewN | apply below_drew1 | refine below_set ?_ (IsS38.ge HI250.out) | refine below_set ?_ GE248.out | refine below_set ?_ GE249.out | refine below_set ?_ GE262.out) | exact HB.out)); rintro e w24 ⟨rfl, hi, hb, hk⟩; refine ⟨_, rfl, ?_⟩; replace BK248 := a_ (KeepBut.blk hk (g' := gb248) (o := .cells #[.slice none 0 0, .slice none 0 0] 25 (0, 0)) (by refine pk ?_; refine blk_far ?_ NB248_262.out _; refine pk ?_; refine blk_far ?_ NB248_262.out _; refine pk ?_; exact BK248.out) NB248_250.out (by simp)); replace BK249 := a_ (KeepBut.blk hk (g' := gb249) (o := .cells #[.slice none 0 0, .slice none 0 0] 25 (0, 0)) (by refine pk ?_; refine blk_far ?_ NB249_262.out _; refine pk ?_; refine blk_far ?_ NB249_262.out _; refine pk ?_; exact BK249.out) NB249_250.out (by simp)); replace HO256 := a_ (Kd.R_mono (Kd.R_keep (IsS38.apart (show IsS38 w _ gb250 l0 t260 t261 from by repeat (first | (with_reducible first | exact HI250.out | apply IsS38.alloc | apply IsS38.drewN | apply IsS38.drew | apply IsS38.set_1 | apply IsS38.set_2 | refine IsS38.far ?_ NB250_248.out _ | refine IsS38.far ?_ NB250_249.out _ | refine IsS38.far ?_ NB250_262.out _) | exact HI250.out)) (rk (Kd.R_mono (fr2 HO256.out BK262.out (by decide) 0 (.slice Ao18 t254.length co18) 1 (.slice Ao23 t257.length co23)) (fun _ h_ => h_.1))) (by decide)) hk (fun _ h => h.2)) (fun _ h => h.1)); replace HO259 := a_ (Kd.R_mono (Kd.R_keep (IsS38.apart (show IsS38 w _ gb250 l0 t260 t261 from by repeat (first | (with_reducible first | exact HI250.out | apply IsS38.alloc | apply IsS38.drewN | apply IsS38.drew | apply IsS38.set_1 | apply IsS38.set_2 | refine IsS38.far ?_ NB250_248.out _ | refine IsS38.far ?_ NB250_249.out _ | refine IsS38.far ?_ NB250_262.out _) | exact HI250.out)) (rk (Kd.R_mono (fr2 HO259.out BK262.out (by decide) 0 (.slice Ao18 t254.length co18) 1 (.slice Ao23 t257.length co23)) (fun _ h_ => h_.1))) (by decide)) hk (fun _ h => h.2)) (fun _ h => h.1)); replace BK262 := a_ (KeepBut.blk hk (g' := gb262) (o := .cells #[.slice Ao18 t254.length co18, .slice Ao23 t257.length co23] 25 (0, 0)) (by refine pk ?_; refine blk_put (cs := #[.slice Ao18 t254.length co18, .slice none 0 0]) ?_ 1 _ rfl; refine pk ?_; refine blk_put (cs := #[.slice none 0 0, .slice none 0 0]) ?_ 0 _ rfl; refine pk ?_; exact BK262.out) NB262_250.out (by simp)); replace HB := a_ (hb); replace HI250 := a_ (hi); clear hb hk hi))
    replace HO256 := a_ (Kd.R_drew HO256.out)
    replace HO259 := a_ (Kd.R_drew HO259.out)
    replace BK248 := a_ (blk_drew BK248.out)
    replace BK249 := a_ (blk_drew BK249.out)
    replace BK262 := a_ (blk_drew BK262.out)
    replace HI250 := a_ (IsS38.drew HI250.out)
    replace HB := a_ (below_drew1 HB.out)
    refine start_ (n := 11) (S := fun w' => w'.cell? ⟨gb262, 0, none⟩ = some (.slice Ao18 t254.length co18) ∧ w'.cell? ⟨gb262, 1, none⟩ = some (.slice Ao23 t257.length co23)) (ds := []) #[false, false, false, false, false, false, false, false, false, false, false] (by kernel_rfl) rfl rfl ⟨(blk_cell BK262.out 0).trans rfl, (blk_cell BK262.out 1).trans rfl⟩ (fun hHeld => ?_); refine with_tabW spec_l17Boxes.tab5 spec_l17Boxes.bits5 (fun HT_ HW_ => ?_)
    generalize w24.drew = w25 at HO256 HO259 BK248 BK249 BK262 HI250 HB hHeld ⊢
    refine pure_ (i := 1) (N := some 19) (v := ?_) (a' := ?_) #[false, true, false, false, false, false, false, false, false, false, false] rfl rfl (any_of HT_.out (by kernel_rfl)) (fun _ _ _ h => h) (Or.inl ⟨by rfl, ?_⟩) ?_ ?_
    rotate_left
    ·intro w'
     go_simp
     with_reducible rfl
    rotate_left
    ·simp only [Act.put, sB, sC, sD, i64_w, i32_w]
     rfl
    refine pure_ (i := 5) (N := some 23) (v := ?_) (a' := ?_) #[false, true, false, false, false, true, false, false, false, false, false] rfl rfl (any_of HT_.out (by kernel_rfl)) (fun _ _ _ h => h) (Or.inl ⟨by rfl, ?_⟩) ?_ ?_
    rotate_left
    ·intro w'
     go_simp
     with_reducible rfl
    rotate_left
    ·simp only [Act.put, sB, sC, sD, i64_w, i32_w]
     rfl
    refine take_ (i := 2) (N := some 20) (v := ?_) (a' := ?_) #[false, true, true, false, false, true, false, false, false, false, false] rfl rfl (take_ofW HT_.out HW_.out (by kernel_rfl)) (fun _ _ _ h => h) (Or.inl ⟨by rfl, ?_⟩) hHeld ?_ ?_
    rotate_left
    ·rintro w' ⟨s0, s1⟩
     go_simp
     with_reducible rfl
    rotate_left
    ·simp only [Act.put, sB, sC, sD, i64_w, i32_w]
     rfl
    refine take_ (i := 6) (N := some 24) (v := ?_) (a' := ?_) #[false, true, true, false, false, true, true, false, false, false, false] rfl rfl (take_ofW HT_.out HW_.out (by kernel_rfl)) (fun _ _ _ h => h) (Or.inl ⟨by rfl, ?_⟩) hHeld ?_ ?_
    rotate_left
    ·rintro w' ⟨s0, s1⟩
     go_simp
     with_reducible rfl
    rotate_left
    ·simp only [Act.put, sB, sC, sD, i64_w, i32_w]
     rfl
    refine join_ (σ := Value × Value × Value × Value × Nat) 1 #[true, true, true, true, true, true, true, true, true, true, false] (fun s_ => [(18, s_.1), (21, s_.2.1), (22, s_.2.2.1), (25, s_.2.2.2.1), (7, .pointer (some ⟨s_.2.2.2.2, 0, none⟩)), (26, .agg #[s_.2.1, s_.2.2.2.1])]) (fun s_ w' => (w'.cell? ⟨gb262, 0, none⟩ = some (.slice Ao18 t254.length co18) ∧ w'.cell? ⟨gb262, 1, none⟩ = some (.slice Ao23 t257.length co23)) ∧ (Kd.R Kd.flt 33 w' w.heap.size (fun k_ => N_ (.slice Ao23 t257.length co23) k_ ∧ some k_ ≠ (s_.2.1 : Value).ownBlock ∧ some k_ ≠ (s_.2.2.2.1 : Value).ownBlock) (.slice Ao18 t254.length co18) t254) ∧ (Kd.R Kd.flt 33 w' w.heap.size (fun k_ => N_ (.slice Ao18 t254.length co18) k_ ∧ some k_ ≠ (s_.2.1 : Value).ownBlock ∧ some k_ ≠ (s_.2.2.2.1 : Value).ownBlock) (.slice Ao23 t257.length co23) t257) ∧ (Kd.R Kd.flt 33 w' w.heap.size (fun k_ => N_ (.slice Ao18 t254.length co18) k_ ∧ N_ (.slice Ao23 t257.length co23) k_ ∧ some k_ ≠ (s_.2.2.2.1 : Value).ownBlock) s_.2.1 y269) ∧ (Kd.R Kd.flt 33 w' w.heap.size (fun k_ => N_ (.slice Ao18 t254.length co18) k_ ∧ N_ (.slice Ao23 t257.length co23) k_ ∧ some k_ ≠ (s_.2.1 : Value).ownBlock) s_.2.2.2.1 y275) ∧ (w'.heap[gb248]? = some (.cells #[.slice none 0 0, .slice none 0 0] 25 (0, 0))) ∧ (w'.heap[gb249]? = some (.cells #[.slice none 0 0, .slice none 0 0] 25 (0, 0))) ∧ (w'.heap[gb262]? = some (.cells #[.slice Ao18 t254.length co18, .slice Ao23 t257.length co23] 25 (0, 0))) ∧ (w'.heap[s_.2.2.2.2]? = some (.cells #[.slice none 0 0, .slice none 0 0] 25 (0, 0))) ∧ (w.heap.size ≤ s_.2.2.2.2) ∧ (w.heap.size ≤ s_.2.2.2.2) ∧ (gb250 ≠ s_.2.2.2.2) ∧ (s_.2.2.2.2 ≠ gb250) ∧ (gb248 ≠ s_.2.2.2.2) ∧ (s_.2.2.2.2 ≠ gb248) ∧ (gb249 ≠ s_.2.2.2.2) ∧ (s_.2.2.2.2 ≠ gb249) ∧ (gb262 ≠ s_.2.2.2.2) ∧ (s_.2.2.2.2 ≠ gb262) ∧ (IsS38 w w' gb250 l0 t264 t265) ∧ (Below w.heap.size w w')) ?_ ?_
    rotate_left
    ·intro hJ0_3_4_7_9
     refine join_ (σ := Value × Value × Value × Value) 2 #[true, true, true, true, true, true, true, true, true, false, false] (fun s_ => [(18, s_.1), (21, s_.2.1), (22, s_.2.2.1), (25, s_.2.2.2), (26, .agg #[s_.2.1, s_.2.2.2])]) (fun s_ w' => (w'.cell? ⟨gb262, 0, none⟩ = some (.slice Ao18 t254.length co18) ∧ w'.cell? ⟨gb262, 1, none⟩ = some (.slice Ao23 t257.length co23)) ∧ (Kd.R Kd.flt 33 w' w.heap.size (fun k_ => N_ (.slice Ao23 t257.length co23) k_ ∧ some k_ ≠ (s_.2.1 : Value).ownBlock ∧ some k_ ≠ (s_.2.2.2 : Value).ownBlock) (.slice Ao18 t254.length co18) t254) ∧ (Kd.R Kd.flt 33 w' w.heap.size (fun k_ => N_ (.slice Ao18 t254.length co18) k_ ∧ some k_ ≠ (s_.2.1 : Value).ownBlock ∧ some k_ ≠ (s_.2.2.2 : Value).ownBlock) (.slice Ao23 t257.length co23) t257) ∧ (Kd.R Kd.flt 33 w' w.heap.size (fun k_ => N_ (.slice Ao18 t254.length co18) k_ ∧ N_ (.slice Ao23 t257.length co23) k_ ∧ some k_ ≠ (s_.2.2.2 : Value).ownBlock) s_.2.1 y269) ∧ (Kd.R Kd.flt 33 w' w.heap.size (fun k_ => N_ (.slice Ao18 t254.length co18) k_ ∧ N_ (.slice Ao23 t257.length co23) k_ ∧ some k_ ≠ (s_.2.1 : Value).ownBlock) s_.2.2.2 y275) ∧ (w'.heap[gb248]? = some (.cells #[.slice none 0 0, .slice none 0 0] 25 (0, 0))) ∧ (w'.heap[gb249]? = some (.cells #[.slice none 0 0, .slice none 0 0] 25 (0, 0))) ∧ (w'.heap[gb262]? = some (.cells #[.slice Ao18 t254.length co18, .slice Ao23 t257.length co23] 25 (0, 0))) ∧ (IsS38 w w' gb250 l0 t264 t265) ∧ (Below w.heap.size w w')) ?_ ?_
     rotate_left
     ·intro hJ0_3_4_7
      refine join_ (σ := Value × Value × Value × Nat) 3 #[true, true, true, true, true, true, true, false, false, true, false] (fun s_ => [(18, s_.1), (21, s_.2.1), (22, s_.2.2.1), (7, .pointer (some ⟨s_.2.2.2, 0, none⟩))]) (fun s_ w' => (w'.cell? ⟨gb262, 0, none⟩ = some (.slice Ao18 t254.length co18) ∧ w'.cell? ⟨gb262, 1, none⟩ = some (.slice Ao23 t257.length co23)) ∧ (Kd.R Kd.flt 33 w' w.heap.size (fun k_ => N_ (.slice Ao23 t257.length co23) k_ ∧ some k_ ≠ (s_.2.1 : Value).ownBlock ∧ some k_ ≠ (s_.2.2.1 : Value).ownBlock) (.slice Ao18 t254.length co18) t254) ∧ (Kd.R Kd.flt 33 w' w.heap.size (fun k_ => N_ (.slice Ao18 t254.length co18) k_ ∧ some k_ ≠ (s_.2.1 : Value).ownBlock ∧ some k_ ≠ (s_.2.2.1 : Value).ownBlock) (.slice Ao23 t257.length co23) t257) ∧ (Kd.R Kd.flt 33 w' w.heap.size (fun k_ => N_ (.slice Ao18 t254.length co18) k_ ∧ N_ (.slice Ao23 t257.length co23) k_ ∧ some k_ ≠ (s_.2.2.1 : Value).ownBlock) s_.2.1 y269) ∧ (Kd.R Kd.flt 33 w' w.heap.size (fun k_ => N_ (.slice Ao18 t254.length co18) k_ ∧ N_ (.slice Ao23 t257.length co23) k_ ∧ some k_ ≠ (s_.2.1 : Value).ownBlock) s_.2.2.1 y272) ∧ (w'.heap[gb248]? = some (.cells #[.slice none 0 0, .slice none 0 0] 25 (0, 0))) ∧ (w'.heap[gb249]? = some (.cells #[.slice none 0 0, .slice none 0 0] 25 (0, 0))) ∧ (w'.heap[gb262]? = some (.cells #[.slice Ao18 t254.length co18, .slice Ao23 t257.length co23] 25 (0, 0))) ∧ (w'.heap[s_.2.2.2]? = some (.cells #[.slice none 0 0, .slice none 0 0] 25 (0, 0))) ∧ (w.heap.size ≤ s_.2.2.2) ∧ (w.heap.size ≤ s_.2.2.2) ∧ (gb250 ≠ s_.2.2.2) ∧ (s_.2.2.2 ≠ gb250) ∧ (gb248 ≠ s_.2.2.2) ∧ (s_.2.2.2 ≠ gb248) ∧ (gb249 ≠ s_.2.2.2) ∧ (s_.2.2.2 ≠ gb249) ∧ (gb262 ≠ s_.2.2.2) ∧ (s_.2.2.2 ≠ gb262) ∧ (IsS38 w w' gb250 l0 t264 t265) ∧ (Below w.heap.size w w')) ?_ ?_
      rotate_left
      ·intro hJ0_3_4_9
       refine join_ (σ := Value × Value × Value) 4 #[true, true, true, true, true, true, true, false, false, false, false] (fun s_ => [(18, s_.1), (21, s_.2.1), (22, s_.2.2)]) (fun s_ w' => (w'.cell? ⟨gb262, 0, none⟩ = some (.slice Ao18 t254.length co18) ∧ w'.cell? ⟨gb262, 1, none⟩ = some (.slice Ao23 t257.length co23)) ∧ (Kd.R Kd.flt 33 w' w.heap.size (fun k_ => N_ (.slice Ao23 t257.length co23) k_ ∧ some k_ ≠ (s_.2.1 : Value).ownBlock ∧ some k_ ≠ (s_.2.2 : Value).ownBlock) (.slice Ao18 t254.length co18) t254) ∧ (Kd.R Kd.flt 33 w' w.heap.size (fun k_ => N_ (.slice Ao18 t254.length co18) k_ ∧ some k_ ≠ (s_.2.1 : Value).ownBlock ∧ some k_ ≠ (s_.2.2 : Value).ownBlock) (.slice Ao23 t257.length co23) t257) ∧ (Kd.R Kd.flt 33 w' w.heap.size (fun k_ => N_ (.slice Ao18 t254.length co18) k_ ∧ N_ (.slice Ao23 t257.length co23) k_ ∧ some k_ ≠ (s_.2.2 : Value).ownBlock) s_.2.1 y269) ∧ (Kd.R Kd.flt 33 w' w.heap.size (fun k_ => N_ (.slice Ao18 t254.length co18) k_ ∧ N_ (.slice Ao23 t257.length co23) k_ ∧ some k_ ≠ (s_.2.1 : Value).ownBlock) s_.2.2 y272) ∧ (w'.heap[gb248]? = some (.cells #[.slice none 0 0, .slice none 0 0] 25 (0, 0))) ∧ (w'.heap[gb249]? = some (.cells #[.slice none 0 0, .slice none 0 0] 25 (0, 0))) ∧ (w'.heap[gb262]? = some (.cells #[.slice Ao18 t254.length co18, .slice Ao23 t257.length co23] 25 (0, 0))) ∧ (IsS38 w w' gb250 l0 t264 t265) ∧ (Below w.heap.size w w')) ?_ ?_
       rotate_left
       ·intro hJ0_3_4
        refine join_ (σ := Value × Value × Nat) 4 #[true, true, true, true, false, true, true, false, false, true, false] (fun s_ => [(18, s_.1), (21, s_.2.1), (7, .pointer (some ⟨s_.2.2, 0, none⟩))]) (fun s_ w' => (w'.cell? ⟨gb262, 0, none⟩ = some (.slice Ao18 t254.length co18) ∧ w'.cell? ⟨gb262, 1, none⟩ = some (.slice Ao23 t257.length co23)) ∧ (Kd.R Kd.flt 33 w' w.heap.size (fun k_ => N_ (.slice Ao23 t257.length co23) k_ ∧ some k_ ≠ (s_.2.1 : Value).ownBlock) (.slice Ao18 t254.length co18) t254) ∧ (Kd.R Kd.flt 33 w' w.heap.size (fun k_ => N_ (.slice Ao18 t254.length co18) k_ ∧ some k_ ≠ (s_.2.1 : Value).ownBlock) (.slice Ao23 t257.length co23) t257) ∧ (Kd.R Kd.flt 33 w' w.heap.size (fun k_ => N_ (.slice Ao18 t254.length co18) k_ ∧ N_ (.slice Ao23 t257.length co23) k_) s_.2.1 y269) ∧ (w'.heap[gb248]? = some (.cells #[.slice none 0 0, .slice none 0 0] 25 (0, 0))) ∧ (w'.heap[gb249]? = some (.cells #[.slice none 0 0, .slice none 0 0] 25 (0, 0))) ∧ (w'.heap[gb262]? = some (.cells #[.slice Ao18 t254.length co18, .slice Ao23 t257.length co23] 25 (0, 0))) ∧ (w'.heap[s_.2.2]? = some (.cells #[.slice none 0 0, .slice none 0 0] 25 (0, 0))) ∧ (w.heap.size ≤ s_.2.2) ∧ (w.heap.size ≤ s_.2.2) ∧ (gb250 ≠ s_.2.2) ∧ (s_.2.2 ≠ gb250) ∧ (gb248 ≠ s_.2.2) ∧ (s_.2.2 ≠ gb248) ∧ (gb249 ≠ s_.2.2) ∧ (s_.2.2 ≠ gb249) ∧ (gb262 ≠ s_.2.2) ∧ (s_.2.2 ≠ gb262) ∧ (IsS38 w w' gb250 l0 t264 t265) ∧ (Below w.heap.size w w')) ?_ ?_
        rotate_left
        ·intro hJ0_3_9
         refine join_ (σ := Value × Value × Nat) 4 #[true, true, true, false, true, true, true, false, false, true, false] (fun s_ => [(18, s_.1), (22, s_.2.1), (7, .pointer (some ⟨s_.2.2, 0, none⟩))]) (fun s_ w' => (w'.cell? ⟨gb262, 0, none⟩ = some (.slice Ao18 t254.length co18) ∧ w'.cell? ⟨gb262, 1, none⟩ = some (.slice Ao23 t257.length co23)) ∧ (Kd.R Kd.flt 33 w' w.heap.size (fun k_ => N_ (.slice Ao23 t257.length co23) k_ ∧ some k_ ≠ (s_.1 : Value).ownBlock ∧ some k_ ≠ (s_.2.1 : Value).ownBlock) (.slice Ao18 t254.length co18) t254) ∧ (Kd.R Kd.flt 33 w' w.heap.size (fun k_ => N_ (.slice Ao18 t254.length co18) k_ ∧ some k_ ≠ (s_.1 : Value).ownBlock ∧ some k_ ≠ (s_.2.1 : Value).ownBlock) (.slice Ao23 t257.length co23) t257) ∧ (Kd.R Kd.flt 33 w' w.heap.size (fun k_ => N_ (.slice Ao18 t254.length co18) k_ ∧ N_ (.slice Ao23 t257.length co23) k_ ∧ some k_ ≠ (s_.2.1 : Value).ownBlock) s_.1 y266) ∧ (Kd.R Kd.flt 33 w' w.heap.size (fun k_ => N_ (.slice Ao18 t254.length co18) k_ ∧ N_ (.slice Ao23 t257.length co23) k_ ∧ some k_ ≠ (s_.1 : Value).ownBlock) s_.2.1 y272) ∧ (w'.heap[gb248]? = some (.cells #[.slice none 0 0, .slice none 0 0] 25 (0, 0))) ∧ (w'.heap[gb249]? = some (.cells #[.slice none 0 0, .slice none 0 0] 25 (0, 0))) ∧ (w'.heap[gb262]? = some (.cells #[.slice Ao18 t254.length co18, .slice Ao23 t257.length co23] 25 (0, 0))) ∧ (w'.heap[s_.2.2]? = some (.cells #[.slice none 0 0, .slice none 0 0] 25 (0, 0))) ∧ (w.heap.size ≤ s_.2.2) ∧ (w.heap.size ≤ s_.2.2) ∧ (gb250 ≠ s_.2.2) ∧ (s_.2.2 ≠ gb250) ∧ (gb248 ≠ s_.2.2) ∧ (s_.2.2 ≠ gb248) ∧ (gb249 ≠ s_.2.2) ∧ (s_.2.2 ≠ gb249) ∧ (gb262 ≠ s_.2.2) ∧ (s_.2.2 ≠ gb262) ∧ (IsS38 w w' gb250 l0 t264 t265) ∧ (Below w.heap.size w w')) ?_ ?_
         rotate_left
         ·intro hJ0_4_9
          refine join_ (σ := Value × Value) 5 #[true, true, true, true, false, true, true, false, false, false, false] (fun s_ => [(18, s_.1), (21, s_.2)]) (fun s_ w' => (w'.cell? ⟨gb262, 0, none⟩ = some (.slice Ao18 t254.length co18) ∧ w'.cell? ⟨gb262, 1, none⟩ = some (.slice Ao23 t257.length co23)) ∧ (Kd.R Kd.flt 33 w' w.heap.size (fun k_ => N_ (.slice Ao23 t257.length co23) k_ ∧ some k_ ≠ (s_.2 : Value).ownBlock) (.slice Ao18 t254.length co18) t254) ∧ (Kd.R Kd.flt 33 w' w.heap.size (fun k_ => N_ (.slice Ao18 t254.length co18) k_ ∧ some k_ ≠ (s_.2 : Value).ownBlock) (.slice Ao23 t257.length co23) t257) ∧ (Kd.R Kd.flt 33 w' w.heap.size (fun k_ => N_ (.slice Ao18 t254.length co18) k_ ∧ N_ (.slice Ao23 t257.length co23) k_) s_.2 y269) ∧ (w'.heap[gb248]? = some (.cells #[.slice none 0 0, .slice none 0 0] 25 (0, 0))) ∧ (w'.heap[gb249]? = some (.cells #[.slice none 0 0, .slice none 0 0] 25 (0, 0))) ∧ (w'.heap[gb262]? = some (.cells #[.slice Ao18 t254.length co18, .slice Ao23 t257.length co23] 25 (0, 0))) ∧ (IsS38 w w' gb250 l0 t264 t265) ∧ (Below w.heap.size w w')) ?_ ?_
          rotate_left
          ·intro hJ0_3
           refine join_ (σ := Value × Value) 5 #[true, true, true, false, true, true, true, false, false, false, false] (fun s_ => [(18, s_.1), (22, s_.2)]) (fun s_ w' => (w'.cell? ⟨gb262, 0, none⟩ = some (.slice Ao18 t254.length co18) ∧ w'.cell? ⟨gb262, 1, none⟩ = some (.slice Ao23 t257.length co23)) ∧ (Kd.R Kd.flt 33 w' w.heap.size (fun k_ => N_ (.slice Ao23 t257.length co23) k_ ∧ some k_ ≠ (s_.1 : Value).ownBlock ∧ some k_ ≠ (s_.2 : Value).ownBlock) (.slice Ao18 t254.length co18) t254) ∧ (Kd.R Kd.flt 33 w' w.heap.size (fun k_ => N_ (.slice Ao18 t254.length co18) k_ ∧ some k_ ≠ (s_.1 : Value).ownBlock ∧ some k_ ≠ (s_.2 : Value).ownBlock) (.slice Ao23 t257.length co23) t257) ∧ (Kd.R Kd.flt 33 w' w.heap.size (fun k_ => N_ (.slice Ao18 t254.length co18) k_ ∧ N_ (.slice Ao23 t257.length co23) k_ ∧ some k_ ≠ (s_.2 : Value).ownBlock) s_.1 y266) ∧ (Kd.R Kd.flt 33 w' w.heap.size (fun k_ => N_ (.slice Ao18 t254.length co18) k_ ∧ N_ (.slice Ao23 t257.length co23) k_ ∧ some k_ ≠ (s_.1 : Value).ownBlock) s_.2 y272) ∧ (w'.heap[gb248]? = some (.cells #[.slice none 0 0, .slice none 0 0] 25 (0, 0))) ∧ (w'.heap[gb249]? = some (.cells #[.slice none 0 0, .slice none 0 0] 25 (0, 0))) ∧ (w'.heap[gb262]? = some (.cells #[.slice Ao18 t254.length co18, .slice Ao23 t257.length co23] 25 (0, 0))) ∧ (IsS38 w w' gb250 l0 t264 t265) ∧ (Below w.heap.size w w')) ?_ ?_
           rotate_left
           ·intro hJ0_4
            refine join_ (σ := Value × Nat) 5 #[true, true, true, false, false, true, true, false, false, true, false] (fun s_ => [(18, s_.1), (7, .pointer (some ⟨s_.2, 0, none⟩))]) (fun s_ w' => (w'.cell? ⟨gb262, 0, none⟩ = some (.slice Ao18 t254.length co18) ∧ w'.cell? ⟨gb262, 1, none⟩ = some (.slice Ao23 t257.length co23)) ∧ (Kd.R Kd.flt 33 w' w.heap.size (fun k_ => N_ (.slice Ao23 t257.length co23) k_ ∧ some k_ ≠ (s_.1 : Value).ownBlock) (.slice Ao18 t254.length co18) t254) ∧ (Kd.R Kd.flt 33 w' w.heap.size (fun k_ => N_ (.slice Ao18 t254.length co18) k_ ∧ some k_ ≠ (s_.1 : Value).ownBlock) (.slice Ao23 t257.length co23) t257) ∧ (Kd.R Kd.flt 33 w' w.heap.size (fun k_ => N_ (.slice Ao18 t254.length co18) k_ ∧ N_ (.slice Ao23 t257.length co23) k_) s_.1 y266) ∧ (w'.heap[gb248]? = some (.cells #[.slice none 0 0, .slice none 0 0] 25 (0, 0))) ∧ (w'.heap[gb249]? = some (.cells #[.slice none 0 0, .slice none 0 0] 25 (0, 0))) ∧ (w'.heap[gb262]? = some (.cells #[.slice Ao18 t254.length co18, .slice Ao23 t257.length co23] 25 (0, 0))) ∧ (w'.heap[s_.2]? = some (.cells #[.slice none 0 0, .slice none 0 0] 25 (0, 0))) ∧ (w.heap.size ≤ s_.2) ∧ (w.heap.size ≤ s_.2) ∧ (gb250 ≠ s_.2) ∧ (s_.2 ≠ gb250) ∧ (gb248 ≠ s_.2) ∧ (s_.2 ≠ gb248) ∧ (gb249 ≠ s_.2) ∧ (s_.2 ≠ gb249) ∧ (gb262 ≠ s_.2) ∧ (s_.2 ≠ gb262) ∧ (IsS38 w w' gb250 l0 t264 t265) ∧ (Below w.heap.size w w')) ?_ ?_
            rotate_left
            ·intro hJ0_9
             refine join_ (σ := Value × Nat) 5 #[false, true, true, false, true, true, true, false, false, true, false] (fun s_ => [(22, s_.1), (7, .pointer (some ⟨s_.2, 0, none⟩))]) (fun s_ w' => (w'.cell? ⟨gb262, 0, none⟩ = some (.slice Ao18 t254.length co18) ∧ w'.cell? ⟨gb262, 1, none⟩ = some (.slice Ao23 t257.length co23)) ∧ (Kd.R Kd.flt 33 w' w.heap.size (fun k_ => N_ (.slice Ao23 t257.length co23) k_ ∧ some k_ ≠ (s_.1 : Value).ownBlock) (.slice Ao18 t254.length co18) t254) ∧ (Kd.R Kd.flt 33 w' w.heap.size (fun k_ => N_ (.slice Ao18 t254.length co18) k_ ∧ some k_ ≠ (s_.1 : Value).ownBlock) (.slice Ao23 t257.length co23) t257) ∧ (Kd.R Kd.flt 33 w' w.heap.size (fun k_ => N_ (.slice Ao18 t254.length co18) k_ ∧ N_ (.slice Ao23 t257.length co23) k_) s_.1 y272) ∧ (w'.heap[gb248]? = some (.cells #[.slice none 0 0, .slice none 0 0] 25 (0, 0))) ∧ (w'.heap[gb249]? = some (.cells #[.slice none 0 0, .slice none 0 0] 25 (0, 0))) ∧ (w'.heap[gb262]? = some (.cells #[.slice Ao18 t254.length co18, .slice Ao23 t257.length co23] 25 (0, 0))) ∧ (w'.heap[s_.2]? = some (.cells #[.slice none 0 0, .slice none 0 0] 25 (0, 0))) ∧ (w.heap.size ≤ s_.2) ∧ (w.heap.size ≤ s_.2) ∧ (gb250 ≠ s_.2) ∧ (s_.2 ≠ gb250) ∧ (gb248 ≠ s_.2) ∧ (s_.2 ≠ gb248) ∧ (gb249 ≠ s_.2) ∧ (s_.2 ≠ gb249) ∧ (gb262 ≠ s_.2) ∧ (s_.2 ≠ gb262) ∧ (IsS38 w w' gb250 l0 t264 t265) ∧ (Below w.heap.size w w')) ?_ ?_
             rotate_left
             ·intro hJ4_9
              refine join_ (σ := Value) 6 #[true, true, true, false, false, true, true, false, false, false, false] (fun s_ => [(18, s_)]) (fun s_ w' => (w'.cell? ⟨gb262, 0, none⟩ = some (.slice Ao18 t254.length co18) ∧ w'.cell? ⟨gb262, 1, none⟩ = some (.slice Ao23 t257.length co23)) ∧ (Kd.R Kd.flt 33 w' w.heap.size (fun k_ => N_ (.slice Ao23 t257.length co23) k_ ∧ some k_ ≠ (s_ : Value).ownBlock) (.slice Ao18 t254.length co18) t254) ∧ (Kd.R Kd.flt 33 w' w.heap.size (fun k_ => N_ (.slice Ao18 t254.length co18) k_ ∧ some k_ ≠ (s_ : Value).ownBlock) (.slice Ao23 t257.length co23) t257) ∧ (Kd.R Kd.flt 33 w' w.heap.size (fun k_ => N_ (.slice Ao18 t254.length co18) k_ ∧ N_ (.slice Ao23 t257.length co23) k_) s_ y266) ∧ (w'.heap[gb248]? = some (.cells #[.slice none 0 0, .slice none 0 0] 25 (0, 0))) ∧ (w'.heap[gb249]? = some (.cells #[.slice none 0 0, .slice none 0 0] 25 (0, 0))) ∧ (w'.heap[gb262]? = some (.cells #[.slice Ao18 t254.length co18, .slice Ao23 t257.length co23] 25 (0, 0))) ∧ (IsS38 w w' gb250 l0 t264 t265) ∧ (Below w.heap.size w w')) ?_ ?_
              rotate_left
              ·intro hJ0
               refine join_ (σ := Value) 6 #[false, true, true, false, true, true, true, false, false, false, false] (fun s_ => [(22, s_)]) (fun s_ w' => (w'.cell? ⟨gb262, 0, none⟩ = some (.slice Ao18 t254.length co18) ∧ w'.cell? ⟨gb262, 1, none⟩ = some (.slice Ao23 t257.length co23)) ∧ (Kd.R Kd.flt 33 w' w.heap.size (fun k_ => N_ (.slice Ao23 t257.length co23) k_ ∧ some k_ ≠ (s_ : Value).ownBlock) (.slice Ao18 t254.length co18) t254) ∧ (Kd.R Kd.flt 33 w' w.heap.size (fun k_ => N_ (.slice Ao18 t254.length co18) k_ ∧ some k_ ≠ (s_ : Value).ownBlock) (.slice Ao23 t257.length co23) t257) ∧ (Kd.R Kd.flt 33 w' w.heap.size (fun k_ => N_ (.slice Ao18 t254.length co18) k_ ∧ N_ (.slice Ao23 t257.length co23) k_) s_ y272) ∧ (w'.heap[gb248]? = some (.cells #[.slice none 0 0, .slice none 0 0] 25 (0, 0))) ∧ (w'.heap[gb249]? = some (.cells #[.slice none 0 0, .slice none 0 0] 25 (0, 0))) ∧ (w'.heap[gb262]? = some (.cells #[.slice Ao18 t254.length co18, .slice Ao23 t257.length co23] 25 (0, 0))) ∧ (IsS38 w w' gb250 l0 t264 t265) ∧ (Below w.heap.size w w')) ?_ ?_
               rotate_left
               ·intro hJ4
                refine join_ (σ := Nat) 6 #[false, true, true, false, false, true, true, false, false, true, false] (fun s_ => [(7, .pointer (some ⟨s_, 0, none⟩))]) (fun s_ w' => (w'.cell? ⟨gb262, 0, none⟩ = some (.slice Ao18 t254.length co18) ∧ w'.cell? ⟨gb262, 1, none⟩ = some (.slice Ao23 t257.length co23)) ∧ (Kd.R Kd.flt 33 w' w.heap.size (fun k_ => N_ (.slice Ao23 t257.length co23) k_) (.slice Ao18 t254.length co18) t254) ∧ (Kd.R Kd.flt 33 w' w.heap.size (fun k_ => N_ (.slice Ao18 t254.length co18) k_) (.slice Ao23 t257.length co23) t257) ∧ (w'.heap[gb248]? = some (.cells #[.slice none 0 0, .slice none 0 0] 25 (0, 0))) ∧ (w'.heap[gb249]? = some (.cells #[.slice none 0 0, .slice none 0 0] 25 (0, 0))) ∧ (w'.heap[gb262]? = some (.cells #[.slice Ao18 t254.length co18, .slice Ao23 t257.length co23] 25 (0, 0))) ∧ (w'.heap[s_]? = some (.cells #[.slice none 0 0, .slice none 0 0] 25 (0, 0))) ∧ (w.heap.size ≤ s_) ∧ (w.heap.size ≤ s_) ∧ (gb250 ≠ s_) ∧ (s_ ≠ gb250) ∧ (gb248 ≠ s_) ∧ (s_ ≠ gb248) ∧ (gb249 ≠ s_) ∧ (s_ ≠ gb249) ∧ (gb262 ≠ s_) ∧ (s_ ≠ gb262) ∧ (IsS38 w w' gb250 l0 t264 t265) ∧ (Below w.heap.size w w')) ?_ ?_
                rotate_left
                ·intro hJ9
                 refine three_ (i := 0) (j := 4) (k := 9) (Ni := some 18) (Nj := some 22) (Nk := some 7) #[true, true, true, false, false, true, true, false, false, false, false] #[false, true, true, false, true, true, true, false, false, false, false] #[false, true, true, false, false, true, true, false, false, true, false] rfl rfl rfl rfl rfl rfl (three_of HT_.out (by kernel_rfl)) (by decide) (by decide) (by decide) (fun K hK => ?_) (fun K hK => ?_) (fun K hK => ?_)
                 ·skip
                  refine Kd.R_lit_step Kd.flt _ 33 ?hg (N := 18) ?hd (xs := ([] : List Nat)) (inner := []) (ok := fun _ => True) (okp := fun _ => True) ?hr ?hp (fun _ hk => hk) trivial (Below.refl _ _) (Nat.le_refl _) (by simp) ?_; (case hd => rfl); (case hg => rfl); (case hr => first | (go_simp; done) | (go_simp; rfl)); (case hp => exact (Reps.none _ _))
                  intro v267 w26 ho27 hb hg_ hnew_
                  clear hg_ hnew_
                  (first | rw [← Ny266.out] at ho27 | (simp only [Int.reduceToNat] at ho27; rw [← Ny266.out] at ho27))
                  have HO268 := a_ (Kd.R_lower (nw (nw ho27 HO256.out) HO259.out) (below_size (by repeat (first | (with_reducible first | exact HB.out | apply below_alloc | apply pw_below_drewN | apply below_drew1 | refine below_set ?_ (IsS38.ge HI250.out) | refine below_set ?_ GE248.out | refine below_set ?_ GE249.out | refine below_set ?_ GE262.out) | exact HB.out))))
                  replace HO256 := a_ (Kd.R_elder' (rk HO256.out) (Kd.R_base ho27) hb)
                  replace HO259 := a_ (Kd.R_elder' (rk HO259.out) (Kd.R_base ho27) hb)
                  replace BK248 := a_ (blk_below (pk BK248.out) hb)
                  replace BK249 := a_ (blk_below (pk BK249.out) hb)
                  replace BK262 := a_ (blk_below (pk BK262.out) hb)
                  replace HB := a_ (below_step (by repeat (first | (with_reducible first | exact HB.out | apply below_alloc | apply pw_below_drewN | apply below_drew1 | refine below_set ?_ (IsS38.ge HI250.out) | refine below_set ?_ GE248.out | refine below_set ?_ GE249.out | refine below_set ?_ GE262.out) | exact HB.out)) hb)
                  replace HI250 := a_ (IsS38.below (by repeat (first | (with_reducible first | exact HI250.out | apply IsS38.alloc | apply IsS38.drewN | apply IsS38.drew | apply IsS38.set_1 | apply IsS38.set_2 | refine IsS38.far ?_ NB250_248.out _ | refine IsS38.far ?_ NB250_249.out _ | refine IsS38.far ?_ NB250_262.out _) | exact HI250.out)) hb)
                  clear hb ho27
                  refine hK.out _ _ ⟨(blk_cell BK262.out 0).trans rfl, (blk_cell BK262.out 1).trans rfl⟩ (fun hHeld => ?_)
                  clear hK K
                  refine norm_ (a' := ?_) ?_ ?_
                  rotate_left
                  ·show Act.put _ (some 18) _ = _
                   simp only [Act.put, sB, sC, sD, i64_w, i32_w]
                   rfl
                  exact norm_ (by first | (simp only [putAll, Act.put, sB, sC, sD]; done) | (simp only [putAll, Act.put, sB, sC, sD]; rfl)) (hJ0 (v267) _ ⟨hHeld, (rk HO256.out), (rk HO259.out), (rk (Kd.R_mono HO268.out (fun _ hk => ⟨hk.1.2, hk.2⟩))), (pk BK248.out), (pk BK249.out), (pk BK262.out), (by repeat (first | (with_reducible first | exact HI250.out | apply IsS38.alloc | apply IsS38.drewN | apply IsS38.drew | apply IsS38.set_1 | apply IsS38.set_2 | refine IsS38.far ?_ NB250_248.out _ | refine IsS38.far ?_ NB250_249.out _ | refine IsS38.far ?_ NB250_262.out _) | exact HI250.out)), (by repeat (first | (with_reducible first | exact HB.out | apply below_alloc | apply pw_below_drewN | apply below_drew1 | refine below_set ?_ (IsS38.ge HI250.out) | refine below_set ?_ GE248.out | refine below_set ?_ GE249.out | refine below_set ?_ GE262.out) | exact HB.out))⟩)
                 ·skip
                  refine Kd.R_lit_step Kd.flt _ 33 ?hg (N := 22) ?hd (xs := ([] : List Nat)) (inner := []) (ok := fun _ => True) (okp := fun _ => True) ?hr ?hp (fun _ hk => hk) trivial (Below.refl _ _) (Nat.le_refl _) (by simp) ?_; (case hd => rfl); (case hg => rfl); (case hr => first | (go_simp; done) | (go_simp; rfl)); (case hp => exact (Reps.none _ _))
                  intro v273 w26 ho27 hb hg_ hnew_
                  clear hg_ hnew_
                  (first | rw [← Ny272.out] at ho27 | (simp only [Int.reduceToNat] at ho27; rw [← Ny272.out] at ho27))
                  have HO274 := a_ (Kd.R_lower (nw (nw ho27 HO256.out) HO259.out) (below_size (by repeat (first | (with_reducible first | exact HB.out | apply below_alloc | apply pw_below_drewN | apply below_drew1 | refine below_set ?_ (IsS38.ge HI250.out) | refine below_set ?_ GE248.out | refine below_set ?_ GE249.out | refine below_set ?_ GE262.out) | exact HB.out))))
                  replace HO256 := a_ (Kd.R_elder' (rk HO256.out) (Kd.R_base ho27) hb)
                  replace HO259 := a_ (Kd.R_elder' (rk HO259.out) (Kd.R_base ho27) hb)
                  replace BK248 := a_ (blk_below (pk BK248.out) hb)
                  replace BK249 := a_ (blk_below (pk BK249.out) hb)
                  replace BK262 := a_ (blk_below (pk BK262.out) hb)
                  replace HB := a_ (below_step (by repeat (first | (with_reducible first | exact HB.out | apply below_alloc | apply pw_below_drewN | apply below_drew1 | refine below_set ?_ (IsS38.ge HI250.out) | refine below_set ?_ GE248.out | refine below_set ?_ GE249.out | refine below_set ?_ GE262.out) | exact HB.out)) hb)
                  replace HI250 := a_ (IsS38.below (by repeat (first | (with_reducible first | exact HI250.out | apply IsS38.alloc | apply IsS38.drewN | apply IsS38.drew | apply IsS38.set_1 | apply IsS38.set_2 | refine IsS38.far ?_ NB250_248.out _ | refine IsS38.far ?_ NB250_249.out _ | refine IsS38.far ?_ NB250_262.out _) | exact HI250.out)) hb)
                  clear hb ho27
                  refine hK.out _ _ ⟨(blk_cell BK262.out 0).trans rfl, (blk_cell BK262.out 1).trans rfl⟩ (fun hHeld => ?_)
                  clear hK K
                  refine norm_ (a' := ?_) ?_ ?_
                  rotate_left
                  ·show Act.put _ (some 22) _ = _
                   simp only [Act.put, sB, sC, sD, i64_w, i32_w]
                   rfl
                  exact norm_ (by first | (simp only [putAll, Act.put, sB, sC, sD]; done) | (simp only [putAll, Act.put, sB, sC, sD]; rfl)) (hJ4 (v273) _ ⟨hHeld, (rk HO256.out), (rk HO259.out), (rk (Kd.R_mono HO274.out (fun _ hk => ⟨hk.1.2, hk.2⟩))), (pk BK248.out), (pk BK249.out), (pk BK262.out), (by repeat (first | (with_reducible first | exact HI250.out | apply IsS38.alloc | apply IsS38.drewN | apply IsS38.drew | apply IsS38.set_1 | apply IsS38.set_2 | refine IsS38.far ?_ NB250_248.out _ | refine IsS38.far ?_ NB250_249.out _ | refine IsS38.far ?_ NB250_262.out _) | exact HI250.out)), (by repeat (first | (with_reducible first | exact HB.out | apply below_alloc | apply pw_below_drewN | apply below_drew1 | refine below_set ?_ (IsS38.ge HI250.out) | refine below_set ?_ GE248.out | refine below_set ?_ GE249.out | refine below_set ?_ GE262.out) | exact HB.out))⟩)
                 ·skip
                  refine box_step ?hg (N := 7) ?hd (cs := #[.slice none 0 0, .slice none 0 0]) (t := 25) ?hr ?_; (case hd => rfl); (case hg => rfl); (case hr => first | (go_simp; done) | (go_simp; rfl))
                  intro gb278 hg w26 hbox hb
                  replace HO256 := a_ (Kd.R_below (rk HO256.out) hb)
                  replace HO259 := a_ (Kd.R_below (rk HO259.out) hb)
                  have BK278 := a_ (hbox)
                  have GW278 := a_ (by rw [hg]; exact (below_size (by repeat (first | (with_reducible first | exact HB.out | apply below_alloc | apply pw_below_drewN | apply below_drew1 | refine below_set ?_ (IsS38.ge HI250.out) | refine below_set ?_ GE248.out | refine below_set ?_ GE249.out | refine below_set ?_ GE262.out) | exact HB.out))) : w.heap.size ≤ gb278)
                  have GE278 := a_ (by rw [hg]; exact (below_size (by repeat (first | (with_reducible first | exact HB.out | apply below_alloc | apply pw_below_drewN | apply below_drew1 | refine below_set ?_ (IsS38.ge HI250.out) | refine below_set ?_ GE248.out | refine below_set ?_ GE249.out | refine below_set ?_ GE262.out) | exact HB.out))) : w.heap.size ≤ gb278)
                  replace HB := a_ (below_step (by repeat (first | (with_reducible first | exact HB.out | apply below_alloc | apply pw_below_drewN | apply below_drew1 | refine below_set ?_ (IsS38.ge HI250.out) | refine below_set ?_ GE248.out | refine below_set ?_ GE249.out | refine below_set ?_ GE262.out) | exact HB.out)) hb)
                  have NB248_278 := a_ (nel hg BK248.out)
                  have NB278_248 := a_ (nle hg BK248.out)
                  replace BK248 := a_ (blk_below (pk BK248.out) hb)
                  have NB249_278 := a_ (nel hg BK249.out)
                  have NB278_249 := a_ (nle hg BK249.out)
                  replace BK249 := a_ (blk_below (pk BK249.out) hb)
                  have NB262_278 := a_ (nel hg BK262.out)
                  have NB278_262 := a_ (nle hg BK262.out)
                  replace BK262 := a_ (blk_below (pk BK262.out) hb)
                  have NB250_278 := a_ (by rw [hg]; exact Nat.ne_of_lt (IsS38.lt (show IsS38 w _ gb250 l0 t264 t265 from by repeat (first | (with_reducible first | exact HI250.out | apply IsS38.alloc | apply IsS38.drewN | apply IsS38.drew | apply IsS38.set_1 | apply IsS38.set_2 | refine IsS38.far ?_ NB250_248.out _ | refine IsS38.far ?_ NB250_249.out _ | refine IsS38.far ?_ NB250_262.out _) | exact HI250.out))) : gb250 ≠ gb278)
                  have NB278_250 := a_ (by rw [hg]; exact Nat.ne_of_gt (IsS38.lt (show IsS38 w _ gb250 l0 t264 t265 from by repeat (first | (with_reducible first | exact HI250.out | apply IsS38.alloc | apply IsS38.drewN | apply IsS38.drew | apply IsS38.set_1 | apply IsS38.set_2 | refine IsS38.far ?_ NB250_248.out _ | refine IsS38.far ?_ NB250_249.out _ | refine IsS38.far ?_ NB250_262.out _) | exact HI250.out))) : gb278 ≠ gb250)
                  replace HI250 := a_ (IsS38.below (by repeat (first | (with_reducible first | exact HI250.out | apply IsS38.alloc | apply IsS38.drewN | apply IsS38.drew | apply IsS38.set_1 | apply IsS38.set_2 | refine IsS38.far ?_ NB250_248.out _ | refine IsS38.far ?_ NB250_249.out _ | refine IsS38.far ?_ NB250_262.out _) | exact HI250.out)) hb)
                  clear hb hbox hg
                  refine hK.out _ _ ⟨(blk_cell BK262.out 0).trans rfl, (blk_cell BK262.out 1).trans rfl⟩ (fun hHeld => ?_)
                  clear hK K
                  refine norm_ (a' := ?_) ?_ ?_
                  rotate_left
                  ·show Act.put _ (some 7) _ = _
                   simp only [Act.put, sB, sC, sD, i64_w, i32_w]
                   rfl
                  exact norm_ (by first | (simp only [putAll, Act.put, sB, sC, sD]; done) | (simp only [putAll, Act.put, sB, sC, sD]; rfl)) (hJ9 (gb278) _ ⟨hHeld, (rk HO256.out), (rk HO259.out), (pk BK248.out), (pk BK249.out), (pk BK262.out), (pk BK278.out), GW278.out, GE278.out, NB250_278.out, NB278_250.out, NB248_278.out, NB278_248.out, NB249_278.out, NB278_249.out, NB262_278.out, NB278_262.out, (by repeat (first | (with_reducible first | exact HI250.out | apply IsS38.alloc | apply IsS38.drewN | apply IsS38.drew | apply IsS38.set_1 | apply IsS38.set_2 | refine IsS38.far ?_ NB250_248.out _ | refine IsS38.far ?_ NB250_249.out _ | refine IsS38.far ?_ NB250_262.out _ | refine IsS38.far ?_ NB250_278.out _) | exact HI250.out)), (by repeat (first | (with_reducible first | exact HB.out | apply below_alloc | apply pw_below_drewN | apply below_drew1 | refine below_set ?_ (IsS38.ge HI250.out) | refine below_set ?_ GE248.out | refine below_set ?_ GE249.out | refine below_set ?_ GE262.out | refine below_set ?_ GE278.out) | exact HB.out))⟩)
                ·skip
                 rintro gb278 w27 ⟨hS_, h0_, h1_, h2_, h3_, h4_, h5_, h6_, h7_, h8_, h9_, h10_, h11_, h12_, h13_, h14_, h15_, h16_, h17_⟩
                 have n0_ : Aside0 (Kd.R Kd.flt 33 w27 w.heap.size (fun k_ => N_ (.slice Ao23 t257.length co23) k_) (.slice Ao18 t254.length co18) t254) := ⟨h0_⟩
                 have n1_ : Aside0 (Kd.R Kd.flt 33 w27 w.heap.size (fun k_ => N_ (.slice Ao18 t254.length co18) k_) (.slice Ao23 t257.length co23) t257) := ⟨h1_⟩
                 have n2_ : Aside0 (w27.heap[gb248]? = some (.cells #[.slice none 0 0, .slice none 0 0] 25 (0, 0))) := ⟨h2_⟩
                 have n3_ : Aside0 (w27.heap[gb249]? = some (.cells #[.slice none 0 0, .slice none 0 0] 25 (0, 0))) := ⟨h3_⟩
                 have n4_ : Aside0 (w27.heap[gb262]? = some (.cells #[.slice Ao18 t254.length co18, .slice Ao23 t257.length co23] 25 (0, 0))) := ⟨h4_⟩
                 have n5_ : Aside0 (w27.heap[gb278]? = some (.cells #[.slice none 0 0, .slice none 0 0] 25 (0, 0))) := ⟨h5_⟩
                 have n6_ : Aside0 (w.heap.size ≤ gb278) := ⟨h6_⟩
                 have n7_ : Aside0 (w.heap.size ≤ gb278) := ⟨h7_⟩
                 have n8_ : Aside0 (gb250 ≠ gb278) := ⟨h8_⟩
                 have n9_ : Aside0 (gb278 ≠ gb250) := ⟨h9_⟩
                 have n10_ : Aside0 (gb248 ≠ gb278) := ⟨h10_⟩
                 have n11_ : Aside0 (gb278 ≠ gb248) := ⟨h11_⟩
                 have n12_ : Aside0 (gb249 ≠ gb278) := ⟨h12_⟩
                 have n13_ : Aside0 (gb278 ≠ gb249) := ⟨h13_⟩
                 have n14_ : Aside0 (gb262 ≠ gb278) := ⟨h14_⟩
                 have n15_ : Aside0 (gb278 ≠ gb262) := ⟨h15_⟩
                 have n16_ : Aside0 (IsS38 w w27 gb250 l0 t264 t265) := ⟨h16_⟩
                 have n17_ : Aside0 (Below w.heap.size w w27) := ⟨h17_⟩
                 clear HO256
                 clear HO259
                 clear BK248
                 clear BK249
                 clear BK262
                 clear HI250
                 clear HB
                 clear h0_ h1_ h2_ h3_ h4_ h5_ h6_ h7_ h8_ h9_ h10_ h11_ h12_ h13_ h14_ h15_ h16_ h17_
                 have HO256 := n0_
                 have HO259 := n1_
                 have BK248 := n2_
                 have BK249 := n3_
                 have BK262 := n4_
                 have BK278 := n5_
                 have GW278 := n6_
                 have GE278 := n7_
                 have NB250_278 := n8_
                 have NB278_250 := n9_
                 have NB248_278 := n10_
                 have NB278_248 := n11_
                 have NB249_278 := n12_
                 have NB278_249 := n13_
                 have NB262_278 := n14_
                 have NB278_262 := n15_
                 have HI250 := n16_
                 have HB := n17_
                 clear n0_ n1_ n2_ n3_ n4_ n5_ n6_ n7_ n8_ n9_ n10_ n11_ n12_ n13_ n14_ n15_ n16_ n17_
                 have hHeld : w27.cell? ⟨gb262, 0, none⟩ = some (.slice Ao18 t254.length co18) ∧ w27.cell? ⟨gb262, 1, none⟩ = some (.slice Ao23 t257.length co23) := hS_
                 refine norm_ (a' := ?_) ?_ ?_
                 rotate_left
                 ·simp only [putAll, Act.put, sB, sC, sD]
                  rfl
                 refine two_ (i := 0) (j := 4) (Ni := some 18) (Nj := some 22) #[true, true, true, false, false, true, true, false, false, true, false] #[false, true, true, false, true, true, true, false, false, true, false] rfl rfl rfl rfl (two_of HT_.out (by kernel_rfl)) (by decide) (by decide) (fun K hK => ?_) (fun K hK => ?_)
                 ·skip
                  refine Kd.R_lit_step Kd.flt _ 33 ?hg (N := 18) ?hd (xs := ([] : List Nat)) (inner := []) (ok := fun _ => True) (okp := fun _ => True) ?hr ?hp (fun _ hk => hk) trivial (Below.refl _ _) (Nat.le_refl _) (by simp) ?_; (case hd => rfl); (case hg => rfl); (case hr => first | (go_simp; done) | (go_simp; rfl)); (case hp => exact (Reps.none _ _))
                  intro v267 w28 ho29 hb hg_ hnew_
                  clear hg_ hnew_
                  (first | rw [← Ny266.out] at ho29 | (simp only [Int.reduceToNat] at ho29; rw [← Ny266.out] at ho29))
                  have HO268 := a_ (Kd.R_lower (nw (nw ho29 HO256.out) HO259.out) (below_size (by repeat (first | (with_reducible first | exact HB.out | apply below_alloc | apply pw_below_drewN | apply below_drew1 | refine below_set ?_ (IsS38.ge HI250.out) | refine below_set ?_ GE248.out | refine below_set ?_ GE249.out | refine below_set ?_ GE262.out | refine below_set ?_ GE278.out) | exact HB.out))))
                  replace HO256 := a_ (Kd.R_elder' (rk HO256.out) (Kd.R_base ho29) hb)
                  replace HO259 := a_ (Kd.R_elder' (rk HO259.out) (Kd.R_base ho29) hb)
                  replace BK248 := a_ (blk_below (pk BK248.out) hb)
                  replace BK249 := a_ (blk_below (pk BK249.out) hb)
                  replace BK262 := a_ (blk_below (pk BK262.out) hb)
                  replace BK278 := a_ (blk_below (pk BK278.out) hb)
                  replace HB := a_ (below_step (by repeat (first | (with_reducible first | exact HB.out | apply below_alloc | apply pw_below_drewN | apply below_drew1 | refine below_set ?_ (IsS38.ge HI250.out) | refine below_set ?_ GE248.out | refine below_set ?_ GE249.out | refine below_set ?_ GE262.out | refine below_set ?_ GE278.out) | exact HB.out)) hb)
                  replace HI250 := a_ (IsS38.below (by repeat (first | (with_reducible first | exact HI250.out | apply IsS38.alloc | apply IsS38.drewN | apply IsS38.drew | apply IsS38.set_1 | apply IsS38.set_2 | refine IsS38.far ?_ NB250_248.out _ | refine IsS38.far ?_ NB250_249.out _ | refine IsS38.far ?_ NB250_262.out _ | refine IsS38.far ?_ NB250_278.out _) | exact HI250.out)) hb)
                  clear hb ho29
                  refine hK.out _ _ ⟨(blk_cell BK262.out 0).trans rfl, (blk_cell BK262.out 1).trans rfl⟩ (fun hHeld => ?_)
                  clear hK K
                  refine norm_ (a' := ?_) ?_ ?_
                  rotate_left
                  ·show Act.put _ (some 18) _ = _
                   simp only [Act.put, sB, sC, sD, i64_w, i32_w]
                   rfl
                  exact norm_ (by first | (simp only [putAll, Act.put, sB, sC, sD]; done) | (simp only [putAll, Act.put, sB, sC, sD]; rfl)) (hJ0_9 (v267, gb278) _ ⟨hHeld, (rk HO256.out), (rk HO259.out), (rk (Kd.R_mono HO268.out (fun _ hk => ⟨hk.1.2, hk.2⟩))), (pk BK248.out), (pk BK249.out), (pk BK262.out), (pk BK278.out), GW278.out, GE278.out, NB250_278.out, NB278_250.out, NB248_278.out, NB278_248.out, NB249_278.out, NB278_249.out, NB262_278.out, NB278_262.out, (by repeat (first | (with_reducible first | exact HI250.out | apply IsS38.alloc | apply IsS38.drewN | apply IsS38.drew | apply IsS38.set_1 | apply IsS38.set_2 | refine IsS38.far ?_ NB250_248.out _ | refine IsS38.far ?_ NB250_249.out _ | refine IsS38.far ?_ NB250_262.out _ | refine IsS38.far ?_ NB250_278.out _) | exact HI250.out)), (by repeat (first | (with_reducible first | exact HB.out | apply below_alloc | apply pw_below_drewN | apply below_drew1 | refine below_set ?_ (IsS38.ge HI250.out) | refine below_set ?_ GE248.out | refine below_set ?_ GE249.out | refine below_set ?_ GE262.out | refine below_set ?_ GE278.out) | exact HB.out))⟩)
                 ·skip
                  refine Kd.R_lit_step Kd.flt _ 33 ?hg (N := 22) ?hd (xs := ([] : List Nat)) (inner := []) (ok := fun _ => True) (okp := fun _ => True) ?hr ?hp (fun _ hk => hk) trivial (Below.refl _ _) (Nat.le_refl _) (by simp) ?_; (case hd => rfl); (case hg => rfl); (case hr => first | (go_simp; done) | (go_simp; rfl)); (case hp => exact (Reps.none _ _))
                  intro v273 w28 ho29 hb hg_ hnew_
                  clear hg_ hnew_
                  (first | rw [← Ny272.out] at ho29 | (simp only [Int.reduceToNat] at ho29; rw [← Ny272.out] at ho29))
                  have HO274 := a_ (Kd.R_lower (nw (nw ho29 HO256.out) HO259.out) (below_size (by repeat (first | (with_reducible first | exact HB.out | apply below_alloc | apply pw_below_drewN | apply below_drew1 | refine below_set ?_ (IsS38.ge HI250.out) | refine below_set ?_ GE248.out | refine below_set ?_ GE249.out | refine below_set ?_ GE262.out | refine below_set ?_ GE278.out) | exact HB.out))))
                  replace HO256 := a_ (Kd.R_elder' (rk HO256.out) (Kd.R_base ho29) hb)
                  replace HO259 := a_ (Kd.R_elder' (rk HO259.out) (Kd.R_base ho29) hb)
                  replace BK248 := a_ (blk_below (pk BK248.out) hb)
                  replace BK249 := a_ (blk_below (pk BK249.out) hb)
                  replace BK262 := a_ (blk_below (pk BK262.out) hb)
                  replace BK278 := a_ (blk_below (pk BK278.out) hb)
                  replace HB := a_ (below_step (by repeat (first | (with_reducible first | exact HB.out | apply below_alloc | apply pw_below_drewN | apply below_drew1 | refine below_set ?_ (IsS38.ge HI250.out) | refine below_set ?_ GE248.out | refine below_set ?_ GE249.out | refine below_set ?_ GE262.out | refine below_set ?_ GE278.out) | exact HB.out)) hb)
                  replace HI250 := a_ (IsS38.below (by repeat (first | (with_reducible first | exact HI250.out | apply IsS38.alloc | apply IsS38.drewN | apply IsS38.drew | apply IsS38.set_1 | apply IsS38.set_2 | refine IsS38.far ?_ NB250_248.out _ | refine IsS38.far ?_ NB250_249.out _ | refine IsS38.far ?_ NB250_262.out _ | refine IsS38.far ?_ NB250_278.out _) | exact HI250.out)) hb)
                  clear hb ho29
                  refine hK.out _ _ ⟨(blk_cell BK262.out 0).trans rfl, (blk_cell BK262.out 1).trans rfl⟩ (fun hHeld => ?_)
                  clear hK K
                  refine norm_ (a' := ?_) ?_ ?_
                  rotate_left
                  ·show Act.put _ (some 22) _ = _
                   simp only [Act.put, sB, sC, sD, i64_w, i32_w]
                   rfl
                  exact norm_ (by first | (simp only [putAll, Act.put, sB, sC, sD]; done) | (simp only [putAll, Act.put, sB, sC, sD]; rfl)) (hJ4_9 (v273, gb278) _ ⟨hHeld, (rk HO256.out), (rk HO259.out), (rk (Kd.R_mono HO274.out (fun _ hk => ⟨hk.1.2, hk.2⟩))), (pk BK248.out), (pk BK249.out), (pk BK262.out), (pk BK278.out), GW278.out, GE278.out, NB250_278.out, NB278_250.out, NB248_278.out, NB278_248.out, NB249_278.out, NB278_249.out, NB262_278.out, NB278_262.out, (by repeat (first | (with_reducible first | exact HI250.out | apply IsS38.alloc | apply IsS38.drewN | apply IsS38.drew | apply IsS38.set_1 | apply IsS38.set_2 | refine IsS38.far ?_ NB250_248.out _ | refine IsS38.far ?_ NB250_249.out _ | refine IsS38.far ?_ NB250_262.out _ | refine IsS38.far ?_ NB250_278.out _) | exact HI250.out)), (by repeat (first | (with_reducible first | exact HB.out | apply below_alloc | apply pw_below_drewN | apply below_drew1 | refine below_set ?_ (IsS38.ge HI250.out) | refine below_set ?_ GE248.out | refine below_set ?_ GE249.out | refine below_set ?_ GE262.out | refine below_set ?_ GE278.out) | exact HB.out))⟩)
               ·skip
                rintro v273 w28 ⟨hS_, h0_, h1_, h2_, h3_, h4_, h5_, h6_, h7_⟩
                have n0_ : Aside0 (Kd.R Kd.flt 33 w28 w.heap.size (fun k_ => N_ (.slice Ao23 t257.length co23) k_ ∧ N_ v273 k_) (.slice Ao18 t254.length co18) t254) := ⟨h0_⟩
                have n1_ : Aside0 (Kd.R Kd.flt 33 w28 w.heap.size (fun k_ => N_ (.slice Ao18 t254.length co18) k_ ∧ N_ v273 k_) (.slice Ao23 t257.length co23) t257) := ⟨h1_⟩
                have n2_ : Aside0 (Kd.R Kd.flt 33 w28 w.heap.size (fun k_ => N_ (.slice Ao18 t254.length co18) k_ ∧ N_ (.slice Ao23 t257.length co23) k_) v273 y272) := ⟨h2_⟩
                have n3_ : Aside0 (w28.heap[gb248]? = some (.cells #[.slice none 0 0, .slice none 0 0] 25 (0, 0))) := ⟨h3_⟩
                have n4_ : Aside0 (w28.heap[gb249]? = some (.cells #[.slice none 0 0, .slice none 0 0] 25 (0, 0))) := ⟨h4_⟩
                have n5_ : Aside0 (w28.heap[gb262]? = some (.cells #[.slice Ao18 t254.length co18, .slice Ao23 t257.length co23] 25 (0, 0))) := ⟨h5_⟩
                have n6_ : Aside0 (IsS38 w w28 gb250 l0 t264 t265) := ⟨h6_⟩
                have n7_ : Aside0 (Below w.heap.size w w28) := ⟨h7_⟩
                clear HO256
                clear HO259
                clear BK248
                clear BK249
                clear BK262
                clear HI250
                clear HB
                clear h0_ h1_ h2_ h3_ h4_ h5_ h6_ h7_
                have HO256 := n0_
                have HO259 := n1_
                have HO274 := n2_
                have BK248 := n3_
                have BK249 := n4_
                have BK262 := n5_
                have HI250 := n6_
                have HB := n7_
                clear n0_ n1_ n2_ n3_ n4_ n5_ n6_ n7_
                have hHeld : w28.cell? ⟨gb262, 0, none⟩ = some (.slice Ao18 t254.length co18) ∧ w28.cell? ⟨gb262, 1, none⟩ = some (.slice Ao23 t257.length co23) := hS_
                refine norm_ (a' := ?_) ?_ ?_
                rotate_left
                ·simp only [putAll, Act.put, sB, sC, sD]
                 rfl
                refine two_ (i := 0) (j := 9) (Ni := some 18) (Nj := some 7) #[true, true, true, false, true, true, true, false, false, false, false] #[false, true, true, false, true, true, true, false, false, true, false] rfl rfl rfl rfl (two_of HT_.out (by kernel_rfl)) (by decide) (by decide) (fun K hK => ?_) (fun K hK => ?_)
                ·skip
                 refine Kd.R_lit_step Kd.flt _ 33 ?hg (N := 18) ?hd (xs := ([] : List Nat)) (inner := []) (ok := fun _ => True) (okp := fun _ => True) ?hr ?hp (fun _ hk => hk) trivial (Below.refl _ _) (Nat.le_refl _) (by simp) ?_; (case hd => rfl); (case hg => rfl); (case hr => first | (go_simp; done) | (go_simp; rfl)); (case hp => exact (Reps.none _ _))
                 intro v267 w29 ho30 hb hg_ hnew_
                 clear hg_ hnew_
                 (first | rw [← Ny266.out] at ho30 | (simp only [Int.reduceToNat] at ho30; rw [← Ny266.out] at ho30))
                 have HO268 := a_ (Kd.R_lower (nw (nw (nw ho30 HO256.out) HO259.out) HO274.out) (below_size (by repeat (first | (with_reducible first | exact HB.out | apply below_alloc | apply pw_below_drewN | apply below_drew1 | refine below_set ?_ (IsS38.ge HI250.out) | refine below_set ?_ GE248.out | refine below_set ?_ GE249.out | refine below_set ?_ GE262.out) | exact HB.out))))
                 replace HO256 := a_ (Kd.R_elder' (rk HO256.out) (Kd.R_base ho30) hb)
                 replace HO259 := a_ (Kd.R_elder' (rk HO259.out) (Kd.R_base ho30) hb)
                 replace HO274 := a_ (Kd.R_elder' (rk HO274.out) (Kd.R_base ho30) hb)
                 replace BK248 := a_ (blk_below (pk BK248.out) hb)
                 replace BK249 := a_ (blk_below (pk BK249.out) hb)
                 replace BK262 := a_ (blk_below (pk BK262.out) hb)
                 replace HB := a_ (below_step (by repeat (first | (with_reducible first | exact HB.out | apply below_alloc | apply pw_below_drewN | apply below_drew1 | refine below_set ?_ (IsS38.ge HI250.out) | refine below_set ?_ GE248.out | refine below_set ?_ GE249.out | refine below_set ?_ GE262.out) | exact HB.out)) hb)
                 replace HI250 := a_ (IsS38.below (by repeat (first | (with_reducible first | exact HI250.out | apply IsS38.alloc | apply IsS38.drewN | apply IsS38.drew | apply IsS38.set_1 | apply IsS38.set_2 | refine IsS38.far ?_ NB250_248.out _ | refine IsS38.far ?_ NB250_249.out _ | refine IsS38.far ?_ NB250_262.out _) | exact HI250.out)) hb)
                 clear hb ho30
                 refine hK.out _ _ ⟨(blk_cell BK262.out 0).trans rfl, (blk_cell BK262.out 1).trans rfl⟩ (fun hHeld => ?_)
                 clear hK K
                 refine norm_ (a' := ?_) ?_ ?_
                 rotate_left
                 ·show Act.put _ (some 18) _ = _
                  simp only [Act.put, sB, sC, sD, i64_w, i32_w]
                  rfl
                 exact norm_ (by first | (simp only [putAll, Act.put, sB, sC, sD]; done) | (simp only [putAll, Act.put, sB, sC, sD]; rfl)) (hJ0_4 (v267, v273) _ ⟨hHeld, (rk (Kd.R_mono HO256.out (fun _ hk => ⟨hk.1.1, hk.2, hk.1.2⟩))), (rk (Kd.R_mono HO259.out (fun _ hk => ⟨hk.1.1, hk.2, hk.1.2⟩))), (rk (Kd.R_mono HO268.out (fun _ hk => ⟨hk.1.1.2, hk.1.2, hk.2⟩))), (rk (Kd.R_mono HO274.out (fun _ hk => ⟨hk.1.1, hk.1.2, hk.2⟩))), (pk BK248.out), (pk BK249.out), (pk BK262.out), (by repeat (first | (with_reducible first | exact HI250.out | apply IsS38.alloc | apply IsS38.drewN | apply IsS38.drew | apply IsS38.set_1 | apply IsS38.set_2 | refine IsS38.far ?_ NB250_248.out _ | refine IsS38.far ?_ NB250_249.out _ | refine IsS38.far ?_ NB250_262.out _) | exact HI250.out)), (by repeat (first | (with_reducible first | exact HB.out | apply below_alloc | apply pw_below_drewN | apply below_drew1 | refine below_set ?_ (IsS38.ge HI250.out) | refine below_set ?_ GE248.out | refine below_set ?_ GE249.out | refine below_set ?_ GE262.out) | exact HB.out))⟩)
                ·skip
                 refine box_step ?hg (N := 7) ?hd (cs := #[.slice none 0 0, .slice none 0 0]) (t := 25) ?hr ?_; (case hd => rfl); (case hg => rfl); (case hr => first | (go_simp; done) | (go_simp; rfl))
                 intro gb278 hg w29 hbox hb
                 replace HO256 := a_ (Kd.R_below (rk HO256.out) hb)
                 replace HO259 := a_ (Kd.R_below (rk HO259.out) hb)
                 replace HO274 := a_ (Kd.R_below (rk HO274.out) hb)
                 have BK278 := a_ (hbox)
                 have GW278 := a_ (by rw [hg]; exact (below_size (by repeat (first | (with_reducible first | exact HB.out | apply below_alloc | apply pw_below_drewN | apply below_drew1 | refine below_set ?_ (IsS38.ge HI250.out) | refine below_set ?_ GE248.out | refine below_set ?_ GE249.out | refine below_set ?_ GE262.out) | exact HB.out))) : w.heap.size ≤ gb278)
                 have GE278 := a_ (by rw [hg]; exact (below_size (by repeat (first | (with_reducible first | exact HB.out | apply below_alloc | apply pw_below_drewN | apply below_drew1 | refine below_set ?_ (IsS38.ge HI250.out) | refine below_set ?_ GE248.out | refine below_set ?_ GE249.out | refine below_set ?_ GE262.out) | exact HB.out))) : w.heap.size ≤ gb278)
                 replace HB := a_ (below_step (by repeat (first | (with_reducible first | exact HB.out | apply below_alloc | apply pw_below_drewN | apply below_drew1 | refine below_set ?_ (IsS38.ge HI250.out) | refine below_set ?_ GE248.out | refine below_set ?_ GE249.out | refine below_set ?_ GE262.out) | exact HB.out)) hb)
                 have NB248_278 := a_ (nel hg BK248.out)
                 have NB278_248 := a_ (nle hg BK248.out)
                 replace BK248 := a_ (blk_below (pk BK248.out) hb)
                 have NB249_278 := a_ (nel hg BK249.out)
                 have NB278_249 := a_ (nle hg BK249.out)
                 replace BK249 := a_ (blk_below (pk BK249.out) hb)
                 have NB262_278 := a_ (nel hg BK262.out)
                 have NB278_262 := a_ (nle hg BK262.out)
                 replace BK262 := a_ (blk_below (pk BK262.out) hb)
                 have NB250_278 := a_ (by rw [hg]; exact Nat.ne_of_lt (IsS38.lt (show IsS38 w _ gb250 l0 t264 t265 from by repeat (first | (with_reducible first | exact HI250.out | apply IsS38.alloc | apply IsS38.drewN | apply IsS38.drew | apply IsS38.set_1 | apply IsS38.set_2 | refine IsS38.far ?_ NB250_248.out _ | refine IsS38.far ?_ NB250_249.out _ | refine IsS38.far ?_ NB250_262.out _) | exact HI250.out))) : gb250 ≠ gb278)
                 have NB278_250 := a_ (by rw [hg]; exact Nat.ne_of_gt (IsS38.lt (show IsS38 w _ gb250 l0 t264 t265 from by repeat (first | (with_reducible first | exact HI250.out | apply IsS38.alloc | apply IsS38.drewN | apply IsS38.drew | apply IsS38.set_1 | apply IsS38.set_2 | refine IsS38.far ?_ NB250_248.out _ | refine IsS38.far ?_ NB250_249.out _ | refine IsS38.far ?_ NB250_262.out _) | exact HI250.out))) : gb278 ≠ gb250)
                 replace HI250 := a_ (IsS38.below (by repeat (first | (with_reducible first | exact HI250.out | apply IsS38.alloc | apply IsS38.drewN | apply IsS38.drew | apply IsS38.set_1 | apply IsS38.set_2 | refine IsS38.far ?_ NB250_248.out _ | refine IsS38.far ?_ NB250_249.out _ | refine IsS38.far ?_ NB250_262.out _) | exact HI250.out)) hb)
                 clear hb hbox hg
                 refine hK.out _ _ ⟨(blk_cell BK262.out 0).trans rfl, (blk_cell BK262.out 1).trans rfl⟩ (fun hHeld => ?_)
                 clear hK K
                 refine norm_ (a' := ?_) ?_ ?_
                 rotate_left
                 ·show Act.put _ (some 7) _ = _
                  simp only [Act.put, sB, sC, sD, i64_w, i32_w]
                  rfl
                 exact norm_ (by first | (simp only [putAll, Act.put, sB, sC, sD]; done) | (simp only [putAll, Act.put, sB, sC, sD]; rfl)) (hJ4_9 (v273, gb278) _ ⟨hHeld, (rk HO256.out), (rk HO259.out), (rk HO274.out), (pk BK248.out), (pk BK249.out), (pk BK262.out), (pk BK278.out), GW278.out, GE278.out, NB250_278.out, NB278_250.out, NB248_278.out, NB278_248.out, NB249_278.out, NB278_249.out, NB262_278.out, NB278_262.out, (by repeat (first | (with_reducible first | exact HI250.out | apply IsS38.alloc | apply IsS38.drewN | apply IsS38.drew | apply IsS38.set_1 | apply IsS38.set_2 | refine IsS38.far ?_ NB250_248.out _ | refine IsS38.far ?_ NB250_249.out _ | refine IsS38.far ?_ NB250_262.out _ | refine IsS38.far ?_ NB250_278.out _) | exact HI250.out)), (by repeat (first | (with_reducible first | exact HB.out | apply below_alloc | apply pw_below_drewN | apply below_drew1 | refine below_set ?_ (IsS38.ge HI250.out) | refine below_set ?_ GE248.out | refine below_set ?_ GE249.out | refine below_set ?_ GE262.out | refine below_set ?_ GE278.out) | exact HB.out))⟩)
              ·skip
               rintro v267 w28 ⟨hS_, h0_, h1_, h2_, h3_, h4_, h5_, h6_, h7_⟩
               have n0_ : Aside0 (Kd.R Kd.flt 33 w28 w.heap.size (fun k_ => N_ (.slice Ao23 t257.length co23) k_ ∧ N_ v267 k_) (.slice Ao18 t254.length co18) t254) := ⟨h0_⟩
               have n1_ : Aside0 (Kd.R Kd.flt 33 w28 w.heap.size (fun k_ => N_ (.slice Ao18 t254.length co18) k_ ∧ N_ v267 k_) (.slice Ao23 t257.length co23) t257) := ⟨h1_⟩
               have n2_ : Aside0 (Kd.R Kd.flt 33 w28 w.heap.size (fun k_ => N_ (.slice Ao18 t254.length co18) k_ ∧ N_ (.slice Ao23 t257.length co23) k_) v267 y266) := ⟨h2_⟩
               have n3_ : Aside0 (w28.heap[gb248]? = some (.cells #[.slice none 0 0, .slice none 0 0] 25 (0, 0))) := ⟨h3_⟩
               have n4_ : Aside0 (w28.heap[gb249]? = some (.cells #[.slice none 0 0, .slice none 0 0] 25 (0, 0))) := ⟨h4_⟩
               have n5_ : Aside0 (w28.heap[gb262]? = some (.cells #[.slice Ao18 t254.length co18, .slice Ao23 t257.length co23] 25 (0, 0))) := ⟨h5_⟩
               have n6_ : Aside0 (IsS38 w w28 gb250 l0 t264 t265) := ⟨h6_⟩
               have n7_ : Aside0 (Below w.heap.size w w28) := ⟨h7_⟩
               clear HO256
               clear HO259
               clear BK248
               clear BK249
               clear BK262
               clear HI250
               clear HB
               clear h0_ h1_ h2_ h3_ h4_ h5_ h6_ h7_
               have HO256 := n0_
               have HO259 := n1_
               have HO268 := n2_
               have BK248 := n3_
               have BK249 := n4_
               have BK262 := n5_
               have HI250 := n6_
               have HB := n7_
               clear n0_ n1_ n2_ n3_ n4_ n5_ n6_ n7_
               have hHeld : w28.cell? ⟨gb262, 0, none⟩ = some (.slice Ao18 t254.length co18) ∧ w28.cell? ⟨gb262, 1, none⟩ = some (.slice Ao23 t257.length co23) := hS_
               refine norm_ (a' := ?_) ?_ ?_
               rotate_left
               ·simp only [putAll, Act.put, sB, sC, sD]
                rfl
               refine three_ (i := 3) (j := 4) (k := 9) (Ni := some 21) (Nj := some 22) (Nk := some 7) #[true, true, true, true, false, true, true, false, false, false, false] #[true, true, true, false, true, true, true, false, false, false, false] #[true, true, true, false, false, true, true, false, false, true, false] rfl rfl rfl rfl rfl rfl (three_of HT_.out (by kernel_rfl)) (by decide) (by decide) (by decide) (fun K hK => ?_) (fun K hK => ?_) (fun K hK => ?_)
               ·skip
                refine Kd.R_append_rows_step Kd.flt (w0 := w) w.heap.size (by rfl) (.tmp 18) (.tmp 20) 23 33 (.float .f64 0) 8 rfl Try.underlying23 info33 rfl (by decide) (by omega) v267 y266 t254 _ _ _ (fun k_ => N_ (.slice Ao18 t254.length co18) k_ ∧ N_ (.slice Ao23 t257.length co23) k_) (fun _ => False) rfl rfl ?aO ?aR (fun _ _ h => h) (fun _ h => h.elim) ?aF ?aB ?aS ?aL ?_
                (case aR => exact cu (Kd.R_reads' HO256.out).2.2)
                (case aB => exact (by repeat (first | (with_reducible first | exact HB.out | apply below_alloc | apply pw_below_drewN | apply below_drew1 | refine below_set ?_ (IsS38.ge HI250.out) | refine below_set ?_ GE248.out | refine below_set ?_ GE249.out | refine below_set ?_ GE262.out) | exact HB.out)))
                (case aF => exact (fun k_ hk => ⟨Kd.fresh' (Kd.R_lt (rk HO256.out)) k_ hk, Kd.fresh' (Kd.R_lt (rk HO259.out)) k_ hk⟩))
                (case aO => exact (rk HO268.out))
                (case aS => exact (below_size (by repeat (first | (with_reducible first | exact HB.out | apply below_alloc | apply pw_below_drewN | apply below_drew1 | refine below_set ?_ (IsS38.ge HI250.out) | refine below_set ?_ GE248.out | refine below_set ?_ GE249.out | refine below_set ?_ GE262.out) | exact HB.out))))
                (case aL => have := LMc6.out; omega)
                intro v270 w29 ho hb hg hat
                rw [← Ny269.out] at ho
                replace BK248 := a_ (blk_grown (pk BK248.out) hg (Kd.R_ne HO268.out BK248.out (by decide)))
                replace BK249 := a_ (blk_grown (pk BK249.out) hg (Kd.R_ne HO268.out BK249.out (by decide)))
                replace HI250 := a_ (IsS38.grown (show IsS38 w _ gb250 l0 t264 t265 from by repeat (first | (with_reducible first | exact HI250.out | apply IsS38.alloc | apply IsS38.drewN | apply IsS38.drew | apply IsS38.set_1 | apply IsS38.set_2 | refine IsS38.far ?_ NB250_248.out _ | refine IsS38.far ?_ NB250_249.out _ | refine IsS38.far ?_ NB250_262.out _) | exact HI250.out)) hg (IsS38.own_ne HI250.out HO268.out (by decide)))
                replace HO256 := a_ (Kd.R_after (ok := (fun k_ => N_ (.slice Ao23 t257.length co23) k_)) (rk HO256.out) hg hat)
                replace HO259 := a_ (Kd.R_after (ok := (fun k_ => N_ (.slice Ao18 t254.length co18) k_)) (rk HO259.out) hg hat)
                replace BK262 := a_ (blk_grown (pk BK262.out) hg (Kd.R_ne HO268.out BK262.out (by decide)))
                replace HB := a_ (hb)
                have HO271 := a_ (ho)
                clear HO268 ho hb hg hat
                refine hK.out _ _ ⟨(blk_cell BK262.out 0).trans rfl, (blk_cell BK262.out 1).trans rfl⟩ (fun hHeld => ?_)
                clear hK K
                refine norm_ (a' := ?_) ?_ ?_
                rotate_left
                ·show Act.put _ (some 21) _ = _
                 simp only [Act.put, sB, sC, sD, i64_w, i32_w]
                 rfl
                exact norm_ (by first | (simp only [putAll, Act.put, sB, sC, sD]; done) | (simp only [putAll, Act.put, sB, sC, sD]; rfl)) (hJ0_3 (v267, v270) _ ⟨hHeld, (rk HO256.out), (rk HO259.out), (rk HO271.out), (pk BK248.out), (pk BK249.out), (pk BK262.out), (by repeat (first | (with_reducible first | exact HI250.out | apply IsS38.alloc | apply IsS38.drewN | apply IsS38.drew | apply IsS38.set_1 | apply IsS38.set_2 | refine IsS38.far ?_ NB250_248.out _ | refine IsS38.far ?_ NB250_249.out _ | refine IsS38.far ?_ NB250_262.out _) | exact HI250.out)), (by repeat (first | (with_reducible first | exact HB.out | apply below_alloc | apply pw_below_drewN | apply below_drew1 | refine below_set ?_ (IsS38.ge HI250.out) | refine below_set ?_ GE248.out | refine below_set ?_ GE249.out | refine below_set ?_ GE262.out) | exact HB.out))⟩)
               ·skip
                refine Kd.R_lit_step Kd.flt _ 33 ?hg (N := 22) ?hd (xs := ([] : List Nat)) (inner := []) (ok := fun _ => True) (okp := fun _ => True) ?hr ?hp (fun _ hk => hk) trivial (Below.refl _ _) (Nat.le_refl _) (by simp) ?_; (case hd => rfl); (case hg => rfl); (case hr => first | (go_simp; done) | (go_simp; rfl)); (case hp => exact (Reps.none _ _))
                intro v273 w29 ho30 hb hg_ hnew_
                clear hg_ hnew_
                (first | rw [← Ny272.out] at ho30 | (simp only [Int.reduceToNat] at ho30; rw [← Ny272.out] at ho30))
                have HO274 := a_ (Kd.R_lower (nw (nw (nw ho30 HO256.out) HO259.out) HO268.out) (below_size (by repeat (first | (with_reducible first | exact HB.out | apply below_alloc | apply pw_below_drewN | apply below_drew1 | refine below_set ?_ (IsS38.ge HI250.out) | refine below_set ?_ GE248.out | refine below_set ?_ GE249.out | refine below_set ?_ GE262.out) | exact HB.out))))
                replace HO256 := a_ (Kd.R_elder' (rk HO256.out) (Kd.R_base ho30) hb)
                replace HO259 := a_ (Kd.R_elder' (rk HO259.out) (Kd.R_base ho30) hb)
                replace HO268 := a_ (Kd.R_elder' (rk HO268.out) (Kd.R_base ho30) hb)
                replace BK248 := a_ (blk_below (pk BK248.out) hb)
                replace BK249 := a_ (blk_below (pk BK249.out) hb)
                replace BK262 := a_ (blk_below (pk BK262.out) hb)
                replace HB := a_ (below_step (by repeat (first | (with_reducible first | exact HB.out | apply below_alloc | apply pw_below_drewN | apply below_drew1 | refine below_set ?_ (IsS38.ge HI250.out) | refine below_set ?_ GE248.out | refine below_set ?_ GE249.out | refine below_set ?_ GE262.out) | exact HB.out)) hb)
                replace HI250 := a_ (IsS38.below (by repeat (first | (with_reducible first | exact HI250.out | apply IsS38.alloc | apply IsS38.drewN | apply IsS38.drew | apply IsS38.set_1 | apply IsS38.set_2 | refine IsS38.far ?_ NB250_248.out _ | refine IsS38.far ?_ NB250_249.out _ | refine IsS38.far ?_ NB250_262.out _) | exact HI250.out)) hb)
                clear hb ho30
                refine hK.out _ _ ⟨(blk_cell BK262.out 0).trans rfl, (blk_cell BK262.out 1).trans rfl⟩ (fun hHeld => ?_)
                clear hK K
                refine norm_ (a' := ?_) ?_ ?_
                rotate_left
                ·show Act.put _ (some 22) _ = _
                 simp only [Act.put, sB, sC, sD, i64_w, i32_w]
                 rfl
                exact norm_ (by first | (simp only [putAll, Act.put, sB, sC, sD]; done) | (simp only [putAll, Act.put, sB, sC, sD]; rfl)) (hJ0_4 (v267, v273) _ ⟨hHeld, (rk (Kd.R_mono HO256.out (fun _ hk => ⟨hk.1.1, hk.1.2, hk.2⟩))), (rk (Kd.R_mono HO259.out (fun _ hk => ⟨hk.1.1, hk.1.2, hk.2⟩))), (rk (Kd.R_mono HO268.out (fun _ hk => ⟨hk.1.1, hk.1.2, hk.2⟩))), (rk (Kd.R_mono HO274.out (fun _ hk => ⟨hk.1.1.2, hk.1.2, hk.2⟩))), (pk BK248.out), (pk BK249.out), (pk BK262.out), (by repeat (first | (with_reducible first | exact HI250.out | apply IsS38.alloc | apply IsS38.drewN | apply IsS38.drew | apply IsS38.set_1 | apply IsS38.set_2 | refine IsS38.far ?_ NB250_248.out _ | refine IsS38.far ?_ NB250_249.out _ | refine IsS38.far ?_ NB250_262.out _) | exact HI250.out)), (by repeat (first | (with_reducible first | exact HB.out | apply below_alloc | apply pw_below_drewN | apply below_drew1 | refine below_set ?_ (IsS38.ge HI250.out) | refine below_set ?_ GE248.out | refine below_set ?_ GE249.out | refine below_set ?_ GE262.out) | exact HB.out))⟩)
               ·skip
                refine box_step ?hg (N := 7) ?hd (cs := #[.slice none 0 0, .slice none 0 0]) (t := 25) ?hr ?_; (case hd => rfl); (case hg => rfl); (case hr => first | (go_simp; done) | (go_simp; rfl))
                intro gb278 hg w29 hbox hb
                replace HO256 := a_ (Kd.R_below (rk HO256.out) hb)
                replace HO259 := a_ (Kd.R_below (rk HO259.out) hb)
                replace HO268 := a_ (Kd.R_below (rk HO268.out) hb)
                have BK278 := a_ (hbox)
                have GW278 := a_ (by rw [hg]; exact (below_size (by repeat (first | (with_reducible first | exact HB.out | apply below_alloc | apply pw_below_drewN | apply below_drew1 | refine below_set ?_ (IsS38.ge HI250.out) | refine below_set ?_ GE248.out | refine below_set ?_ GE249.out | refine below_set ?_ GE262.out) | exact HB.out))) : w.heap.size ≤ gb278)
                have GE278 := a_ (by rw [hg]; exact (below_size (by repeat (first | (with_reducible first | exact HB.out | apply below_alloc | apply pw_below_drewN | apply below_drew1 | refine below_set ?_ (IsS38.ge HI250.out) | refine below_set ?_ GE248.out | refine below_set ?_ GE249.out | refine below_set ?_ GE262.out) | exact HB.out))) : w.heap.size ≤ gb278)
                replace HB := a_ (below_step (by repeat (first | (with_reducible first | exact HB.out | apply below_alloc | apply pw_below_drewN | apply below_drew1 | refine below_set ?_ (IsS38.ge HI250.out) | refine below_set ?_ GE248.out | refine below_set ?_ GE249.out | refine below_set ?_ GE262.out) | exact HB.out)) hb)
                have NB248_278 := a_ (nel hg BK248.out)
                have NB278_248 := a_ (nle hg BK248.out)
                replace BK248 := a_ (blk_below (pk BK248.out) hb)
                have NB249_278 := a_ (nel hg BK249.out)
                have NB278_249 := a_ (nle hg BK249.out)
                replace BK249 := a_ (blk_below (pk BK249.out) hb)
                have NB262_278 := a_ (nel hg BK262.out)
                have NB278_262 := a_ (nle hg BK262.out)
                replace BK262 := a_ (blk_below (pk BK262.out) hb)
                have NB250_278 := a_ (by rw [hg]; exact Nat.ne_of_lt (IsS38.lt (show IsS38 w _ gb250 l0 t264 t265 from by repeat (first | (with_reducible first | exact HI250.out | apply IsS38.alloc | apply IsS38.drewN | apply IsS38.drew | apply IsS38.set_1 | apply IsS38.set_2 | refine IsS38.far ?_ NB250_248.out _ | refine IsS38.far ?_ NB250_249.out _ | refine IsS38.far ?_ NB250_262.out _) | exact HI250.out))) : gb250 ≠ gb278)
                have NB278_250 := a_ (by rw [hg]; exact Nat.ne_of_gt (IsS38.lt (show IsS38 w _ gb250 l0 t264 t265 from by repeat (first | (with_reducible first | exact HI250.out | apply IsS38.alloc | apply IsS38.drewN | apply IsS38.drew | apply IsS38.set_1 | apply IsS38.set_2 | refine IsS38.far ?_ NB250_248.out _ | refine IsS38.far ?_ NB250_249.out _ | refine IsS38.far ?_ NB250_262.out _) | exact HI250.out))) : gb278 ≠ gb250)
                replace HI250 := a_ (IsS38.below (by repeat (first | (with_reducible first | exact HI250.out | apply IsS38.alloc | apply IsS38.drewN | apply IsS38.drew | apply IsS38.set_1 | apply IsS38.set_2 | refine IsS38.far ?_ NB250_248.out _ | refine IsS38.far ?_ NB250_249.out _ | refine IsS38.far ?_ NB250_262.out _) | exact HI250.out)) hb)
                clear hb hbox hg
                refine hK.out _ _ ⟨(blk_cell BK262.out 0).trans rfl, (blk_cell BK262.out 1).trans rfl⟩ (fun hHeld => ?_)
                clear hK K
                refine norm_ (a' := ?_) ?_ ?_
                rotate_left
                ·show Act.put _ (some 7) _ = _
                 simp only [Act.put, sB, sC, sD, i64_w, i32_w]
                 rfl
                exact norm_ (by first | (simp only [putAll, Act.put, sB, sC, sD]; done) | (simp only [putAll, Act.put, sB, sC, sD]; rfl)) (hJ0_9 (v267, gb278) _ ⟨hHeld, (rk HO256.out), (rk HO259.out), (rk HO268.out), (pk BK248.out), (pk BK249.out), (pk BK262.out), (pk BK278.out), GW278.out, GE278.out, NB250_278.out, NB278_250.out, NB248_278.out, NB278_248.out, NB249_278.out, NB278_249.out, NB262_278.out, NB278_262.out, (by repeat (first | (with_reducible first | exact HI250.out | apply IsS38.alloc | apply IsS38.drewN | apply IsS38.drew | apply IsS38.set_1 | apply IsS38.set_2 | refine IsS38.far ?_ NB250_248.out _ | refine IsS38.far ?_ NB250_249.out _ | refine IsS38.far ?_ NB250_262.out _ | refine IsS38.far ?_ NB250_278.out _) | exact HI250.out)), (by repeat (first | (with_reducible first | exact HB.out | apply below_alloc | apply pw_below_drewN | apply below_drew1 | refine below_set ?_ (IsS38.ge HI250.out) | refine below_set ?_ GE248.out | refine below_set ?_ GE249.out | refine below_set ?_ GE262.out | refine below_set ?_ GE278.out) | exact HB.out))⟩)
             ·skip
              rintro ⟨v273, gb278⟩ w29 ⟨hS_, h0_, h1_, h2_, h3_, h4_, h5_, h6_, h7_, h8_, h9_, h10_, h11_, h12_, h13_, h14_, h15_, h16_, h17_, h18_⟩
              have n0_ : Aside0 (Kd.R Kd.flt 33 w29 w.heap.size (fun k_ => N_ (.slice Ao23 t257.length co23) k_ ∧ N_ v273 k_) (.slice Ao18 t254.length co18) t254) := ⟨h0_⟩
              have n1_ : Aside0 (Kd.R Kd.flt 33 w29 w.heap.size (fun k_ => N_ (.slice Ao18 t254.length co18) k_ ∧ N_ v273 k_) (.slice Ao23 t257.length co23) t257) := ⟨h1_⟩
              have n2_ : Aside0 (Kd.R Kd.flt 33 w29 w.heap.size (fun k_ => N_ (.slice Ao18 t254.length co18) k_ ∧ N_ (.slice Ao23 t257.length co23) k_) v273 y272) := ⟨h2_⟩
              have n3_ : Aside0 (w29.heap[gb248]? = some (.cells #[.slice none 0 0, .slice none 0 0] 25 (0, 0))) := ⟨h3_⟩
              have n4_ : Aside0 (w29.heap[gb249]? = some (.cells #[.slice none 0 0, .slice none 0 0] 25 (0, 0))) := ⟨h4_⟩
              have n5_ : Aside0 (w29.heap[gb262]? = some (.cells #[.slice Ao18 t254.length co18, .slice Ao23 t257.length co23] 25 (0, 0))) := ⟨h5_⟩
              have n6_ : Aside0 (w29.heap[gb278]? = some (.cells #[.slice none 0 0, .slice none 0 0] 25 (0, 0))) := ⟨h6_⟩
              have n7_ : Aside0 (w.heap.size ≤ gb278) := ⟨h7_⟩
              have n8_ : Aside0 (w.heap.size ≤ gb278) := ⟨h8_⟩
              have n9_ : Aside0 (gb250 ≠ gb278) := ⟨h9_⟩
              have n10_ : Aside0 (gb278 ≠ gb250) := ⟨h10_⟩
              have n11_ : Aside0 (gb248 ≠ gb278) := ⟨h11_⟩
              have n12_ : Aside0 (gb278 ≠ gb248) := ⟨h12_⟩
              have n13_ : Aside0 (gb249 ≠ gb278) := ⟨h13_⟩
              have n14_ : Aside0 (gb278 ≠ gb249) := ⟨h14_⟩
              have n15_ : Aside0 (gb262 ≠ gb278) := ⟨h15_⟩
              have n16_ : Aside0 (gb278 ≠ gb262) := ⟨h16_⟩
              have n17_ : Aside0 (IsS38 w w29 gb250 l0 t264 t265) := ⟨h17_⟩
              have n18_ : Aside0 (Below w.heap.size w w29) := ⟨h18_⟩
              clear HO256
              clear HO259
              clear BK248
              clear BK249
              clear BK262
              clear HI250
              clear HB
              clear h0_ h1_ h2_ h3_ h4_ h5_ h6_ h7_ h8_ h9_ h10_ h11_ h12_ h13_ h14_ h15_ h16_ h17_ h18_
              have HO256 := n0_
              have HO259 := n1_
              have HO274 := n2_
              have BK248 := n3_
              have BK249 := n4_
              have BK262 := n5_
              have BK278 := n6_
              have GW278 := n7_
              have GE278 := n8_
              have NB250_278 := n9_
              have NB278_250 := n10_
              have NB248_278 := n11_
              have NB278_248 := n12_
              have NB249_278 := n13_
              have NB278_249 := n14_
              have NB262_278 := n15_
              have NB278_262 := n16_
              have HI250 := n17_
              have HB := n18_
              clear n0_ n1_ n2_ n3_ n4_ n5_ n6_ n7_ n8_ n9_ n10_ n11_ n12_ n13_ n14_ n15_ n16_ n17_ n18_
              have hHeld : w29.cell? ⟨gb262, 0, none⟩ = some (.slice Ao18 t254.length co18) ∧ w29.cell? ⟨gb262, 1, none⟩ = some (.slice Ao23 t257.length co23) := hS_
              refine norm_ (a' := ?_) ?_ ?_
              rotate_left
              ·simp only [putAll, Act.put, sB, sC, sD]
               rfl
              refine one_ (i := 0) (N := some 18) #[true, true, true, false, true, true, true, false, false, true, false] rfl rfl (one_of HT_.out (by kernel_rfl)) (by decide) (fun K hK => ?_)
              refine Kd.R_lit_step Kd.flt _ 33 ?hg (N := 18) ?hd (xs := ([] : List Nat)) (inner := []) (ok := fun _ => True) (okp := fun _ => True) ?hr ?hp (fun _ hk => hk) trivial (Below.refl _ _) (Nat.le_refl _) (by simp) ?_; (case hd => rfl); (case hg => rfl); (case hr => first | (go_simp; done) | (go_simp; rfl)); (case hp => exact (Reps.none _ _))
              intro v267 w30 ho31 hb hg_ hnew_
              clear hg_ hnew_
              (first | rw [← Ny266.out] at ho31 | (simp only [Int.reduceToNat] at ho31; rw [← Ny266.out] at ho31))
              have HO268 := a_ (Kd.R_lower (nw (nw (nw ho31 HO256.out) HO259.out) HO274.out) (below_size (by repeat (first | (with_reducible first | exact HB.out | apply below_alloc | apply pw_below_drewN | apply below_drew1 | refine below_set ?_ (IsS38.ge HI250.out) | refine below_set ?_ GE248.out | refine below_set ?_ GE249.out | refine below_set ?_ GE262.out | refine below_set ?_ GE278.out) | exact HB.out))))
              replace HO256 := a_ (Kd.R_elder' (rk HO256.out) (Kd.R_base ho31) hb)
              replace HO259 := a_ (Kd.R_elder' (rk HO259.out) (Kd.R_base ho31) hb)
              replace HO274 := a_ (Kd.R_elder' (rk HO274.out) (Kd.R_base ho31) hb)
              replace BK248 := a_ (blk_below (pk BK248.out) hb)
              replace BK249 := a_ (blk_below (pk BK249.out) hb)
              replace BK262 := a_ (blk_below (pk BK262.out) hb)
              replace BK278 := a_ (blk_below (pk BK278.out) hb)
              replace HB := a_ (below_step (by repeat (first | (with_reducible first | exact HB.out | apply below_alloc | apply pw_below_drewN | apply below_drew1 | refine below_set ?_ (IsS38.ge HI250.out) | refine below_set ?_ GE248.out | refine below_set ?_ GE249.out | refine below_set ?_ GE262.out | refine below_set ?_ GE278.out) | exact HB.out)) hb)
              replace HI250 := a_ (IsS38.below (by repeat (first | (with_reducible first | exact HI250.out | apply IsS38.alloc | apply IsS38.drewN | apply IsS38.drew | apply IsS38.set_1 | apply IsS38.set_2 | refine IsS38.far ?_ NB250_248.out _ | refine IsS38.far ?_ NB250_249.out _ | refine IsS38.far ?_ NB250_262.out _ | refine IsS38.far ?_ NB250_278.out _) | exact HI250.out)) hb)
              clear hb ho31
              refine hK.out _ _ ⟨(blk_cell BK262.out 0).trans rfl, (blk_cell BK262.out 1).trans rfl⟩ (fun hHeld => ?_)
              clear hK K
              refine norm_ (a' := ?_) ?_ ?_
              rotate_left
              ·show Act.put _ (some 18) _ = _
               simp only [Act.put, sB, sC, sD, i64_w, i32_w]
               rfl
              exact norm_ (by first | (simp only [putAll, Act.put, sB, sC, sD]; done) | (simp only [putAll, Act.put, sB, sC, sD]; rfl)) (hJ0_4_9 (v267, v273, gb278) _ ⟨hHeld, (rk (Kd.R_mono HO256.out (fun _ hk => ⟨hk.1.1, hk.2, hk.1.2⟩))), (rk (Kd.R_mono HO259.out (fun _ hk => ⟨hk.1.1, hk.2, hk.1.2⟩))), (rk (Kd.R_mono HO268.out (fun _ hk => ⟨hk.1.1.2, hk.1.2, hk.2⟩))), (rk (Kd.R_mono HO274.out (fun _ hk => ⟨hk.1.1, hk.1.2, hk.2⟩))), (pk BK248.out), (pk BK249.out), (pk BK262.out), (pk BK278.out), GW278.out, GE278.out, NB250_278.out, NB278_250.out, NB248_278.out, NB278_248.out, NB249_278.out, NB278_249.out, NB262_278.out, NB278_262.out, (by repeat (first | (with_reducible first | exact HI250.out | apply IsS38.alloc | apply IsS38.drewN | apply IsS38.drew | apply IsS38.set_1 | apply IsS38.set_2 | refine IsS38.far ?_ NB250_248.out _ | refine IsS38.far ?_ NB250_249.out _ | refine IsS38.far ?_ NB250_262.out _ | refine IsS38.far ?_ NB250_278.out _) | exact HI250.out)), (by repeat (first | (with_reducible first | exact HB.out | apply below_alloc | apply pw_below_drewN | apply below_drew1 | refine below_set ?_ (IsS38.ge HI250.out) | refine below_set ?_ GE248.out | refine below_set ?_ GE249.out | refine below_set ?_ GE262.out | refine below_set ?_ GE278.out) | exact HB.out))⟩)
            ·skip
             rintro ⟨v267, gb278⟩ w29 ⟨hS_, h0_, h1_, h2_, h3_, h4_, h5_, h6_, h7_, h8_, h9_, h10_, h11_, h12_, h13_, h14_, h15_, h16_, h17_, h18_⟩
             have n0_ : Aside0 (Kd.R Kd.flt 33 w29 w.heap.size (fun k_ => N_ (.slice Ao23 t257.length co23) k_ ∧ N_ v267 k_) (.slice Ao18 t254.length co18) t254) := ⟨h0_⟩
             have n1_ : Aside0 (Kd.R Kd.flt 33 w29 w.heap.size (fun k_ => N_ (.slice Ao18 t254.length co18) k_ ∧ N_ v267 k_) (.slice Ao23 t257.length co23) t257) := ⟨h1_⟩
             have n2_ : Aside0 (Kd.R Kd.flt 33 w29 w.heap.size (fun k_ => N_ (.slice Ao18 t254.length co18) k_ ∧ N_ (.slice Ao23 t257.length co23) k_) v267 y266) := ⟨h2_⟩
             have n3_ : Aside0 (w29.heap[gb248]? = some (.cells #[.slice none 0 0, .slice none 0 0] 25 (0, 0))) := ⟨h3_⟩
             have n4_ : Aside0 (w29.heap[gb249]? = some (.cells #[.slice none 0 0, .slice none 0 0] 25 (0, 0))) := ⟨h4_⟩
             have n5_ : Aside0 (w29.heap[gb262]? = some (.cells #[.slice Ao18 t254.length co18, .slice Ao23 t257.length co23] 25 (0, 0))) := ⟨h5_⟩
             have n6_ : Aside0 (w29.heap[gb278]? = some (.cells #[.slice none 0 0, .slice none 0 0] 25 (0, 0))) := ⟨h6_⟩
             have n7_ : Aside0 (w.heap.size ≤ gb278) := ⟨h7_⟩
             have n8_ : Aside0 (w.heap.size ≤ gb278) := ⟨h8_⟩
             have n9_ : Aside0 (gb250 ≠ gb278) := ⟨h9_⟩
             have n10_ : Aside0 (gb278 ≠ gb250) := ⟨h10_⟩
             have n11_ : Aside0 (gb248 ≠ gb278) := ⟨h11_⟩
             have n12_ : Aside0 (gb278 ≠ gb248) := ⟨h12_⟩
             have n13_ : Aside0 (gb249 ≠ gb278) := ⟨h13_⟩
             have n14_ : Aside0 (gb278 ≠ gb249) := ⟨h14_⟩
             have n15_ : Aside0 (gb262 ≠ gb278) := ⟨h15_⟩
             have n16_ : Aside0 (gb278 ≠ gb262) := ⟨h16_⟩
             have n17_ : Aside0 (IsS38 w w29 gb250 l0 t264 t265) := ⟨h17_⟩
             have n18_ : Aside0 (Below w.heap.size w w29) := ⟨h18_⟩
             clear HO256
             clear HO259
             clear BK248
             clear BK249
             clear BK262
             clear HI250
             clear HB
             clear h0_ h1_ h2_ h3_ h4_ h5_ h6_ h7_ h8_ h9_ h10_ h11_ h12_ h13_ h14_ h15_ h16_ h17_ h18_
             have HO256 := n0_
             have HO259 := n1_
             have HO268 := n2_
             have BK248 := n3_
             have BK249 := n4_
             have BK262 := n5_
             have BK278 := n6_
             have GW278 := n7_
             have GE278 := n8_
             have NB250_278 := n9_
             have NB278_250 := n10_
             have NB248_278 := n11_
             have NB278_248 := n12_
             have NB249_278 := n13_
             have NB278_249 := n14_
             have NB262_278 := n15_
             have NB278_262 := n16_
             have HI250 := n17_
             have HB := n18_
             clear n0_ n1_ n2_ n3_ n4_ n5_ n6_ n7_ n8_ n9_ n10_ n11_ n12_ n13_ n14_ n15_ n16_ n17_ n18_
             have hHeld : w29.cell? ⟨gb262, 0, none⟩ = some (.slice Ao18 t254.length co18) ∧ w29.cell? ⟨gb262, 1, none⟩ = some (.slice Ao23 t257.length co23) := hS_
             refine norm_ (a' := ?_) ?_ ?_
             rotate_left
             ·simp only [putAll, Act.put, sB, sC, sD]
              rfl
             refine two_ (i := 3) (j := 4) (Ni := some 21) (Nj := some 22) #[true, true, true, true, false, true, true, false, false, true, false] #[true, true, true, false, true, true, true, false, false, true, false] rfl rfl rfl rfl (two_of HT_.out (by kernel_rfl)) (by decide) (by decide) (fun K hK => ?_) (fun K hK => ?_)
             ·skip
              refine Kd.R_append_rows_step Kd.flt (w0 := w) w.heap.size (by rfl) (.tmp 18) (.tmp 20) 23 33 (.float .f64 0) 8 rfl Try.underlying23 info33 rfl (by decide) (by omega) v267 y266 t254 _ _ _ (fun k_ => N_ (.slice Ao18 t254.length co18) k_ ∧ N_ (.slice Ao23 t257.length co23) k_) (fun _ => False) rfl rfl ?aO ?aR (fun _ _ h => h) (fun _ h => h.elim) ?aF ?aB ?aS ?aL ?_
              (case aR => exact cu (Kd.R_reads' HO256.out).2.2)
              (case aB => exact (by repeat (first | (with_reducible first | exact HB.out | apply below_alloc | apply pw_below_drewN | apply below_drew1 | refine below_set ?_ (IsS38.ge HI250.out) | refine below_set ?_ GE248.out | refine below_set ?_ GE249.out | refine below_set ?_ GE262.out | refine below_set ?_ GE278.out) | exact HB.out)))
              (case aF => exact (fun k_ hk => ⟨Kd.fresh' (Kd.R_lt (rk HO256.out)) k_ hk, Kd.fresh' (Kd.R_lt (rk HO259.out)) k_ hk⟩))
              (case aO => exact (rk HO268.out))
              (case aS => exact (below_size (by repeat (first | (with_reducible first | exact HB.out | apply below_alloc | apply pw_below_drewN | apply below_drew1 | refine below_set ?_ (IsS38.ge HI250.out) | refine below_set ?_ GE248.out | refine below_set ?_ GE249.out | refine below_set ?_ GE262.out | refine below_set ?_ GE278.out) | exact HB.out))))
              (case aL => have := LMc6.out; omega)
              intro v270 w30 ho hb hg hat
              rw [← Ny269.out] at ho
              replace BK248 := a_ (blk_grown (pk BK248.out) hg (Kd.R_ne HO268.out BK248.out (by decide)))
              replace BK249 := a_ (blk_grown (pk BK249.out) hg (Kd.R_ne HO268.out BK249.out (by decide)))
              replace HI250 := a_ (IsS38.grown (show IsS38 w _ gb250 l0 t264 t265 from by repeat (first | (with_reducible first | exact HI250.out | apply IsS38.alloc | apply IsS38.drewN | apply IsS38.drew | apply IsS38.set_1 | apply IsS38.set_2 | refine IsS38.far ?_ NB250_248.out _ | refine IsS38.far ?_ NB250_249.out _ | refine IsS38.far ?_ NB250_262.out _ | refine IsS38.far ?_ NB250_278.out _) | exact HI250.out)) hg (IsS38.own_ne HI250.out HO268.out (by decide)))
              replace HO256 := a_ (Kd.R_after (ok := (fun k_ => N_ (.slice Ao23 t257.length co23) k_)) (rk HO256.out) hg hat)
              replace HO259 := a_ (Kd.R_after (ok := (fun k_ => N_ (.slice Ao18 t254.length co18) k_)) (rk HO259.out) hg hat)
              replace BK262 := a_ (blk_grown (pk BK262.out) hg (Kd.R_ne HO268.out BK262.out (by decide)))
              replace BK278 := a_ (blk_grown (pk BK278.out) hg (Kd.R_ne HO268.out BK278.out (by decide)))
              replace HB := a_ (hb)
              have HO271 := a_ (ho)
              clear HO268 ho hb hg hat
              refine hK.out _ _ ⟨(blk_cell BK262.out 0).trans rfl, (blk_cell BK262.out 1).trans rfl⟩ (fun hHeld => ?_)
              clear hK K
              refine norm_ (a' := ?_) ?_ ?_
              rotate_left
              ·show Act.put _ (some 21) _ = _
               simp only [Act.put, sB, sC, sD, i64_w, i32_w]
               rfl
              exact norm_ (by first | (simp only [putAll, Act.put, sB, sC, sD]; done) | (simp only [putAll, Act.put, sB, sC, sD]; rfl)) (hJ0_3_9 (v267, v270, gb278) _ ⟨hHeld, (rk HO256.out), (rk HO259.out), (rk HO271.out), (pk BK248.out), (pk BK249.out), (pk BK262.out), (pk BK278.out), GW278.out, GE278.out, NB250_278.out, NB278_250.out, NB248_278.out, NB278_248.out, NB249_278.out, NB278_249.out, NB262_278.out, NB278_262.out, (by repeat (first | (with_reducible first | exact HI250.out | apply IsS38.alloc | apply IsS38.drewN | apply IsS38.drew | apply IsS38.set_1 | apply IsS38.set_2 | refine IsS38.far ?_ NB250_248.out _ | refine IsS38.far ?_ NB250_249.out _ | refine IsS38.far ?_ NB250_262.out _ | refine IsS38.far ?_ NB250_278.out _) | exact HI250.out)), (by repeat (first | (with_reducible first | exact HB.out | apply below_alloc | apply pw_below_drewN | apply below_drew1 | refine below_set ?_ (IsS38.ge HI250.out) | refine below_set ?_ GE248.out | refine below_set ?_ GE249.out | refine below_set ?_ GE262.out | refine below_set ?_ GE278.out) | exact HB.out))⟩)
             ·skip
              refine Kd.R_lit_step Kd.flt _ 33 ?hg (N := 22) ?hd (xs := ([] : List Nat)) (inner := []) (ok := fun _ => True) (okp := fun _ => True) ?hr ?hp (fun _ hk => hk) trivial (Below.refl _ _) (Nat.le_refl _) (by simp) ?_; (case hd => rfl); (case hg => rfl); (case hr => first | (go_simp; done) | (go_simp; rfl)); (case hp => exact (Reps.none _ _))
              intro v273 w30 ho31 hb hg_ hnew_
              clear hg_ hnew_
              (first | rw [← Ny272.out] at ho31 | (simp only [Int.reduceToNat] at ho31; rw [← Ny272.out] at ho31))
              have HO274 := a_ (Kd.R_lower (nw (nw (nw ho31 HO256.out) HO259.out) HO268.out) (below_size (by repeat (first | (with_reducible first | exact HB.out | apply below_alloc | apply pw_below_drewN | apply below_drew1 | refine below_set ?_ (IsS38.ge HI250.out) | refine below_set ?_ GE248.out | refine below_set ?_ GE249.out | refine below_set ?_ GE262.out | refine below_set ?_ GE278.out) | exact HB.out))))
              replace HO256 := a_ (Kd.R_elder' (rk HO256.out) (Kd.R_base ho31) hb)
              replace HO259 := a_ (Kd.R_elder' (rk HO259.out) (Kd.R_base ho31) hb)
              replace HO268 := a_ (Kd.R_elder' (rk HO268.out) (Kd.R_base ho31) hb)
              replace BK248 := a_ (blk_below (pk BK248.out) hb)
              replace BK249 := a_ (blk_below (pk BK249.out) hb)
              replace BK262 := a_ (blk_below (pk BK262.out) hb)
              replace BK278 := a_ (blk_below (pk BK278.out) hb)
              replace HB := a_ (below_step (by repeat (first | (with_reducible first | exact HB.out | apply below_alloc | apply pw_below_drewN | apply below_drew1 | refine below_set ?_ (IsS38.ge HI250.out) | refine below_set ?_ GE248.out | refine below_set ?_ GE249.out | refine below_set ?_ GE262.out | refine below_set ?_ GE278.out) | exact HB.out)) hb)
              replace HI250 := a_ (IsS38.below (by repeat (first | (with_reducible first | exact HI250.out | apply IsS38.alloc | apply IsS38.drewN | apply IsS38.drew | apply IsS38.set_1 | apply IsS38.set_2 | refine IsS38.far ?_ NB250_248.out _ | refine IsS38.far ?_ NB250_249.out _ | refine IsS38.far ?_ NB250_262.out _ | refine IsS38.far ?_ NB250_278.out _) | exact HI250.out)) hb)
              clear hb ho31
              refine hK.out _ _ ⟨(blk_cell BK262.out 0).trans rfl, (blk_cell BK262.out 1).trans rfl⟩ (fun hHeld => ?_)
              clear hK K
              refine norm_ (a' := ?_) ?_ ?_
              rotate_left
              ·show Act.put _ (some 22) _ = _
               simp only [Act.put, sB, sC, sD, i64_w, i32_w]
               rfl
              exact norm_ (by first | (simp only [putAll, Act.put, sB, sC, sD]; done) | (simp only [putAll, Act.put, sB, sC, sD]; rfl)) (hJ0_4_9 (v267, v273, gb278) _ ⟨hHeld, (rk (Kd.R_mono HO256.out (fun _ hk => ⟨hk.1.1, hk.1.2, hk.2⟩))), (rk (Kd.R_mono HO259.out (fun _ hk => ⟨hk.1.1, hk.1.2, hk.2⟩))), (rk (Kd.R_mono HO268.out (fun _ hk => ⟨hk.1.1, hk.1.2, hk.2⟩))), (rk (Kd.R_mono HO274.out (fun _ hk => ⟨hk.1.1.2, hk.1.2, hk.2⟩))), (pk BK248.out), (pk BK249.out), (pk BK262.out), (pk BK278.out), GW278.out, GE278.out, NB250_278.out, NB278_250.out, NB248_278.out, NB278_248.out, NB249_278.out, NB278_249.out, NB262_278.out, NB278_262.out, (by repeat (first | (with_reducible first | exact HI250.out | apply IsS38.alloc | apply IsS38.drewN | apply IsS38.drew | apply IsS38.set_1 | apply IsS38.set_2 | refine IsS38.far ?_ NB250_248.out _ | refine IsS38.far ?_ NB250_249.out _ | refine IsS38.far ?_ NB250_262.out _ | refine IsS38.far ?_ NB250_278.out _) | exact HI250.out)), (by repeat (first | (with_reducible first | exact HB.out | apply below_alloc | apply pw_below_drewN | apply below_drew1 | refine below_set ?_ (IsS38.ge HI250.out) | refine below_set ?_ GE248.out | refine below_set ?_ GE249.out | refine below_set ?_ GE262.out | refine below_set ?_ GE278.out) | exact HB.out))⟩)
           ·skip
            rintro ⟨v267, v273⟩ w30 ⟨hS_, h0_, h1_, h2_, h3_, h4_, h5_, h6_, h7_, h8_⟩
            have n0_ : Aside0 (Kd.R Kd.flt 33 w30 w.heap.size (fun k_ => N_ (.slice Ao23 t257.length co23) k_ ∧ N_ v267 k_ ∧ N_ v273 k_) (.slice Ao18 t254.length co18) t254) := ⟨h0_⟩
            have n1_ : Aside0 (Kd.R Kd.flt 33 w30 w.heap.size (fun k_ => N_ (.slice Ao18 t254.length co18) k_ ∧ N_ v267 k_ ∧ N_ v273 k_) (.slice Ao23 t257.length co23) t257) := ⟨h1_⟩
            have n2_ : Aside0 (Kd.R Kd.flt 33 w30 w.heap.size (fun k_ => N_ (.slice Ao18 t254.length co18) k_ ∧ N_ (.slice Ao23 t257.length co23) k_ ∧ N_ v273 k_) v267 y266) := ⟨h2_⟩
            have n3_ : Aside0 (Kd.R Kd.flt 33 w30 w.heap.size (fun k_ => N_ (.slice Ao18 t254.length co18) k_ ∧ N_ (.slice Ao23 t257.length co23) k_ ∧ N_ v267 k_) v273 y272) := ⟨h3_⟩
            have n4_ : Aside0 (w30.heap[gb248]? = some (.cells #[.slice none 0 0, .slice none 0 0] 25 (0, 0))) := ⟨h4_⟩
            have n5_ : Aside0 (w30.heap[gb249]? = some (.cells #[.slice none 0 0, .slice none 0 0] 25 (0, 0))) := ⟨h5_⟩
            have n6_ : Aside0 (w30.heap[gb262]? = some (.cells #[.slice Ao18 t254.length co18, .slice Ao23 t257.length co23] 25 (0, 0))) := ⟨h6_⟩
            have n7_ : Aside0 (IsS38 w w30 gb250 l0 t264 t265) := ⟨h7_⟩
            have n8_ : Aside0 (Below w.heap.size w w30) := ⟨h8_⟩
            clear HO256
            clear HO259
            clear BK248
            clear BK249
            clear BK262
            clear HI250
            clear HB
            clear h0_ h1_ h2_ h3_ h4_ h5_ h6_ h7_ h8_
            have HO256 := n0_
            have HO259 := n1_
            have HO268 := n2_
            have HO274 := n3_
            have BK248 := n4_
            have BK249 := n5_
            have BK262 := n6_
            have HI250 := n7_
            have HB := n8_
            clear n0_ n1_ n2_ n3_ n4_ n5_ n6_ n7_ n8_
            have hHeld : w30.cell? ⟨gb262, 0, none⟩ = some (.slice Ao18 t254.length co18) ∧ w30.cell? ⟨gb262, 1, none⟩ = some (.slice Ao23 t257.length co23) := hS_
            refine norm_ (a' := ?_) ?_ ?_
            rotate_left
            ·simp only [putAll, Act.put, sB, sC, sD]
             rfl
            refine two_ (i := 3) (j := 9) (Ni := some 21) (Nj := some 7) #[true, true, true, true, true, true, true, false, false, false, false] #[true, true, true, false, true, true, true, false, false, true, false] rfl rfl rfl rfl (two_of HT_.out (by kernel_rfl)) (by decide) (by decide) (fun K hK => ?_) (fun K hK => ?_)
            ·skip
             refine Kd.R_append_rows_step Kd.flt (w0 := w) w.heap.size (by rfl) (.tmp 18) (.tmp 20) 23 33 (.float .f64 0) 8 rfl Try.underlying23 info33 rfl (by decide) (by omega) v267 y266 t254 _ _ _ (fun k_ => N_ (.slice Ao18 t254.length co18) k_ ∧ N_ (.slice Ao23 t257.length co23) k_ ∧ N_ v273 k_) (fun _ => False) rfl rfl ?aO ?aR (fun _ _ h => h) (fun _ h => h.elim) ?aF ?aB ?aS ?aL ?_
             (case aR => exact cu (Kd.R_reads' HO256.out).2.2)
             (case aB => exact (by repeat (first | (with_reducible first | exact HB.out | apply below_alloc | apply pw_below_drewN | apply below_drew1 | refine below_set ?_ (IsS38.ge HI250.out) | refine below_set ?_ GE248.out | refine below_set ?_ GE249.out | refine below_set ?_ GE262.out) | exact HB.out)))
             (case aF => exact (fun k_ hk => ⟨Kd.fresh' (Kd.R_lt (rk HO256.out)) k_ hk, Kd.fresh' (Kd.R_lt (rk HO259.out)) k_ hk, Kd.fresh' (Kd.R_lt (rk HO274.out)) k_ hk⟩))
             (case aO => exact (rk HO268.out))
             (case aS => exact (below_size (by repeat (first | (with_reducible first | exact HB.out | apply below_alloc | apply pw_below_drewN | apply below_drew1 | refine below_set ?_ (IsS38.ge HI250.out) | refine below_set ?_ GE248.out | refine below_set ?_ GE249.out | refine below_set ?_ GE262.out) | exact HB.out))))
             (case aL => have := LMc6.out; omega)
             intro v270 w31 ho hb hg hat
             rw [← Ny269.out] at ho
             replace BK248 := a_ (blk_grown (pk BK248.out) hg (Kd.R_ne HO268.out BK248.out (by decide)))
             replace BK249 := a_ (blk_grown (pk BK249.out) hg (Kd.R_ne HO268.out BK249.out (by decide)))
             replace HI250 := a_ (IsS38.grown (show IsS38 w _ gb250 l0 t264 t265 from by repeat (first | (with_reducible first | exact HI250.out | apply IsS38.alloc | apply IsS38.drewN | apply IsS38.drew | apply IsS38.set_1 | apply IsS38.set_2 | refine IsS38.far ?_ NB250_248.out _ | refine IsS38.far ?_ NB250_249.out _ | refine IsS38.far ?_ NB250_262.out _) | exact HI250.out)) hg (IsS38.own_ne HI250.out HO268.out (by decide)))
             replace HO256 := a_ (Kd.R_after (ok := (fun k_ => N_ (.slice Ao23 t257.length co23) k_ ∧ N_ v273 k_)) (rk (Kd.R_mono HO256.out (fun _ hk => ⟨⟨hk.1, hk.2.2⟩, hk.2.1⟩))) hg hat)
             replace HO259 := a_ (Kd.R_after (ok := (fun k_ => N_ (.slice Ao18 t254.length co18) k_ ∧ N_ v273 k_)) (rk (Kd.R_mono HO259.out (fun _ hk => ⟨⟨hk.1, hk.2.2⟩, hk.2.1⟩))) hg hat)
             replace BK262 := a_ (blk_grown (pk BK262.out) hg (Kd.R_ne HO268.out BK262.out (by decide)))
             replace HO274 := a_ (Kd.R_after (ok := (fun k_ => N_ (.slice Ao18 t254.length co18) k_ ∧ N_ (.slice Ao23 t257.length co23) k_)) (rk (Kd.R_mono HO274.out (fun _ hk => ⟨⟨hk.1, hk.2.1⟩, hk.2.2⟩))) hg hat)
             replace HB := a_ (hb)
             have HO271 := a_ (ho)
             clear HO268 ho hb hg hat
             refine hK.out _ _ ⟨(blk_cell BK262.out 0).trans rfl, (blk_cell BK262.out 1).trans rfl⟩ (fun hHeld => ?_)
             clear hK K
             refine norm_ (a' := ?_) ?_ ?_
             rotate_left
             ·show Act.put _ (some 21) _ = _
              simp only [Act.put, sB, sC, sD, i64_w, i32_w]
              rfl
             exact norm_ (by first | (simp only [putAll, Act.put, sB, sC, sD]; done) | (simp only [putAll, Act.put, sB, sC, sD]; rfl)) (hJ0_3_4 (v267, v270, v273) _ ⟨hHeld, (rk (Kd.R_mono HO256.out (fun _ hk => ⟨hk.1.1, hk.2, hk.1.2⟩))), (rk (Kd.R_mono HO259.out (fun _ hk => ⟨hk.1.1, hk.2, hk.1.2⟩))), (rk HO271.out), (rk (Kd.R_mono HO274.out (fun _ hk => ⟨hk.1.1, hk.1.2, hk.2⟩))), (pk BK248.out), (pk BK249.out), (pk BK262.out), (by repeat (first | (with_reducible first | exact HI250.out | apply IsS38.alloc | apply IsS38.drewN | apply IsS38.drew | apply IsS38.set_1 | apply IsS38.set_2 | refine IsS38.far ?_ NB250_248.out _ | refine IsS38.far ?_ NB250_249.out _ | refine IsS38.far ?_ NB250_262.out _) | exact HI250.out)), (by repeat (first | (with_reducible first | exact HB.out | apply below_alloc | apply pw_below_drewN | apply below_drew1 | refine below_set ?_ (IsS38.ge HI250.out) | refine below_set ?_ GE248.out | refine below_set ?_ GE249.out | refine below_set ?_ GE262.out) | exact HB.out))⟩)
            ·skip
             refine box_step ?hg (N := 7) ?hd (cs := #[.slice none 0 0, .slice none 0 0]) (t := 25) ?hr ?_; (case hd => rfl); (case hg => rfl); (case hr => first | (go_simp; done) | (go_simp; rfl))
             intro gb278 hg w31 hbox hb
             replace HO256 := a_ (Kd.R_below (rk HO256.out) hb)
             replace HO259 := a_ (Kd.R_below (rk HO259.out) hb)
             replace HO268 := a_ (Kd.R_below (rk HO268.out) hb)
             replace HO274 := a_ (Kd.R_below (rk HO274.out) hb)
             have BK278 := a_ (hbox)
             have GW278 := a_ (by rw [hg]; exact (below_size (by repeat (first | (with_reducible first | exact HB.out | apply below_alloc | apply pw_below_drewN | apply below_drew1 | refine below_set ?_ (IsS38.ge HI250.out) | refine below_set ?_ GE248.out | refine below_set ?_ GE249.out | refine below_set ?_ GE262.out) | exact HB.out))) : w.heap.size ≤ gb278)
             have GE278 := a_ (by rw [hg]; exact (below_size (by repeat (first | (with_reducible first | exact HB.out | apply below_alloc | apply pw_below_drewN | apply below_drew1 | refine below_set ?_ (IsS38.ge HI250.out) | refine below_set ?_ GE248.out | refine below_set ?_ GE249.out | refine below_set ?_ GE262.out) | exact HB.out))) : w.heap.size ≤ gb278)
             replace HB := a_ (below_step (by repeat (first | (with_reducible first | exact HB.out | apply below_alloc | apply pw_below_drewN | apply below_drew1 | refine below_set ?_ (IsS38.ge HI250.out) | refine below_set ?_ GE248.out | refine below_set ?_ GE249.out | refine below_set ?_ GE262.out) | exact HB.out)) hb)
             have NB248_278 := a_ (nel hg BK248.out)
             have NB278_248 := a_ (nle hg BK248.out)
             replace BK248 := a_ (blk_below (pk BK248.out) hb)
             have NB249_278 := a_ (nel hg BK249.out)
             have NB278_249 := a_ (nle hg BK249.out)
             replace BK249 := a_ (blk_below (pk BK249.out) hb)
             have NB262_278 := a_ (nel hg BK262.out)
             have NB278_262 := a_ (nle hg BK262.out)
             replace BK262 := a_ (blk_below (pk BK262.out) hb)
             have NB250_278 := a_ (by rw [hg]; exact Nat.ne_of_lt (IsS38.lt (show IsS38 w _ gb250 l0 t264 t265 from by repeat (first | (with_reducible first | exact HI250.out | apply IsS38.alloc | apply IsS38.drewN | apply IsS38.drew | apply IsS38.set_1 | apply IsS38.set_2 | refine IsS38.far ?_ NB250_248.out _ | refine IsS38.far ?_ NB250_249.out _ | refine IsS38.far ?_ NB250_262.out _) | exact HI250.out))) : gb250 ≠ gb278)
             have NB278_250 := a_ (by rw [hg]; exact Nat.ne_of_gt (IsS38.lt (show IsS38 w _ gb250 l0 t264 t265 from by repeat (first | (with_reducible first | exact HI250.out | apply IsS38.alloc | apply IsS38.drewN | apply IsS38.drew | apply IsS38.set_1 | apply IsS38.set_2 | refine IsS38.far ?_ NB250_248.out _ | refine IsS38.far ?_ NB250_249.out _ | refine IsS38.far ?_ NB250_262.out _) | exact HI250.out))) : gb278 ≠ gb250)
             replace HI250 := a_ (IsS38.below (by repeat (first | (with_reducible first | exact HI250.out | apply IsS38.alloc | apply IsS38.drewN | apply IsS38.drew | apply IsS38.set_1 | apply IsS38.set_2 | refine IsS38.far ?_ NB250_248.out _ | refine IsS38.far ?_ NB250_249.out _ | refine IsS38.far ?_ NB250_262.out _) | exact HI250.out)) hb)
             clear hb hbox hg
             refine hK.out _ _ ⟨(blk_cell BK262.out 0).trans rfl, (blk_cell BK262.out 1).trans rfl⟩ (fun hHeld => ?_)
             clear hK K
             refine norm_ (a' := ?_) ?_ ?_
             rotate_left
             ·show Act.put _ (some 7) _ = _
              simp only [Act.put, sB, sC, sD, i64_w, i32_w]
              rfl
             exact norm_ (by first | (simp only [putAll, Act.put, sB, sC, sD]; done) | (simp only [putAll, Act.put, sB, sC, sD]; rfl)) (hJ0_4_9 (v267, v273, gb278) _ ⟨hHeld, (rk HO256.out), (rk HO259.out), (rk HO268.out), (rk HO274.out), (pk BK248.out), (pk BK249.out), (pk BK262.out), (pk BK278.out), GW278.out, GE278.out, NB250_278.out, NB278_250.out, NB248_278.out, NB278_248.out, NB249_278.out, NB278_249.out, NB262_278.out, NB278_262.out, (by repeat (first | (with_reducible first | exact HI250.out | apply IsS38.alloc | apply IsS38.drewN | apply IsS38.drew | apply IsS38.set_1 | apply IsS38.set_2 | refine IsS38.far ?_ NB250_248.out _ | refine IsS38.far ?_ NB250_249.out _ | refine IsS38.far ?_ NB250_262.out _ | refine IsS38.far ?_ NB250_278.out _) | exact HI250.out)), (by repeat (first | (with_reducible first | exact HB.out | apply below_alloc | apply pw_below_drewN | apply below_drew1 | refine below_set ?_ (IsS38.ge HI250.out) | refine below_set ?_ GE248.out | refine below_set ?_ GE249.out | refine below_set ?_ GE262.out | refine below_set ?_ GE278.out) | exact HB.out))⟩)
          ·skip
           rintro ⟨v267, v270⟩ w29 ⟨hS_, h0_, h1_, h2_, h3_, h4_, h5_, h6_, h7_⟩
           have n0_ : Aside0 (Kd.R Kd.flt 33 w29 w.heap.size (fun k_ => N_ (.slice Ao23 t257.length co23) k_ ∧ N_ v270 k_) (.slice Ao18 t254.length co18) t254) := ⟨h0_⟩
           have n1_ : Aside0 (Kd.R Kd.flt 33 w29 w.heap.size (fun k_ => N_ (.slice Ao18 t254.length co18) k_ ∧ N_ v270 k_) (.slice Ao23 t257.length co23) t257) := ⟨h1_⟩
           have n2_ : Aside0 (Kd.R Kd.flt 33 w29 w.heap.size (fun k_ => N_ (.slice Ao18 t254.length co18) k_ ∧ N_ (.slice Ao23 t257.length co23) k_) v270 y269) := ⟨h2_⟩
           have n3_ : Aside0 (w29.heap[gb248]? = some (.cells #[.slice none 0 0, .slice none 0 0] 25 (0, 0))) := ⟨h3_⟩
           have n4_ : Aside0 (w29.heap[gb249]? = some (.cells #[.slice none 0 0, .slice none 0 0] 25 (0, 0))) := ⟨h4_⟩
           have n5_ : Aside0 (w29.heap[gb262]? = some (.cells #[.slice Ao18 t254.length co18, .slice Ao23 t257.length co23] 25 (0, 0))) := ⟨h5_⟩
           have n6_ : Aside0 (IsS38 w w29 gb250 l0 t264 t265) := ⟨h6_⟩
           have n7_ : Aside0 (Below w.heap.size w w29) := ⟨h7_⟩
           clear HO256
           clear HO259
           clear BK248
           clear BK249
           clear BK262
           clear HI250
           clear HB
           clear h0_ h1_ h2_ h3_ h4_ h5_ h6_ h7_
           have HO256 := n0_
           have HO259 := n1_
           have HO271 := n2_
           have BK248 := n3_
           have BK249 := n4_
           have BK262 := n5_
           have HI250 := n6_
           have HB := n7_
           clear n0_ n1_ n2_ n3_ n4_ n5_ n6_ n7_
           have hHeld : w29.cell? ⟨gb262, 0, none⟩ = some (.slice Ao18 t254.length co18) ∧ w29.cell? ⟨gb262, 1, none⟩ = some (.slice Ao23 t257.length co23) := hS_
           refine norm_ (a' := ?_) ?_ ?_
           rotate_left
           ·simp only [putAll, Act.put, sB, sC, sD]
            rfl
           refine two_ (i := 4) (j := 9) (Ni := some 22) (Nj := some 7) #[true, true, true, true, true, true, true, false, false, false, false] #[true, true, true, true, false, true, true, false, false, true, false] rfl rfl rfl rfl (two_of HT_.out (by kernel_rfl)) (by decide) (by decide) (fun K hK => ?_) (fun K hK => ?_)
           ·skip
            refine Kd.R_lit_step Kd.flt _ 33 ?hg (N := 22) ?hd (xs := ([] : List Nat)) (inner := []) (ok := fun _ => True) (okp := fun _ => True) ?hr ?hp (fun _ hk => hk) trivial (Below.refl _ _) (Nat.le_refl _) (by simp) ?_; (case hd => rfl); (case hg => rfl); (case hr => first | (go_simp; done) | (go_simp; rfl)); (case hp => exact (Reps.none _ _))
            intro v273 w30 ho31 hb hg_ hnew_
            clear hg_ hnew_
            (first | rw [← Ny272.out] at ho31 | (simp only [Int.reduceToNat] at ho31; rw [← Ny272.out] at ho31))
            have HO274 := a_ (Kd.R_lower (nw (nw (nw ho31 HO256.out) HO259.out) HO271.out) (below_size (by repeat (first | (with_reducible first | exact HB.out | apply below_alloc | apply pw_below_drewN | apply below_drew1 | refine below_set ?_ (IsS38.ge HI250.out) | refine below_set ?_ GE248.out | refine below_set ?_ GE249.out | refine below_set ?_ GE262.out) | exact HB.out))))
            replace HO256 := a_ (Kd.R_elder' (rk HO256.out) (Kd.R_base ho31) hb)
            replace HO259 := a_ (Kd.R_elder' (rk HO259.out) (Kd.R_base ho31) hb)
            replace HO271 := a_ (Kd.R_elder' (rk HO271.out) (Kd.R_base ho31) hb)
            replace BK248 := a_ (blk_below (pk BK248.out) hb)
            replace BK249 := a_ (blk_below (pk BK249.out) hb)
            replace BK262 := a_ (blk_below (pk BK262.out) hb)
            replace HB := a_ (below_step (by repeat (first | (with_reducible first | exact HB.out | apply below_alloc | apply pw_below_drewN | apply below_drew1 | refine below_set ?_ (IsS38.ge HI250.out) | refine below_set ?_ GE248.out | refine below_set ?_ GE249.out | refine below_set ?_ GE262.out) | exact HB.out)) hb)
            replace HI250 := a_ (IsS38.below (by repeat (first | (with_reducible first | exact HI250.out | apply IsS38.alloc | apply IsS38.drewN | apply IsS38.drew | apply IsS38.set_1 | apply IsS38.set_2 | refine IsS38.far ?_ NB250_248.out _ | refine IsS38.far ?_ NB250_249.out _ | refine IsS38.far ?_ NB250_262.out _) | exact HI250.out)) hb)
            clear hb ho31
            refine hK.out _ _ ⟨(blk_cell BK262.out 0).trans rfl, (blk_cell BK262.out 1).trans rfl⟩ (fun hHeld => ?_)
            clear hK K
            refine norm_ (a' := ?_) ?_ ?_
            rotate_left
            ·show Act.put _ (some 22) _ = _
             simp only [Act.put, sB, sC, sD, i64_w, i32_w]
             rfl
            exact norm_ (by first | (simp only [putAll, Act.put, sB, sC, sD]; done) | (simp only [putAll, Act.put, sB, sC, sD]; rfl)) (hJ0_3_4 (v267, v270, v273) _ ⟨hHeld, (rk (Kd.R_mono HO256.out (fun _ hk => ⟨hk.1.1, hk.1.2, hk.2⟩))), (rk (Kd.R_mono HO259.out (fun _ hk => ⟨hk.1.1, hk.1.2, hk.2⟩))), (rk (Kd.R_mono HO271.out (fun _ hk => ⟨hk.1.1, hk.1.2, hk.2⟩))), (rk (Kd.R_mono HO274.out (fun _ hk => ⟨hk.1.1.2, hk.1.2, hk.2⟩))), (pk BK248.out), (pk BK249.out), (pk BK262.out), (by repeat (first | (with_reducible first | exact HI250.out | apply IsS38.alloc | apply IsS38.drewN | apply IsS38.drew | apply IsS38.set_1 | apply IsS38.set_2 | refine IsS38.far ?_ NB250_248.out _ | refine IsS38.far ?_ NB250_249.out _ | refine IsS38.far ?_ NB250_262.out _) | exact HI250.out)), (by repeat (first | (with_reducible first | exact HB.out | apply below_alloc | apply pw_below_drewN | apply below_drew1 | refine below_set ?_ (IsS38.ge HI250.out) | refine below_set ?_ GE248.out | refine below_set ?_ GE249.out | refine below_set ?_ GE262.out) | exact HB.out))⟩)
           ·skip
            refine box_step ?hg (N := 7) ?hd (cs := #[.slice none 0 0, .slice none 0 0]) (t := 25) ?hr ?_; (case hd => rfl); (case hg => rfl); (case hr => first | (go_simp; done) | (go_simp; rfl))
            intro gb278 hg w30 hbox hb
            replace HO256 := a_ (Kd.R_below (rk HO256.out) hb)
            replace HO259 := a_ (Kd.R_below (rk HO259.out) hb)
            replace HO271 := a_ (Kd.R_below (rk HO271.out) hb)
            have BK278 := a_ (hbox)
            have GW278 := a_ (by rw [hg]; exact (below_size (by repeat (first | (with_reducible first | exact HB.out | apply below_alloc | apply pw_below_drewN | apply below_drew1 | refine below_set ?_ (IsS38.ge HI250.out) | refine below_set ?_ GE248.out | refine below_set ?_ GE249.out | refine below_set ?_ GE262.out) | exact HB.out))) : w.heap.size ≤ gb278)
            have GE278 := a_ (by rw [hg]; exact (below_size (by repeat (first | (with_reducible first | exact HB.out | apply below_alloc | apply pw_below_drewN | apply below_drew1 | refine below_set ?_ (IsS38.ge HI250.out) | refine below_set ?_ GE248.out | refine below_set ?_ GE249.out | refine below_set ?_ GE262.out) | exact HB.out))) : w.heap.size ≤ gb278)
            replace HB := a_ (below_step (by repeat (first | (with_reducible first | exact HB.out | apply below_alloc | apply pw_below_drewN | apply below_drew1 | refine below_set ?_ (IsS38.ge HI250.out) | refine below_set ?_ GE248.out | refine below_set ?_ GE249.out | refine below_set ?_ GE262.out) | exact HB.out)) hb)
            have NB248_278 := a_ (nel hg BK248.out)
            have NB278_248 := a_ (nle hg BK248.out)
            replace BK248 := a_ (blk_below (pk BK248.out) hb)
            have NB249_278 := a_ (nel hg BK249.out)
            have NB278_249 := a_ (nle hg BK249.out)
            replace BK249 := a_ (blk_below (pk BK249.out) hb)
            have NB262_278 := a_ (nel hg BK262.out)
            have NB278_262 := a_ (nle hg BK262.out)
            replace BK262 := a_ (blk_below (pk BK262.out) hb)
            have NB250_278 := a_ (by rw [hg]; exact Nat.ne_of_lt (IsS38.lt (show IsS38 w _ gb250 l0 t264 t265 from by repeat (first | (with_reducible first | exact HI250.out | apply IsS38.alloc | apply IsS38.drewN | apply IsS38.drew | apply IsS38.set_1 | apply IsS38.set_2 | refine IsS38.far ?_ NB250_248.out _ | refine IsS38.far ?_ NB250_249.out _ | refine IsS38.far ?_ NB250_262.out _) | exact HI250.out))) : gb250 ≠ gb278)
            have NB278_250 := a_ (by rw [hg]; exact Nat.ne_of_gt (IsS38.lt (show IsS38 w _ gb250 l0 t264 t265 from by repeat (first | (with_reducible first | exact HI250.out | apply IsS38.alloc | apply IsS38.drewN | apply IsS38.drew | apply IsS38.set_1 | apply IsS38.set_2 | refine IsS38.far ?_ NB250_248.out _ | refine IsS38.far ?_ NB250_249.out _ | refine IsS38.far ?_ NB250_262.out _) | exact HI250.out))) : gb278 ≠ gb250)
            replace HI250 := a_ (IsS38.below (by repeat (first | (with_reducible first | exact HI250.out | apply IsS38.alloc | apply IsS38.drewN | apply IsS38.drew | apply IsS38.set_1 | apply IsS38.set_2 | refine IsS38.far ?_ NB250_248.out _ | refine IsS38.far ?_ NB250_249.out _ | refine IsS38.far ?_ NB250_262.out _) | exact HI250.out)) hb)
            clear hb hbox hg
            refine hK.out _ _ ⟨(blk_cell BK262.out 0).trans rfl, (blk_cell BK262.out 1).trans rfl⟩ (fun hHeld => ?_)
            clear hK K
            refine norm_ (a' := ?_) ?_ ?_
            rotate_left
            ·show Act.put _ (some 7) _ = _
             simp only [Act.put, sB, sC, sD, i64_w, i32_w]
             rfl
            exact norm_ (by first | (simp only [putAll, Act.put, sB, sC, sD]; done) | (simp only [putAll, Act.put, sB, sC, sD]; rfl)) (hJ0_3_9 (v267, v270, gb278) _ ⟨hHeld, (rk HO256.out), (rk HO259.out), (rk HO271.out), (pk BK248.out), (pk BK249.out), (pk BK262.out), (pk BK278.out), GW278.out, GE278.out, NB250_278.out, NB278_250.out, NB248_278.out, NB278_248.out, NB249_278.out, NB278_249.out, NB262_278.out, NB278_262.out, (by repeat (first | (with_reducible first | exact HI250.out | apply IsS38.alloc | apply IsS38.drewN | apply IsS38.drew | apply IsS38.set_1 | apply IsS38.set_2 | refine IsS38.far ?_ NB250_248.out _ | refine IsS38.far ?_ NB250_249.out _ | refine IsS38.far ?_ NB250_262.out _ | refine IsS38.far ?_ NB250_278.out _) | exact HI250.out)), (by repeat (first | (with_reducible first | exact HB.out | apply below_alloc | apply pw_below_drewN | apply below_drew1 | refine below_set ?_ (IsS38.ge HI250.out) | refine below_set ?_ GE248.out | refine below_set ?_ GE249.out | refine below_set ?_ GE262.out | refine below_set ?_ GE278.out) | exact HB.out))⟩)
         ·skip
          rintro ⟨v267, v273, gb278⟩ w31 ⟨hS_, h0_, h1_, h2_, h3_, h4_, h5_, h6_, h7_, h8_, h9_, h10_, h11_, h12_, h13_, h14_, h15_, h16_, h17_, h18_, h19_⟩
          have n0_ : Aside0 (Kd.R Kd.flt 33 w31 w.heap.size (fun k_ => N_ (.slice Ao23 t257.length co23) k_ ∧ N_ v267 k_ ∧ N_ v273 k_) (.slice Ao18 t254.length co18) t254) := ⟨h0_⟩
          have n1_ : Aside0 (Kd.R Kd.flt 33 w31 w.heap.size (fun k_ => N_ (.slice Ao18 t254.length co18) k_ ∧ N_ v267 k_ ∧ N_ v273 k_) (.slice Ao23 t257.length co23) t257) := ⟨h1_⟩
          have n2_ : Aside0 (Kd.R Kd.flt 33 w31 w.heap.size (fun k_ => N_ (.slice Ao18 t254.length co18) k_ ∧ N_ (.slice Ao23 t257.length co23) k_ ∧ N_ v273 k_) v267 y266) := ⟨h2_⟩
          have n3_ : Aside0 (Kd.R Kd.flt 33 w31 w.heap.size (fun k_ => N_ (.slice Ao18 t254.length co18) k_ ∧ N_ (.slice Ao23 t257.length co23) k_ ∧ N_ v267 k_) v273 y272) := ⟨h3_⟩
          have n4_ : Aside0 (w31.heap[gb248]? = some (.cells #[.slice none 0 0, .slice none 0 0] 25 (0, 0))) := ⟨h4_⟩
          have n5_ : Aside0 (w31.heap[gb249]? = some (.cells #[.slice none 0 0, .slice none 0 0] 25 (0, 0))) := ⟨h5_⟩
          have n6_ : Aside0 (w31.heap[gb262]? = some (.cells #[.slice Ao18 t254.length co18, .slice Ao23 t257.length co23] 25 (0, 0))) := ⟨h6_⟩
          have n7_ : Aside0 (w31.heap[gb278]? = some (.cells #[.slice none 0 0, .slice none 0 0] 25 (0, 0))) := ⟨h7_⟩
          have n8_ : Aside0 (w.heap.size ≤ gb278) := ⟨h8_⟩
          have n9_ : Aside0 (w.heap.size ≤ gb278) := ⟨h9_⟩
          have n10_ : Aside0 (gb250 ≠ gb278) := ⟨h10_⟩
          have n11_ : Aside0 (gb278 ≠ gb250) := ⟨h11_⟩
          have n12_ : Aside0 (gb248 ≠ gb278) := ⟨h12_⟩
          have n13_ : Aside0 (gb278 ≠ gb248) := ⟨h13_⟩
          have n14_ : Aside0 (gb249 ≠ gb278) := ⟨h14_⟩
          have n15_ : Aside0 (gb278 ≠ gb249) := ⟨h15_⟩
          have n16_ : Aside0 (gb262 ≠ gb278) := ⟨h16_⟩
          have n17_ : Aside0 (gb278 ≠ gb262) := ⟨h17_⟩
          have n18_ : Aside0 (IsS38 w w31 gb250 l0 t264 t265) := ⟨h18_⟩
          have n19_ : Aside0 (Below w.heap.size w w31) := ⟨h19_⟩
          clear HO256
          clear HO259
          clear BK248
          clear BK249
          clear BK262
          clear HI250
          clear HB
          clear h0_ h1_ h2_ h3_ h4_ h5_ h6_ h7_ h8_ h9_ h10_ h11_ h12_ h13_ h14_ h15_ h16_ h17_ h18_ h19_
          have HO256 := n0_
          have HO259 := n1_
          have HO268 := n2_
          have HO274 := n3_
          have BK248 := n4_
          have BK249 := n5_
          have BK262 := n6_
          have BK278 := n7_
          have GW278 := n8_
          have GE278 := n9_
          have NB250_278 := n10_
          have NB278_250 := n11_
          have NB248_278 := n12_
          have NB278_248 := n13_
          have NB249_278 := n14_
          have NB278_249 := n15_
          have NB262_278 := n16_
          have NB278_262 := n17_
          have HI250 := n18_
          have HB := n19_
          clear n0_ n1_ n2_ n3_ n4_ n5_ n6_ n7_ n8_ n9_ n10_ n11_ n12_ n13_ n14_ n15_ n16_ n17_ n18_ n19_
          have hHeld : w31.cell? ⟨gb262, 0, none⟩ = some (.slice Ao18 t254.length co18) ∧ w31.cell? ⟨gb262, 1, none⟩ = some (.slice Ao23 t257.length co23) := hS_
          refine norm_ (a' := ?_) ?_ ?_
          rotate_left
          ·simp only [putAll, Act.put, sB, sC, sD]
           rfl
          refine one_ (i := 3) (N := some 21) #[true, true, true, true, true, true, true, false, false, true, false] rfl rfl (one_of HT_.out (by kernel_rfl)) (by decide) (fun K hK => ?_)
          refine Kd.R_append_rows_step Kd.flt (w0 := w) w.heap.size (by rfl) (.tmp 18) (.tmp 20) 23 33 (.float .f64 0) 8 rfl Try.underlying23 info33 rfl (by decide) (by omega) v267 y266 t254 _ _ _ (fun k_ => N_ (.slice Ao18 t254.length co18) k_ ∧ N_ (.slice Ao23 t257.length co23) k_ ∧ N_ v273 k_) (fun _ => False) rfl rfl ?aO ?aR (fun _ _ h => h) (fun _ h => h.elim) ?aF ?aB ?aS ?aL ?_
          (case aR => exact cu (Kd.R_reads' HO256.out).2.2)
          (case aB => exact (by repeat (first | (with_reducible first | exact HB.out | apply below_alloc | apply pw_below_drewN | apply below_drew1 | refine below_set ?_ (IsS38.ge HI250.out) | refine below_set ?_ GE248.out | refine below_set ?_ GE249.out | refine below_set ?_ GE262.out | refine below_set ?_ GE278.out) | exact HB.out)))
          (case aF => exact (fun k_ hk => ⟨Kd.fresh' (Kd.R_lt (rk HO256.out)) k_ hk, Kd.fresh' (Kd.R_lt (rk HO259.out)) k_ hk, Kd.fresh' (Kd.R_lt (rk HO274.out)) k_ hk⟩))
          (case aO => exact (rk HO268.out))
          (case aS => exact (below_size (by repeat (first | (with_reducible first | exact HB.out | apply below_alloc | apply pw_below_drewN | apply below_drew1 | refine below_set ?_ (IsS38.ge HI250.out) | refine below_set ?_ GE248.out | refine below_set ?_ GE249.out | refine below_set ?_ GE262.out | refine below_set ?_ GE278.out) | exact HB.out))))
          (case aL => have := LMc6.out; omega)
          intro v270 w32 ho hb hg hat
          rw [← Ny269.out] at ho
          replace BK248 := a_ (blk_grown (pk BK248.out) hg (Kd.R_ne HO268.out BK248.out (by decide)))
          replace BK249 := a_ (blk_grown (pk BK249.out) hg (Kd.R_ne HO268.out BK249.out (by decide)))
          replace HI250 := a_ (IsS38.grown (show IsS38 w _ gb250 l0 t264 t265 from by repeat (first | (with_reducible first | exact HI250.out | apply IsS38.alloc | apply IsS38.drewN | apply IsS38.drew | apply IsS38.set_1 | apply IsS38.set_2 | refine IsS38.far ?_ NB250_248.out _ | refine IsS38.far ?_ NB250_249.out _ | refine IsS38.far ?_ NB250_262.out _ | refine IsS38.far ?_ NB250_278.out _) | exact HI250.out)) hg (IsS38.own_ne HI250.out HO268.out (by decide)))
          replace HO256 := a_ (Kd.R_after (ok := (fun k_ => N_ (.slice Ao23 t257.length co23) k_ ∧ N_ v273 k_)) (rk (Kd.R_mono HO256.out (fun _ hk => ⟨⟨hk.1, hk.2.2⟩, hk.2.1⟩))) hg hat)
          replace HO259 := a_ (Kd.R_after (ok := (fun k_ => N_ (.slice Ao18 t254.length co18) k_ ∧ N_ v273 k_)) (rk (Kd.R_mono HO259.out (fun _ hk => ⟨⟨hk.1, hk.2.2⟩, hk.2.1⟩))) hg hat)
          replace BK262 := a_ (blk_grown (pk BK262.out) hg (Kd.R_ne HO268.out BK262.out (by decide)))
          replace HO274 := a_ (Kd.R_after (ok := (fun k_ => N_ (.slice Ao18 t254.length co18) k_ ∧ N_ (.slice Ao23 t257.length co23) k_)) (rk (Kd.R_mono HO274.out (fun _ hk => ⟨⟨hk.1, hk.2.1⟩, hk.2.2⟩))) hg hat)
          replace BK278 := a_ (blk_grown (pk BK278.out) hg (Kd.R_ne HO268.out BK278.out (by decide)))
          replace HB := a_ (hb)
          have HO271 := a_ (ho)
          clear HO268 ho hb hg hat
          refine hK.out _ _ ⟨(blk_cell BK262.out 0).trans rfl, (blk_cell BK262.out 1).trans rfl⟩ (fun hHeld => ?_)
          clear hK K
          refine norm_ (a' := ?_) ?_ ?_
          rotate_left
          ·show Act.put _ (some 21) _ = _
           simp only [Act.put, sB, sC, sD, i64_w, i32_w]
           rfl
          exact norm_ (by first | (simp only [putAll, Act.put, sB, sC, sD]; done) | (simp only [putAll, Act.put, sB, sC, sD]; rfl)) (hJ0_3_4_9 (v267, v270, v273, gb278) _ ⟨hHeld, (rk (Kd.R_mono HO256.out (fun _ hk => ⟨hk.1.1, hk.2, hk.1.2⟩))), (rk (Kd.R_mono HO259.out (fun _ hk => ⟨hk.1.1, hk.2, hk.1.2⟩))), (rk HO271.out), (rk (Kd.R_mono HO274.out (fun _ hk => ⟨hk.1.1, hk.1.2, hk.2⟩))), (pk BK248.out), (pk BK249.out), (pk BK262.out), (pk BK278.out), GW278.out, GE278.out, NB250_278.out, NB278_250.out, NB248_278.out, NB278_248.out, NB249_278.out, NB278_249.out, NB262_278.out, NB278_262.out, (by repeat (first | (with_reducible first | exact HI250.out | apply IsS38.alloc | apply IsS38.drewN | apply IsS38.drew | apply IsS38.set_1 | apply IsS38.set_2 | refine IsS38.far ?_ NB250_248.out _ | refine IsS38.far ?_ NB250_249.out _ | refine IsS38.far ?_ NB250_262.out _ | refine IsS38.far ?_ NB250_278.out _) | exact HI250.out)), (by repeat (first | (with_reducible first | exact HB.out | apply below_alloc | apply pw_below_drewN | apply below_drew1 | refine below_set ?_ (IsS38.ge HI250.out) | refine below_set ?_ GE248.out | refine below_set ?_ GE249.out | refine below_set ?_ GE262.out | refine below_set ?_ GE278.out) | exact HB.out))⟩)
        ·skip
         rintro ⟨v267, v270, gb278⟩ w30 ⟨hS_, h0_, h1_, h2_, h3_, h4_, h5_, h6_, h7_, h8_, h9_, h10_, h11_, h12_, h13_, h14_, h15_, h16_, h17_, h18_⟩
         have n0_ : Aside0 (Kd.R Kd.flt 33 w30 w.heap.size (fun k_ => N_ (.slice Ao23 t257.length co23) k_ ∧ N_ v270 k_) (.slice Ao18 t254.length co18) t254) := ⟨h0_⟩
         have n1_ : Aside0 (Kd.R Kd.flt 33 w30 w.heap.size (fun k_ => N_ (.slice Ao18 t254.length co18) k_ ∧ N_ v270 k_) (.slice Ao23 t257.length co23) t257) := ⟨h1_⟩
         have n2_ : Aside0 (Kd.R Kd.flt 33 w30 w.heap.size (fun k_ => N_ (.slice Ao18 t254.length co18) k_ ∧ N_ (.slice Ao23 t257.length co23) k_) v270 y269) := ⟨h2_⟩
         have n3_ : Aside0 (w30.heap[gb248]? = some (.cells #[.slice none 0 0, .slice none 0 0] 25 (0, 0))) := ⟨h3_⟩
         have n4_ : Aside0 (w30.heap[gb249]? = some (.cells #[.slice none 0 0, .slice none 0 0] 25 (0, 0))) := ⟨h4_⟩
         have n5_ : Aside0 (w30.heap[gb262]? = some (.cells #[.slice Ao18 t254.length co18, .slice Ao23 t257.length co23] 25 (0, 0))) := ⟨h5_⟩
         have n6_ : Aside0 (w30.heap[gb278]? = some (.cells #[.slice none 0 0, .slice none 0 0] 25 (0, 0))) := ⟨h6_⟩
         have n7_ : Aside0 (w.heap.size ≤ gb278) := ⟨h7_⟩
         have n8_ : Aside0 (w.heap.size ≤ gb278) := ⟨h8_⟩
         have n9_ : Aside0 (gb250 ≠ gb278) := ⟨h9_⟩
         have n10_ : Aside0 (gb278 ≠ gb250) := ⟨h10_⟩
         have n11_ : Aside0 (gb248 ≠ gb278) := ⟨h11_⟩
         have n12_ : Aside0 (gb278 ≠ gb248) := ⟨h12_⟩
         have n13_ : Aside0 (gb249 ≠ gb278) := ⟨h13_⟩
         have n14_ : Aside0 (gb278 ≠ gb249) := ⟨h14_⟩
         have n15_ : Aside0 (gb262 ≠ gb278) := ⟨h15_⟩
         have n16_ : Aside0 (gb278 ≠ gb262) := ⟨h16_⟩
         have n17_ : Aside0 (IsS38 w w30 gb250 l0 t264 t265) := ⟨h17_⟩
         have n18_ : Aside0 (Below w.heap.size w w30) := ⟨h18_⟩
         clear HO256
         clear HO259
         clear BK248
         clear BK249
         clear BK262
         clear HI250
         clear HB
         clear h0_ h1_ h2_ h3_ h4_ h5_ h6_ h7_ h8_ h9_ h10_ h11_ h12_ h13_ h14_ h15_ h16_ h17_ h18_
         have HO256 := n0_
         have HO259 := n1_
         have HO271 := n2_
         have BK248 := n3_
         have BK249 := n4_
         have BK262 := n5_
         have BK278 := n6_
         have GW278 := n7_
         have GE278 := n8_
         have NB250_278 := n9_
         have NB278_250 := n10_
         have NB248_278 := n11_
         have NB278_248 := n12_
         have NB249_278 := n13_
         have NB278_249 := n14_
         have NB262_278 := n15_
         have NB278_262 := n16_
         have HI250 := n17_
         have HB := n18_
         clear n0_ n1_ n2_ n3_ n4_ n5_ n6_ n7_ n8_ n9_ n10_ n11_ n12_ n13_ n14_ n15_ n16_ n17_ n18_
         have hHeld : w30.cell? ⟨gb262, 0, none⟩ = some (.slice Ao18 t254.length co18) ∧ w30.cell? ⟨gb262, 1, none⟩ = some (.slice Ao23 t257.length co23) := hS_
         refine norm_ (a' := ?_) ?_ ?_
         rotate_left
         ·simp only [putAll, Act.put, sB, sC, sD]
          rfl
         refine one_ (i := 4) (N := some 22) #[true, true, true, true, true, true, true, false, false, true, false] rfl rfl (one_of HT_.out (by kernel_rfl)) (by decide) (fun K hK => ?_)
         refine Kd.R_lit_step Kd.flt _ 33 ?hg (N := 22) ?hd (xs := ([] : List Nat)) (inner := []) (ok := fun _ => True) (okp := fun _ => True) ?hr ?hp (fun _ hk => hk) trivial (Below.refl _ _) (Nat.le_refl _) (by simp) ?_; (case hd => rfl); (case hg => rfl); (case hr => first | (go_simp; done) | (go_simp; rfl)); (case hp => exact (Reps.none _ _))
         intro v273 w31 ho32 hb hg_ hnew_
         clear hg_ hnew_
         (first | rw [← Ny272.out] at ho32 | (simp only [Int.reduceToNat] at ho32; rw [← Ny272.out] at ho32))
         have HO274 := a_ (Kd.R_lower (nw (nw (nw ho32 HO256.out) HO259.out) HO271.out) (below_size (by repeat (first | (with_reducible first | exact HB.out | apply below_alloc | apply pw_below_drewN | apply below_drew1 | refine below_set ?_ (IsS38.ge HI250.out) | refine below_set ?_ GE248.out | refine below_set ?_ GE249.out | refine below_set ?_ GE262.out | refine below_set ?_ GE278.out) | exact HB.out))))
         replace HO256 := a_ (Kd.R_elder' (rk HO256.out) (Kd.R_base ho32) hb)
         replace HO259 := a_ (Kd.R_elder' (rk HO259.out) (Kd.R_base ho32) hb)
         replace HO271 := a_ (Kd.R_elder' (rk HO271.out) (Kd.R_base ho32) hb)
         replace BK248 := a_ (blk_below (pk BK248.out) hb)
         replace BK249 := a_ (blk_below (pk BK249.out) hb)
         replace BK262 := a_ (blk_below (pk BK262.out) hb)
         replace BK278 := a_ (blk_below (pk BK278.out) hb)
         replace HB := a_ (below_step (by repeat (first | (with_reducible first | exact HB.out | apply below_alloc | apply pw_below_drewN | apply below_drew1 | refine below_set ?_ (IsS38.ge HI250.out) | refine below_set ?_ GE248.out | refine below_set ?_ GE249.out | refine below_set ?_ GE262.out | refine below_set ?_ GE278.out) | exact HB.out)) hb)
         replace HI250 := a_ (IsS38.below (by repeat (first | (with_reducible first | exact HI250.out | apply IsS38.alloc | apply IsS38.drewN | apply IsS38.drew | apply IsS38.set_1 | apply IsS38.set_2 | refine IsS38.far ?_ NB250_248.out _ | refine IsS38.far ?_ NB250_249.out _ | refine IsS38.far ?_ NB250_262.out _ | refine IsS38.far ?_ NB250_278.out _) | exact HI250.out)) hb)
         clear hb ho32
         refine hK.out _ _ ⟨(blk_cell BK262.out 0).trans rfl, (blk_cell BK262.out 1).trans rfl⟩ (fun hHeld => ?_)
         clear hK K
         refine norm_ (a' := ?_) ?_ ?_
         rotate_left
         ·show Act.put _ (some 22) _ = _
          simp only [Act.put, sB, sC, sD, i64_w, i32_w]
          rfl
         exact norm_ (by first | (simp only [putAll, Act.put, sB, sC, sD]; done) | (simp only [putAll, Act.put, sB, sC, sD]; rfl)) (hJ0_3_4_9 (v267, v270, v273, gb278) _ ⟨hHeld, (rk (Kd.R_mono HO256.out (fun _ hk => ⟨hk.1.1, hk.1.2, hk.2⟩))), (rk (Kd.R_mono HO259.out (fun _ hk => ⟨hk.1.1, hk.1.2, hk.2⟩))), (rk (Kd.R_mono HO271.out (fun _ hk => ⟨hk.1.1, hk.1.2, hk.2⟩))), (rk (Kd.R_mono HO274.out (fun _ hk => ⟨hk.1.1.2, hk.1.2, hk.2⟩))), (pk BK248.out), (pk BK249.out), (pk BK262.out), (pk BK278.out), GW278.out, GE278.out, NB250_278.out, NB278_250.out, NB248_278.out, NB278_248.out, NB249_278.out, NB278_249.out, NB262_278.out, NB278_262.out, (by repeat (first | (with_reducible first | exact HI250.out | apply IsS38.alloc | apply IsS38.drewN | apply IsS38.drew | apply IsS38.set_1 | apply IsS38.set_2 | refine IsS38.far ?_ NB250_248.out _ | refine IsS38.far ?_ NB250_249.out _ | refine IsS38.far ?_ NB250_262.out _ | refine IsS38.far ?_ NB250_278.out _) | exact HI250.out)), (by repeat (first | (with_reducible first | exact HB.out | apply below_alloc | apply pw_below_drewN | apply below_drew1 | refine below_set ?_ (IsS38.ge HI250.out) | refine below_set ?_ GE248.out | refine below_set ?_ GE249.out | refine below_set ?_ GE262.out | refine below_set ?_ GE278.out) | exact HB.out))⟩)
       ·skip
        rintro ⟨v267, v270, v273⟩ w31 ⟨hS_, h0_, h1_, h2_, h3_, h4_, h5_, h6_, h7_, h8_⟩
        have n0_ : Aside0 (Kd.R Kd.flt 33 w31 w.heap.size (fun k_ => N_ (.slice Ao23 t257.length co23) k_ ∧ N_ v270 k_ ∧ N_ v273 k_) (.slice Ao18 t254.length co18) t254) := ⟨h0_⟩
        have n1_ : Aside0 (Kd.R Kd.flt 33 w31 w.heap.size (fun k_ => N_ (.slice Ao18 t254.length co18) k_ ∧ N_ v270 k_ ∧ N_ v273 k_) (.slice Ao23 t257.length co23) t257) := ⟨h1_⟩
        have n2_ : Aside0 (Kd.R Kd.flt 33 w31 w.heap.size (fun k_ => N_ (.slice Ao18 t254.length co18) k_ ∧ N_ (.slice Ao23 t257.length co23) k_ ∧ N_ v273 k_) v270 y269) := ⟨h2_⟩
        have n3_ : Aside0 (Kd.R Kd.flt 33 w31 w.heap.size (fun k_ => N_ (.slice Ao18 t254.length co18) k_ ∧ N_ (.slice Ao23 t257.length co23) k_ ∧ N_ v270 k_) v273 y272) := ⟨h3_⟩
        have n4_ : Aside0 (w31.heap[gb248]? = some (.cells #[.slice none 0 0, .slice none 0 0] 25 (0, 0))) := ⟨h4_⟩
        have n5_ : Aside0 (w31.heap[gb249]? = some (.cells #[.slice none 0 0, .slice none 0 0] 25 (0, 0))) := ⟨h5_⟩
        have n6_ : Aside0 (w31.heap[gb262]? = some (.cells #[.slice Ao18 t254.length co18, .slice Ao23 t257.length co23] 25 (0, 0))) := ⟨h6_⟩
        have n7_ : Aside0 (IsS38 w w31 gb250 l0 t264 t265) := ⟨h7_⟩
        have n8_ : Aside0 (Below w.heap.size w w31) := ⟨h8_⟩
        clear HO256
        clear HO259
        clear BK248
        clear BK249
        clear BK262
        clear HI250
        clear HB
        clear h0_ h1_ h2_ h3_ h4_ h5_ h6_ h7_ h8_
        have HO256 := n0_
        have HO259 := n1_
        have HO271 := n2_
        have HO274 := n3_
        have BK248 := n4_
        have BK249 := n5_
        have BK262 := n6_
        have HI250 := n7_
        have HB := n8_
        clear n0_ n1_ n2_ n3_ n4_ n5_ n6_ n7_ n8_
        have hHeld : w31.cell? ⟨gb262, 0, none⟩ = some (.slice Ao18 t254.length co18) ∧ w31.cell? ⟨gb262, 1, none⟩ = some (.slice Ao23 t257.length co23) := hS_
        refine norm_ (a' := ?_) ?_ ?_
        rotate_left
        ·simp only [putAll, Act.put, sB, sC, sD]
         rfl
        refine two_ (i := 7) (j := 9) (Ni := some 25) (Nj := some 7) #[true, true, true, true, true, true, true, true, false, false, false] #[true, true, true, true, true, true, true, false, false, true, false] rfl rfl rfl rfl (two_of HT_.out (by kernel_rfl)) (by decide) (by decide) (fun K hK => ?_) (fun K hK => ?_)
        ·skip
         refine Kd.R_append_rows_step Kd.flt (w0 := w) w.heap.size (by rfl) (.tmp 22) (.tmp 24) 23 33 (.float .f64 0) 8 rfl Try.underlying23 info33 rfl (by decide) (by omega) v273 y272 t257 _ _ _ (fun k_ => N_ (.slice Ao18 t254.length co18) k_ ∧ N_ (.slice Ao23 t257.length co23) k_ ∧ N_ v270 k_) (fun _ => False) rfl rfl ?aO ?aR (fun _ _ h => h) (fun _ h => h.elim) ?aF ?aB ?aS ?aL ?_
         (case aR => exact cu (Kd.R_reads' HO259.out).2.2)
         (case aB => exact (by repeat (first | (with_reducible first | exact HB.out | apply below_alloc | apply pw_below_drewN | apply below_drew1 | refine below_set ?_ (IsS38.ge HI250.out) | refine below_set ?_ GE248.out | refine below_set ?_ GE249.out | refine below_set ?_ GE262.out) | exact HB.out)))
         (case aF => exact (fun k_ hk => ⟨Kd.fresh' (Kd.R_lt (rk HO256.out)) k_ hk, Kd.fresh' (Kd.R_lt (rk HO259.out)) k_ hk, Kd.fresh' (Kd.R_lt (rk HO271.out)) k_ hk⟩))
         (case aO => exact (rk HO274.out))
         (case aS => exact (below_size (by repeat (first | (with_reducible first | exact HB.out | apply below_alloc | apply pw_below_drewN | apply below_drew1 | refine below_set ?_ (IsS38.ge HI250.out) | refine below_set ?_ GE248.out | refine below_set ?_ GE249.out | refine below_set ?_ GE262.out) | exact HB.out))))
         (case aL => have := LMc7.out; omega)
         intro v276 w32 ho hb hg hat
         rw [← Ny275.out] at ho
         replace BK248 := a_ (blk_grown (pk BK248.out) hg (Kd.R_ne HO274.out BK248.out (by decide)))
         replace BK249 := a_ (blk_grown (pk BK249.out) hg (Kd.R_ne HO274.out BK249.out (by decide)))
         replace HI250 := a_ (IsS38.grown (show IsS38 w _ gb250 l0 t264 t265 from by repeat (first | (with_reducible first | exact HI250.out | apply IsS38.alloc | apply IsS38.drewN | apply IsS38.drew | apply IsS38.set_1 | apply IsS38.set_2 | refine IsS38.far ?_ NB250_248.out _ | refine IsS38.far ?_ NB250_249.out _ | refine IsS38.far ?_ NB250_262.out _) | exact HI250.out)) hg (IsS38.own_ne HI250.out HO274.out (by decide)))
         replace HO256 := a_ (Kd.R_after (ok := (fun k_ => N_ (.slice Ao23 t257.length co23) k_ ∧ N_ v270 k_)) (rk (Kd.R_mono HO256.out (fun _ hk => ⟨⟨hk.1, hk.2.1⟩, hk.2.2⟩))) hg hat)
         replace HO259 := a_ (Kd.R_after (ok := (fun k_ => N_ (.slice Ao18 t254.length co18) k_ ∧ N_ v270 k_)) (rk (Kd.R_mono HO259.out (fun _ hk => ⟨⟨hk.1, hk.2.1⟩, hk.2.2⟩))) hg hat)
         replace BK262 := a_ (blk_grown (pk BK262.out) hg (Kd.R_ne HO274.out BK262.out (by decide)))
         replace HO271 := a_ (Kd.R_after (ok := (fun k_ => N_ (.slice Ao18 t254.length co18) k_ ∧ N_ (.slice Ao23 t257.length co23) k_)) (rk (Kd.R_mono HO271.out (fun _ hk => ⟨⟨hk.1, hk.2.1⟩, hk.2.2⟩))) hg hat)
         replace HB := a_ (hb)
         have HO277 := a_ (ho)
         clear HO274 ho hb hg hat
         obtain ⟨Ao33, co33, eo33⟩ := Kd.R_slice HO277.out
         (first | subst eo33 | (injection eo33 with f1_ f2_ f3_; obtain rfl := f1_.symm; obtain rfl := f3_.symm))
         obtain ⟨Ao34, co34, eo34⟩ := Kd.R_slice HO271.out
         (first | subst eo34 | (injection eo34 with f1_ f2_ f3_; obtain rfl := f1_.symm; obtain rfl := f3_.symm))
         refine hK.out _ _ ⟨(blk_cell BK262.out 0).trans rfl, (blk_cell BK262.out 1).trans rfl⟩ (fun hHeld => ?_)
         clear hK K
         refine norm_ (a' := ?_) ?_ ?_
         rotate_left
         ·show Act.put _ (some 25) _ = _
          simp only [Act.put, sB, sC, sD, i64_w, i32_w]
          rfl
         refine pure_ (i := 8) (N := some 26) (v := ?_) (a' := ?_) #[true, true, true, true, true, true, true, true, true, false, false] rfl rfl (any_of HT_.out (by kernel_rfl)) (fun _ _ _ h => h) (Or.inl ⟨by rfl, ?_⟩) ?_ ?_
         rotate_left
         ·intro w'
          go_simp
          with_reducible rfl
         rotate_left
         ·simp only [Act.put, sB, sC, sD, i64_w, i32_w]
          rfl
         exact norm_ (by first | (simp only [putAll, Act.put, sB, sC, sD]; done) | (simp only [putAll, Act.put, sB, sC, sD]; rfl)) (hJ0_3_4_7 (v267, .slice Ao34 y269.length co34, v273, .slice Ao33 y275.length co33) _ ⟨hHeld, (rk (Kd.R_mono HO256.out (fun _ hk => ⟨hk.1.1, hk.1.2, hk.2⟩))), (rk (Kd.R_mono HO259.out (fun _ hk => ⟨hk.1.1, hk.1.2, hk.2⟩))), (rk (Kd.R_mono HO271.out (fun _ hk => ⟨hk.1.1, hk.1.2, hk.2⟩))), (rk HO277.out), (pk BK248.out), (pk BK249.out), (pk BK262.out), (by repeat (first | (with_reducible first | exact HI250.out | apply IsS38.alloc | apply IsS38.drewN | apply IsS38.drew | apply IsS38.set_1 | apply IsS38.set_2 | refine IsS38.far ?_ NB250_248.out _ | refine IsS38.far ?_ NB250_249.out _ | refine IsS38.far ?_ NB250_262.out _) | exact HI250.out)), (by repeat (first | (with_reducible first | exact HB.out | apply below_alloc | apply pw_below_drewN | apply below_drew1 | refine below_set ?_ (IsS38.ge HI250.out) | refine below_set ?_ GE248.out | refine below_set ?_ GE249.out | refine below_set ?_ GE262.out) | exact HB.out))⟩)
        ·skip
         refine box_step ?hg (N := 7) ?hd (cs := #[.slice none 0 0, .slice none 0 0]) (t := 25) ?hr ?_; (case hd => rfl); (case hg => rfl); (case hr => first | (go_simp; done) | (go_simp; rfl))
         intro gb278 hg w32 hbox hb
         replace HO256 := a_ (Kd.R_below (rk HO256.out) hb)
         replace HO259 := a_ (Kd.R_below (rk HO259.out) hb)
         replace HO271 := a_ (Kd.R_below (rk HO271.out) hb)
         replace HO274 := a_ (Kd.R_below (rk HO274.out) hb)
         have BK278 := a_ (hbox)
         have GW278 := a_ (by rw [hg]; exact (below_size (by repeat (first | (with_reducible first | exact HB.out | apply below_alloc | apply pw_below_drewN | apply below_drew1 | refine below_set ?_ (IsS38.ge HI250.out) | refine below_set ?_ GE248.out | refine below_set ?_ GE249.out | refine below_set ?_ GE262.out) | exact HB.out))) : w.heap.size ≤ gb278)
         have GE278 := a_ (by rw [hg]; exact (below_size (by repeat (first | (with_reducible first | exact HB.out | apply below_alloc | apply pw_below_drewN | apply below_drew1 | refine below_set ?_ (IsS38.ge HI250.out) | refine below_set ?_ GE248.out | refine below_set ?_ GE249.out | refine below_set ?_ GE262.out) | exact HB.out))) : w.heap.size ≤ gb278)
         replace HB := a_ (below_step (by repeat (first | (with_reducible first | exact HB.out | apply below_alloc | apply pw_below_drewN | apply below_drew1 | refine below_set ?_ (IsS38.ge HI250.out) | refine below_set ?_ GE248.out | refine below_set ?_ GE249.out | refine below_set ?_ GE262.out) | exact HB.out)) hb)
         have NB248_278 := a_ (nel hg BK248.out)
         have NB278_248 := a_ (nle hg BK248.out)
         replace BK248 := a_ (blk_below (pk BK248.out) hb)
         have NB249_278 := a_ (nel hg BK249.out)
         have NB278_249 := a_ (nle hg BK249.out)
         replace BK249 := a_ (blk_below (pk BK249.out) hb)
         have NB262_278 := a_ (nel hg BK262.out)
         have NB278_262 := a_ (nle hg BK262.out)
         replace BK262 := a_ (blk_below (pk BK262.out) hb)
         have NB250_278 := a_ (by rw [hg]; exact Nat.ne_of_lt (IsS38.lt (show IsS38 w _ gb250 l0 t264 t265 from by repeat (first | (with_reducible first | exact HI250.out | apply IsS38.alloc | apply IsS38.drewN | apply IsS38.drew | apply IsS38.set_1 | apply IsS38.set_2 | refine IsS38.far ?_ NB250_248.out _ | refine IsS38.far ?_ NB250_249.out _ | refine IsS38.far ?_ NB250_262.out _) | exact HI250.out))) : gb250 ≠ gb278)
         have NB278_250 := a_ (by rw [hg]; exact Nat.ne_of_gt (IsS38.lt (show IsS38 w _ gb250 l0 t264 t265 from by repeat (first | (with_reducible first | exact HI250.out | apply IsS38.alloc | apply IsS38.drewN | apply IsS38.drew | apply IsS38.set_1 | apply IsS38.set_2 | refine IsS38.far ?_ NB250_248.out _ | refine IsS38.far ?_ NB250_249.out _ | refine IsS38.far ?_ NB250_262.out _) | exact HI250.out))) : gb278 ≠ gb250)
         replace HI250 := a_ (IsS38.below (by repeat (first | (with_reducible first | exact HI250.out | apply IsS38.alloc | apply IsS38.drewN | apply IsS38.drew | apply IsS38.set_1 | apply IsS38.set_2 | refine IsS38.far ?_ NB250_248.out _ | refine IsS38.far ?_ NB250_249.out _ | refine IsS38.far ?_ NB250_262.out _) | exact HI250.out)) hb)
         clear hb hbox hg
         refine hK.out _ _ ⟨(blk_cell BK262.out 0).trans rfl, (blk_cell BK262.out 1).trans rfl⟩ (fun hHeld => ?_)
         clear hK K
         refine norm_ (a' := ?_) ?_ ?_
         rotate_left
         ·show Act.put _ (some 7) _ = _
          simp only [Act.put, sB, sC, sD, i64_w, i32_w]
          rfl
         exact norm_ (by first | (simp only [putAll, Act.put, sB, sC, sD]; done) | (simp only [putAll, Act.put, sB, sC, sD]; rfl)) (hJ0_3_4_9 (v267, v270, v273, gb278) _ ⟨hHeld, (rk HO256.out), (rk HO259.out), (rk HO271.out), (rk HO274.out), (pk BK248.out), (pk BK249.out), (pk BK262.out), (pk BK278.out), GW278.out, GE278.out, NB250_278.out, NB278_250.out, NB248_278.out, NB278_248.out, NB249_278.out, NB278_249.out, NB262_278.out, NB278_262.out, (by repeat (first | (with_reducible first | exact HI250.out | apply IsS38.alloc | apply IsS38.drewN | apply IsS38.drew | apply IsS38.set_1 | apply IsS38.set_2 | refine IsS38.far ?_ NB250_248.out _ | refine IsS38.far ?_ NB250_249.out _ | refine IsS38.far ?_ NB250_262.out _ | refine IsS38.far ?_ NB250_278.out _) | exact HI250.out)), (by repeat (first | (with_reducible first | exact HB.out | apply below_alloc | apply pw_below_drewN | apply below_drew1 | refine below_set ?_ (IsS38.ge HI250.out) | refine below_set ?_ GE248.out | refine below_set ?_ GE249.out | refine below_set ?_ GE262.out | refine below_set ?_ GE278.out) | exact HB.out))⟩)
      ·skip
       rintro ⟨v267, v270, v273, gb278⟩ w32 ⟨hS_, h0_, h1_, h2_, h3_, h4_, h5_, h6_, h7_, h8_, h9_, h10_, h11_, h12_, h13_, h14_, h15_, h16_, h17_, h18_, h19_⟩
       have n0_ : Aside0 (Kd.R Kd.flt 33 w32 w.heap.size (fun k_ => N_ (.slice Ao23 t257.length co23) k_ ∧ N_ v270 k_ ∧ N_ v273 k_) (.slice Ao18 t254.length co18) t254) := ⟨h0_⟩
       have n1_ : Aside0 (Kd.R Kd.flt 33 w32 w.heap.size (fun k_ => N_ (.slice Ao18 t254.length co18) k_ ∧ N_ v270 k_ ∧ N_ v273 k_) (.slice Ao23 t257.length co23) t257) := ⟨h1_⟩
       have n2_ : Aside0 (Kd.R Kd.flt 33 w32 w.heap.size (fun k_ => N_ (.slice Ao18 t254.length co18) k_ ∧ N_ (.slice Ao23 t257.length co23) k_ ∧ N_ v273 k_) v270 y269) := ⟨h2_⟩
       have n3_ : Aside0 (Kd.R Kd.flt 33 w32 w.heap.size (fun k_ => N_ (.slice Ao18 t254.length co18) k_ ∧ N_ (.slice Ao23 t257.length co23) k_ ∧ N_ v270 k_) v273 y272) := ⟨h3_⟩
       have n4_ : Aside0 (w32.heap[gb248]? = some (.cells #[.slice none 0 0, .slice none 0 0] 25 (0, 0))) := ⟨h4_⟩
       have n5_ : Aside0 (w32.heap[gb249]? = some (.cells #[.slice none 0 0, .slice none 0 0] 25 (0, 0))) := ⟨h5_⟩
       have n6_ : Aside0 (w32.heap[gb262]? = some (.cells #[.slice Ao18 t254.length co18, .slice Ao23 t257.length co23] 25 (0, 0))) := ⟨h6_⟩
       have n7_ : Aside0 (w32.heap[gb278]? = some (.cells #[.slice none 0 0, .slice none 0 0] 25 (0, 0))) := ⟨h7_⟩
       have n8_ : Aside0 (w.heap.size ≤ gb278) := ⟨h8_⟩
       have n9_ : Aside0 (w.heap.size ≤ gb278) := ⟨h9_⟩
       have n10_ : Aside0 (gb250 ≠ gb278) := ⟨h10_⟩
       have n11_ : Aside0 (gb278 ≠ gb250) := ⟨h11_⟩
       have n12_ : Aside0 (gb248 ≠ gb278) := ⟨h12_⟩
       have n13_ : Aside0 (gb278 ≠ gb248) := ⟨h13_⟩
       have n14_ : Aside0 (gb249 ≠ gb278) := ⟨h14_⟩
       have n15_ : Aside0 (gb278 ≠ gb249) := ⟨h15_⟩
       have n16_ : Aside0 (gb262 ≠ gb278) := ⟨h16_⟩
       have n17_ : Aside0 (gb278 ≠ gb262) := ⟨h17_⟩
       have n18_ : Aside0 (IsS38 w w32 gb250 l0 t264 t265) := ⟨h18_⟩
       have n19_ : Aside0 (Below w.heap.size w w32) := ⟨h19_⟩
       clear HO256
       clear HO259
       clear BK248
       clear BK249
       clear BK262
       clear HI250
       clear HB
       clear h0_ h1_ h2_ h3_ h4_ h5_ h6_ h7_ h8_ h9_ h10_ h11_ h12_ h13_ h14_ h15_ h16_ h17_ h18_ h19_
       have HO256 := n0_
       have HO259 := n1_
       have HO271 := n2_
       have HO274 := n3_
       have BK248 := n4_
       have BK249 := n5_
       have BK262 := n6_
       have BK278 := n7_
       have GW278 := n8_
       have GE278 := n9_
       have NB250_278 := n10_
       have NB278_250 := n11_
       have NB248_278 := n12_
       have NB278_248 := n13_
       have NB249_278 := n14_
       have NB278_249 := n15_
       have NB262_278 := n16_
       have NB278_262 := n17_
       have HI250 := n18_
       have HB := n19_
       clear n0_ n1_ n2_ n3_ n4_ n5_ n6_ n7_ n8_ n9_ n10_ n11_ n12_ n13_ n14_ n15_ n16_ n17_ n18_ n19_
       have hHeld : w32.cell? ⟨gb262, 0, none⟩ = some (.slice Ao18 t254.length co18) ∧ w32.cell? ⟨gb262, 1, none⟩ = some (.slice Ao23 t257.length co23) := hS_
       refine norm_ (a' := ?_) ?_ ?_
       rotate_left
       ·simp only [putAll, Act.put, sB, sC, sD]
        rfl
       refine one_ (i := 7) (N := some 25) #[true, true, true, true, true, true, true, true, false, true, false] rfl rfl (one_of HT_.out (by kernel_rfl)) (by decide) (fun K hK => ?_)
       refine Kd.R_append_rows_step Kd.flt (w0 := w) w.heap.size (by rfl) (.tmp 22) (.tmp 24) 23 33 (.float .f64 0) 8 rfl Try.underlying23 info33 rfl (by decide) (by omega) v273 y272 t257 _ _ _ (fun k_ => N_ (.slice Ao18 t254.length co18) k_ ∧ N_ (.slice Ao23 t257.length co23) k_ ∧ N_ v270 k_) (fun _ => False) rfl rfl ?aO ?aR (fun _ _ h => h) (fun _ h => h.elim) ?aF ?aB ?aS ?aL ?_
       (case aR => exact cu (Kd.R_reads' HO259.out).2.2)
       (case aB => exact (by repeat (first | (with_reducible first | exact HB.out | apply below_alloc | apply pw_below_drewN | apply below_drew1 | refine below_set ?_ (IsS38.ge HI250.out) | refine below_set ?_ GE248.out | refine below_set ?_ GE249.out | refine below_set ?_ GE262.out | refine below_set ?_ GE278.out) | exact HB.out)))
       (case aF => exact (fun k_ hk => ⟨Kd.fresh' (Kd.R_lt (rk HO256.out)) k_ hk, Kd.fresh' (Kd.R_lt (rk HO259.out)) k_ hk, Kd.fresh' (Kd.R_lt (rk HO271.out)) k_ hk⟩))
       (case aO => exact (rk HO274.out))
       (case aS => exact (below_size (by repeat (first | (with_reducible first | exact HB.out | apply below_alloc | apply pw_below_drewN | apply below_drew1 | refine below_set ?_ (IsS38.ge HI250.out) | refine below_set ?_ GE248.out | refine below_set ?_ GE249.out | refine below_set ?_ GE262.out | refine below_set ?_ GE278.out) | exact HB.out))))
       (case aL => have := LMc7.out; omega)
       intro v276 w33 ho hb hg hat
       rw [← Ny275.out] at ho
       replace BK248 := a_ (blk_grown (pk BK248.out) hg (Kd.R_ne HO274.out BK248.out (by decide)))
       replace BK249 := a_ (blk_grown (pk BK249.out) hg (Kd.R_ne HO274.out BK249.out (by decide)))
       replace HI250 := a_ (IsS38.grown (show IsS38 w _ gb250 l0 t264 t265 from by repeat (first | (with_reducible first | exact HI250.out | apply IsS38.alloc | apply IsS38.drewN | apply IsS38.drew | apply IsS38.set_1 | apply IsS38.set_2 | refine IsS38.far ?_ NB250_248.out _ | refine IsS38.far ?_ NB250_249.out _ | refine IsS38.far ?_ NB250_262.out _ | refine IsS38.far ?_ NB250_278.out _) | exact HI250.out)) hg (IsS38.own_ne HI250.out HO274.out (by decide)))
       replace HO256 := a_ (Kd.R_after (ok := (fun k_ => N_ (.slice Ao23 t257.length co23) k_ ∧ N_ v270 k_)) (rk (Kd.R_mono HO256.out (fun _ hk => ⟨⟨hk.1, hk.2.1⟩, hk.2.2⟩))) hg hat)
       replace HO259 := a_ (Kd.R_after (ok := (fun k_ => N_ (.slice Ao18 t254.length co18) k_ ∧ N_ v270 k_)) (rk (Kd.R_mono HO259.out (fun _ hk => ⟨⟨hk.1, hk.2.1⟩, hk.2.2⟩))) hg hat)
       replace BK262 := a_ (blk_grown (pk BK262.out) hg (Kd.R_ne HO274.out BK262.out (by decide)))
       replace HO271 := a_ (Kd.R_after (ok := (fun k_ => N_ (.slice Ao18 t254.length co18) k_ ∧ N_ (.slice Ao23 t257.length co23) k_)) (rk (Kd.R_mono HO271.out (fun _ hk => ⟨⟨hk.1, hk.2.1⟩, hk.2.2⟩))) hg hat)
       replace BK278 := a_ (blk_grown (pk BK278.out) hg (Kd.R_ne HO274.out BK278.out (by decide)))
       replace HB := a_ (hb)
       have HO277 := a_ (ho)
       clear HO274 ho hb hg hat
       obtain ⟨Ao34, co34, eo34⟩ := Kd.R_slice HO277.out
       (first | subst eo34 | (injection eo34 with f1_ f2_ f3_; obtain rfl := f1_.symm; obtain rfl := f3_.symm))
       obtain ⟨Ao35, co35, eo35⟩ := Kd.R_slice HO271.out
       (first | subst eo35 | (injection eo35 with f1_ f2_ f3_; obtain rfl := f1_.symm; obtain rfl := f3_.symm))
       refine hK.out _ _ ⟨(blk_cell BK262.out 0).trans rfl, (blk_cell BK262.out 1).trans rfl⟩ (fun hHeld => ?_)
       clear hK K
       refine norm_ (a' := ?_) ?_ ?_
       rotate_left
       ·show Act.put _ (some 25) _ = _
        simp only [Act.put, sB, sC, sD, i64_w, i32_w]
        rfl
       refine pure_ (i := 8) (N := some 26) (v := ?_) (a' := ?_) #[true, true, true, true, true, true, true, true, true, true, false] rfl rfl (any_of HT_.out (by kernel_rfl)) (fun _ _ _ h => h) (Or.inl ⟨by rfl, ?_⟩) ?_ ?_
       rotate_left
       ·intro w'
        go_simp
        with_reducible rfl
       rotate_left
       ·simp only [Act.put, sB, sC, sD, i64_w, i32_w]
        rfl
       exact norm_ (by first | (simp only [putAll, Act.put, sB, sC, sD]; done) | (simp only [putAll, Act.put, sB, sC, sD]; rfl)) (hJ0_3_4_7_9 (v267, .slice Ao35 y269.length co35, v273, .slice Ao34 y275.length co34, gb278) _ ⟨hHeld, (rk (Kd.R_mono HO256.out (fun _ hk => ⟨hk.1.1, hk.1.2, hk.2⟩))), (rk (Kd.R_mono HO259.out (fun _ hk => ⟨hk.1.1, hk.1.2, hk.2⟩))), (rk (Kd.R_mono HO271.out (fun _ hk => ⟨hk.1.1, hk.1.2, hk.2⟩))), (rk HO277.out), (pk BK248.out), (pk BK249.out), (pk BK262.out), (pk BK278.out), GW278.out, GE278.out, NB250_278.out, NB278_250.out, NB248_278.out, NB278_248.out, NB249_278.out, NB278_249.out, NB262_278.out, NB278_262.out, (by repeat (first | (with_reducible first | exact HI250.out | apply IsS38.alloc | apply IsS38.drewN | apply IsS38.drew | apply IsS38.set_1 | apply IsS38.set_2 | refine IsS38.far ?_ NB250_248.out _ | refine IsS38.far ?_ NB250_249.out _ | refine IsS38.far ?_ NB250_262.out _ | refine IsS38.far ?_ NB250_278.out _) | exact HI250.out)), (by repeat (first | (with_reducible first | exact HB.out | apply below_alloc | apply pw_below_drewN | apply below_drew1 | refine below_set ?_ (IsS38.ge HI250.out) | refine below_set ?_ GE248.out | refine below_set ?_ GE249.out | refine below_set ?_ GE262.out | refine below_set ?_ GE278.out) | exact HB.out))⟩)
     ·skip
      rintro ⟨v267, v270, v273, v276⟩ w34 ⟨hS_, h0_, h1_, h2_, h3_, h4_, h5_, h6_, h7_, h8_⟩
      have n0_ : Aside0 (Kd.R Kd.flt 33 w34 w.heap.size (fun k_ => N_ (.slice Ao23 t257.length co23) k_ ∧ N_ v270 k_ ∧ N_ v276 k_) (.slice Ao18 t254.length co18) t254) := ⟨h0_⟩
      have n1_ : Aside0 (Kd.R Kd.flt 33 w34 w.heap.size (fun k_ => N_ (.slice Ao18 t254.length co18) k_ ∧ N_ v270 k_ ∧ N_ v276 k_) (.slice Ao23 t257.length co23) t257) := ⟨h1_⟩
      have n2_ : Aside0 (Kd.R Kd.flt 33 w34 w.heap.size (fun k_ => N_ (.slice Ao18 t254.length co18) k_ ∧ N_ (.slice Ao23 t257.length co23) k_ ∧ N_ v276 k_) v270 y269) := ⟨h2_⟩
      have n3_ : Aside0 (Kd.R Kd.flt 33 w34 w.heap.size (fun k_ => N_ (.slice Ao18 t254.length co18) k_ ∧ N_ (.slice Ao23 t257.length co23) k_ ∧ N_ v270 k_) v276 y275) := ⟨h3_⟩
      have n4_ : Aside0 (w34.heap[gb248]? = some (.cells #[.slice none 0 0, .slice none 0 0] 25 (0, 0))) := ⟨h4_⟩
      have n5_ : Aside0 (w34.heap[gb249]? = some (.cells #[.slice none 0 0, .slice none 0 0] 25 (0, 0))) := ⟨h5_⟩
      have n6_ : Aside0 (w34.heap[gb262]? = some (.cells #[.slice Ao18 t254.length co18, .slice Ao23 t257.length co23] 25 (0, 0))) := ⟨h6_⟩
      have n7_ : Aside0 (IsS38 w w34 gb250 l0 t264 t265) := ⟨h7_⟩
      have n8_ : Aside0 (Below w.heap.size w w34) := ⟨h8_⟩
      clear HO256
      clear HO259
      clear BK248
      clear BK249
      clear BK262
      clear HI250
      clear HB
      clear h0_ h1_ h2_ h3_ h4_ h5_ h6_ h7_ h8_
      have HO256 := n0_
      have HO259 := n1_
      have HO271 := n2_
      have HO277 := n3_
      have BK248 := n4_
      have BK249 := n5_
      have BK262 := n6_
      have HI250 := n7_
      have HB := n8_
      clear n0_ n1_ n2_ n3_ n4_ n5_ n6_ n7_ n8_
      have hHeld : w34.cell? ⟨gb262, 0, none⟩ = some (.slice Ao18 t254.length co18) ∧ w34.cell? ⟨gb262, 1, none⟩ = some (.slice Ao23 t257.length co23) := hS_
      obtain ⟨Ao35, co35, eo35⟩ := Kd.R_slice HO277.out
      (first | subst eo35 | (injection eo35 with f1_ f2_ f3_; obtain rfl := f1_.symm; obtain rfl := f3_.symm))
      obtain ⟨Ao36, co36, eo36⟩ := Kd.R_slice HO271.out
      (first | subst eo36 | (injection eo36 with f1_ f2_ f3_; obtain rfl := f1_.symm; obtain rfl := f3_.symm))
      refine norm_ (a' := ?_) ?_ ?_
      rotate_left
      ·simp only [putAll, Act.put, sB, sC, sD]
       rfl
      refine one_ (i := 9) (N := some 7) #[true, true, true, true, true, true, true, true, true, true, false] rfl rfl (one_of HT_.out (by kernel_rfl)) (by decide) (fun K hK => ?_)
      refine box_step ?hg (N := 7) ?hd (cs := #[.slice none 0 0, .slice none 0 0]) (t := 25) ?hr ?_; (case hd => rfl); (case hg => rfl); (case hr => first | (go_simp; done) | (go_simp; rfl))
      intro gb278 hg w37 hbox hb
      replace HO256 := a_ (Kd.R_below (rk HO256.out) hb)
      replace HO259 := a_ (Kd.R_below (rk HO259.out) hb)
      replace HO271 := a_ (Kd.R_below (rk HO271.out) hb)
      replace HO277 := a_ (Kd.R_below (rk HO277.out) hb)
      have BK278 := a_ (hbox)
      have GW278 := a_ (by rw [hg]; exact (below_size (by repeat (first | (with_reducible first | exact HB.out | apply below_alloc | apply pw_below_drewN | apply below_drew1 | refine below_set ?_ (IsS38.ge HI250.out) | refine below_set ?_ GE248.out | refine below_set ?_ GE249.out | refine below_set ?_ GE262.out) | exact HB.out))) : w.heap.size ≤ gb278)
      have GE278 := a_ (by rw [hg]; exact (below_size (by repeat (first | (with_reducible first | exact HB.out | apply below_alloc | apply pw_below_drewN | apply below_drew1 | refine below_set ?_ (IsS38.ge HI250.out) | refine below_set ?_ GE248.out | refine below_set ?_ GE249.out | refine below_set ?_ GE262.out) | exact HB.out))) : w.heap.size ≤ gb278)
      replace HB := a_ (below_step (by repeat (first | (with_reducible first | exact HB.out | apply below_alloc | apply pw_below_drewN | apply below_drew1 | refine below_set ?_ (IsS38.ge HI250.out) | refine below_set ?_ GE248.out | refine below_set ?_ GE249.out | refine below_set ?_ GE262.out) | exact HB.out)) hb)
      have NB248_278 := a_ (nel hg BK248.out)
      have NB278_248 := a_ (nle hg BK248.out)
      replace BK248 := a_ (blk_below (pk BK248.out) hb)
      have NB249_278 := a_ (nel hg BK249.out)
      have NB278_249 := a_ (nle hg BK249.out)
      replace BK249 := a_ (blk_below (pk BK249.out) hb)
      have NB262_278 := a_ (nel hg BK262.out)
      have NB278_262 := a_ (nle hg BK262.out)
      replace BK262 := a_ (blk_below (pk BK262.out) hb)
      have NB250_278 := a_ (by rw [hg]; exact Nat.ne_of_lt (IsS38.lt (show IsS38 w _ gb250 l0 t264 t265 from by repeat (first | (with_reducible first | exact HI250.out | apply IsS38.alloc | apply IsS38.drewN | apply IsS38.drew | apply IsS38.set_1 | apply IsS38.set_2 | refine IsS38.far ?_ NB250_248.out _ | refine IsS38.far ?_ NB250_249.out _ | refine IsS38.far ?_ NB250_262.out _) | exact HI250.out))) : gb250 ≠ gb278)
      have NB278_250 := a_ (by rw [hg]; exact Nat.ne_of_gt (IsS38.lt (show IsS38 w _ gb250 l0 t264 t265 from by repeat (first | (with_reducible first | exact HI250.out | apply IsS38.alloc | apply IsS38.drewN | apply IsS38.drew | apply IsS38.set_1 | apply IsS38.set_2 | refine IsS38.far ?_ NB250_248.out _ | refine IsS38.far ?_ NB250_249.out _ | refine IsS38.far ?_ NB250_262.out _) | exact HI250.out))) : gb278 ≠ gb250)
      replace HI250 := a_ (IsS38.below (by repeat (first | (with_reducible first | exact HI250.out | apply IsS38.alloc | apply IsS38.drewN | apply IsS38.drew | apply IsS38.set_1 | apply IsS38.set_2 | refine IsS38.far ?_ NB250_248.out _ | refine IsS38.far ?_ NB250_249.out _ | refine IsS38.far ?_ NB250_262.out _) | exact HI250.out)) hb)
      clear hb hbox hg
      refine hK.out _ _ ⟨(blk_cell BK262.out 0).trans rfl, (blk_cell BK262.out 1).trans rfl⟩ (fun hHeld => ?_)
      clear hK K
      refine norm_ (a' := ?_) ?_ ?_
      rotate_left
      ·show Act.put _ (some 7) _ = _
       simp only [Act.put, sB, sC, sD, i64_w, i32_w]
       rfl
      exact norm_ (by first | (simp only [putAll, Act.put, sB, sC, sD]; done) | (simp only [putAll, Act.put, sB, sC, sD]; rfl)) (hJ0_3_4_7_9 (v267, .slice Ao36 y269.length co36, v273, .slice Ao35 y275.length co35, gb278) _ ⟨hHeld, (rk HO256.out), (rk HO259.out), (rk HO271.out), (rk HO277.out), (pk BK248.out), (pk BK249.out), (pk BK262.out), (pk BK278.out), GW278.out, GE278.out, NB250_278.out, NB278_250.out, NB248_278.out, NB278_248.out, NB249_278.out, NB278_249.out, NB262_278.out, NB278_262.out, (by repeat (first | (with_reducible first | exact HI250.out | apply IsS38.alloc | apply IsS38.drewN | apply IsS38.drew | apply IsS38.set_1 | apply IsS38.set_2 | refine IsS38.far ?_ NB250_248.out _ | refine IsS38.far ?_ NB250_249.out _ | refine IsS38.far ?_ NB250_262.out _ | refine IsS38.far ?_ NB250_278.out _) | exact HI250.out)), (by repeat (first | (with_reducible first | exact HB.out | apply below_alloc | apply pw_below_drewN | apply below_drew1 | refine below_set ?_ (IsS38.ge HI250.out) | refine below_set ?_ GE248.out | refine below_set ?_ GE249.out | refine below_set ?_ GE262.out | refine below_set ?_ GE278.out) | exact HB.out))⟩)
    rintro ⟨v267, v270, v273, v276, gb278⟩ w35 ⟨hS_, h0_, h1_, h2_, h3_, h4_, h5_, h6_, h7_, h8_, h9_, h10_, h11_, h12_, h13_, h14_, h15_, h16_, h17_, h18_, h19_⟩
    have n0_ : Aside0 (Kd.R Kd.flt 33 w35 w.heap.size (fun k_ => N_ (.slice Ao23 t257.length co23) k_ ∧ N_ v270 k_ ∧ N_ v276 k_) (.slice Ao18 t254.length co18) t254) := ⟨h0_⟩
    have n1_ : Aside0 (Kd.R Kd.flt 33 w35 w.heap.size (fun k_ => N_ (.slice Ao18 t254.length co18) k_ ∧ N_ v270 k_ ∧ N_ v276 k_) (.slice Ao23 t257.length co23) t257) := ⟨h1_⟩
    have n2_ : Aside0 (Kd.R Kd.flt 33 w35 w.heap.size (fun k_ => N_ (.slice Ao18 t254.length co18) k_ ∧ N_ (.slice Ao23 t257.length co23) k_ ∧ N_ v276 k_) v270 y269) := ⟨h2_⟩
    have n3_ : Aside0 (Kd.R Kd.flt 33 w35 w.heap.size (fun k_ => N_ (.slice Ao18 t254.length co18) k_ ∧ N_ (.slice Ao23 t257.length co23) k_ ∧ N_ v270 k_) v276 y275) := ⟨h3_⟩
    have n4_ : Aside0 (w35.heap[gb248]? = some (.cells #[.slice none 0 0, .slice none 0 0] 25 (0, 0))) := ⟨h4_⟩
    have n5_ : Aside0 (w35.heap[gb249]? = some (.cells #[.slice none 0 0, .slice none 0 0] 25 (0, 0))) := ⟨h5_⟩
    have n6_ : Aside0 (w35.heap[gb262]? = some (.cells #[.slice Ao18 t254.length co18, .slice Ao23 t257.length co23] 25 (0, 0))) := ⟨h6_⟩
    have n7_ : Aside0 (w35.heap[gb278]? = some (.cells #[.slice none 0 0, .slice none 0 0] 25 (0, 0))) := ⟨h7_⟩
    have n8_ : Aside0 (w.heap.size ≤ gb278) := ⟨h8_⟩
    have n9_ : Aside0 (w.heap.size ≤ gb278) := ⟨h9_⟩
    have n10_ : Aside0 (gb250 ≠ gb278) := ⟨h10_⟩
    have n11_ : Aside0 (gb278 ≠ gb250) := ⟨h11_⟩
    have n12_ : Aside0 (gb248 ≠ gb278) := ⟨h12_⟩
    have n13_ : Aside0 (gb278 ≠ gb248) := ⟨h13_⟩
    have n14_ : Aside0 (gb249 ≠ gb278) := ⟨h14_⟩
    have n15_ : Aside0 (gb278 ≠ gb249) := ⟨h15_⟩
    have n16_ : Aside0 (gb262 ≠ gb278) := ⟨h16_⟩
    have n17_ : Aside0 (gb278 ≠ gb262) := ⟨h17_⟩
    have n18_ : Aside0 (IsS38 w w35 gb250 l0 t264 t265) := ⟨h18_⟩
    have n19_ : Aside0 (Below w.heap.size w w35) := ⟨h19_⟩
    clear HO256
    clear HO259
    clear BK248
    clear BK249
    clear BK262
    clear HI250
    clear HB
    clear h0_ h1_ h2_ h3_ h4_ h5_ h6_ h7_ h8_ h9_ h10_ h11_ h12_ h13_ h14_ h15_ h16_ h17_ h18_ h19_
    have HO256 := n0_
    have HO259 := n1_
    have HO271 := n2_
    have HO277 := n3_
    have BK248 := n4_
    have BK249 := n5_
    have BK262 := n6_
    have BK278 := n7_
    have GW278 := n8_
    have GE278 := n9_
    have NB250_278 := n10_
    have NB278_250 := n11_
    have NB248_278 := n12_
    have NB278_248 := n13_
    have NB249_278 := n14_
    have NB278_249 := n15_
    have NB262_278 := n16_
    have NB278_262 := n17_
    have HI250 := n18_
    have HB := n19_
    clear n0_ n1_ n2_ n3_ n4_ n5_ n6_ n7_ n8_ n9_ n10_ n11_ n12_ n13_ n14_ n15_ n16_ n17_ n18_ n19_
    have hHeld : w35.cell? ⟨gb262, 0, none⟩ = some (.slice Ao18 t254.length co18) ∧ w35.cell? ⟨gb262, 1, none⟩ = some (.slice Ao23 t257.length co23) := hS_
    obtain ⟨Ao36, co36, eo36⟩ := Kd.R_slice HO277.out
    (first | subst eo36 | (injection eo36 with f1_ f2_ f3_; obtain rfl := f1_.symm; obtain rfl := f3_.symm))
    obtain ⟨Ao37, co37, eo37⟩ := Kd.R_slice HO271.out
    (first | subst eo37 | (injection eo37 with f1_ f2_ f3_; obtain rfl := f1_.symm; obtain rfl := f3_.symm))
    refine norm_ (a' := ?_) ?_ ?_
    rotate_left
    ·simp only [putAll, Act.put, sB, sC, sD]
     rfl
    refine one_ (i := 10) (N := none) #[true, true, true, true, true, true, true, true, true, true, true] rfl rfl (one_of HT_.out (by kernel_rfl)) (by decide) (fun K hK => ?_)
    have hs38 : w35.cell? ⟨gb278, 0, none⟩ = some (.slice none 0 0) := (blk_cell BK278.out 0).trans rfl
    have hfs38 := blk_frozen BK278.out 0
    have hns38_0 := NB248_278.out
    have hns38_1 := NB249_278.out
    have hns38_2 := NB262_278.out
    have hms38_0 := NB278_248.out
    have hms38_1 := NB278_249.out
    have hms38_2 := NB278_262.out
    have hs39 : w35.cell? ⟨gb278, 1, none⟩ = some (.slice none 0 0) := (blk_cell BK278.out 1).trans rfl
    have hfs39 := blk_frozen BK278.out 1
    have hns39_0 := NB248_278.out
    have hns39_1 := NB249_278.out
    have hns39_2 := NB262_278.out
    have hms39_0 := NB278_248.out
    have hms39_1 := NB278_249.out
    have hms39_2 := NB278_262.out
    refine skip_ (w1 := ?_) ?_ ?_ ?_ ?_
    rotate_left
    ·rfl
    ·rfl
    ·go_simp
     rfl
    refine hK.out _ _ ⟨((cell_far (p := ⟨gb278, _, none⟩) NB262_278.out _).trans (((cell_far (p := ⟨gb278, _, none⟩) NB262_278.out _).trans (hHeld.1)))), ((cell_far (p := ⟨gb278, _, none⟩) NB262_278.out _).trans (((cell_far (p := ⟨gb278, _, none⟩) NB262_278.out _).trans (hHeld.2))))⟩ (fun hHeld => ?_)
    clear hK K
    refine done_ (done_of HT_.out (by kernel_rfl)) ?_
    by_cases c8 : (y275.length : Int) > 0
    ·have H := HQ.out
     clear HQ
     rw [if_pos c8, if_pos (show 0 < (y275.length : Int) from c8)] at H
     have c8b0 : decide (0 < (y275.length : Int)) = true := decide_eq_true c8
     have c8b1 : decide (0 < y275.length) = true := decide_eq_true (by omega)
     clear c8
     simp only [Option.some.injEq, Prod.mk.injEq] at H
     obtain ⟨rfl, rfl, rfl, rfl, rfl⟩ := H
     have n0_ : Aside0 (Kd.R Kd.flt 33 ((w35.setCell ⟨gb278, 0, none⟩ (.slice Ao37 y269.length co37)).setCell ⟨gb278, 1, none⟩ (.slice Ao36 y275.length co36)) w.heap.size (fun k_ => N_ (.slice Ao23 t257.length co23) k_ ∧ N_ (.slice Ao37 y269.length co37) k_ ∧ N_ (.slice Ao36 y275.length co36) k_) (.slice Ao18 t254.length co18) t254) := ⟨rk (Kd.R_mono (fr2 HO256.out BK278.out (by decide) 0 (.slice Ao37 y269.length co37) 1 (.slice Ao36 y275.length co36)) (fun _ hk => hk.1))⟩
     have n1_ : Aside0 (Kd.R Kd.flt 33 ((w35.setCell ⟨gb278, 0, none⟩ (.slice Ao37 y269.length co37)).setCell ⟨gb278, 1, none⟩ (.slice Ao36 y275.length co36)) w.heap.size (fun k_ => N_ (.slice Ao18 t254.length co18) k_ ∧ N_ (.slice Ao37 y269.length co37) k_ ∧ N_ (.slice Ao36 y275.length co36) k_) (.slice Ao23 t257.length co23) t257) := ⟨rk (Kd.R_mono (fr2 HO259.out BK278.out (by decide) 0 (.slice Ao37 y269.length co37) 1 (.slice Ao36 y275.length co36)) (fun _ hk => hk.1))⟩
     have n2_ : Aside0 (Kd.R Kd.flt 33 ((w35.setCell ⟨gb278, 0, none⟩ (.slice Ao37 y269.length co37)).setCell ⟨gb278, 1, none⟩ (.slice Ao36 y275.length co36)) w.heap.size (fun k_ => N_ (.slice Ao18 t254.length co18) k_ ∧ N_ (.slice Ao23 t257.length co23) k_ ∧ N_ (.slice Ao36 y275.length co36) k_) (.slice Ao37 y269.length co37) y269) := ⟨rk (Kd.R_mono (fr2 HO271.out BK278.out (by decide) 0 (.slice Ao37 y269.length co37) 1 (.slice Ao36 y275.length co36)) (fun _ hk => hk.1))⟩
     have n3_ : Aside0 (Kd.R Kd.flt 33 ((w35.setCell ⟨gb278, 0, none⟩ (.slice Ao37 y269.length co37)).setCell ⟨gb278, 1, none⟩ (.slice Ao36 y275.length co36)) w.heap.size (fun k_ => N_ (.slice Ao18 t254.length co18) k_ ∧ N_ (.slice Ao23 t257.length co23) k_ ∧ N_ (.slice Ao37 y269.length co37) k_) (.slice Ao36 y275.length co36) y275) := ⟨rk (Kd.R_mono (fr2 HO277.out BK278.out (by decide) 0 (.slice Ao37 y269.length co37) 1 (.slice Ao36 y275.length co36)) (fun _ hk => hk.1))⟩
     have n4_ : Aside0 (((w35.setCell ⟨gb278, 0, none⟩ (.slice Ao37 y269.length co37)).setCell ⟨gb278, 1, none⟩ (.slice Ao36 y275.length co36)).heap[gb248]? = some (.cells #[.slice none 0 0, .slice none 0 0] 25 (0, 0))) := ⟨by refine pk ?_; refine blk_far ?_ NB248_278.out _; refine pk ?_; refine blk_far ?_ NB248_278.out _; refine pk ?_; exact BK248.out⟩
     have n5_ : Aside0 (((w35.setCell ⟨gb278, 0, none⟩ (.slice Ao37 y269.length co37)).setCell ⟨gb278, 1, none⟩ (.slice Ao36 y275.length co36)).heap[gb249]? = some (.cells #[.slice none 0 0, .slice none 0 0] 25 (0, 0))) := ⟨by refine pk ?_; refine blk_far ?_ NB249_278.out _; refine pk ?_; refine blk_far ?_ NB249_278.out _; refine pk ?_; exact BK249.out⟩
     have n6_ : Aside0 (((w35.setCell ⟨gb278, 0, none⟩ (.slice Ao37 y269.length co37)).setCell ⟨gb278, 1, none⟩ (.slice Ao36 y275.length co36)).heap[gb262]? = some (.cells #[.slice Ao18 t254.length co18, .slice Ao23 t257.length co23] 25 (0, 0))) := ⟨by refine pk ?_; refine blk_far ?_ NB262_278.out _; refine pk ?_; refine blk_far ?_ NB262_278.out _; refine pk ?_; exact BK262.out⟩
     have n7_ : Aside0 (((w35.setCell ⟨gb278, 0, none⟩ (.slice Ao37 y269.length co37)).setCell ⟨gb278, 1, none⟩ (.slice Ao36 y275.length co36)).heap[gb278]? = some (.cells #[.slice Ao37 y269.length co37, .slice Ao36 y275.length co36] 25 (0, 0))) := ⟨by refine pk ?_; refine blk_put (cs := #[.slice Ao37 y269.length co37, .slice none 0 0]) ?_ 1 _ rfl; refine pk ?_; refine blk_put (cs := #[.slice none 0 0, .slice none 0 0]) ?_ 0 _ rfl; refine pk ?_; exact BK278.out⟩
     have n8_ : Aside0 (IsS38 w ((w35.setCell ⟨gb278, 0, none⟩ (.slice Ao37 y269.length co37)).setCell ⟨gb278, 1, none⟩ (.slice Ao36 y275.length co36)) gb250 l0 t264 t265) := ⟨by repeat (first | (with_reducible first | exact HI250.out | apply IsS38.alloc | apply IsS38.drewN | apply IsS38.drew | apply IsS38.set_1 | apply IsS38.set_2 | refine IsS38.far ?_ NB250_248.out _ | refine IsS38.far ?_ NB250_249.out _ | refine IsS38.far ?_ NB250_262.out _ | refine IsS38.far ?_ NB250_278.out _) | exact HI250.out)⟩
     have n9_ : Aside0 (Below w.heap.size w ((w35.setCell ⟨gb278, 0, none⟩ (.slice Ao37 y269.length co37)).setCell ⟨gb278, 1, none⟩ (.slice Ao36 y275.length co36))) := ⟨by repeat (first | (with_reducible first | exact HB.out | apply below_alloc | apply pw_below_drewN | apply below_drew1 | refine below_set ?_ (IsS38.ge HI250.out) | refine below_set ?_ GE248.out | refine below_set ?_ GE249.out | refine below_set ?_ GE262.out | refine below_set ?_ GE278.out) | exact HB.out)⟩
     (try clear HO256)
     (try clear HO259)
     (try clear HO271)
     (try clear HO277)
     (try clear BK248)
     (try clear BK249)
     (try clear BK262)
     (try clear BK278)
     (try clear HI250)
     (try clear HB)
     generalize ((w35.setCell ⟨gb278, 0, none⟩ (.slice Ao37 y269.length co37)).setCell ⟨gb278, 1, none⟩ (.slice Ao36 y275.length co36)) = w40 at n0_ n1_ n2_ n3_ n4_ n5_ n6_ n7_ n8_ n9_ ⊢
     have HO256 := n0_
     have HO259 := n1_
     have HO271 := n2_
     have HO277 := n3_
     have BK248 := n4_
     have BK249 := n5_
     have BK262 := n6_
     have BK278 := n7_
     have HI250 := n8_
     have HB := n9_
     clear n0_ n1_ n2_ n3_ n4_ n5_ n6_ n7_ n8_ n9_
     have hnb41 := NB278_248.out
     have hnc41 := NB248_278.out
     have hnb42 := NB278_249.out
     have hnc42 := NB249_278.out
     have hnb43 := NB278_262.out
     have hnc43 := NB262_278.out
     have hnb44 := NB278_250.out
     have hnc44 := NB250_278.out
     have hcz45_0 : _ = some (Value.slice Ao37 y269.length co37) := (blk_cell BK278.out 0).trans rfl
     have hcz45_1 : _ = some (Value.slice Ao36 y275.length co36) := (blk_cell BK278.out 1).trans rfl
     have hfz45_0 := blk_frozen BK278.out 0
     have hfz45_1 := blk_frozen BK278.out 1
     have p279 : 0 ≤ (0 : Int) := (by omega)
     have q279 : 0 < (y275.length : Int) := of_decide_eq_true (by first | (with_reducible assumption) | assumption)
     obtain ⟨ad279, e279, hx279_0⟩ := Kd.at_flt (Kd.R_reads' HO277.out).2.2 0 p279 q279
     cases e279
     have qi279 : (0 < y275.length) = True := eq_true (by omega)
     (try rw [show ((0 : Int)).toNat = 0 from rfl] at hx279_0)
     (try rw [Addr.add_zero'] at hx279_0)
     replace p279 := eq_true p279
     replace q279 := eq_true q279
     have p11 : 0 ≤ (0 : Int) := (by omega)
     have q11 : (0 : Int) < ((y275.length : Int) : Int) := of_decide_eq_true (by first | (with_reducible assumption) | assumption)
     have qi11 : (0 < y275.length) = True := eq_true (by omega)
     obtain ⟨go11, co11, eo11, gb11, gl11, cl11, HG11⟩ := Kd.R_form HO277.out (by omega)
     (first | cases eo11 | (injection eo11 with ea_ en_ ec_; (first | subst ea_ | (injection ea_ with ea_; subst ea_)); subst ec_; clear en_))
     have GB11 := Aside0.mk gb11
     have GG11 := Aside0.mk HG11
     clear gb11 gl11 HG11
     (first | simp only [add_plain] at hx279_0 | skip)
     obtain ⟨hx11_0, hf11_0⟩ := Kd.R_celln (0 : Nat) HO277.out (0 : Int) p11 q11
     (try rw [show ((0 : Int)).toNat = 0 from rfl] at hx11_0)
     (try simp only [Nat.reduceMul, Nat.zero_mul, Nat.zero_add, Nat.reduceAdd] at hx11_0)
     (try rw [show ((0 : Int)).toNat = 0 from rfl] at hf11_0)
     (try simp only [Nat.reduceMul, Nat.zero_mul, Nat.zero_add, Nat.reduceAdd] at hf11_0)
     replace p11 := eq_true p11
     replace q11 := eq_true q11
     obtain ⟨hy46_, hz46_⟩ := Kd.R_celln (0 : Nat) HO277.out (0 : Int) (by omega) (of_decide_eq_true (by first | (with_reducible assumption) | assumption))
     (try simp only [Int.reduceToNat, Int.toNat_zero, Int.toNat_ofNat, Nat.reduceMul, Nat.zero_mul, Nat.zero_add] at hy46_ hz46_)
     (try rw [show ((0 : Int)).toNat = 0 from rfl] at hy46_)
     (try rw [show ((0 : Int)).toNat = 0 from rfl] at hz46_)
     obtain ⟨y280, hy280⟩ : ∃ y_ : List Nat, y_ = (y275.set (0 : Int).toNat (flw .add (rdOf (0 : Nat) y275 0) (4607182418800017408 : Nat) w40)) := ⟨_, rfl⟩
     have Ny280 := Aside0.mk hy280
     clear hy280
     have HP46 := Kd.R_putg (Kd.R_drewN HO277.out (fln .add (rdOf (0 : Nat) y275 0) (4607182418800017408 : Nat))) (0 : Int) (flw .add (rdOf (0 : Nat) y275 0) (4607182418800017408 : Nat) w40)
     try go_wp2_with (first | ((with_reducible refine gate_store (t := 33) (p := 36) rfl ?_); refine store_event (t := 33) (p := 36) (v := ?vo_w47) (w1 := ((w40.drewN (fln .add (rdOf (0 : Nat) y275 0) (4607182418800017408 : Nat))).setCell ⟨go11, (0 : Int).toNat, none⟩ (.float .f64 (flw .add (rdOf (0 : Nat) y275 0) (4607182418800017408 : Nat) w40)))) ?hg ?ho ?hn ?hr ?_; (case ho => rfl); (case hg => rfl); (case hn => rfl); (case hr => first | (go_simp; done) | (go_simp; rfl)); intro w47 hw; replace HO256 := a_ (Kd.R_drewN HO256.out (fln .add (rdOf (0 : Nat) y275 0) (4607182418800017408 : Nat))); replace HO259 := a_ (Kd.R_drewN HO259.out (fln .add (rdOf (0 : Nat) y275 0) (4607182418800017408 : Nat))); replace HO271 := a_ (Kd.R_drewN HO271.out (fln .add (rdOf (0 : Nat) y275 0) (4607182418800017408 : Nat))); replace HO277 := a_ (Kd.R_drewN HO277.out (fln .add (rdOf (0 : Nat) y275 0) (4607182418800017408 : Nat))); replace BK248 := a_ (blk_drewN BK248.out (fln .add (rdOf (0 : Nat) y275 0) (4607182418800017408 : Nat))); replace BK249 := a_ (blk_drewN BK249.out (fln .add (rdOf (0 : Nat) y275 0) (4607182418800017408 : Nat))); replace BK262 := a_ (blk_drewN BK262.out (fln .add (rdOf (0 : Nat) y275 0) (4607182418800017408 : Nat))); replace BK278 := a_ (blk_drewN BK278.out (fln .add (rdOf (0 : Nat) y275 0) (4607182418800017408 : Nat))); replace HI250 := a_ (IsS38.drewN HI250.out (fln .add (rdOf (0 : Nat) y275 0) (4607182418800017408 : Nat))); replace HB := a_ (pw_below_drewN HB.out (fln .add (rdOf (0 : Nat) y275 0) (4607182418800017408 : Nat))); generalize hD_ : World.drewN w40 (fln .add (rdOf (0 : Nat) y275 0) (4607182418800017408 : Nat)) = w99 at hw HP46 HO256 HO259 HO271 HO277 BK248 BK249 BK262 BK278 HI250 HB; clear hD_; have hg : w99.grownBy w47 (some go11) := (by rw [hw]; exact HP46.2); have hp_ : Kd.R Kd.flt 33 w47 w.heap.size (fun k_ => N_ (.slice Ao18 t254.length co18) k_ ∧ N_ (.slice Ao23 t257.length co23) k_ ∧ N_ (.slice Ao37 y269.length co37) k_) (.slice (some ⟨go11, 0, none⟩) y275.length co36) y280 := (by rw [hw, Ny280.out]; exact HP46.1); clear HP46; replace BK248 := a_ (blk_grown (pk BK248.out) hg (Kd.R_ne HO277.out BK248.out (by decide))); replace BK249 := a_ (blk_grown (pk BK249.out) hg (Kd.R_ne HO277.out BK249.out (by decide))); replace HI250 := a_ (IsS38.grown (show IsS38 w _ gb250 l0 t264 t265 from by repeat (first | (with_reducible first | exact HI250.out | apply IsS38.alloc | apply IsS38.drewN | apply IsS38.drew | apply IsS38.set_1 | apply IsS38.set_2 | refine IsS38.far ?_ NB250_248.out _ | refine IsS38.far ?_ NB250_249.out _ | refine IsS38.far ?_ NB250_262.out _ | refine IsS38.far ?_ NB250_278.out _) | exact HI250.out)) hg (IsS38.own_ne HI250.out HO277.out (by decide))); replace HO256 := a_ (Kd.R_after (v := (.slice (some ⟨go11, 0, none⟩) y275.length co36)) (v1 := (.slice (some ⟨go11, 0, none⟩) y275.length co36)) (ok := (fun k_ => N_ (.slice Ao23 t257.length co23) k_ ∧ N_ (.slice Ao37 y269.length co37) k_)) (rk (Kd.R_mono HO256.out (fun _ hk => ⟨⟨hk.1, hk.2.1⟩, hk.2.2⟩))) hg (.inl rfl)); replace HO259 := a_ (Kd.R_after (v := (.slice (some ⟨go11, 0, none⟩) y275.length co36)) (v1 := (.slice (some ⟨go11, 0, none⟩) y275.length co36)) (ok := (fun k_ => N_ (.slice Ao18 t254.length co18) k_ ∧ N_ (.slice Ao37 y269.length co37) k_)) (rk (Kd.R_mono HO259.out (fun _ hk => ⟨⟨hk.1, hk.2.1⟩, hk.2.2⟩))) hg (.inl rfl)); replace BK262 := a_ (blk_grown (pk BK262.out) hg (Kd.R_ne HO277.out BK262.out (by decide))); replace HO271 := a_ (Kd.R_after (v := (.slice (some ⟨go11, 0, none⟩) y275.length co36)) (v1 := (.slice (some ⟨go11, 0, none⟩) y275.length co36)) (ok := (fun k_ => N_ (.slice Ao18 t254.length co18) k_ ∧ N_ (.slice Ao23 t257.length co23) k_)) (rk (Kd.R_mono HO271.out (fun _ hk => ⟨⟨hk.1, hk.2.1⟩, hk.2.2⟩))) hg (.inl rfl)); replace BK278 := a_ (blk_grown (pk BK278.out) hg (Kd.R_ne HO277.out BK278.out (by decide))); replace HO277 := a_ (hp_); replace HB := a_ (by rw [hw]; exact below_set (HB.out) GB11.out : Below w.heap.size w w47); clear hg hw hp_))
     replace HO256 := a_ (Kd.R_drew HO256.out)
     replace HO259 := a_ (Kd.R_drew HO259.out)
     replace HO271 := a_ (Kd.R_drew HO271.out)
     replace HO277 := a_ (Kd.R_drew HO277.out)
     replace BK248 := a_ (blk_drew BK248.out)
     replace BK249 := a_ (blk_drew BK249.out)
     replace BK262 := a_ (blk_drew BK262.out)
     replace BK278 := a_ (blk_drew BK278.out)
     replace HI250 := a_ (IsS38.drew HI250.out)
     replace HB := a_ (below_drew1 HB.out)
     refine start_ (n := 4) (S := fun w' => w'.cell? ⟨gb262, 0, none⟩ = some (.slice Ao18 t254.length co18) ∧ w'.cell? ⟨gb262, 1, none⟩ = some (.slice Ao23 t257.length co23) ∧ w'.cell? ⟨gb278, 0, none⟩ = some (.slice Ao37 y269.length co37) ∧ w'.cell? ⟨gb278, 1, none⟩ = some (.slice (some ⟨go11, 0, none⟩) y275.length co36)) (ds := []) #[false, false, false, false] (by kernel_rfl) rfl rfl ⟨(blk_cell BK262.out 0).trans rfl, (blk_cell BK262.out 1).trans rfl, (blk_cell BK278.out 0).trans rfl, (blk_cell BK278.out 1).trans rfl⟩ (fun hHeld => ?_)
     generalize w47.drew = w48 at HO256 HO259 HO271 HO277 BK248 BK249 BK262 BK278 HI250 HB hHeld ⊢
     refine take_ (i := 0) (N := some 37) (v := ?_) (a' := ?_) #[true, false, false, false] rfl rfl (by kernel_rfl) (fun _ _ _ h => h) (Or.inl ⟨by rfl, ?_⟩) hHeld ?_ ?_
     rotate_left
     ·rintro w' ⟨s0, s1, s2, s3⟩
      go_simp
      with_reducible rfl
     rotate_left
     ·simp only [Act.put, sB, sC, sD, i64_w, i32_w]
      rfl
     refine take_ (i := 1) (N := some 38) (v := ?_) (a' := ?_) #[true, true, false, false] rfl rfl (by kernel_rfl) (fun _ _ _ h => h) (Or.inl ⟨by rfl, ?_⟩) hHeld ?_ ?_
     rotate_left
     ·rintro w' ⟨s0, s1, s2, s3⟩
      go_simp
      with_reducible rfl
     rotate_left
     ·simp only [Act.put, sB, sC, sD, i64_w, i32_w]
      rfl
     refine one_ (i := 2) (N := none) #[true, true, true, false] rfl rfl (by kernel_rfl) (by decide) (fun K hK => ?_)
     have hs49 : w48.cell? ⟨gb248, 0, none⟩ = some (.slice none 0 0) := (blk_cell BK248.out 0).trans rfl
     have hfs49 := blk_frozen BK248.out 0
     have hns49_1 := NB249_248.out
     have hns49_2 := NB262_248.out
     have hns49_3 := NB278_248.out
     have hms49_1 := NB248_249.out
     have hms49_2 := NB248_262.out
     have hms49_3 := NB248_278.out
     have hs50 : w48.cell? ⟨gb248, 1, none⟩ = some (.slice none 0 0) := (blk_cell BK248.out 1).trans rfl
     have hfs50 := blk_frozen BK248.out 1
     have hns50_1 := NB249_248.out
     have hns50_2 := NB262_248.out
     have hns50_3 := NB278_248.out
     have hms50_1 := NB248_249.out
     have hms50_2 := NB248_262.out
     have hms50_3 := NB248_278.out
     refine skip_ (w1 := ?_) ?_ ?_ ?_ ?_
     rotate_left
     ·rfl
     ·rfl
     ·go_simp
      rfl
     refine hK.out _ _ ⟨((cell_far (p := ⟨gb248, _, none⟩) NB262_248.out _).trans (((cell_far (p := ⟨gb248, _, none⟩) NB262_248.out _).trans (hHeld.1)))), ((cell_far (p := ⟨gb248, _, none⟩) NB262_248.out _).trans (((cell_far (p := ⟨gb248, _, none⟩) NB262_248.out _).trans (hHeld.2.1)))), ((cell_far (p := ⟨gb248, _, none⟩) NB278_248.out _).trans (((cell_far (p := ⟨gb248, _, none⟩) NB278_248.out _).trans (hHeld.2.2.1)))), ((cell_far (p := ⟨gb248, _, none⟩) NB278_248.out _).trans (((cell_far (p := ⟨gb248, _, none⟩) NB278_248.out _).trans (hHeld.2.2.2))))⟩ (fun hHeld => ?_)
     clear hK K
     refine one_ (i := 3) (N := none) #[true, true, true, true] rfl rfl (by kernel_rfl) (by decide) (fun K hK => ?_)
     have hs51 : w48.cell? ⟨gb249, 0, none⟩ = some (.slice none 0 0) := (blk_cell BK249.out 0).trans rfl
     have hfs51 := blk_frozen BK249.out 0
     have hns51_0 := NB248_249.out
     have hns51_2 := NB262_249.out
     have hns51_3 := NB278_249.out
     have hms51_0 := NB249_248.out
     have hms51_2 := NB249_262.out
     have hms51_3 := NB249_278.out
     have hs52 : w48.cell? ⟨gb249, 1, none⟩ = some (.slice none 0 0) := (blk_cell BK249.out 1).trans rfl
     have hfs52 := blk_frozen BK249.out 1
     have hns52_0 := NB248_249.out
     have hns52_2 := NB262_249.out
     have hns52_3 := NB278_249.out
     have hms52_0 := NB249_248.out
     have hms52_2 := NB249_262.out
     have hms52_3 := NB249_278.out
     refine skip_ (w1 := ?_) ?_ ?_ ?_ ?_
     rotate_left
     ·rfl
     ·rfl
     ·go_simp
      rfl
     refine hK.out _ _ ⟨((cell_far (p := ⟨gb249, _, none⟩) NB262_249.out _).trans (((cell_far (p := ⟨gb249, _, none⟩) NB262_249.out _).trans (hHeld.1)))), ((cell_far (p := ⟨gb249, _, none⟩) NB262_249.out _).trans (((cell_far (p := ⟨gb249, _, none⟩) NB262_249.out _).trans (hHeld.2.1)))), ((cell_far (p := ⟨gb249, _, none⟩) NB278_249.out _).trans (((cell_far (p := ⟨gb249, _, none⟩) NB278_249.out _).trans (hHeld.2.2.1)))), ((cell_far (p := ⟨gb249, _, none⟩) NB278_249.out _).trans (((cell_far (p := ⟨gb249, _, none⟩) NB278_249.out _).trans (hHeld.2.2.2))))⟩ (fun hHeld => ?_)
     clear hK K
     refine done_ (by kernel_rfl) ?_
     try go_wp2
     refine bodyPost_ret (results_cc rfl _ _ gb248 gb249 25 25 #[.slice Ao18 t254.length co18, .slice Ao23 t257.length co23] #[.slice Ao37 y269.length co37, .slice (some ⟨go11, 0, none⟩) y275.length co36] (0, 0) (0, 0) _ _ rfl (by refine pk ?_; refine blk_far ?_ NB248_249.out _; refine pk ?_; refine blk_far ?_ NB248_249.out _; refine pk ?_; refine blk_put (cs := #[.slice Ao18 t254.length co18, .slice none 0 0]) ?_ 1 _ rfl; refine pk ?_; refine blk_put (cs := #[.slice none 0 0, .slice none 0 0]) ?_ 0 _ rfl; refine pk ?_; exact BK248.out) Try.underlying25 rfl (by kernel_rfl) rfl (by refine pk ?_; refine blk_put (cs := #[.slice Ao37 y269.length co37, .slice none 0 0]) ?_ 1 _ rfl; refine pk ?_; refine blk_put (cs := #[.slice none 0 0, .slice none 0 0]) ?_ 0 _ rfl; refine pk ?_; refine blk_far ?_ NB249_248.out _; refine pk ?_; refine blk_far ?_ NB249_248.out _; refine pk ?_; exact BK249.out) Try.underlying25 rfl (by kernel_rfl)) rfl ?_
     exact ⟨_, ⟨(flw .add (rdOf (0 : Nat) y275 0) (4607182418800017408 : Nat) w40), Flo.flw_lt (by simp) _ _ _, Ny280.out⟩, _, _, _, _, by first | rfl | (simp [errW_none, errW_some] <;> rfl) | (simp [*, errW_none, errW_some] <;> rfl), by refine rk ?_; exact Kd.R_mono (Kd.R_far (p := ⟨gb249, 1, none⟩) (Kd.R_far (p := ⟨gb249, 0, none⟩) (Kd.R_far (p := ⟨gb248, 1, none⟩) (Kd.R_far (p := ⟨gb248, 0, none⟩) (Kd.R_types (Kd.R_types HO256.out BK248.out (by decide)) BK249.out (by decide)) (fun _ hk => hk.1.2) (.slice Ao18 t254.length co18)) (fun _ hk => hk.1.2) (.slice Ao23 t257.length co23)) (fun _ hk => hk.2) (.slice Ao37 y269.length co37)) (fun _ hk => hk.2) (.slice (some ⟨go11, 0, none⟩) y275.length co36)) (fun _ hk => ⟨hk.1.1.1.1, hk.1.1.1.2, hk.1.1.2⟩), by refine rk ?_; exact Kd.R_mono (Kd.R_far (p := ⟨gb249, 1, none⟩) (Kd.R_far (p := ⟨gb249, 0, none⟩) (Kd.R_far (p := ⟨gb248, 1, none⟩) (Kd.R_far (p := ⟨gb248, 0, none⟩) (Kd.R_types (Kd.R_types HO259.out BK248.out (by decide)) BK249.out (by decide)) (fun _ hk => hk.1.2) (.slice Ao18 t254.length co18)) (fun _ hk => hk.1.2) (.slice Ao23 t257.length co23)) (fun _ hk => hk.2) (.slice Ao37 y269.length co37)) (fun _ hk => hk.2) (.slice (some ⟨go11, 0, none⟩) y275.length co36)) (fun _ hk => ⟨hk.1.1.1.1, hk.1.1.1.2, hk.1.1.2⟩), by refine rk ?_; exact Kd.R_mono (Kd.R_far (p := ⟨gb249, 1, none⟩) (Kd.R_far (p := ⟨gb249, 0, none⟩) (Kd.R_far (p := ⟨gb248, 1, none⟩) (Kd.R_far (p := ⟨gb248, 0, none⟩) (Kd.R_types (Kd.R_types HO271.out BK248.out (by decide)) BK249.out (by decide)) (fun _ hk => hk.1.2) (.slice Ao18 t254.length co18)) (fun _ hk => hk.1.2) (.slice Ao23 t257.length co23)) (fun _ hk => hk.2) (.slice Ao37 y269.length co37)) (fun _ hk => hk.2) (.slice (some ⟨go11, 0, none⟩) y275.length co36)) (fun _ hk => ⟨hk.1.1.1.1, hk.1.1.1.2, hk.1.1.2⟩), by refine rk ?_; exact Kd.R_mono (Kd.R_far (p := ⟨gb249, 1, none⟩) (Kd.R_far (p := ⟨gb249, 0, none⟩) (Kd.R_far (p := ⟨gb248, 1, none⟩) (Kd.R_far (p := ⟨gb248, 0, none⟩) (Kd.R_types (Kd.R_types HO277.out BK248.out (by decide)) BK249.out (by decide)) (fun _ hk => hk.1.2) (.slice Ao18 t254.length co18)) (fun _ hk => hk.1.2) (.slice Ao23 t257.length co23)) (fun _ hk => hk.2) (.slice Ao37 y269.length co37)) (fun _ hk => hk.2) (.slice (some ⟨go11, 0, none⟩) y275.length co36)) (fun _ hk => hk.1.1), by repeat (first | (with_reducible first | exact HB.out | apply below_alloc | apply pw_below_drewN | apply below_drew1 | refine below_set ?_ (IsS38.ge HI250.out) | refine below_set ?_ GE248.out | refine below_set ?_ GE249.out | refine below_set ?_ GE262.out | refine below_set ?_ GE278.out) | exact HB.out)⟩
    ·have H := HQ.out
     clear HQ
     rw [if_neg c8] at H
     have c8b0 : decide (0 < (y275.length : Int)) = false := decide_eq_false c8
     have c8b1 : decide (0 < y275.length) = false := decide_eq_false (by omega)
     clear c8
     simp only [Option.some.injEq, Prod.mk.injEq] at H
     obtain ⟨rfl, rfl, rfl, rfl, rfl⟩ := H
     have hnb81 := NB278_248.out
     have hnc81 := NB248_278.out
     have hnb82 := NB278_249.out
     have hnc82 := NB249_278.out
     have hnb83 := NB278_262.out
     have hnc83 := NB262_278.out
     have hnb84 := NB278_250.out
     have hnc84 := NB250_278.out
     have hcz85_0 : _ = some (Value.slice none 0 0) := (blk_cell BK278.out 0).trans rfl
     have hcz85_1 : _ = some (Value.slice none 0 0) := (blk_cell BK278.out 1).trans rfl
     have hfz85_0 := blk_frozen BK278.out 0
     have hfz85_1 := blk_frozen BK278.out 1
     try go_wp2
     have n0_ : Aside0 (Kd.R Kd.flt 33 ((w35.setCell ⟨gb278, 0, none⟩ (.slice Ao37 y269.length co37)).setCell ⟨gb278, 1, none⟩ (.slice Ao36 y275.length co36)) w.heap.size (fun k_ => N_ (.slice Ao23 t257.length co23) k_ ∧ N_ (.slice Ao37 y269.length co37) k_ ∧ N_ (.slice Ao36 y275.length co36) k_) (.slice Ao18 t254.length co18) t254) := ⟨rk (Kd.R_mono (fr2 HO256.out BK278.out (by decide) 0 (.slice Ao37 y269.length co37) 1 (.slice Ao36 y275.length co36)) (fun _ hk => hk.1))⟩
     have n1_ : Aside0 (Kd.R Kd.flt 33 ((w35.setCell ⟨gb278, 0, none⟩ (.slice Ao37 y269.length co37)).setCell ⟨gb278, 1, none⟩ (.slice Ao36 y275.length co36)) w.heap.size (fun k_ => N_ (.slice Ao18 t254.length co18) k_ ∧ N_ (.slice Ao37 y269.length co37) k_ ∧ N_ (.slice Ao36 y275.length co36) k_) (.slice Ao23 t257.length co23) t257) := ⟨rk (Kd.R_mono (fr2 HO259.out BK278.out (by decide) 0 (.slice Ao37 y269.length co37) 1 (.slice Ao36 y275.length co36)) (fun _ hk => hk.1))⟩
     have n2_ : Aside0 (Kd.R Kd.flt 33 ((w35.setCell ⟨gb278, 0, none⟩ (.slice Ao37 y269.length co37)).setCell ⟨gb278, 1, none⟩ (.slice Ao36 y275.length co36)) w.heap.size (fun k_ => N_ (.slice Ao18 t254.length co18) k_ ∧ N_ (.slice Ao23 t257.length co23) k_ ∧ N_ (.slice Ao36 y275.length co36) k_) (.slice Ao37 y269.length co37) y269) := ⟨rk (Kd.R_mono (fr2 HO271.out BK278.out (by decide) 0 (.slice Ao37 y269.length co37) 1 (.slice Ao36 y275.length co36)) (fun _ hk => hk.1))⟩
     have n3_ : Aside0 (Kd.R Kd.flt 33 ((w35.setCell ⟨gb278, 0, none⟩ (.slice Ao37 y269.length co37)).setCell ⟨gb278, 1, none⟩ (.slice Ao36 y275.length co36)) w.heap.size (fun k_ => N_ (.slice Ao18 t254.length co18) k_ ∧ N_ (.slice Ao23 t257.length co23) k_ ∧ N_ (.slice Ao37 y269.length co37) k_) (.slice Ao36 y275.length co36) y275) := ⟨rk (Kd.R_mono (fr2 HO277.out BK278.out (by decide) 0 (.slice Ao37 y269.length co37) 1 (.slice Ao36 y275.length co36)) (fun _ hk => hk.1))⟩
     have n4_ : Aside0 (((w35.setCell ⟨gb278, 0, none⟩ (.slice Ao37 y269.length co37)).setCell ⟨gb278, 1, none⟩ (.slice Ao36 y275.length co36)).heap[gb248]? = some (.cells #[.slice none 0 0, .slice none 0 0] 25 (0, 0))) := ⟨by refine pk ?_; refine blk_far ?_ NB248_278.out _; refine pk ?_; refine blk_far ?_ NB248_278.out _; refine pk ?_; exact BK248.out⟩
     have n5_ : Aside0 (((w35.setCell ⟨gb278, 0, none⟩ (.slice Ao37 y269.length co37)).setCell ⟨gb278, 1, none⟩ (.slice Ao36 y275.length co36)).heap[gb249]? = some (.cells #[.slice none 0 0, .slice none 0 0] 25 (0, 0))) := ⟨by refine pk ?_; refine blk_far ?_ NB249_278.out _; refine pk ?_; refine blk_far ?_ NB249_278.out _; refine pk ?_; exact BK249.out⟩
     have n6_ : Aside0 (((w35.setCell ⟨gb278, 0, none⟩ (.slice Ao37 y269.length co37)).setCell ⟨gb278, 1, none⟩ (.slice Ao36 y275.length co36)).heap[gb262]? = some (.cells #[.slice Ao18 t254.length co18, .slice Ao23 t257.length co23] 25 (0, 0))) := ⟨by refine pk ?_; refine blk_far ?_ NB262_278.out _; refine pk ?_; refine blk_far ?_ NB262_278.out _; refine pk ?_; exact BK262.out⟩
     have n7_ : Aside0 (((w35.setCell ⟨gb278, 0, none⟩ (.slice Ao37 y269.length co37)).setCell ⟨gb278, 1, none⟩ (.slice Ao36 y275.length co36)).heap[gb278]? = some (.cells #[.slice Ao37 y269.length co37, .slice Ao36 y275.length co36] 25 (0, 0))) := ⟨by refine pk ?_; refine blk_put (cs := #[.slice Ao37 y269.length co37, .slice none 0 0]) ?_ 1 _ rfl; refine pk ?_; refine blk_put (cs := #[.slice none 0 0, .slice none 0 0]) ?_ 0 _ rfl; refine pk ?_; exact BK278.out⟩
     have n8_ : Aside0 (IsS38 w ((w35.setCell ⟨gb278, 0, none⟩ (.slice Ao37 y269.length co37)).setCell ⟨gb278, 1, none⟩ (.slice Ao36 y275.length co36)) gb250 l0 t264 t265) := ⟨by repeat (first | (with_reducible first | exact HI250.out | apply IsS38.alloc | apply IsS38.drewN | apply IsS38.drew | apply IsS38.set_1 | apply IsS38.set_2 | refine IsS38.far ?_ NB250_248.out _ | refine IsS38.far ?_ NB250_249.out _ | refine IsS38.far ?_ NB250_262.out _ | refine IsS38.far ?_ NB250_278.out _) | exact HI250.out)⟩
     have n9_ : Aside0 (Below w.heap.size w ((w35.setCell ⟨gb278, 0, none⟩ (.slice Ao37 y269.length co37)).setCell ⟨gb278, 1, none⟩ (.slice Ao36 y275.length co36))) := ⟨by repeat (first | (with_reducible first | exact HB.out | apply below_alloc | apply pw_below_drewN | apply below_drew1 | refine below_set ?_ (IsS38.ge HI250.out) | refine below_set ?_ GE248.out | refine below_set ?_ GE249.out | refine below_set ?_ GE262.out | refine below_set ?_ GE278.out) | exact HB.out)⟩
     (try clear HO256)
     (try clear HO259)
     (try clear HO271)
     (try clear HO277)
     (try clear BK248)
     (try clear BK249)
     (try clear BK262)
     (try clear BK278)
     (try clear HI250)
     (try clear HB)
     generalize ((w35.setCell ⟨gb278, 0, none⟩ (.slice Ao37 y269.length co37)).setCell ⟨gb278, 1, none⟩ (.slice Ao36 y275.length co36)) = w86 at n0_ n1_ n2_ n3_ n4_ n5_ n6_ n7_ n8_ n9_ ⊢
     have HO256 := n0_
     have HO259 := n1_
     have HO271 := n2_
     have HO277 := n3_
     have BK248 := n4_
     have BK249 := n5_
     have BK262 := n6_
     have BK278 := n7_
     have HI250 := n8_
     have HB := n9_
     clear n0_ n1_ n2_ n3_ n4_ n5_ n6_ n7_ n8_ n9_
     replace HO256 := a_ (Kd.R_drew HO256.out)
     replace HO259 := a_ (Kd.R_drew HO259.out)
     replace HO271 := a_ (Kd.R_drew HO271.out)
     replace HO277 := a_ (Kd.R_drew HO277.out)
     replace BK248 := a_ (blk_drew BK248.out)
     replace BK249 := a_ (blk_drew BK249.out)
     replace BK262 := a_ (blk_drew BK262.out)
     replace BK278 := a_ (blk_drew BK278.out)
     replace HI250 := a_ (IsS38.drew HI250.out)
     replace HB := a_ (below_drew1 HB.out)
     refine start_ (n := 4) (S := fun w' => w'.cell? ⟨gb262, 0, none⟩ = some (.slice Ao18 t254.length co18) ∧ w'.cell? ⟨gb262, 1, none⟩ = some (.slice Ao23 t257.length co23) ∧ w'.cell? ⟨gb278, 0, none⟩ = some (.slice Ao37 y269.length co37) ∧ w'.cell? ⟨gb278, 1, none⟩ = some (.slice Ao36 y275.length co36)) (ds := []) #[false, false, false, false] (by kernel_rfl) rfl rfl ⟨(blk_cell BK262.out 0).trans rfl, (blk_cell BK262.out 1).trans rfl, (blk_cell BK278.out 0).trans rfl, (blk_cell BK278.out 1).trans rfl⟩ (fun hHeld => ?_)
     generalize w86.drew = w87 at HO256 HO259 HO271 HO277 BK248 BK249 BK262 BK278 HI250 HB hHeld ⊢
     refine take_ (i := 0) (N := some 37) (v := ?_) (a' := ?_) #[true, false, false, false] rfl rfl (by kernel_rfl) (fun _ _ _ h => h) (Or.inl ⟨by rfl, ?_⟩) hHeld ?_ ?_
     rotate_left
     ·rintro w' ⟨s0, s1, s2, s3⟩
      go_simp
      with_reducible rfl
     rotate_left
     ·simp only [Act.put, sB, sC, sD, i64_w, i32_w]
      rfl
     refine take_ (i := 1) (N := some 38) (v := ?_) (a' := ?_) #[true, true, false, false] rfl rfl (by kernel_rfl) (fun _ _ _ h => h) (Or.inl ⟨by rfl, ?_⟩) hHeld ?_ ?_
     rotate_left
     ·rintro w' ⟨s0, s1, s2, s3⟩
      go_simp
      with_reducible rfl
     rotate_left
     ·simp only [Act.put, sB, sC, sD, i64_w, i32_w]
      rfl
     refine one_ (i := 2) (N := none) #[true, true, true, false] rfl rfl (by kernel_rfl) (by decide) (fun K hK => ?_)
     have hs88 : w87.cell? ⟨gb248, 0, none⟩ = some (.slice none 0 0) := (blk_cell BK248.out 0).trans rfl
     have hfs88 := blk_frozen BK248.out 0
     have hns88_1 := NB249_248.out
     have hns88_2 := NB262_248.out
     have hns88_3 := NB278_248.out
     have hms88_1 := NB248_249.out
     have hms88_2 := NB248_262.out
     have hms88_3 := NB248_278.out
     have hs89 : w87.cell? ⟨gb248, 1, none⟩ = some (.slice none 0 0) := (blk_cell BK248.out 1).trans rfl
     have hfs89 := blk_frozen BK248.out 1
     have hns89_1 := NB249_248.out
     have hns89_2 := NB262_248.out
     have hns89_3 := NB278_248.out
     have hms89_1 := NB248_249.out
     have hms89_2 := NB248_262.out
     have hms89_3 := NB248_278.out
     refine skip_ (w1 := ?_) ?_ ?_ ?_ ?_
     rotate_left
     ·rfl
     ·rfl
     ·go_simp
      rfl
     refine hK.out _ _ ⟨((cell_far (p := ⟨gb248, _, none⟩) NB262_248.out _).trans (((cell_far (p := ⟨gb248, _, none⟩) NB262_248.out _).trans (hHeld.1)))), ((cell_far (p := ⟨gb248, _, none⟩) NB262_248.out _).trans (((cell_far (p := ⟨gb248, _, none⟩) NB262_248.out _).trans (hHeld.2.1)))), ((cell_far (p := ⟨gb248, _, none⟩) NB278_248.out _).trans (((cell_far (p := ⟨gb248, _, none⟩) NB278_248.out _).trans (hHeld.2.2.1)))), ((cell_far (p := ⟨gb248, _, none⟩) NB278_248.out _).trans (((cell_far (p := ⟨gb248, _, none⟩) NB278_248.out _).trans (hHeld.2.2.2))))⟩ (fun hHeld => ?_)
     clear hK K
     refine one_ (i := 3) (N := none) #[true, true, true, true] rfl rfl (by kernel_rfl) (by decide) (fun K hK => ?_)
     have hs90 : w87.cell? ⟨gb249, 0, none⟩ = some (.slice none 0 0) := (blk_cell BK249.out 0).trans rfl
     have hfs90 := blk_frozen BK249.out 0
     have hns90_0 := NB248_249.out
     have hns90_2 := NB262_249.out
     have hns90_3 := NB278_249.out
     have hms90_0 := NB249_248.out
     have hms90_2 := NB249_262.out
     have hms90_3 := NB249_278.out
     have hs91 : w87.cell? ⟨gb249, 1, none⟩ = some (.slice none 0 0) := (blk_cell BK249.out 1).trans rfl
     have hfs91 := blk_frozen BK249.out 1
     have hns91_0 := NB248_249.out
     have hns91_2 := NB262_249.out
     have hns91_3 := NB278_249.out
     have hms91_0 := NB249_248.out
     have hms91_2 := NB249_262.out
     have hms91_3 := NB249_278.out
     refine skip_ (w1 := ?_) ?_ ?_ ?_ ?_
     rotate_left
     ·rfl
     ·rfl
     ·go_simp
      rfl
     refine hK.out _ _ ⟨((cell_far (p := ⟨gb249, _, none⟩) NB262_249.out _).trans (((cell_far (p := ⟨gb249, _, none⟩) NB262_249.out _).trans (hHeld.1)))), ((cell_far (p := ⟨gb249, _, none⟩) NB262_249.out _).trans (((cell_far (p := ⟨gb249, _, none⟩) NB262_249.out _).trans (hHeld.2.1)))), ((cell_far (p := ⟨gb249, _, none⟩) NB278_249.out _).trans (((cell_far (p := ⟨gb249, _, none⟩) NB278_249.out _).trans (hHeld.2.2.1)))), ((cell_far (p := ⟨gb249, _, none⟩) NB278_249.out _).trans (((cell_far (p := ⟨gb249, _, none⟩) NB278_249.out _).trans (hHeld.2.2.2))))⟩ (fun hHeld => ?_)
     clear hK K
     refine done_ (by kernel_rfl) ?_
     try go_wp2
     refine bodyPost_ret (results_cc rfl _ _ gb248 gb249 25 25 #[.slice Ao18 t254.length co18, .slice Ao23 t257.length co23] #[.slice Ao37 y269.length co37, .slice Ao36 y275.length co36] (0, 0) (0, 0) _ _ rfl (by refine pk ?_; refine blk_far ?_ NB248_249.out _; refine pk ?_; refine blk_far ?_ NB248_249.out _; refine pk ?_; refine blk_put (cs := #[.slice Ao18 t254.length co18, .slice none 0 0]) ?_ 1 _ rfl; refine pk ?_; refine blk_put (cs := #[.slice none 0 0, .slice none 0 0]) ?_ 0 _ rfl; refine pk ?_; exact BK248.out) Try.underlying25 rfl (by kernel_rfl) rfl (by refine pk ?_; refine blk_put (cs := #[.slice Ao37 y269.length co37, .slice none 0 0]) ?_ 1 _ rfl; refine pk ?_; refine blk_put (cs := #[.slice none 0 0, .slice none 0 0]) ?_ 0 _ rfl; refine pk ?_; refine blk_far ?_ NB249_248.out _; refine pk ?_; refine blk_far ?_ NB249_248.out _; refine pk ?_; exact BK249.out) Try.underlying25 rfl (by kernel_rfl)) rfl ?_
     exact ⟨_, rfl, _, _, _, _, by first | rfl | (simp [errW_none, errW_some] <;> rfl) | (simp [*, errW_none, errW_some] <;> rfl), by refine rk ?_; exact Kd.R_mono (Kd.R_far (p := ⟨gb249, 1, none⟩) (Kd.R_far (p := ⟨gb249, 0, none⟩) (Kd.R_far (p := ⟨gb248, 1, none⟩) (Kd.R_far (p := ⟨gb248, 0, none⟩) (Kd.R_types (Kd.R_types HO256.out BK248.out (by decide)) BK249.out (by decide)) (fun _ hk => hk.1.2) (.slice Ao18 t254.length co18)) (fun _ hk => hk.1.2) (.slice Ao23 t257.length co23)) (fun _ hk => hk.2) (.slice Ao37 y269.length co37)) (fun _ hk => hk.2) (.slice Ao36 y275.length co36)) (fun _ hk => hk.1.1), by refine rk ?_; exact Kd.R_mono (Kd.R_far (p := ⟨gb249, 1, none⟩) (Kd.R_far (p := ⟨gb249, 0, none⟩) (Kd.R_far (p := ⟨gb248, 1, none⟩) (Kd.R_far (p := ⟨gb248, 0, none⟩) (Kd.R_types (Kd.R_types HO259.out BK248.out (by decide)) BK249.out (by decide)) (fun _ hk => hk.1.2) (.slice Ao18 t254.length co18)) (fun _ hk => hk.1.2) (.slice Ao23 t257.length co23)) (fun _ hk => hk.2) (.slice Ao37 y269.length co37)) (fun _ hk => hk.2) (.slice Ao36 y275.length co36)) (fun _ hk => hk.1.1), by refine rk ?_; exact Kd.R_mono (Kd.R_far (p := ⟨gb249, 1, none⟩) (Kd.R_far (p := ⟨gb249, 0, none⟩) (Kd.R_far (p := ⟨gb248, 1, none⟩) (Kd.R_far (p := ⟨gb248, 0, none⟩) (Kd.R_types (Kd.R_types HO271.out BK248.out (by decide)) BK249.out (by decide)) (fun _ hk => hk.1.2) (.slice Ao18 t254.length co18)) (fun _ hk => hk.1.2) (.slice Ao23 t257.length co23)) (fun _ hk => hk.2) (.slice Ao37 y269.length co37)) (fun _ hk => hk.2) (.slice Ao36 y275.length co36)) (fun _ hk => hk.1.1), by refine rk ?_; exact Kd.R_mono (Kd.R_far (p := ⟨gb249, 1, none⟩) (Kd.R_far (p := ⟨gb249, 0, none⟩) (Kd.R_far (p := ⟨gb248, 1, none⟩) (Kd.R_far (p := ⟨gb248, 0, none⟩) (Kd.R_types (Kd.R_types HO277.out BK248.out (by decide)) BK249.out (by decide)) (fun _ hk => hk.1.2) (.slice Ao18 t254.length co18)) (fun _ hk => hk.1.2) (.slice Ao23 t257.length co23)) (fun _ hk => hk.2) (.slice Ao37 y269.length co37)) (fun _ hk => hk.2) (.slice Ao36 y275.length co36)) (fun _ hk => hk.1.1), by repeat (first | (with_reducible first | exact HB.out | apply below_alloc | apply pw_below_drewN | apply below_drew1 | refine below_set ?_ (IsS38.ge HI250.out) | refine below_set ?_ GE248.out | refine below_set ?_ GE249.out | refine below_set ?_ GE262.out | refine below_set ?_ GE278.out) | exact HB.out)⟩
   ·rw [if_neg c7] at H
    exact absurd H (by simp)
  ·rw [if_neg c6] at H
   exact absurd H (by simp)
 ·replace c5 := Bool.eq_false_iff.mpr c5
  subst c5
  have H1 : ((spec_l1Cur_one.f l0 t264 t265 20).bind fun bt281 => (if bt281.1 = true then ((spec_l1Cur_box.f k l0 bt281.2.1 bt281.2.2 (wrap64 (t251 + 1))).bind fun bt284 => (some (t254, t257, bt284.1, bt284.2.1, false))) else ((spec_l1Cur_box.f k l0 bt281.2.1 bt281.2.2 t251).bind fun bt292 => (some (t254, t257, bt292.1, bt292.2.1, false))))) = some (r1, r2, r3, r4, inc) := by rw [if_neg (show ¬ (false = true) by decide)] at H; exact H
  clear H
  have H := H1
  clear H1
  replace H := Option.bind_eq_some_iff.mp H
  obtain ⟨⟨t281, t282, t283⟩, A920, H⟩ := H
  replace H : (if t281 = true then ((spec_l1Cur_box.f k l0 t282 t283 (wrap64 (t251 + 1))).bind fun bt284 => (some (t254, t257, bt284.1, bt284.2.1, false))) else ((spec_l1Cur_box.f k l0 t282 t283 t251).bind fun bt292 => (some (t254, t257, bt292.1, bt292.2.1, false)))) = some (r1, r2, r3, r4, inc) := H
  have A92 := Aside0.mk A920
  clear A920
  by_cases c93 : t281 = true
  ·subst c93
   have H1 : ((spec_l1Cur_box.f k l0 t282 t283 (wrap64 (t251 + 1))).bind fun bt284 => (some (t254, t257, bt284.1, bt284.2.1, false))) = some (r1, r2, r3, r4, inc) := by rw [if_pos rfl] at H; exact H
   clear H
   have H := H1
   clear H1
   replace H := Option.bind_eq_some_iff.mp H
   obtain ⟨⟨t284, t287, t290, t291⟩, A940, H⟩ := H
   replace H : (some (t254, t257, t284, t287, false)) = some (r1, r2, r3, r4, inc) := H
   have A94 := Aside0.mk A940
   clear A940
   simp only [Option.some.injEq, Prod.mk.injEq] at H
   obtain ⟨rfl, rfl, rfl, rfl, rfl⟩ := H
   go_enter Try.func11, Try.ntmps11
   try go_wp2_with (first | ((with_reducible refine gate_dst (N := 2) rfl ?_); refine box_event ?hg (N := 2) ?hd (cs := #[.slice none 0 0, .slice none 0 0]) (t := 25) ?hr ?_; (case hd => rfl); (case hg => rfl); (case hr => first | (go_simp; done) | (go_simp; rfl)); intro gb248 hg w95 hbox hb; have BK248 := a_ (hbox); have GW248 := a_ (bsg hg HB.out); have GE248 := a_ (bsg hg HB.out); replace HB := a_ (below_step (un HB.out) hb); clear hb hbox hg) | ((with_reducible refine gate_dst (N := 3) rfl ?_); refine box_event ?hg (N := 3) ?hd (cs := #[.slice none 0 0, .slice none 0 0]) (t := 25) ?hr ?_; (case hd => rfl); (case hg => rfl); (case hr => first | (go_simp; done) | (go_simp; rfl)); intro gb249 hg w96 hbox hb; have BK249 := a_ (hbox); have GW249 := a_ (bsg hg HB.out); have GE249 := a_ (bsg hg HB.out); replace HB := a_ (below_step (by repeat (with_reducible first | exact HB.out | refine bz ?_ (by assumption) | apply bA | apply bN | apply bD)) hb); have NB248_249 := a_ (nel hg BK248.out); have NB249_248 := a_ (nle hg BK248.out); replace BK248 := a_ (blk_below (pk BK248.out) hb); clear hb hbox hg) | ((with_reducible refine gate_dst (N := 10) rfl ?_); refine box_event ?hg (N := 10) ?hd (cs := #[.slice A0 l0.length c0, .int .i64 0, .int .u64 0]) (t := 38) ?hr ?_; (case hd => rfl); (case hg => rfl); (case hr => first | (go_simp; done) | (go_simp; rfl)); intro gb250 hg w97 hbox hb; have GW250 := a_ (bsg hg HB.out); have GE250 := a_ (bsg hg HB.out); have NB248_250 := a_ (nel hg BK248.out); have NB250_248 := a_ (nle hg BK248.out); replace BK248 := a_ (blk_below (pk BK248.out) hb); have NB249_250 := a_ (nel hg BK249.out); have NB250_249 := a_ (nle hg BK249.out); replace BK249 := a_ (blk_below (pk BK249.out) hb); have HI250 := a_ (show IsS38 w w97 gb250 l0 0 0 from ⟨_, _, hbox, (by rw [hg]; exact (below_size (by repeat (with_reducible first | exact HB.out | refine bz ?_ (by assumption) | apply bA | apply bN | apply bD))) : w.heap.size ≤ gb250), HR0.out⟩); replace HB := a_ (below_step (by repeat (with_reducible first | exact HB.out | refine bz ?_ (by assumption) | apply bA | apply bN | apply bD)) hb); clear hb hbox hg) | ((with_reducible refine gate_callee (f := 15) rfl ?_); refine goesL_ (some 12) rfl rfl Try.func15 (by kernel_rfl) rfl #[.pointer (some ⟨gb250, 0, none⟩)] rfl (by (try simp only [lA, lB, lC]); first | done | rfl | (simp only [lD, lE]; rfl)) ?_; (with_reducible refine (spec_l1Cur_dim.calls gb250 l0 0 0 t251 t252 t253 w _ ?side1 ?side2 A2.out).mono ?_); (case side1 => repeat (first | (with_reducible first | exact HI250.out | apply IsS38.alloc | apply IsS38.drewN | apply IsS38.drew | apply IsS38.set_1 | apply IsS38.set_2 | refine IsS38.far ?_ NB250_248.out _ | refine IsS38.far ?_ NB250_249.out _) | exact HI250.out)); (case side2 => repeat (first | (with_reducible first | exact HB.out | apply below_alloc | apply pw_below_drewN | apply below_drew1 | refine below_set ?_ (IsS38.ge HI250.out) | refine below_set ?_ GE248.out | refine below_set ?_ GE249.out) | exact HB.out)); rintro e w98 ⟨rfl, hi, hb, hk⟩; refine ⟨_, rfl, ?_⟩; replace BK248 := a_ (KeepBut.blk hk (g' := gb248) (o := .cells #[.slice none 0 0, .slice none 0 0] 25 (0, 0)) (pk BK248.out) NB248_250.out (by simp)); replace BK249 := a_ (KeepBut.blk hk (g' := gb249) (o := .cells #[.slice none 0 0, .slice none 0 0] 25 (0, 0)) (pk BK249.out) NB249_250.out (by simp)); replace HB := a_ (hb); replace HI250 := a_ (hi); clear hb hk hi) | ((with_reducible refine gate_callee (f := 16) rfl ?_); refine goesL_ (some 15) rfl rfl Try.func16 (by kernel_rfl) rfl #[.pointer (some ⟨gb250, 0, none⟩), .int .i64 t251] rfl (by (try simp only [lA, lB, lC]); first | done | rfl | (simp only [lD, lE]; rfl)) ?_; (with_reducible refine (spec_l1Cur_box.calls k gb250 l0 t252 t253 t251 t254 t257 t260 t261 w _ ?side1 ?side2 A3.out).mono ?_); (case side1 => repeat (first | (with_reducible first | exact HI250.out | apply IsS38.alloc | apply IsS38.drewN | apply IsS38.drew | apply IsS38.set_1 | apply IsS38.set_2 | refine IsS38.far ?_ NB250_248.out _ | refine IsS38.far ?_ NB250_249.out _) | exact HI250.out)); (case side2 => repeat (first | (with_reducible first | exact HB.out | apply below_alloc | apply pw_below_drewN | apply below_drew1 | refine below_set ?_ (IsS38.ge HI250.out) | refine below_set ?_ GE248.out | refine below_set ?_ GE249.out) | exact HB.out)); rintro e w99 ⟨v255, v258, rfl, ho0, ho1, hi, hb, hk⟩; refine ⟨_, rfl, ?_⟩; replace BK248 := a_ (KeepBut.blk hk (g' := gb248) (o := .cells #[.slice none 0 0, .slice none 0 0] 25 (0, 0)) (pk BK248.out) NB248_250.out (by simp)); replace BK249 := a_ (KeepBut.blk hk (g' := gb249) (o := .cells #[.slice none 0 0, .slice none 0 0] 25 (0, 0)) (pk BK249.out) NB249_250.out (by simp)); have HO256 := a_ (Kd.R_lower ho0 (below_size (by repeat (first | (with_reducible first | exact HB.out | apply below_alloc | apply pw_below_drewN | apply below_drew1 | refine below_set ?_ (IsS38.ge HI250.out) | refine below_set ?_ GE248.out | refine below_set ?_ GE249.out) | exact HB.out)))); have HO259 := a_ (Kd.R_lower ho1 (below_size (by repeat (first | (with_reducible first | exact HB.out | apply below_alloc | apply pw_below_drewN | apply below_drew1 | refine below_set ?_ (IsS38.ge HI250.out) | refine below_set ?_ GE248.out | refine below_set ?_ GE249.out) | exact HB.out)))); replace HB := a_ (hb); replace HI250 := a_ (hi); clear hb hk hi ho0 ho1) | ((with_reducible refine gate_dst (N := 6) rfl ?_); refine box_event ?hg (N := 6) ?hd (cs := #[.slice none 0 0, .slice none 0 0]) (t := 25) ?hr ?_; (case hd => rfl); (case hg => rfl); (case hr => first | (go_simp; done) | (go_simp; rfl)); intro gb262 hg w100 hbox hb; replace HO256 := a_ (Kd.R_below (rk HO256.out) hb); replace HO259 := a_ (Kd.R_below (rk HO259.out) hb); have BK262 := a_ (hbox); have GW262 := a_ (by rw [hg]; exact (below_size (by repeat (first | (with_reducible first | exact HB.out | apply below_alloc | apply pw_below_drewN | apply below_drew1 | refine below_set ?_ (IsS38.ge HI250.out) | refine below_set ?_ GE248.out | refine below_set ?_ GE249.out) | exact HB.out))) : w.heap.size ≤ gb262); have GE262 := a_ (by rw [hg]; exact (below_size (by repeat (first | (with_reducible first | exact HB.out | apply below_alloc | apply pw_below_drewN | apply below_drew1 | refine below_set ?_ (IsS38.ge HI250.out) | refine below_set ?_ GE248.out | refine below_set ?_ GE249.out) | exact HB.out))) : w.heap.size ≤ gb262); replace HB := a_ (below_step (by repeat (first | (with_reducible first | exact HB.out | apply below_alloc | apply pw_below_drewN | apply below_drew1 | refine below_set ?_ (IsS38.ge HI250.out) | refine below_set ?_ GE248.out | refine below_set ?_ GE249.out) | exact HB.out)) hb); have NB248_262 := a_ (nel hg BK248.out); have NB262_248 := a_ (nle hg BK248.out); replace BK248 := a_ (blk_below (pk BK248.out) hb); have NB249_262 := a_ (nel hg BK249.out); have NB262_249 := a_ (nle hg BK249.out); replace BK249 := a_ (blk_below (pk BK249.out) hb); have NB250_262 := a_ (by rw [hg]; exact Nat.ne_of_lt (IsS38.lt (show IsS38 w _ gb250 l0 t260 t261 from by repeat (first | (with_reducible first | exact HI250.out | apply IsS38.alloc | apply IsS38.drewN | apply IsS38.drew | apply IsS38.set_1 | apply IsS38.set_2 | refine IsS38.far ?_ NB250_248.out _ | refine IsS38.far ?_ NB250_249.out _) | exact HI250.out))) : gb250 ≠ gb262); have NB262_250 := a_ (by rw [hg]; exact Nat.ne_of_gt (IsS38.lt (show IsS38 w _ gb250 l0 t260 t261 from by repeat (first | (with_reducible first | exact HI250.out | apply IsS38.alloc | apply IsS38.drewN | apply IsS38.drew | apply IsS38.set_1 | apply IsS38.set_2 | refine IsS38.far ?_ NB250_248.out _ | refine IsS38.far ?_ NB250_249.out _) | exact HI250.out))) : gb262 ≠ gb250); replace HI250 := a_ (IsS38.below (by repeat (first | (with_reducible first | exact HI250.out | apply IsS38.alloc | apply IsS38.drewN | apply IsS38.drew | apply IsS38.set_1 | apply IsS38.set_2 | refine IsS38.far ?_ NB250_248.out _ | refine IsS38.far ?_ NB250_249.out _) | exact HI250.out)) hb); clear hb hbox hg; obtain ⟨Ao101, co101, eo101⟩ := Kd.R_slice HO256.out; subst eo101; have hnb102 := NB262_248.out; have hnc102 := NB248_262.out; have hnb103 := NB262_249.out; have hnc103 := NB249_262.out; have hnb104 := NB262_250.out; have hnc104 := NB250_262.out; have hcz105_0 : _ = some (Value.slice none 0 0) := (blk_cell BK262.out 0).trans rfl; have hcz105_1 : _ = some (Value.slice none 0 0) := (blk_cell BK262.out 1).trans rfl; have hfz105_0 := blk_frozen BK262.out 0; have hfz105_1 := blk_frozen BK262.out 1; obtain ⟨Ao106, co106, eo106⟩ := Kd.R_slice HO259.out; subst eo106) | ((with_reducible refine gate_callee (f := 17) rfl ?_); refine goesL_ (some 17) rfl rfl Try.func17 (by kernel_rfl) rfl #[.pointer (some ⟨gb250, 0, none⟩), .int .i64 4] rfl (by (try simp only [lA, lB, lC]); first | done | rfl | (simp only [lD, lE]; rfl)) ?_; (with_reducible refine (spec_l1Cur_one.calls gb250 l0 t260 t261 4 false t264 t265 w _ ?side1 ?side2 A4.out).mono ?_); (case side1 => repeat (first | (with_reducible first | exact HI250.out | apply IsS38.alloc | apply IsS38.drewN | apply IsS38.drew | apply IsS38.set_1 | apply IsS38.set_2 | refine IsS38.far ?_ NB250_248.out _ | refine IsS38.far ?_ NB250_249.out _ | refine IsS38.far ?_ NB250_262.out _) | exact HI250.out)); (case side2 => repeat (first | (with_reducible first | exact HB.out | apply below_alloc | apply pw_below_drewN | apply below_drew1 | refine below_set ?_ (IsS38.ge HI250.out) | refine below_set ?_ GE248.out | refine below_set ?_ GE249.out | refine below_set ?_ GE262.out) | exact HB.out)); rintro e w107 ⟨rfl, hi, hb, hk⟩; refine ⟨_, rfl, ?_⟩; replace BK248 := a_ (KeepBut.blk hk (g' := gb248) (o := .cells #[.slice none 0 0, .slice none 0 0] 25 (0, 0)) (by refine pk ?_; refine blk_far ?_ NB248_262.out _; refine pk ?_; refine blk_far ?_ NB248_262.out _; refine pk ?_; exact BK248.out) NB248_250.out (by simp)); replace BK249 := a_ (KeepBut.blk hk (g' := gb249) (o := .cells #[.slice none 0 0, .slice none 0 0] 25 (0, 0)) (by refine pk ?_; refine blk_far ?_ NB249_262.out _; refine pk ?_; refine blk_far ?_ NB249_262.out _; refine pk ?_; exact BK249.out) NB249_250.out (by simp)); replace HO256 := a_ (Kd.R_mono (Kd.R_keep (IsS38.apart (show IsS38 w _ gb250 l0 t260 t261 from by repeat (first | (with_reducible first | exact HI250.out | apply IsS38.alloc | apply IsS38.drewN | apply IsS38.drew | apply IsS38.set_1 | apply IsS38.set_2 | refine IsS38.far ?_ NB250_248.out _ | refine IsS38.far ?_ NB250_249.out _ | refine IsS38.far ?_ NB250_262.out _) | exact HI250.out)) (rk (Kd.R_mono (fr2 HO256.out BK262.out (by decide) 0 (.slice Ao101 t254.length co101) 1 (.slice Ao106 t257.length co106)) (fun _ h_ => h_.1))) (by decide)) hk (fun _ h => h.2)) (fun _ h => h.1)); replace HO259 := a_ (Kd.R_mono (Kd.R_keep (IsS38.apart (show IsS38 w _ gb250 l0 t260 t261 from by repeat (first | (with_reducible first | exact HI250.out | apply IsS38.alloc | apply IsS38.drewN | apply IsS38.drew | apply IsS38.set_1 | apply IsS38.set_2 | refine IsS38.far ?_ NB250_248.out _ | refine IsS38.far ?_ NB250_249.out _ | refine IsS38.far ?_ NB250_262.out _) | exact HI250.out)) (rk (Kd.R_mono (fr2 HO259.out BK262.out (by decide) 0 (.slice Ao101 t254.length co101) 1 (.slice Ao106 t257.length co106)) (fun _ h_ => h_.1))) (by decide)) hk (fun _ h => h.2)) (fun _ h => h.1)); replace BK262 := a_ (KeepBut.blk hk (g' := gb262) (o := .cells #[.slice Ao101 t254.length co101, .slice Ao106 t257.length co106] 25 (0, 0)) (by refine pk ?_; refine blk_put (cs := #[.slice Ao101 t254.length co101, .slice none 0 0]) ?_ 1 _ rfl; refine pk ?_; refine blk_put (cs := #[.slice none 0 0, .slice none 0 0]) ?_ 0 _ rfl; refine pk ?_; exact BK262.out) NB262_250.out (by simp)); replace HB := a_ (hb); replace HI250 := a_ (hi); clear hb hk hi) | ((with_reducible refine gate_callee (f := 17) rfl ?_); refine goesL_ (some 40) rfl rfl Try.func17 (by kernel_rfl) rfl #[.pointer (some ⟨gb250, 0, none⟩), .int .i64 20] rfl (by (try simp only [lA, lB, lC]); first | done | rfl | (simp only [lD, lE]; rfl)) ?_; (with_reducible refine (spec_l1Cur_one.calls gb250 l0 t264 t265 20 true t282 t283 w _ ?side1 ?side2 A92.out).mono ?_); (case side1 => repeat (first | (with_reducible first | exact HI250.out | apply IsS38.alloc | apply IsS38.drewN | apply IsS38.drew | apply IsS38.set_1 | apply IsS38.set_2 | refine IsS38.far ?_ NB250_248.out _ | refine IsS38.far ?_ NB250_249.out _ | refine IsS38.far ?_ NB250_262.out _) | exact HI250.out)); (case side2 => repeat (first | (with_reducible first | exact HB.out | apply below_alloc | apply pw_below_drewN | apply below_drew1 | refine below_set ?_ (IsS38.ge HI250.out) | refine below_set ?_ GE248.out | refine below_set ?_ GE249.out | refine below_set ?_ GE262.out) | exact HB.out)); rintro e w108 ⟨rfl, hi, hb, hk⟩; refine ⟨_, rfl, ?_⟩; replace BK248 := a_ (KeepBut.blk hk (g' := gb248) (o := .cells #[.slice none 0 0, .slice none 0 0] 25 (0, 0)) (pk BK248.out) NB248_250.out (by simp)); replace BK249 := a_ (KeepBut.blk hk (g' := gb249) (o := .cells #[.slice none 0 0, .slice none 0 0] 25 (0, 0)) (pk BK249.out) NB249_250.out (by simp)); replace HO256 := a_ (Kd.R_mono (Kd.R_keep (IsS38.apart (show IsS38 w _ gb250 l0 t264 t265 from by repeat (first | (with_reducible first | exact HI250.out | apply IsS38.alloc | apply IsS38.drewN | apply IsS38.drew | apply IsS38.set_1 | apply IsS38.set_2 | refine IsS38.far ?_ NB250_248.out _ | refine IsS38.far ?_ NB250_249.out _ | refine IsS38.far ?_ NB250_262.out _) | exact HI250.out)) (rk HO256.out) (by decide)) hk (fun _ h => h.2)) (fun _ h => h.1)); replace HO259 := a_ (Kd.R_mono (Kd.R_keep (IsS38.apart (show IsS38 w _ gb250 l0 t264 t265 from by repeat (first | (with_reducible first | exact HI250.out | apply IsS38.alloc | apply IsS38.drewN | apply IsS38.drew | apply IsS38.set_1 | apply IsS38.set_2 | refine IsS38.far ?_ NB250_248.out _ | refine IsS38.far ?_ NB250_249.out _ | refine IsS38.far ?_ NB250_262.out _) | exact HI250.out)) (rk HO259.out) (by decide)) hk (fun _ h => h.2)) (fun _ h => h.1)); replace BK262 := a_ (KeepBut.blk hk (g' := gb262) (o := .cells #[.slice Ao101 t254.length co101, .slice Ao106 t257.length co106] 25 (0, 0)) (pk BK262.out) NB262_250.out (by simp)); replace HB := a_ (hb); replace HI250 := a_ (hi); clear hb hk hi))
   replace HO256 := a_ (Kd.R_drew HO256.out)
   replace HO259 := a_ (Kd.R_drew HO259.out)
   replace BK248 := a_ (blk_drew BK248.out)
   replace BK249 := a_ (blk_drew BK249.out)
   replace BK262 := a_ (blk_drew BK262.out)
   replace HI250 := a_ (IsS38.drew HI250.out)
   replace HB := a_ (below_drew1 HB.out)
   refine start_ (n := 6) (S := fun w' => w'.cell? ⟨gb262, 0, none⟩ = some (.slice Ao101 t254.length co101) ∧ w'.cell? ⟨gb262, 1, none⟩ = some (.slice Ao106 t257.length co106)) (ds := []) #[false, false, false, false, false, false] (by kernel_rfl) rfl rfl ⟨(blk_cell BK262.out 0).trans rfl, (blk_cell BK262.out 1).trans rfl⟩ (fun hHeld => ?_)
   generalize w108.drew = w109 at HO256 HO259 BK248 BK249 BK262 HI250 HB hHeld ⊢
   refine pure_ (i := 1) (N := some 44) (v := ?_) (a' := ?_) #[false, true, false, false, false, false] rfl rfl (by kernel_rfl) (fun _ _ _ h => h) (Or.inl ⟨by rfl, ?_⟩) ?_ ?_
   rotate_left
   ·intro w'
    go_simp
    with_reducible rfl
   rotate_left
   ·simp only [Act.put, sB, sC, sD, i64_w, i32_w]
    rfl
   refine pure_ (i := 2) (N := some 45) (v := ?_) (a' := ?_) #[false, true, true, false, false, false] rfl rfl (by kernel_rfl) (fun _ _ _ h => h) (Or.inl ⟨by rfl, ?_⟩) ?_ ?_
   rotate_left
   ·intro w'
    go_simp
    with_reducible rfl
   rotate_left
   ·simp only [Act.put, sB, sC, sD, i64_w, i32_w]
    rfl
   refine take_ (i := 0) (N := some 43) (v := ?_) (a' := ?_) #[true, true, true, false, false, false] rfl rfl (by kernel_rfl) (fun _ _ _ h => h) (Or.inl ⟨by rfl, ?_⟩) hHeld ?_ ?_
   rotate_left
   ·rintro w' ⟨s0, s1⟩
    go_simp
    with_reducible rfl
   rotate_left
   ·simp only [Act.put, sB, sC, sD, i64_w, i32_w]
    rfl
   refine one_ (i := 3) (N := some 46) #[true, true, true, true, false, false] rfl rfl (by kernel_rfl) (by decide) (fun K hK => ?_)
   refine goes_ Try.func16 (by kernel_rfl) rfl #[.pointer (some ⟨gb250, 0, none⟩), .int .i64 (wrap64 (t251 + 1))] (by rfl) rfl rfl (by (try simp only [lA, lB, lC]); first | done | rfl | (simp only [lD, lE]; rfl)) ?_
   with_reducible refine (spec_l1Cur_box.calls k gb250 l0 t282 t283 (wrap64 (t251 + 1)) t284 t287 t290 t291 w _ ?side1 ?side2 A94.out).mono ?_
   (case side1 => repeat (first | (with_reducible first | exact HI250.out | apply IsS38.alloc | apply IsS38.drewN | apply IsS38.drew | apply IsS38.set_1 | apply IsS38.set_2 | refine IsS38.far ?_ NB250_248.out _ | refine IsS38.far ?_ NB250_249.out _ | refine IsS38.far ?_ NB250_262.out _) | exact HI250.out))
   (case side2 => repeat (first | (with_reducible first | exact HB.out | apply below_alloc | apply pw_below_drewN | apply below_drew1 | refine below_set ?_ (IsS38.ge HI250.out) | refine below_set ?_ GE248.out | refine below_set ?_ GE249.out | refine below_set ?_ GE262.out) | exact HB.out))
   rintro e w110 ⟨v285, v288, rfl, ho0, ho1, hi, hb, hk⟩
   refine ⟨_, rfl, ?_⟩
   replace BK248 := a_ (KeepBut.blk hk (g' := gb248) (o := .cells #[.slice none 0 0, .slice none 0 0] 25 (0, 0)) (pk BK248.out) NB248_250.out (by simp))
   replace BK249 := a_ (KeepBut.blk hk (g' := gb249) (o := .cells #[.slice none 0 0, .slice none 0 0] 25 (0, 0)) (pk BK249.out) NB249_250.out (by simp))
   replace BK262 := a_ (KeepBut.blk hk (g' := gb262) (o := .cells #[.slice Ao101 t254.length co101, .slice Ao106 t257.length co106] 25 (0, 0)) (pk BK262.out) NB262_250.out (by simp))
   have HO286 := a_ (Kd.R_lower (nw (nw ho0 HO256.out) HO259.out) (below_size (by repeat (first | (with_reducible first | exact HB.out | apply below_alloc | apply pw_below_drewN | apply below_drew1 | refine below_set ?_ (IsS38.ge HI250.out) | refine below_set ?_ GE248.out | refine below_set ?_ GE249.out | refine below_set ?_ GE262.out) | exact HB.out))))
   have HO289 := a_ (Kd.R_lower (nw (nw ho1 HO256.out) HO259.out) (below_size (by repeat (first | (with_reducible first | exact HB.out | apply below_alloc | apply pw_below_drewN | apply below_drew1 | refine below_set ?_ (IsS38.ge HI250.out) | refine below_set ?_ GE248.out | refine below_set ?_ GE249.out | refine below_set ?_ GE262.out) | exact HB.out))))
   replace HO256 := a_ (Kd.R_mono (Kd.R_told (Kd.R_told (Kd.R_oldK (IsS38.apart (show IsS38 w _ gb250 l0 t282 t283 from by repeat (first | (with_reducible first | exact HI250.out | apply IsS38.alloc | apply IsS38.drewN | apply IsS38.drew | apply IsS38.set_1 | apply IsS38.set_2 | refine IsS38.far ?_ NB250_248.out _ | refine IsS38.far ?_ NB250_249.out _ | refine IsS38.far ?_ NB250_262.out _) | exact HI250.out)) (rk HO256.out) (by decide)) hk) (Kd.R_base ho0)) (Kd.R_base ho1)) (fun _ h_ => h_.1))
   replace HO259 := a_ (Kd.R_mono (Kd.R_told (Kd.R_told (Kd.R_oldK (IsS38.apart (show IsS38 w _ gb250 l0 t282 t283 from by repeat (first | (with_reducible first | exact HI250.out | apply IsS38.alloc | apply IsS38.drewN | apply IsS38.drew | apply IsS38.set_1 | apply IsS38.set_2 | refine IsS38.far ?_ NB250_248.out _ | refine IsS38.far ?_ NB250_249.out _ | refine IsS38.far ?_ NB250_262.out _) | exact HI250.out)) (rk HO259.out) (by decide)) hk) (Kd.R_base ho0)) (Kd.R_base ho1)) (fun _ h_ => h_.1))
   replace HB := a_ (hb)
   replace HI250 := a_ (hi)
   (try clear hb)
   (try clear hb2)
   (try clear hk)
   (try clear hi)
   (try clear ho0)
   (try clear ho1)
   obtain ⟨Ao113, co113, eo113⟩ := Kd.R_slice HO286.out
   (first | subst eo113 | (injection eo113 with f1_ f2_ f3_; obtain rfl := f1_.symm; obtain rfl := f3_.symm))
   obtain ⟨Ao115, co115, eo115⟩ := Kd.R_slice HO289.out
   (first | subst eo115 | (injection eo115 with f1_ f2_ f3_; obtain rfl := f1_.symm; obtain rfl := f3_.symm))
   refine hK.out _ _ ⟨(blk_cell BK262.out 0).trans rfl, (blk_cell BK262.out 1).trans rfl⟩ (fun hHeld => ?_)
   clear hK K
   refine norm_ (a' := ?_) ?_ ?_
   rotate_left
   ·show Act.put _ (some 46) _ = _
    simp only [Act.put, sB, sC, sD, i64_w, i32_w]
    rfl
   refine one_ (i := 4) (N := none) #[true, true, true, true, true, false] rfl rfl (by kernel_rfl) (by decide) (fun K hK => ?_)
   have hs111 : w110.cell? ⟨gb248, 0, none⟩ = some (.slice none 0 0) := (blk_cell BK248.out 0).trans rfl
   have hfs111 := blk_frozen BK248.out 0
   have hns111_1 := NB249_248.out
   have hns111_2 := NB262_248.out
   have hms111_1 := NB248_249.out
   have hms111_2 := NB248_262.out
   have hs112 : w110.cell? ⟨gb248, 1, none⟩ = some (.slice none 0 0) := (blk_cell BK248.out 1).trans rfl
   have hfs112 := blk_frozen BK248.out 1
   have hns112_1 := NB249_248.out
   have hns112_2 := NB262_248.out
   have hms112_1 := NB248_249.out
   have hms112_2 := NB248_262.out
   refine skip_ (w1 := ?_) ?_ ?_ ?_ ?_
   rotate_left
   ·rfl
   ·rfl
   ·go_simp
    rfl
   refine hK.out _ _ ⟨((cell_far (p := ⟨gb248, _, none⟩) NB262_248.out _).trans (((cell_far (p := ⟨gb248, _, none⟩) NB262_248.out _).trans (hHeld.1)))), ((cell_far (p := ⟨gb248, _, none⟩) NB262_248.out _).trans (((cell_far (p := ⟨gb248, _, none⟩) NB262_248.out _).trans (hHeld.2))))⟩ (fun hHeld => ?_)
   clear hK K
   refine one_ (i := 5) (N := none) #[true, true, true, true, true, true] rfl rfl (by kernel_rfl) (by decide) (fun K hK => ?_)
   have hs114 : w110.cell? ⟨gb249, 0, none⟩ = some (.slice none 0 0) := (blk_cell BK249.out 0).trans rfl
   have hfs114 := blk_frozen BK249.out 0
   have hns114_0 := NB248_249.out
   have hns114_2 := NB262_249.out
   have hms114_0 := NB249_248.out
   have hms114_2 := NB249_262.out
   have hs116 : w110.cell? ⟨gb249, 1, none⟩ = some (.slice none 0 0) := (blk_cell BK249.out 1).trans rfl
   have hfs116 := blk_frozen BK249.out 1
   have hns116_0 := NB248_249.out
   have hns116_2 := NB262_249.out
   have hms116_0 := NB249_248.out
   have hms116_2 := NB249_262.out
   refine skip_ (w1 := ?_) ?_ ?_ ?_ ?_
   rotate_left
   ·rfl
   ·rfl
   ·go_simp
    rfl
   refine hK.out _ _ ⟨((cell_far (p := ⟨gb249, _, none⟩) NB262_249.out _).trans (((cell_far (p := ⟨gb249, _, none⟩) NB262_249.out _).trans (hHeld.1)))), ((cell_far (p := ⟨gb249, _, none⟩) NB262_249.out _).trans (((cell_far (p := ⟨gb249, _, none⟩) NB262_249.out _).trans (hHeld.2))))⟩ (fun hHeld => ?_)
   clear hK K
   refine done_ (by kernel_rfl) ?_
   try go_wp2
   refine bodyPost_ret (results_cc rfl _ _ gb248 gb249 25 25 #[.slice Ao101 t254.length co101, .slice Ao106 t257.length co106] #[.slice Ao113 t284.length co113, .slice Ao115 t287.length co115] (0, 0) (0, 0) _ _ rfl (by refine pk ?_; refine blk_far ?_ NB248_249.out _; refine pk ?_; refine blk_far ?_ NB248_249.out _; refine pk ?_; refine blk_put (cs := #[.slice Ao101 t254.length co101, .slice none 0 0]) ?_ 1 _ rfl; refine pk ?_; refine blk_put (cs := #[.slice none 0 0, .slice none 0 0]) ?_ 0 _ rfl; refine pk ?_; exact BK248.out) Try.underlying25 rfl (by kernel_rfl) rfl (by refine pk ?_; refine blk_put (cs := #[.slice Ao113 t284.length co113, .slice none 0 0]) ?_ 1 _ rfl; refine pk ?_; refine blk_put (cs := #[.slice none 0 0, .slice none 0 0]) ?_ 0 _ rfl; refine pk ?_; refine blk_far ?_ NB249_248.out _; refine pk ?_; refine blk_far ?_ NB249_248.out _; refine pk ?_; exact BK249.out) Try.underlying25 rfl (by kernel_rfl)) rfl ?_
   exact ⟨_, rfl, _, _, _, _, by first | rfl | (simp [errW_none, errW_some] <;> rfl) | (simp [*, errW_none, errW_some] <;> rfl), by refine rk ?_; exact Kd.R_mono (Kd.R_far (p := ⟨gb249, 1, none⟩) (Kd.R_far (p := ⟨gb249, 0, none⟩) (Kd.R_far (p := ⟨gb248, 1, none⟩) (Kd.R_far (p := ⟨gb248, 0, none⟩) (Kd.R_types (Kd.R_types HO256.out BK248.out (by decide)) BK249.out (by decide)) (fun _ hk => hk.1.2) (.slice Ao101 t254.length co101)) (fun _ hk => hk.1.2) (.slice Ao106 t257.length co106)) (fun _ hk => hk.2) (.slice Ao113 t284.length co113)) (fun _ hk => hk.2) (.slice Ao115 t287.length co115)) (fun _ hk => ⟨hk.1.1.1.1, hk.1.1.1.2, hk.1.1.2⟩), by refine rk ?_; exact Kd.R_mono (Kd.R_far (p := ⟨gb249, 1, none⟩) (Kd.R_far (p := ⟨gb249, 0, none⟩) (Kd.R_far (p := ⟨gb248, 1, none⟩) (Kd.R_far (p := ⟨gb248, 0, none⟩) (Kd.R_types (Kd.R_types HO259.out BK248.out (by decide)) BK249.out (by decide)) (fun _ hk => hk.1.2) (.slice Ao101 t254.length co101)) (fun _ hk => hk.1.2) (.slice Ao106 t257.length co106)) (fun _ hk => hk.2) (.slice Ao113 t284.length co113)) (fun _ hk => hk.2) (.slice Ao115 t287.length co115)) (fun _ hk => ⟨hk.1.1.1.1, hk.1.1.1.2, hk.1.1.2⟩), by refine rk ?_; exact Kd.R_mono (Kd.R_far (p := ⟨gb249, 1, none⟩) (Kd.R_far (p := ⟨gb249, 0, none⟩) (Kd.R_far (p := ⟨gb248, 1, none⟩) (Kd.R_far (p := ⟨gb248, 0, none⟩) (Kd.R_types (Kd.R_types HO286.out BK248.out (by decide)) BK249.out (by decide)) (fun _ hk => hk.1.2) (.slice Ao101 t254.length co101)) (fun _ hk => hk.1.2) (.slice Ao106 t257.length co106)) (fun _ hk => hk.2) (.slice Ao113 t284.length co113)) (fun _ hk => hk.2) (.slice Ao115 t287.length co115)) (fun _ hk => ⟨hk.1.1.1.2, hk.1.1.2, hk.1.1.1.1⟩), by refine rk ?_; exact Kd.R_mono (Kd.R_far (p := ⟨gb249, 1, none⟩) (Kd.R_far (p := ⟨gb249, 0, none⟩) (Kd.R_far (p := ⟨gb248, 1, none⟩) (Kd.R_far (p := ⟨gb248, 0, none⟩) (Kd.R_types (Kd.R_types HO289.out BK248.out (by decide)) BK249.out (by decide)) (fun _ hk => hk.1.2) (.slice Ao101 t254.length co101)) (fun _ hk => hk.1.2) (.slice Ao106 t257.length co106)) (fun _ hk => hk.2) (.slice Ao113 t284.length co113)) (fun _ hk => hk.2) (.slice Ao115 t287.length co115)) (fun _ hk => ⟨hk.1.1.1.2, hk.1.1.2, hk.1.1.1.1⟩), by repeat (first | (with_reducible first | exact HB.out | apply below_alloc | apply pw_below_drewN | apply below_drew1 | refine below_set ?_ (IsS38.ge HI250.out) | refine below_set ?_ GE248.out | refine below_set ?_ GE249.out | refine below_set ?_ GE262.out) | exact HB.out)⟩
  ·replace c93 := Bool.eq_false_iff.mpr c93
   subst c93
   have H1 : ((spec_l1Cur_box.f k l0 t282 t283 t251).bind fun bt292 => (some (t254, t257, bt292.1, bt292.2.1, false))) = some (r1, r2, r3, r4, inc) := by rw [if_neg (show ¬ (false = true) by decide)] at H; exact H
   clear H
   have H := H1
   clear H1
   replace H := Option.bind_eq_some_iff.mp H
   obtain ⟨⟨t292, t295, t298, t299⟩, A1170, H⟩ := H
   replace H : (some (t254, t257, t292, t295, false)) = some (r1, r2, r3, r4, inc) := H
   have A117 := Aside0.mk A1170
   clear A1170
   simp only [Option.some.injEq, Prod.mk.injEq] at H
   obtain ⟨rfl, rfl, rfl, rfl, rfl⟩ := H
   go_enter Try.func11, Try.ntmps11
   try go_wp2_with (first | ((with_reducible refine gate_dst (N := 2) rfl ?_); refine box_event ?hg (N := 2) ?hd (cs := #[.slice none 0 0, .slice none 0 0]) (t := 25) ?hr ?_; (case hd => rfl); (case hg => rfl); (case hr => first | (go_simp; done) | (go_simp; rfl)); intro gb248 hg w118 hbox hb; have BK248 := a_ (hbox); have GW248 := a_ (bsg hg HB.out); have GE248 := a_ (bsg hg HB.out); replace HB := a_ (below_step (un HB.out) hb); clear hb hbox hg) | ((with_reducible refine gate_dst (N := 3) rfl ?_); refine box_event ?hg (N := 3) ?hd (cs := #[.slice none 0 0, .slice none 0 0]) (t := 25) ?hr ?_; (case hd => rfl); (case hg => rfl); (case hr => first | (go_simp; done) | (go_simp; rfl)); intro gb249 hg w119 hbox hb; have BK249 := a_ (hbox); have GW249 := a_ (bsg hg HB.out); have GE249 := a_ (bsg hg HB.out); replace HB := a_ (below_step (by repeat (with_reducible first | exact HB.out | refine bz ?_ (by assumption) | apply bA | apply bN | apply bD)) hb); have NB248_249 := a_ (nel hg BK248.out); have NB249_248 := a_ (nle hg BK248.out); replace BK248 := a_ (blk_below (pk BK248.out) hb); clear hb hbox hg) | ((with_reducible refine gate_dst (N := 10) rfl ?_); refine box_event ?hg (N := 10) ?hd (cs := #[.slice A0 l0.length c0, .int .i64 0, .int .u64 0]) (t := 38) ?hr ?_; (case hd => rfl); (case hg => rfl); (case hr => first | (go_simp; done) | (go_simp; rfl)); intro gb250 hg w120 hbox hb; have GW250 := a_ (bsg hg HB.out); have GE250 := a_ (bsg hg HB.out); have NB248_250 := a_ (nel hg BK248.out); have NB250_248 := a_ (nle hg BK248.out); replace BK248 := a_ (blk_below (pk BK248.out) hb); have NB249_250 := a_ (nel hg BK249.out); have NB250_249 := a_ (nle hg BK249.out); replace BK249 := a_ (blk_below (pk BK249.out) hb); have HI250 := a_ (show IsS38 w w120 gb250 l0 0 0 from ⟨_, _, hbox, (by rw [hg]; exact (below_size (by repeat (with_reducible first | exact HB.out | refine bz ?_ (by assumption) | apply bA | apply bN | apply bD))) : w.heap.size ≤ gb250), HR0.out⟩); replace HB := a_ (below_step (by repeat (with_reducible first | exact HB.out | refine bz ?_ (by assumption) | apply bA | apply bN | apply bD)) hb); clear hb hbox hg) | ((with_reducible refine gate_callee (f := 15) rfl ?_); refine goesL_ (some 12) rfl rfl Try.func15 (by kernel_rfl) rfl #[.pointer (some ⟨gb250, 0, none⟩)] rfl (by (try simp only [lA, lB, lC]); first | done | rfl | (simp only [lD, lE]; rfl)) ?_; (with_reducible refine (spec_l1Cur_dim.calls gb250 l0 0 0 t251 t252 t253 w _ ?side1 ?side2 A2.out).mono ?_); (case side1 => repeat (first | (with_reducible first | exact HI250.out | apply IsS38.alloc | apply IsS38.drewN | apply IsS38.drew | apply IsS38.set_1 | apply IsS38.set_2 | refine IsS38.far ?_ NB250_248.out _ | refine IsS38.far ?_ NB250_249.out _) | exact HI250.out)); (case side2 => repeat (first | (with_reducible first | exact HB.out | apply below_alloc | apply pw_below_drewN | apply below_drew1 | refine below_set ?_ (IsS38.ge HI250.out) | refine below_set ?_ GE248.out | refine below_set ?_ GE249.out) | exact HB.out)); rintro e w121 ⟨rfl, hi, hb, hk⟩; refine ⟨_, rfl, ?_⟩; replace BK248 := a_ (KeepBut.blk hk (g' := gb248) (o := .cells #[.slice none 0 0, .slice none 0 0] 25 (0, 0)) (pk BK248.out) NB248_250.out (by simp)); replace BK249 := a_ (KeepBut.blk hk (g' := gb249) (o := .cells #[.slice none 0 0, .slice none 0 0] 25 (0, 0)) (pk BK249.out) NB249_250.out (by simp)); replace HB := a_ (hb); replace HI250 := a_ (hi); clear hb hk hi) | ((with_reducible refine gate_callee (f := 16) rfl ?_); refine goesL_ (some 15) rfl rfl Try.func16 (by kernel_rfl) rfl #[.pointer (some ⟨gb250, 0, none⟩), .int .i64 t251] rfl (by (try simp only [lA, lB, lC]); first | done | rfl | (simp only [lD, lE]; rfl)) ?_; (with_reducible refine (spec_l1Cur_box.calls k gb250 l0 t252 t253 t251 t254 t257 t260 t261 w _ ?side1 ?side2 A3.out).mono ?_); (case side1 => repeat (first | (with_reducible first | exact HI250.out | apply IsS38.alloc | apply IsS38.drewN | apply IsS38.drew | apply IsS38.set_1 | apply IsS38.set_2 | refine IsS38.far ?_ NB250_248.out _ | refine IsS38.far ?_ NB250_249.out _) | exact HI250.out)); (case side2 => repeat (first | (with_reducible first | exact HB.out | apply below_alloc | apply pw_below_drewN | apply below_drew1 | refine below_set ?_ (IsS38.ge HI250.out) | refine below_set ?_ GE248.out | refine below_set ?_ GE249.out) | exact HB.out)); rintro e w122 ⟨v255, v258, rfl, ho0, ho1, hi, hb, hk⟩; refine ⟨_, rfl, ?_⟩; replace BK248 := a_ (KeepBut.blk hk (g' := gb248) (o := .cells #[.slice none 0 0, .slice none 0 0] 25 (0, 0)) (pk BK248.out) NB248_250.out (by simp)); replace BK249 := a_ (KeepBut.blk hk (g' := gb249) (o := .cells #[.slice none 0 0, .slice none 0 0] 25 (0, 0)) (pk BK249.out) NB249_250.out (by simp)); have HO256 := a_ (Kd.R_lower ho0 (below_size (by repeat (first | (with_reducible first | exact HB.out | apply below_alloc | apply pw_below_drewN | apply below_drew1 | refine below_set ?_ (IsS38.ge HI250.out) | refine below_set ?_ GE248.out | refine below_set ?_ GE249.out) | exact HB.out)))); have HO259 := a_ (Kd.R_lower ho1 (below_size (by repeat (first | (with_reducible first | exact HB.out | apply below_alloc | apply pw_below_drewN | apply below_drew1 | refine below_set ?_ (IsS38.ge HI250.out) | refine below_set ?_ GE248.out | refine below_set ?_ GE249.out) | exact HB.out)))); replace HB := a_ (hb); replace HI250 := a_ (hi); clear hb hk hi ho0 ho1) | ((with_reducible refine gate_dst (N := 6) rfl ?_); refine box_event ?hg (N := 6) ?hd (cs := #[.slice none 0 0, .slice none 0 0]) (t := 25) ?hr ?_; (case hd => rfl); (case hg => rfl); (case hr => first | (go_simp; done) | (go_simp; rfl)); intro gb262 hg w123 hbox hb; replace HO256 := a_ (Kd.R_below (rk HO256.out) hb); replace HO259 := a_ (Kd.R_below (rk HO259.out) hb); have BK262 := a_ (hbox); have GW262 := a_ (by rw [hg]; exact (below_size (by repeat (first | (with_reducible first | exact HB.out | apply below_alloc | apply pw_below_drewN | apply below_drew1 | refine below_set ?_ (IsS38.ge HI250.out) | refine below_set ?_ GE248.out | refine below_set ?_ GE249.out) | exact HB.out))) : w.heap.size ≤ gb262); have GE262 := a_ (by rw [hg]; exact (below_size (by repeat (first | (with_reducible first | exact HB.out | apply below_alloc | apply pw_below_drewN | apply below_drew1 | refine below_set ?_ (IsS38.ge HI250.out) | refine below_set ?_ GE248.out | refine below_set ?_ GE249.out) | exact HB.out))) : w.heap.size ≤ gb262); replace HB := a_ (below_step (by repeat (first | (with_reducible first | exact HB.out | apply below_alloc | apply pw_below_drewN | apply below_drew1 | refine below_set ?_ (IsS38.ge HI250.out) | refine below_set ?_ GE248.out | refine below_set ?_ GE249.out) | exact HB.out)) hb); have NB248_262 := a_ (nel hg BK248.out); have NB262_248 := a_ (nle hg BK248.out); replace BK248 := a_ (blk_below (pk BK248.out) hb); have NB249_262 := a_ (nel hg BK249.out); have NB262_249 := a_ (nle hg BK249.out); replace BK249 := a_ (blk_below (pk BK249.out) hb); have NB250_262 := a_ (by rw [hg]; exact Nat.ne_of_lt (IsS38.lt (show IsS38 w _ gb250 l0 t260 t261 from by repeat (first | (with_reducible first | exact HI250.out | apply IsS38.alloc | apply IsS38.drewN | apply IsS38.drew | apply IsS38.set_1 | apply IsS38.set_2 | refine IsS38.far ?_ NB250_248.out _ | refine IsS38.far ?_ NB250_249.out _) | exact HI250.out))) : gb250 ≠ gb262); have NB262_250 := a_ (by rw [hg]; exact Nat.ne_of_gt (IsS38.lt (show IsS38 w _ gb250 l0 t260 t261 from by repeat (first | (with_reducible first | exact HI250.out | apply IsS38.alloc | apply IsS38.drewN | apply IsS38.drew | apply IsS38.set_1 | apply IsS38.set_2 | refine IsS38.far ?_ NB250_248.out _ | refine IsS38.far ?_ NB250_249.out _) | exact HI250.out))) : gb262 ≠ gb250); replace HI250 := a_ (IsS38.below (by repeat (first | (with_reducible first | exact HI250.out | apply IsS38.alloc | apply IsS38.drewN | apply IsS38.drew | apply IsS38.set_1 | apply IsS38.set_2 | refine IsS38.far ?_ NB250_248.out _ | refine IsS38.far ?_ NB250_249.out _) | exact HI250.out)) hb); clear hb hbox hg; obtain ⟨Ao124, co124, eo124⟩ := Kd.R_slice HO256.out; subst eo124; have hnb125 := NB262_248.out; have hnc125 := NB248_262.out; have hnb126 := NB262_249.out; have hnc126 := NB249_262.out; have hnb127 := NB262_250.out; have hnc127 := NB250_262.out; have hcz128_0 : _ = some (Value.slice none 0 0) := (blk_cell BK262.out 0).trans rfl; have hcz128_1 : _ = some (Value.slice none 0 0) := (blk_cell BK262.out 1).trans rfl; have hfz128_0 := blk_frozen BK262.out 0; have hfz128_1 := blk_frozen BK262.out 1; obtain ⟨Ao129, co129, eo129⟩ := Kd.R_slice HO259.out; subst eo129) | ((with_reducible refine gate_callee (f := 17) rfl ?_); refine goesL_ (some 17) rfl rfl Try.func17 (by kernel_rfl) rfl #[.pointer (some ⟨gb250, 0, none⟩), .int .i64 4] rfl (by (try simp only [lA, lB, lC]); first | done | rfl | (simp only [lD, lE]; rfl)) ?_; (with_reducible refine (spec_l1Cur_one.calls gb250 l0 t260 t261 4 false t264 t265 w _ ?side1 ?side2 A4.out).mono ?_); (case side1 => repeat (first | (with_reducible first | exact HI250.out | apply IsS38.alloc | apply IsS38.drewN | apply IsS38.drew | apply IsS38.set_1 | apply IsS38.set_2 | refine IsS38.far ?_ NB250_248.out _ | refine IsS38.far ?_ NB250_249.out _ | refine IsS38.far ?_ NB250_262.out _) | exact HI250.out)); (case side2 => repeat (first | (with_reducible first | exact HB.out | apply below_alloc | apply pw_below_drewN | apply below_drew1 | refine below_set ?_ (IsS38.ge HI250.out) | refine below_set ?_ GE248.out | refine below_set ?_ GE249.out | refine below_set ?_ GE262.out) | exact HB.out)); rintro e w130 ⟨rfl, hi, hb, hk⟩; refine ⟨_, rfl, ?_⟩; replace BK248 := a_ (KeepBut.blk hk (g' := gb248) (o := .cells #[.slice none 0 0, .slice none 0 0] 25 (0, 0)) (by refine pk ?_; refine blk_far ?_ NB248_262.out _; refine pk ?_; refine blk_far ?_ NB248_262.out _; refine pk ?_; exact BK248.out) NB248_250.out (by simp)); replace BK249 := a_ (KeepBut.blk hk (g' := gb249) (o := .cells #[.slice none 0 0, .slice none 0 0] 25 (0, 0)) (by refine pk ?_; refine blk_far ?_ NB249_262.out _; refine pk ?_; refine blk_far ?_ NB249_262.out _; refine pk ?_; exact BK249.out) NB249_250.out (by simp)); replace HO256 := a_ (Kd.R_mono (Kd.R_keep (IsS38.apart (show IsS38 w _ gb250 l0 t260 t261 from by repeat (first | (with_reducible first | exact HI250.out | apply IsS38.alloc | apply IsS38.drewN | apply IsS38.drew | apply IsS38.set_1 | apply IsS38.set_2 | refine IsS38.far ?_ NB250_248.out _ | refine IsS38.far ?_ NB250_249.out _ | refine IsS38.far ?_ NB250_262.out _) | exact HI250.out)) (rk (Kd.R_mono (fr2 HO256.out BK262.out (by decide) 0 (.slice Ao124 t254.length co124) 1 (.slice Ao129 t257.length co129)) (fun _ h_ => h_.1))) (by decide)) hk (fun _ h => h.2)) (fun _ h => h.1)); replace HO259 := a_ (Kd.R_mono (Kd.R_keep (IsS38.apart (show IsS38 w _ gb250 l0 t260 t261 from by repeat (first | (with_reducible first | exact HI250.out | apply IsS38.alloc | apply IsS38.drewN | apply IsS38.drew | apply IsS38.set_1 | apply IsS38.set_2 | refine IsS38.far ?_ NB250_248.out _ | refine IsS38.far ?_ NB250_249.out _ | refine IsS38.far ?_ NB250_262.out _) | exact HI250.out)) (rk (Kd.R_mono (fr2 HO259.out BK262.out (by decide) 0 (.slice Ao124 t254.length co124) 1 (.slice Ao129 t257.length co129)) (fun _ h_ => h_.1))) (by decide)) hk (fun _ h => h.2)) (fun _ h => h.1)); replace BK262 := a_ (KeepBut.blk hk (g' := gb262) (o := .cells #[.slice Ao124 t254.length co124, .slice Ao129 t257.length co129] 25 (0, 0)) (by refine pk ?_; refine blk_put (cs := #[.slice Ao124 t254.length co124, .slice none 0 0]) ?_ 1 _ rfl; refine pk ?_; refine blk_put (cs := #[.slice none 0 0, .slice none 0 0]) ?_ 0 _ rfl; refine pk ?_; exact BK262.out) NB262_250.out (by simp)); replace HB := a_ (hb); replace HI250 := a_ (hi); clear hb hk hi) | ((with_reducible refine gate_callee (f := 17) rfl ?_); refine goesL_ (some 40) rfl rfl Try.func17 (by kernel_rfl) rfl #[.pointer (some ⟨gb250, 0, none⟩), .int .i64 20] rfl (by (try simp only [lA, lB, lC]); first | done | rfl | (simp only [lD, lE]; rfl)) ?_; (with_reducible refine (spec_l1Cur_one.calls gb250 l0 t264 t265 20 false t282 t283 w _ ?side1 ?side2 A92.out).mono ?_); (case side1 => repeat (first | (with_reducible first | exact HI250.out | apply IsS38.alloc | apply IsS38.drewN | apply IsS38.drew | apply IsS38.set_1 | apply IsS38.set_2 | refine IsS38.far ?_ NB250_248.out _ | refine IsS38.far ?_ NB250_249.out _ | refine IsS38.far ?_ NB250_262.out _) | exact HI250.out)); (case side2 => repeat (first | (with_reducible first | exact HB.out | apply below_alloc | apply pw_below_drewN | apply below_drew1 | refine below_set ?_ (IsS38.ge HI250.out) | refine below_set ?_ GE248.out | refine below_set ?_ GE249.out | refine below_set ?_ GE262.out) | exact HB.out)); rintro e w131 ⟨rfl, hi, hb, hk⟩; refine ⟨_, rfl, ?_⟩; replace BK248 := a_ (KeepBut.blk hk (g' := gb248) (o := .cells #[.slice none 0 0, .slice none 0 0] 25 (0, 0)) (pk BK248.out) NB248_250.out (by simp)); replace BK249 := a_ (KeepBut.blk hk (g' := gb249) (o := .cells #[.slice none 0 0, .slice none 0 0] 25 (0, 0)) (pk BK249.out) NB249_250.out (by simp)); replace HO256 := a_ (Kd.R_mono (Kd.R_keep (IsS38.apart (show IsS38 w _ gb250 l0 t264 t265 from by repeat (first | (with_reducible first | exact HI250.out | apply IsS38.alloc | apply IsS38.drewN | apply IsS38.drew | apply IsS38.set_1 | apply IsS38.set_2 | refine IsS38.far ?_ NB250_248.out _ | refine IsS38.far ?_ NB250_249.out _ | refine IsS38.far ?_ NB250_262.out _) | exact HI250.out)) (rk HO256.out) (by decide)) hk (fun _ h => h.2)) (fun _ h => h.1)); replace HO259 := a_ (Kd.R_mono (Kd.R_keep (IsS38.apart (show IsS38 w _ gb250 l0 t264 t265 from by repeat (first | (with_reducible first | exact HI250.out | apply IsS38.alloc | apply IsS38.drewN | apply IsS38.drew | apply IsS38.set_1 | apply IsS38.set_2 | refine IsS38.far ?_ NB250_248.out _ | refine IsS38.far ?_ NB250_249.out _ | refine IsS38.far ?_ NB250_262.out _) | exact HI250.out)) (rk HO259.out) (by decide)) hk (fun _ h => h.2)) (fun _ h => h.1)); replace BK262 := a_ (KeepBut.blk hk (g' := gb262) (o := .cells #[.slice Ao124 t254.length co124, .slice Ao129 t257.length co129] 25 (0, 0)) (pk BK262.out) NB262_250.out (by simp)); replace HB := a_ (hb); replace HI250 := a_ (hi); clear hb hk hi))
   replace HO256 := a_ (Kd.R_drew HO256.out)
   replace HO259 := a_ (Kd.R_drew HO259.out)
   replace BK248 := a_ (blk_drew BK248.out)
   replace BK249 := a_ (blk_drew BK249.out)
   replace BK262 := a_ (blk_drew BK262.out)
   replace HI250 := a_ (IsS38.drew HI250.out)
   replace HB := a_ (below_drew1 HB.out)
   refine start_ (n := 6) (S := fun w' => w'.cell? ⟨gb262, 0, none⟩ = some (.slice Ao124 t254.length co124) ∧ w'.cell? ⟨gb262, 1, none⟩ = some (.slice Ao129 t257.length co129)) (ds := []) #[false, false, false, false, false, false] (by kernel_rfl) rfl rfl ⟨(blk_cell BK262.out 0).trans rfl, (blk_cell BK262.out 1).trans rfl⟩ (fun hHeld => ?_)
   generalize w131.drew = w132 at HO256 HO259 BK248 BK249 BK262 HI250 HB hHeld ⊢
   refine pure_ (i := 1) (N := some 44) (v := ?_) (a' := ?_) #[false, true, false, false, false, false] rfl rfl (by kernel_rfl) (fun _ _ _ h => h) (Or.inl ⟨by rfl, ?_⟩) ?_ ?_
   rotate_left
   ·intro w'
    go_simp
    with_reducible rfl
   rotate_left
   ·simp only [Act.put, sB, sC, sD, i64_w, i32_w]
    rfl
   refine pure_ (i := 2) (N := some 45) (v := ?_) (a' := ?_) #[false, true, true, false, false, false] rfl rfl (by kernel_rfl) (fun _ _ _ h => h) (Or.inl ⟨by rfl, ?_⟩) ?_ ?_
   rotate_left
   ·intro w'
    go_simp
    with_reducible rfl
   rotate_left
   ·simp only [Act.put, sB, sC, sD, i64_w, i32_w]
    rfl
   refine take_ (i := 0) (N := some 43) (v := ?_) (a' := ?_) #[true, true, true, false, false, false] rfl rfl (by kernel_rfl) (fun _ _ _ h => h) (Or.inl ⟨by rfl, ?_⟩) hHeld ?_ ?_
   rotate_left
   ·rintro w' ⟨s0, s1⟩
    go_simp
    with_reducible rfl
   rotate_left
   ·simp only [Act.put, sB, sC, sD, i64_w, i32_w]
    rfl
   refine one_ (i := 3) (N := some 46) #[true, true, true, true, false, false] rfl rfl (by kernel_rfl) (by decide) (fun K hK => ?_)
   refine goes_ Try.func16 (by kernel_rfl) rfl #[.pointer (some ⟨gb250, 0, none⟩), .int .i64 t251] (by rfl) rfl rfl (by (try simp only [lA, lB, lC]); first | done | rfl | (simp only [lD, lE]; rfl)) ?_
   with_reducible refine (spec_l1Cur_box.calls k gb250 l0 t282 t283 t251 t292 t295 t298 t299 w _ ?side1 ?side2 A117.out).mono ?_
   (case side1 => repeat (first | (with_reducible first | exact HI250.out | apply IsS38.alloc | apply IsS38.drewN | apply IsS38.drew | apply IsS38.set_1 | apply IsS38.set_2 | refine IsS38.far ?_ NB250_248.out _ | refine IsS38.far ?_ NB250_249.out _ | refine IsS38.far ?_ NB250_262.out _) | exact HI250.out))
   (case side2 => repeat (first | (with_reducible first | exact HB.out | apply below_alloc | apply pw_below_drewN | apply below_drew1 | refine below_set ?_ (IsS38.ge HI250.out) | refine below_set ?_ GE248.out | refine below_set ?_ GE249.out | refine below_set ?_ GE262.out) | exact HB.out))
   rintro e w133 ⟨v293, v296, rfl, ho0, ho1, hi, hb, hk⟩
   refine ⟨_, rfl, ?_⟩
   replace BK248 := a_ (KeepBut.blk hk (g' := gb248) (o := .cells #[.slice none 0 0, .slice none 0 0] 25 (0, 0)) (pk BK248.out) NB248_250.out (by simp))
   replace BK249 := a_ (KeepBut.blk hk (g' := gb249) (o := .cells #[.slice none 0 0, .slice none 0 0] 25 (0, 0)) (pk BK249.out) NB249_250.out (by simp))
   replace BK262 := a_ (KeepBut.blk hk (g' := gb262) (o := .cells #[.slice Ao124 t254.length co124, .slice Ao129 t257.length co129] 25 (0, 0)) (pk BK262.out) NB262_250.out (by simp))
   have HO294 := a_ (Kd.R_lower (nw (nw ho0 HO256.out) HO259.out) (below_size (by repeat (first | (with_reducible first | exact HB.out | apply below_alloc | apply pw_below_drewN | apply below_drew1 | refine below_set ?_ (IsS38.ge HI250.out) | refine below_set ?_ GE248.out | refine below_set ?_ GE249.out | refine below_set ?_ GE262.out) | exact HB.out))))
   have HO297 := a_ (Kd.R_lower (nw (nw ho1 HO256.out) HO259.out) (below_size (by repeat (first | (with_reducible first | exact HB.out | apply below_alloc | apply pw_below_drewN | apply below_drew1 | refine below_set ?_ (IsS38.ge HI250.out) | refine below_set ?_ GE248.out | refine below_set ?_ GE249.out | refine below_set ?_ GE262.out) | exact HB.out))))
   replace HO256 := a_ (Kd.R_mono (Kd.R_told (Kd.R_told (Kd.R_oldK (IsS38.apart (show IsS38 w _ gb250 l0 t282 t283 from by repeat (first | (with_reducible first | exact HI250.out | apply IsS38.alloc | apply IsS38.drewN | apply IsS38.drew | apply IsS38.set_1 | apply IsS38.set_2 | refine IsS38.far ?_ NB250_248.out _ | refine IsS38.far ?_ NB250_249.out _ | refine IsS38.far ?_ NB250_262.out _) | exact HI250.out)) (rk HO256.out) (by decide)) hk) (Kd.R_base ho0)) (Kd.R_base ho1)) (fun _ h_ => h_.1))
   replace HO259 := a_ (Kd.R_mono (Kd.R_told (Kd.R_told (Kd.R_oldK (IsS38.apart (show IsS38 w _ gb250 l0 t282 t283 from by repeat (first | (with_reducible first | exact HI250.out | apply IsS38.alloc | apply IsS38.drewN | apply IsS38.drew | apply IsS38.set_1 | apply IsS38.set_2 | refine IsS38.far ?_ NB250_248.out _ | refine IsS38.far ?_ NB250_249.out _ | refine IsS38.far ?_ NB250_262.out _) | exact HI250.out)) (rk HO259.out) (by decide)) hk) (Kd.R_base ho0)) (Kd.R_base ho1)) (fun _ h_ => h_.1))
   replace HB := a_ (hb)
   replace HI250 := a_ (hi)
   (try clear hb)
   (try clear hb2)
   (try clear hk)
   (try clear hi)
   (try clear ho0)
   (try clear ho1)
   obtain ⟨Ao136, co136, eo136⟩ := Kd.R_slice HO294.out
   (first | subst eo136 | (injection eo136 with f1_ f2_ f3_; obtain rfl := f1_.symm; obtain rfl := f3_.symm))
   obtain ⟨Ao138, co138, eo138⟩ := Kd.R_slice HO297.out
   (first | subst eo138 | (injection eo138 with f1_ f2_ f3_; obtain rfl := f1_.symm; obtain rfl := f3_.symm))
   refine hK.out _ _ ⟨(blk_cell BK262.out 0).trans rfl, (blk_cell BK262.out 1).trans rfl⟩ (fun hHeld => ?_)
   clear hK K
   refine norm_ (a' := ?_) ?_ ?_
   rotate_left
   ·show Act.put _ (some 46) _ = _
    simp only [Act.put, sB, sC, sD, i64_w, i32_w]
    rfl
   refine one_ (i := 4) (N := none) #[true, true, true, true, true, false] rfl rfl (by kernel_rfl) (by decide) (fun K hK => ?_)
   have hs134 : w133.cell? ⟨gb248, 0, none⟩ = some (.slice none 0 0) := (blk_cell BK248.out 0).trans rfl
   have hfs134 := blk_frozen BK248.out 0
   have hns134_1 := NB249_248.out
   have hns134_2 := NB262_248.out
   have hms134_1 := NB248_249.out
   have hms134_2 := NB248_262.out
   have hs135 : w133.cell? ⟨gb248, 1, none⟩ = some (.slice none 0 0) := (blk_cell BK248.out 1).trans rfl
   have hfs135 := blk_frozen BK248.out 1
   have hns135_1 := NB249_248.out
   have hns135_2 := NB262_248.out
   have hms135_1 := NB248_249.out
   have hms135_2 := NB248_262.out
   refine skip_ (w1 := ?_) ?_ ?_ ?_ ?_
   rotate_left
   ·rfl
   ·rfl
   ·go_simp
    rfl
   refine hK.out _ _ ⟨((cell_far (p := ⟨gb248, _, none⟩) NB262_248.out _).trans (((cell_far (p := ⟨gb248, _, none⟩) NB262_248.out _).trans (hHeld.1)))), ((cell_far (p := ⟨gb248, _, none⟩) NB262_248.out _).trans (((cell_far (p := ⟨gb248, _, none⟩) NB262_248.out _).trans (hHeld.2))))⟩ (fun hHeld => ?_)
   clear hK K
   refine one_ (i := 5) (N := none) #[true, true, true, true, true, true] rfl rfl (by kernel_rfl) (by decide) (fun K hK => ?_)
   have hs137 : w133.cell? ⟨gb249, 0, none⟩ = some (.slice none 0 0) := (blk_cell BK249.out 0).trans rfl
   have hfs137 := blk_frozen BK249.out 0
   have hns137_0 := NB248_249.out
   have hns137_2 := NB262_249.out
   have hms137_0 := NB249_248.out
   have hms137_2 := NB249_262.out
   have hs139 : w133.cell? ⟨gb249, 1, none⟩ = some (.slice none 0 0) := (blk_cell BK249.out 1).trans rfl
   have hfs139 := blk_frozen BK249.out 1
   have hns139_0 := NB248_249.out
   have hns139_2 := NB262_249.out
   have hms139_0 := NB249_248.out
   have hms139_2 := NB249_262.out
   refine skip_ (w1 := ?_) ?_ ?_ ?_ ?_
   rotate_left
   ·rfl
   ·rfl
   ·go_simp
    rfl
   refine hK.out _ _ ⟨((cell_far (p := ⟨gb249, _, none⟩) NB262_249.out _).trans (((cell_far (p := ⟨gb249, _, none⟩) NB262_249.out _).trans (hHeld.1)))), ((cell_far (p := ⟨gb249, _, none⟩) NB262_249.out _).trans (((cell_far (p := ⟨gb249, _, none⟩) NB262_249.out _).trans (hHeld.2))))⟩ (fun hHeld => ?_)
   clear hK K
   refine done_ (by kernel_rfl) ?_
   try go_wp2
   refine bodyPost_ret (results_cc rfl _ _ gb248 gb249 25 25 #[.slice Ao124 t254.length co124, .slice Ao129 t257.length co129] #[.slice Ao136 t292.length co136, .slice Ao138 t295.length co138] (0, 0) (0, 0) _ _ rfl (by refine pk ?_; refine blk_far ?_ NB248_249.out _; refine pk ?_; refine blk_far ?_ NB248_249.out _; refine pk ?_; refine blk_put (cs := #[.slice Ao124 t254.length co124, .slice none 0 0]) ?_ 1 _ rfl; refine pk ?_; refine blk_put (cs := #[.slice none 0 0, .slice none 0 0]) ?_ 0 _ rfl; refine pk ?_; exact BK248.out) Try.underlying25 rfl (by kernel_rfl) rfl (by refine pk ?_; refine blk_put (cs := #[.slice Ao136 t292.length co136, .slice none 0 0]) ?_ 1 _ rfl; refine pk ?_; refine blk_put (cs := #[.slice none 0 0, .slice none 0 0]) ?_ 0 _ rfl; refine pk ?_; refine blk_far ?_ NB249_248.out _; refine pk ?_; refine blk_far ?_ NB249_248.out _; refine pk ?_; exact BK249.out) Try.underlying25 rfl (by kernel_rfl)) rfl ?_
   exact ⟨_, rfl, _, _, _, _, by first | rfl | (simp [errW_none, errW_some] <;> rfl) | (simp [*, errW_none, errW_some] <;> rfl), by refine rk ?_; exact Kd.R_mono (Kd.R_far (p := ⟨gb249, 1, none⟩) (Kd.R_far (p := ⟨gb249, 0, none⟩) (Kd.R_far (p := ⟨gb248, 1, none⟩) (Kd.R_far (p := ⟨gb248, 0, none⟩) (Kd.R_types (Kd.R_types HO256.out BK248.out (by decide)) BK249.out (by decide)) (fun _ hk => hk.1.2) (.slice Ao124 t254.length co124)) (fun _ hk => hk.1.2) (.slice Ao129 t257.length co129)) (fun _ hk => hk.2) (.slice Ao136 t292.length co136)) (fun _ hk => hk.2) (.slice Ao138 t295.length co138)) (fun _ hk => ⟨hk.1.1.1.1, hk.1.1.1.2, hk.1.1.2⟩), by refine rk ?_; exact Kd.R_mono (Kd.R_far (p := ⟨gb249, 1, none⟩) (Kd.R_far (p := ⟨gb249, 0, none⟩) (Kd.R_far (p := ⟨gb248, 1, none⟩) (Kd.R_far (p := ⟨gb248, 0, none⟩) (Kd.R_types (Kd.R_types HO259.out BK248.out (by decide)) BK249.out (by decide)) (fun _ hk => hk.1.2) (.slice Ao124 t254.length co124)) (fun _ hk => hk.1.2) (.slice Ao129 t257.length co129)) (fun _ hk => hk.2) (.slice Ao136 t292.length co136)) (fun _ hk => hk.2) (.slice Ao138 t295.length co138)) (fun _ hk => ⟨hk.1.1.1.1, hk.1.1.1.2, hk.1.1.2⟩), by refine rk ?_; exact Kd.R_mono (Kd.R_far (p := ⟨gb249, 1, none⟩) (Kd.R_far (p := ⟨gb249, 0, none⟩) (Kd.R_far (p := ⟨gb248, 1, none⟩) (Kd.R_far (p := ⟨gb248, 0, none⟩) (Kd.R_types (Kd.R_types HO294.out BK248.out (by decide)) BK249.out (by decide)) (fun _ hk => hk.1.2) (.slice Ao124 t254.length co124)) (fun _ hk => hk.1.2) (.slice Ao129 t257.length co129)) (fun _ hk => hk.2) (.slice Ao136 t292.length co136)) (fun _ hk => hk.2) (.slice Ao138 t295.length co138)) (fun _ hk => ⟨hk.1.1.1.2, hk.1.1.2, hk.1.1.1.1⟩), by refine rk ?_; exact Kd.R_mono (Kd.R_far (p := ⟨gb249, 1, none⟩) (Kd.R_far (p := ⟨gb249, 0, none⟩) (Kd.R_far (p := ⟨gb248, 1, none⟩) (Kd.R_far (p := ⟨gb248, 0, none⟩) (Kd.R_types (Kd.R_types HO297.out BK248.out (by decide)) BK249.out (by decide)) (fun _ hk => hk.1.2) (.slice Ao124 t254.length co124)) (fun _ hk => hk.1.2) (.slice Ao129 t257.length co129)) (fun _ hk => hk.2) (.slice Ao136 t292.length co136)) (fun _ hk => hk.2) (.slice Ao138 t295.length co138)) (fun _ hk => ⟨hk.1.1.1.2, hk.1.1.2, hk.1.1.1.1⟩), by repeat (first | (with_reducible first | exact HB.out | apply below_alloc | apply pw_below_drewN | apply below_drew1 | refine below_set ?_ (IsS38.ge HI250.out) | refine below_set ?_ GE248.out | refine below_set ?_ GE249.out | refine below_set ?_ GE262.out) | exact HB.out)⟩
end

end Go.Proofs.Ytbhnnobpjmnngaa.PFnJoins
