-- Written by a program of this session out of the loaded functions' print; helper lemmas as print.sh lays them.
import Derived.Test.YtineniimpdjpnaaUp
import Derived.Test.YtineniimpdjpnaaRFnGainsx0
import Derived.Test.YtineniimpdjpnaaRFnGainsx1
import Derived.Test.YtineniimpdjpnaaRFnGainsx3
import Derived.Test.YtineniimpdjpnaaRFnGainsx4
import Derived.Test.YtineniimpdjpnaaRFnGainsx8
namespace Go.Proofs.Ytineniimpdjpnaa.PFnGains
open Go.RowKit Go.Proofs.YtineniimpdjpnaaW.PrintWords Go.Proofs.YtineniimpdjpnaaW.PrintLast Go.Proofs.YtineniimpdjpnaaW.PrintMore
attribute [local go_sem] max2_int min2_int max_two min_two max_three min_three max_four min_four  -- for this text's walks alone
set_option linter.unusedVariables false
set_option linter.unusedSimpArgs false

attribute [local go_sem high] eqA27
/-! ### spec_DrawCascadeStep: function 18 -/
def spec_DrawCascadeStep.f (k : Nat) (l0 : List Int) : Option (Int × Int × Int × Int × Int × Int × Int × Int × Int × Int × Int × Int × Int × Int × Bool × Int × Int × Int × Bool × Int × Int × Int × Int × Int × Int) := (spec_l1Cur_loop.f l0 0 0).bind fun bt265 => ((spec_l1Cur_loop.f l0 bt265.2.2.2.2.2.2.2.1 bt265.2.2.2.2.2.2.2.2).bind fun bt275 => ((spec_l1Cur_hold.f k l0 bt275.2.2.2.2.2.2.2.1 bt275.2.2.2.2.2.2.2.2 bt265.1 bt265.2.1 bt265.2.2.1 bt265.2.2.2.1 bt265.2.2.2.2.1 bt265.2.2.2.2.2.1 bt265.2.2.2.2.2.2.1).bind fun bt285 => ((spec_l1Cur_hold.f k l0 bt285.2.2.2.2.1 bt285.2.2.2.2.2 bt275.1 bt275.2.1 bt275.2.2.1 bt275.2.2.2.1 bt275.2.2.2.2.1 bt275.2.2.2.2.2.1 bt275.2.2.2.2.2.2.1).bind fun bt291 => ((spec_l1Cur_level.f l0 bt291.2.2.2.2.1 bt291.2.2.2.2.2).bind fun bt297 => ((spec_l1Cur_level.f l0 bt297.2.1 bt297.2.2).bind fun bt300 => ((spec_l1Cur_level.f l0 bt300.2.1 bt300.2.2).bind fun bt303 => (some (bt265.1, bt265.2.1, bt265.2.2.1, bt265.2.2.2.1, bt265.2.2.2.2.1, bt265.2.2.2.2.2.1, bt265.2.2.2.2.2.2.1, bt275.1, bt275.2.1, bt275.2.2.1, bt275.2.2.2.1, bt275.2.2.2.2.1, bt275.2.2.2.2.2.1, bt275.2.2.2.2.2.2.1, bt285.1, bt285.2.1, bt285.2.2.1, bt285.2.2.2.1, bt291.1, bt291.2.1, bt291.2.2.1, bt291.2.2.2.1, bt297.1, bt300.1, bt303.1))))))))
theorem spec_DrawCascadeStep.mono : ∀ a0 k, LeO (spec_DrawCascadeStep.f k a0) (spec_DrawCascadeStep.f (k + 1) a0) := by
 intro a0 k
 unfold spec_DrawCascadeStep.f
 repeat' first
   | (with_reducible exact spec_l1Cur_hold.mono _ _ _ _ _ _ _ _ _ _ _)
   | (with_reducible exact LeO.refl _)
   | (with_reducible exact LeO.none _)
   | (with_reducible refine LeO.ite ?_ ?_)
   | (with_reducible refine LeO.bind ?_ (fun _ => ?_))
   | exact spec_l1Cur_hold.mono _ _ _ _ _ _ _ _ _ _ _
   | exact LeO.none _
   | refine LeO.ite ?_ ?_
   | refine LeO.bind ?_ (fun _ => ?_)
def spec_DrawCascadeStep.T4 : Bool × List (List Nat × List Nat) := (true, [([], []), ([], []), ([], []), ([], []), ([2, 3], [2, 3]), ([], []), ([], []), ([5, 6, 4], [5, 6]), ([], []), ([8, 7], [8]), ([], []), ([10, 9], [10]), ([], []), ([12, 11], [12]), ([0, 13, 0], [0]), ([1, 14, 0, 1, 14], [1]), ([4, 15, 0, 1, 2, 3, 4, 14, 15], [4]), ([7, 16, 0, 1, 2, 3, 4, 5, 6, 7, 14, 15, 16], [7]), ([9, 17, 0, 1, 2, 3, 4, 5, 6, 7, 8, 9, 14, 15, 16, 17], [9]), ([11, 18, 0, 1, 2, 3, 4, 5, 6, 7, 8, 9, 10, 11, 14, 15, 16, 17, 18], [11]), ([13, 19, 0, 1, 2, 3, 4, 5, 6, 7, 8, 9, 10, 11, 12, 13, 14, 15, 16, 17, 18, 19], [13])])
def spec_DrawCascadeStep.B4 : List Nat := [0, 0, 0, 0, 12, 0, 0, 124, 0, 508, 0, 2044, 0, 8188, 16381, 32767, 65535, 131071, 262143, 524287, 1048575]
theorem spec_DrawCascadeStep.tab4 : rtab .any (opsOf Try.f18 4) = spec_DrawCascadeStep.T4 := by kernel_rfl
theorem spec_DrawCascadeStep.bits4 : waitsOk spec_DrawCascadeStep.T4.2 spec_DrawCascadeStep.B4 = true := by kernel_rfl
set_option maxHeartbeats 8000000 in
set_option maxRecDepth 100000 in
theorem spec_DrawCascadeStep.calls (k : Nat) (A0 : Option Addr) (c0 : Nat) (l0 : List Int) (r1 : Int) (r2 : Int) (r3 : Int) (r4 : Int) (r5 : Int) (r6 : Int) (r7 : Int) (r8 : Int) (r9 : Int) (r10 : Int) (r11 : Int) (r12 : Int) (r13 : Int) (r14 : Int) (r15 : Bool) (r16 : Int) (r17 : Int) (r18 : Int) (r19 : Bool) (r20 : Int) (r21 : Int) (r22 : Int) (r23 : Int) (r24 : Int) (r25 : Int) (w : World) (hr0 : Kd.C (Kd.int .u8) w A0 l0.length l0) (hc0 : l0.length ≤ c0) (h : spec_DrawCascadeStep.f k l0 = some (r1, r2, r3, r4, r5, r6, r7, r8, r9, r10, r11, r12, r13, r14, r15, r16, r17, r18, r19, r20, r21, r22, r23, r24, r25)) :
  Calls Try.prog 18 #[.slice A0 l0.length c0] w fun e w' => e = .returned (.tuple #[.agg #[.int .i64 r1, .int .i64 r2, .int .i64 r3, .int .i64 r4, .int .i64 r5, .int .i64 r6, .int .i64 r7], .agg #[.int .i64 r8, .int .i64 r9, .int .i64 r10, .int .i64 r11, .int .i64 r12, .int .i64 r13, .int .i64 r14], .agg #[.bool r15, .int .i64 r16, .int .i64 r17, .int .i64 r18], .agg #[.bool r19, .int .i64 r20, .int .i64 r21, .int .i64 r22], .int .i64 r23, .int .i64 r24, .int .i64 r25]) ∧ Below w.heap.size w w' := by
 have hu30 := Try.underlying30
 have hu27 := Try.underlying27
 have hu61 := Try.underlying61
 have HR0 := Aside0.mk hr0
 have HC0 := Aside0.mk hc0
 clear hr0 hc0
 have HB := a_ (Below.refl w.heap.size w)
 have H : ((spec_l1Cur_loop.f l0 0 0).bind fun bt265 => ((spec_l1Cur_loop.f l0 bt265.2.2.2.2.2.2.2.1 bt265.2.2.2.2.2.2.2.2).bind fun bt275 => ((spec_l1Cur_hold.f k l0 bt275.2.2.2.2.2.2.2.1 bt275.2.2.2.2.2.2.2.2 bt265.1 bt265.2.1 bt265.2.2.1 bt265.2.2.2.1 bt265.2.2.2.2.1 bt265.2.2.2.2.2.1 bt265.2.2.2.2.2.2.1).bind fun bt285 => ((spec_l1Cur_hold.f k l0 bt285.2.2.2.2.1 bt285.2.2.2.2.2 bt275.1 bt275.2.1 bt275.2.2.1 bt275.2.2.2.1 bt275.2.2.2.2.1 bt275.2.2.2.2.2.1 bt275.2.2.2.2.2.2.1).bind fun bt291 => ((spec_l1Cur_level.f l0 bt291.2.2.2.2.1 bt291.2.2.2.2.2).bind fun bt297 => ((spec_l1Cur_level.f l0 bt297.2.1 bt297.2.2).bind fun bt300 => ((spec_l1Cur_level.f l0 bt300.2.1 bt300.2.2).bind fun bt303 => (some (bt265.1, bt265.2.1, bt265.2.2.1, bt265.2.2.2.1, bt265.2.2.2.2.1, bt265.2.2.2.2.2.1, bt265.2.2.2.2.2.2.1, bt275.1, bt275.2.1, bt275.2.2.1, bt275.2.2.2.1, bt275.2.2.2.2.1, bt275.2.2.2.2.2.1, bt275.2.2.2.2.2.2.1, bt285.1, bt285.2.1, bt285.2.2.1, bt285.2.2.2.1, bt291.1, bt291.2.1, bt291.2.2.1, bt291.2.2.2.1, bt297.1, bt300.1, bt303.1))))))))) = some (r1, r2, r3, r4, r5, r6, r7, r8, r9, r10, r11, r12, r13, r14, r15, r16, r17, r18, r19, r20, r21, r22, r23, r24, r25) := h
 clear h
 replace H := Option.bind_eq_some_iff.mp H
 obtain ⟨⟨t265, t266, t267, t268, t269, t270, t271, t272, t273⟩, A20, H⟩ := H
 replace H : ((spec_l1Cur_loop.f l0 t272 t273).bind fun bt275 => ((spec_l1Cur_hold.f k l0 bt275.2.2.2.2.2.2.2.1 bt275.2.2.2.2.2.2.2.2 t265 t266 t267 t268 t269 t270 t271).bind fun bt285 => ((spec_l1Cur_hold.f k l0 bt285.2.2.2.2.1 bt285.2.2.2.2.2 bt275.1 bt275.2.1 bt275.2.2.1 bt275.2.2.2.1 bt275.2.2.2.2.1 bt275.2.2.2.2.2.1 bt275.2.2.2.2.2.2.1).bind fun bt291 => ((spec_l1Cur_level.f l0 bt291.2.2.2.2.1 bt291.2.2.2.2.2).bind fun bt297 => ((spec_l1Cur_level.f l0 bt297.2.1 bt297.2.2).bind fun bt300 => ((spec_l1Cur_level.f l0 bt300.2.1 bt300.2.2).bind fun bt303 => (some (t265, t266, t267, t268, t269, t270, t271, bt275.1, bt275.2.1, bt275.2.2.1, bt275.2.2.2.1, bt275.2.2.2.2.1, bt275.2.2.2.2.2.1, bt275.2.2.2.2.2.2.1, bt285.1, bt285.2.1, bt285.2.2.1, bt285.2.2.2.1, bt291.1, bt291.2.1, bt291.2.2.1, bt291.2.2.2.1, bt297.1, bt300.1, bt303.1)))))))) = some (r1, r2, r3, r4, r5, r6, r7, r8, r9, r10, r11, r12, r13, r14, r15, r16, r17, r18, r19, r20, r21, r22, r23, r24, r25) := H
 have A2 := Aside0.mk A20
 clear A20
 replace H := Option.bind_eq_some_iff.mp H
 obtain ⟨⟨t275, t276, t277, t278, t279, t280, t281, t282, t283⟩, A30, H⟩ := H
 replace H : ((spec_l1Cur_hold.f k l0 t282 t283 t265 t266 t267 t268 t269 t270 t271).bind fun bt285 => ((spec_l1Cur_hold.f k l0 bt285.2.2.2.2.1 bt285.2.2.2.2.2 t275 t276 t277 t278 t279 t280 t281).bind fun bt291 => ((spec_l1Cur_level.f l0 bt291.2.2.2.2.1 bt291.2.2.2.2.2).bind fun bt297 => ((spec_l1Cur_level.f l0 bt297.2.1 bt297.2.2).bind fun bt300 => ((spec_l1Cur_level.f l0 bt300.2.1 bt300.2.2).bind fun bt303 => (some (t265, t266, t267, t268, t269, t270, t271, t275, t276, t277, t278, t279, t280, t281, bt285.1, bt285.2.1, bt285.2.2.1, bt285.2.2.2.1, bt291.1, bt291.2.1, bt291.2.2.1, bt291.2.2.2.1, bt297.1, bt300.1, bt303.1))))))) = some (r1, r2, r3, r4, r5, r6, r7, r8, r9, r10, r11, r12, r13, r14, r15, r16, r17, r18, r19, r20, r21, r22, r23, r24, r25) := H
 have A3 := Aside0.mk A30
 clear A30
 replace H := Option.bind_eq_some_iff.mp H
 obtain ⟨⟨t285, t286, t287, t288, t289, t290⟩, A40, H⟩ := H
 replace H : ((spec_l1Cur_hold.f k l0 t289 t290 t275 t276 t277 t278 t279 t280 t281).bind fun bt291 => ((spec_l1Cur_level.f l0 bt291.2.2.2.2.1 bt291.2.2.2.2.2).bind fun bt297 => ((spec_l1Cur_level.f l0 bt297.2.1 bt297.2.2).bind fun bt300 => ((spec_l1Cur_level.f l0 bt300.2.1 bt300.2.2).bind fun bt303 => (some (t265, t266, t267, t268, t269, t270, t271, t275, t276, t277, t278, t279, t280, t281, t285, t286, t287, t288, bt291.1, bt291.2.1, bt291.2.2.1, bt291.2.2.2.1, bt297.1, bt300.1, bt303.1)))))) = some (r1, r2, r3, r4, r5, r6, r7, r8, r9, r10, r11, r12, r13, r14, r15, r16, r17, r18, r19, r20, r21, r22, r23, r24, r25) := H
 have A4 := Aside0.mk A40
 clear A40
 replace H := Option.bind_eq_some_iff.mp H
 obtain ⟨⟨t291, t292, t293, t294, t295, t296⟩, A50, H⟩ := H
 replace H : ((spec_l1Cur_level.f l0 t295 t296).bind fun bt297 => ((spec_l1Cur_level.f l0 bt297.2.1 bt297.2.2).bind fun bt300 => ((spec_l1Cur_level.f l0 bt300.2.1 bt300.2.2).bind fun bt303 => (some (t265, t266, t267, t268, t269, t270, t271, t275, t276, t277, t278, t279, t280, t281, t285, t286, t287, t288, t291, t292, t293, t294, bt297.1, bt300.1, bt303.1))))) = some (r1, r2, r3, r4, r5, r6, r7, r8, r9, r10, r11, r12, r13, r14, r15, r16, r17, r18, r19, r20, r21, r22, r23, r24, r25) := H
 have A5 := Aside0.mk A50
 clear A50
 replace H := Option.bind_eq_some_iff.mp H
 obtain ⟨⟨t297, t298, t299⟩, A60, H⟩ := H
 replace H : ((spec_l1Cur_level.f l0 t298 t299).bind fun bt300 => ((spec_l1Cur_level.f l0 bt300.2.1 bt300.2.2).bind fun bt303 => (some (t265, t266, t267, t268, t269, t270, t271, t275, t276, t277, t278, t279, t280, t281, t285, t286, t287, t288, t291, t292, t293, t294, t297, bt300.1, bt303.1)))) = some (r1, r2, r3, r4, r5, r6, r7, r8, r9, r10, r11, r12, r13, r14, r15, r16, r17, r18, r19, r20, r21, r22, r23, r24, r25) := H
 have A6 := Aside0.mk A60
 clear A60
 replace H := Option.bind_eq_some_iff.mp H
 obtain ⟨⟨t300, t301, t302⟩, A70, H⟩ := H
 replace H : ((spec_l1Cur_level.f l0 t301 t302).bind fun bt303 => (some (t265, t266, t267, t268, t269, t270, t271, t275, t276, t277, t278, t279, t280, t281, t285, t286, t287, t288, t291, t292, t293, t294, t297, t300, bt303.1))) = some (r1, r2, r3, r4, r5, r6, r7, r8, r9, r10, r11, r12, r13, r14, r15, r16, r17, r18, r19, r20, r21, r22, r23, r24, r25) := H
 have A7 := Aside0.mk A70
 clear A70
 replace H := Option.bind_eq_some_iff.mp H
 obtain ⟨⟨t303, t304, t305⟩, A80, H⟩ := H
 replace H : (some (t265, t266, t267, t268, t269, t270, t271, t275, t276, t277, t278, t279, t280, t281, t285, t286, t287, t288, t291, t292, t293, t294, t297, t300, t303)) = some (r1, r2, r3, r4, r5, r6, r7, r8, r9, r10, r11, r12, r13, r14, r15, r16, r17, r18, r19, r20, r21, r22, r23, r24, r25) := H
 have A8 := Aside0.mk A80
 clear A80
 simp only [Option.some.injEq, Prod.mk.injEq] at H
 obtain ⟨rfl, rfl, rfl, rfl, rfl, rfl, rfl, rfl, rfl, rfl, rfl, rfl, rfl, rfl, rfl, rfl, rfl, rfl, rfl, rfl, rfl, rfl, rfl, rfl, rfl⟩ := H
 go_enter Try.func18, Try.ntmps18
 try go_wp2_with (first | ((with_reducible refine gate_dst (N := 2) rfl ?_); refine box_event ?hg (N := 2) ?hd (cs := #[.int .i64 0, .int .i64 0, .int .i64 0, .int .i64 0, .int .i64 0, .int .i64 0, .int .i64 0]) (t := 30) ?hr ?_; (case hd => rfl); (case hg => rfl); (case hr => first | (go_simp; done) | (go_simp; rfl)); intro gb260 hg w9 hbox hb; have BK260 := a_ (hbox); have GW260 := a_ (bsg hg HB.out); have GE260 := a_ (bsg hg HB.out); replace HB := a_ (below_step (un HB.out) hb); clear hb hbox hg) | ((with_reducible refine gate_dst (N := 3) rfl ?_); refine box_event ?hg (N := 3) ?hd (cs := #[.int .i64 0, .int .i64 0, .int .i64 0, .int .i64 0, .int .i64 0, .int .i64 0, .int .i64 0]) (t := 30) ?hr ?_; (case hd => rfl); (case hg => rfl); (case hr => first | (go_simp; done) | (go_simp; rfl)); intro gb261 hg w10 hbox hb; have BK261 := a_ (hbox); have GW261 := a_ (bsg hg HB.out); have GE261 := a_ (bsg hg HB.out); replace HB := a_ (below_step (by repeat first | (with_reducible first | exact HB.out | refine bz ?_ (by assumption) | apply bA | apply bN | apply bD) | exact HB.out) hb); have NB260_261 := a_ (nel hg BK260.out); have NB261_260 := a_ (nle hg BK260.out); replace BK260 := a_ (blk_below (pk BK260.out) hb); clear hb hbox hg) | ((with_reducible refine gate_dst (N := 4) rfl ?_); refine box_event ?hg (N := 4) ?hd (cs := #[.bool false, .int .i64 0, .int .i64 0, .int .i64 0]) (t := 27) ?hr ?_; (case hd => rfl); (case hg => rfl); (case hr => first | (go_simp; done) | (go_simp; rfl)); intro gb262 hg w11 hbox hb; have BK262 := a_ (hbox); have GW262 := a_ (bsg hg HB.out); have GE262 := a_ (bsg hg HB.out); replace HB := a_ (below_step (by repeat first | (with_reducible first | exact HB.out | refine bz ?_ (by assumption) | apply bA | apply bN | apply bD) | exact HB.out) hb); have NB260_262 := a_ (nel hg BK260.out); have NB262_260 := a_ (nle hg BK260.out); replace BK260 := a_ (blk_below (pk BK260.out) hb); have NB261_262 := a_ (nel hg BK261.out); have NB262_261 := a_ (nle hg BK261.out); replace BK261 := a_ (blk_below (pk BK261.out) hb); clear hb hbox hg) | ((with_reducible refine gate_dst (N := 5) rfl ?_); refine box_event ?hg (N := 5) ?hd (cs := #[.bool false, .int .i64 0, .int .i64 0, .int .i64 0]) (t := 27) ?hr ?_; (case hd => rfl); (case hg => rfl); (case hr => first | (go_simp; done) | (go_simp; rfl)); intro gb263 hg w12 hbox hb; have BK263 := a_ (hbox); have GW263 := a_ (bsg hg HB.out); have GE263 := a_ (bsg hg HB.out); replace HB := a_ (below_step (by repeat first | (with_reducible first | exact HB.out | refine bz ?_ (by assumption) | apply bA | apply bN | apply bD) | exact HB.out) hb); have NB260_263 := a_ (nel hg BK260.out); have NB263_260 := a_ (nle hg BK260.out); replace BK260 := a_ (blk_below (pk BK260.out) hb); have NB261_263 := a_ (nel hg BK261.out); have NB263_261 := a_ (nle hg BK261.out); replace BK261 := a_ (blk_below (pk BK261.out) hb); have NB262_263 := a_ (nel hg BK262.out); have NB263_262 := a_ (nle hg BK262.out); replace BK262 := a_ (blk_below (pk BK262.out) hb); clear hb hbox hg) | ((with_reducible refine gate_dst (N := 14) rfl ?_); refine box_event ?hg (N := 14) ?hd (cs := #[.slice A0 l0.length c0, .int .i64 0, .int .u64 0]) (t := 61) ?hr ?_; (case hd => rfl); (case hg => rfl); (case hr => first | (go_simp; done) | (go_simp; rfl)); intro gb264 hg w13 hbox hb; have GW264 := a_ (bsg hg HB.out); have GE264 := a_ (bsg hg HB.out); have NB260_264 := a_ (nel hg BK260.out); have NB264_260 := a_ (nle hg BK260.out); replace BK260 := a_ (blk_below (pk BK260.out) hb); have NB261_264 := a_ (nel hg BK261.out); have NB264_261 := a_ (nle hg BK261.out); replace BK261 := a_ (blk_below (pk BK261.out) hb); have NB262_264 := a_ (nel hg BK262.out); have NB264_262 := a_ (nle hg BK262.out); replace BK262 := a_ (blk_below (pk BK262.out) hb); have NB263_264 := a_ (nel hg BK263.out); have NB264_263 := a_ (nle hg BK263.out); replace BK263 := a_ (blk_below (pk BK263.out) hb); have HI264 := a_ (show IsS61 w w13 gb264 l0 0 0 from ⟨_, _, hbox, (by rw [hg]; exact (below_size (by repeat first | (with_reducible first | exact HB.out | refine bz ?_ (by assumption) | apply bA | apply bN | apply bD) | exact HB.out)) : w.heap.size ≤ gb264), HR0.out⟩); replace HB := a_ (below_step (by repeat first | (with_reducible first | exact HB.out | refine bz ?_ (by assumption) | apply bA | apply bN | apply bD) | exact HB.out) hb); clear hb hbox hg) | ((with_reducible refine gate_callee (f := 28) rfl ?_); refine goesL_ (some 16) rfl rfl Try.func28 (by kernel_rfl) rfl #[.pointer (some ⟨gb264, 0, none⟩)] rfl (by (try simp only [lA, lB, lC]); first | done | rfl | (simp only [lD, lE]; rfl)) ?_; (with_reducible refine (spec_l1Cur_loop.calls gb264 l0 0 0 t265 t266 t267 t268 t269 t270 t271 t272 t273 w _ ?side1 ?side2 A2.out).mono ?_); (case side1 => repeat (first | (with_reducible first | exact HI264.out | apply IsS61.alloc | apply IsS61.drewN | apply IsS61.drew | apply IsS61.set_1 | apply IsS61.set_2 | refine IsS61.far ?_ NB264_260.out _ | refine IsS61.far ?_ NB264_261.out _ | refine IsS61.far ?_ NB264_262.out _ | refine IsS61.far ?_ NB264_263.out _) | exact HI264.out)); (case side2 => repeat (first | (with_reducible first | exact HB.out | apply below_alloc | apply pw_below_drewN | apply below_drew1 | refine below_set ?_ (IsS61.ge HI264.out) | refine below_set ?_ GE260.out | refine below_set ?_ GE261.out | refine below_set ?_ GE262.out | refine below_set ?_ GE263.out) | exact HB.out)); rintro e w14 ⟨rfl, hi, hb, hk⟩; refine ⟨_, rfl, ?_⟩; replace BK260 := a_ (KeepBut.blk hk (g' := gb260) (o := .cells #[.int .i64 0, .int .i64 0, .int .i64 0, .int .i64 0, .int .i64 0, .int .i64 0, .int .i64 0] 30 (0, 0)) (pk BK260.out) NB260_264.out (by simp)); replace BK261 := a_ (KeepBut.blk hk (g' := gb261) (o := .cells #[.int .i64 0, .int .i64 0, .int .i64 0, .int .i64 0, .int .i64 0, .int .i64 0, .int .i64 0] 30 (0, 0)) (pk BK261.out) NB261_264.out (by simp)); replace BK262 := a_ (KeepBut.blk hk (g' := gb262) (o := .cells #[.bool false, .int .i64 0, .int .i64 0, .int .i64 0] 27 (0, 0)) (pk BK262.out) NB262_264.out (by simp)); replace BK263 := a_ (KeepBut.blk hk (g' := gb263) (o := .cells #[.bool false, .int .i64 0, .int .i64 0, .int .i64 0] 27 (0, 0)) (pk BK263.out) NB263_264.out (by simp)); replace HB := a_ (hb); replace HI264 := a_ (hi); clear hb hk hi) | ((with_reducible refine gate_dst (N := 10) rfl ?_); refine box_event ?hg (N := 10) ?hd (cs := #[.int .i64 0, .int .i64 0, .int .i64 0, .int .i64 0, .int .i64 0, .int .i64 0, .int .i64 0]) (t := 30) ?hr ?_; (case hd => rfl); (case hg => rfl); (case hr => first | (go_simp; done) | (go_simp; rfl)); intro gb274 hg w15 hbox hb; have BK274 := a_ (hbox); have GW274 := a_ (by rw [hg]; exact (below_size (by repeat (first | (with_reducible first | exact HB.out | apply below_alloc | apply pw_below_drewN | apply below_drew1 | refine below_set ?_ (IsS61.ge HI264.out) | refine below_set ?_ GE260.out | refine below_set ?_ GE261.out | refine below_set ?_ GE262.out | refine below_set ?_ GE263.out) | exact HB.out))) : w.heap.size ≤ gb274); have GE274 := a_ (by rw [hg]; exact (below_size (by repeat (first | (with_reducible first | exact HB.out | apply below_alloc | apply pw_below_drewN | apply below_drew1 | refine below_set ?_ (IsS61.ge HI264.out) | refine below_set ?_ GE260.out | refine below_set ?_ GE261.out | refine below_set ?_ GE262.out | refine below_set ?_ GE263.out) | exact HB.out))) : w.heap.size ≤ gb274); replace HB := a_ (below_step (by repeat (first | (with_reducible first | exact HB.out | apply below_alloc | apply pw_below_drewN | apply below_drew1 | refine below_set ?_ (IsS61.ge HI264.out) | refine below_set ?_ GE260.out | refine below_set ?_ GE261.out | refine below_set ?_ GE262.out | refine below_set ?_ GE263.out) | exact HB.out)) hb); have NB260_274 := a_ (nel hg BK260.out); have NB274_260 := a_ (nle hg BK260.out); replace BK260 := a_ (blk_below (pk BK260.out) hb); have NB261_274 := a_ (nel hg BK261.out); have NB274_261 := a_ (nle hg BK261.out); replace BK261 := a_ (blk_below (pk BK261.out) hb); have NB262_274 := a_ (nel hg BK262.out); have NB274_262 := a_ (nle hg BK262.out); replace BK262 := a_ (blk_below (pk BK262.out) hb); have NB263_274 := a_ (nel hg BK263.out); have NB274_263 := a_ (nle hg BK263.out); replace BK263 := a_ (blk_below (pk BK263.out) hb); have NB264_274 := a_ (by rw [hg]; exact Nat.ne_of_lt (IsS61.lt (show IsS61 w _ gb264 l0 t272 t273 from by repeat (first | (with_reducible first | exact HI264.out | apply IsS61.alloc | apply IsS61.drewN | apply IsS61.drew | apply IsS61.set_1 | apply IsS61.set_2 | refine IsS61.far ?_ NB264_260.out _ | refine IsS61.far ?_ NB264_261.out _ | refine IsS61.far ?_ NB264_262.out _ | refine IsS61.far ?_ NB264_263.out _) | exact HI264.out))) : gb264 ≠ gb274); have NB274_264 := a_ (by rw [hg]; exact Nat.ne_of_gt (IsS61.lt (show IsS61 w _ gb264 l0 t272 t273 from by repeat (first | (with_reducible first | exact HI264.out | apply IsS61.alloc | apply IsS61.drewN | apply IsS61.drew | apply IsS61.set_1 | apply IsS61.set_2 | refine IsS61.far ?_ NB264_260.out _ | refine IsS61.far ?_ NB264_261.out _ | refine IsS61.far ?_ NB264_262.out _ | refine IsS61.far ?_ NB264_263.out _) | exact HI264.out))) : gb274 ≠ gb264); replace HI264 := a_ (IsS61.below (by repeat (first | (with_reducible first | exact HI264.out | apply IsS61.alloc | apply IsS61.drewN | apply IsS61.drew | apply IsS61.set_1 | apply IsS61.set_2 | refine IsS61.far ?_ NB264_260.out _ | refine IsS61.far ?_ NB264_261.out _ | refine IsS61.far ?_ NB264_262.out _ | refine IsS61.far ?_ NB264_263.out _) | exact HI264.out)) hb); clear hb hbox hg; have hnb16 := NB274_260.out; have hnc16 := NB260_274.out; have hnb17 := NB274_261.out; have hnc17 := NB261_274.out; have hnb18 := NB274_262.out; have hnc18 := NB262_274.out; have hnb19 := NB274_263.out; have hnc19 := NB263_274.out; have hnb20 := NB274_264.out; have hnc20 := NB264_274.out; have hcz21_0 : _ = some (Value.int .i64 0) := (blk_cell BK274.out 0).trans rfl; have hcz21_1 : _ = some (Value.int .i64 0) := (blk_cell BK274.out 1).trans rfl; have hcz21_2 : _ = some (Value.int .i64 0) := (blk_cell BK274.out 2).trans rfl; have hcz21_3 : _ = some (Value.int .i64 0) := (blk_cell BK274.out 3).trans rfl; have hcz21_4 : _ = some (Value.int .i64 0) := (blk_cell BK274.out 4).trans rfl; have hcz21_5 : _ = some (Value.int .i64 0) := (blk_cell BK274.out 5).trans rfl; have hcz21_6 : _ = some (Value.int .i64 0) := (blk_cell BK274.out 6).trans rfl; have hfz21_0 := blk_frozen BK274.out 0; have hfz21_1 := blk_frozen BK274.out 1; have hfz21_2 := blk_frozen BK274.out 2; have hfz21_3 := blk_frozen BK274.out 3; have hfz21_4 := blk_frozen BK274.out 4; have hfz21_5 := blk_frozen BK274.out 5; have hfz21_6 := blk_frozen BK274.out 6) | ((with_reducible refine gate_callee (f := 28) rfl ?_); refine goesL_ (some 18) rfl rfl Try.func28 (by kernel_rfl) rfl #[.pointer (some ⟨gb264, 0, none⟩)] rfl (by (try simp only [lA, lB, lC]); first | done | rfl | (simp only [lD, lE]; rfl)) ?_; (with_reducible refine (spec_l1Cur_loop.calls gb264 l0 t272 t273 t275 t276 t277 t278 t279 t280 t281 t282 t283 w _ ?side1 ?side2 A3.out).mono ?_); (case side1 => repeat (first | (with_reducible first | exact HI264.out | apply IsS61.alloc | apply IsS61.drewN | apply IsS61.drew | apply IsS61.set_1 | apply IsS61.set_2 | refine IsS61.far ?_ NB264_260.out _ | refine IsS61.far ?_ NB264_261.out _ | refine IsS61.far ?_ NB264_262.out _ | refine IsS61.far ?_ NB264_263.out _ | refine IsS61.far ?_ NB264_274.out _) | exact HI264.out)); (case side2 => repeat (first | (with_reducible first | exact HB.out | apply below_alloc | apply pw_below_drewN | apply below_drew1 | refine below_set ?_ (IsS61.ge HI264.out) | refine below_set ?_ GE260.out | refine below_set ?_ GE261.out | refine below_set ?_ GE262.out | refine below_set ?_ GE263.out | refine below_set ?_ GE274.out) | exact HB.out)); rintro e w22 ⟨rfl, hi, hb, hk⟩; refine ⟨_, rfl, ?_⟩; replace BK260 := a_ (KeepBut.blk hk (g' := gb260) (o := .cells #[.int .i64 0, .int .i64 0, .int .i64 0, .int .i64 0, .int .i64 0, .int .i64 0, .int .i64 0] 30 (0, 0)) (by refine pk ?_; refine blk_far ?_ NB260_274.out _; refine pk ?_; refine blk_far ?_ NB260_274.out _; refine pk ?_; refine blk_far ?_ NB260_274.out _; refine pk ?_; refine blk_far ?_ NB260_274.out _; refine pk ?_; refine blk_far ?_ NB260_274.out _; refine pk ?_; refine blk_far ?_ NB260_274.out _; refine pk ?_; refine blk_far ?_ NB260_274.out _; refine pk ?_; exact BK260.out) NB260_264.out (by simp)); replace BK261 := a_ (KeepBut.blk hk (g' := gb261) (o := .cells #[.int .i64 0, .int .i64 0, .int .i64 0, .int .i64 0, .int .i64 0, .int .i64 0, .int .i64 0] 30 (0, 0)) (by refine pk ?_; refine blk_far ?_ NB261_274.out _; refine pk ?_; refine blk_far ?_ NB261_274.out _; refine pk ?_; refine blk_far ?_ NB261_274.out _; refine pk ?_; refine blk_far ?_ NB261_274.out _; refine pk ?_; refine blk_far ?_ NB261_274.out _; refine pk ?_; refine blk_far ?_ NB261_274.out _; refine pk ?_; refine blk_far ?_ NB261_274.out _; refine pk ?_; exact BK261.out) NB261_264.out (by simp)); replace BK262 := a_ (KeepBut.blk hk (g' := gb262) (o := .cells #[.bool false, .int .i64 0, .int .i64 0, .int .i64 0] 27 (0, 0)) (by refine pk ?_; refine blk_far ?_ NB262_274.out _; refine pk ?_; refine blk_far ?_ NB262_274.out _; refine pk ?_; refine blk_far ?_ NB262_274.out _; refine pk ?_; refine blk_far ?_ NB262_274.out _; refine pk ?_; refine blk_far ?_ NB262_274.out _; refine pk ?_; refine blk_far ?_ NB262_274.out _; refine pk ?_; refine blk_far ?_ NB262_274.out _; refine pk ?_; exact BK262.out) NB262_264.out (by simp)); replace BK263 := a_ (KeepBut.blk hk (g' := gb263) (o := .cells #[.bool false, .int .i64 0, .int .i64 0, .int .i64 0] 27 (0, 0)) (by refine pk ?_; refine blk_far ?_ NB263_274.out _; refine pk ?_; refine blk_far ?_ NB263_274.out _; refine pk ?_; refine blk_far ?_ NB263_274.out _; refine pk ?_; refine blk_far ?_ NB263_274.out _; refine pk ?_; refine blk_far ?_ NB263_274.out _; refine pk ?_; refine blk_far ?_ NB263_274.out _; refine pk ?_; refine blk_far ?_ NB263_274.out _; refine pk ?_; exact BK263.out) NB263_264.out (by simp)); replace BK274 := a_ (KeepBut.blk hk (g' := gb274) (o := .cells #[.int .i64 t265, .int .i64 t266, .int .i64 t267, .int .i64 t268, .int .i64 t269, .int .i64 t270, .int .i64 t271] 30 (0, 0)) (by refine pk ?_; refine blk_put (cs := #[.int .i64 t265, .int .i64 t266, .int .i64 t267, .int .i64 t268, .int .i64 t269, .int .i64 t270, .int .i64 0]) ?_ 6 _ rfl; refine pk ?_; refine blk_put (cs := #[.int .i64 t265, .int .i64 t266, .int .i64 t267, .int .i64 t268, .int .i64 t269, .int .i64 0, .int .i64 0]) ?_ 5 _ rfl; refine pk ?_; refine blk_put (cs := #[.int .i64 t265, .int .i64 t266, .int .i64 t267, .int .i64 t268, .int .i64 0, .int .i64 0, .int .i64 0]) ?_ 4 _ rfl; refine pk ?_; refine blk_put (cs := #[.int .i64 t265, .int .i64 t266, .int .i64 t267, .int .i64 0, .int .i64 0, .int .i64 0, .int .i64 0]) ?_ 3 _ rfl; refine pk ?_; refine blk_put (cs := #[.int .i64 t265, .int .i64 t266, .int .i64 0, .int .i64 0, .int .i64 0, .int .i64 0, .int .i64 0]) ?_ 2 _ rfl; refine pk ?_; refine blk_put (cs := #[.int .i64 t265, .int .i64 0, .int .i64 0, .int .i64 0, .int .i64 0, .int .i64 0, .int .i64 0]) ?_ 1 _ rfl; refine pk ?_; refine blk_put (cs := #[.int .i64 0, .int .i64 0, .int .i64 0, .int .i64 0, .int .i64 0, .int .i64 0, .int .i64 0]) ?_ 0 _ rfl; refine pk ?_; exact BK274.out) NB274_264.out (by simp)); replace HB := a_ (hb); replace HI264 := a_ (hi); clear hb hk hi) | ((with_reducible refine gate_dst (N := 11) rfl ?_); refine box_event ?hg (N := 11) ?hd (cs := #[.int .i64 0, .int .i64 0, .int .i64 0, .int .i64 0, .int .i64 0, .int .i64 0, .int .i64 0]) (t := 30) ?hr ?_; (case hd => rfl); (case hg => rfl); (case hr => first | (go_simp; done) | (go_simp; rfl)); intro gb284 hg w23 hbox hb; have BK284 := a_ (hbox); have GW284 := a_ (by rw [hg]; exact (below_size (by repeat (first | (with_reducible first | exact HB.out | apply below_alloc | apply pw_below_drewN | apply below_drew1 | refine below_set ?_ (IsS61.ge HI264.out) | refine below_set ?_ GE260.out | refine below_set ?_ GE261.out | refine below_set ?_ GE262.out | refine below_set ?_ GE263.out | refine below_set ?_ GE274.out) | exact HB.out))) : w.heap.size ≤ gb284); have GE284 := a_ (by rw [hg]; exact (below_size (by repeat (first | (with_reducible first | exact HB.out | apply below_alloc | apply pw_below_drewN | apply below_drew1 | refine below_set ?_ (IsS61.ge HI264.out) | refine below_set ?_ GE260.out | refine below_set ?_ GE261.out | refine below_set ?_ GE262.out | refine below_set ?_ GE263.out | refine below_set ?_ GE274.out) | exact HB.out))) : w.heap.size ≤ gb284); replace HB := a_ (below_step (by repeat (first | (with_reducible first | exact HB.out | apply below_alloc | apply pw_below_drewN | apply below_drew1 | refine below_set ?_ (IsS61.ge HI264.out) | refine below_set ?_ GE260.out | refine below_set ?_ GE261.out | refine below_set ?_ GE262.out | refine below_set ?_ GE263.out | refine below_set ?_ GE274.out) | exact HB.out)) hb); have NB260_284 := a_ (nel hg BK260.out); have NB284_260 := a_ (nle hg BK260.out); replace BK260 := a_ (blk_below (pk BK260.out) hb); have NB261_284 := a_ (nel hg BK261.out); have NB284_261 := a_ (nle hg BK261.out); replace BK261 := a_ (blk_below (pk BK261.out) hb); have NB262_284 := a_ (nel hg BK262.out); have NB284_262 := a_ (nle hg BK262.out); replace BK262 := a_ (blk_below (pk BK262.out) hb); have NB263_284 := a_ (nel hg BK263.out); have NB284_263 := a_ (nle hg BK263.out); replace BK263 := a_ (blk_below (pk BK263.out) hb); have NB274_284 := a_ (nel hg BK274.out); have NB284_274 := a_ (nle hg BK274.out); replace BK274 := a_ (blk_below (pk BK274.out) hb); have NB264_284 := a_ (by rw [hg]; exact Nat.ne_of_lt (IsS61.lt (show IsS61 w _ gb264 l0 t282 t283 from by repeat (first | (with_reducible first | exact HI264.out | apply IsS61.alloc | apply IsS61.drewN | apply IsS61.drew | apply IsS61.set_1 | apply IsS61.set_2 | refine IsS61.far ?_ NB264_260.out _ | refine IsS61.far ?_ NB264_261.out _ | refine IsS61.far ?_ NB264_262.out _ | refine IsS61.far ?_ NB264_263.out _ | refine IsS61.far ?_ NB264_274.out _) | exact HI264.out))) : gb264 ≠ gb284); have NB284_264 := a_ (by rw [hg]; exact Nat.ne_of_gt (IsS61.lt (show IsS61 w _ gb264 l0 t282 t283 from by repeat (first | (with_reducible first | exact HI264.out | apply IsS61.alloc | apply IsS61.drewN | apply IsS61.drew | apply IsS61.set_1 | apply IsS61.set_2 | refine IsS61.far ?_ NB264_260.out _ | refine IsS61.far ?_ NB264_261.out _ | refine IsS61.far ?_ NB264_262.out _ | refine IsS61.far ?_ NB264_263.out _ | refine IsS61.far ?_ NB264_274.out _) | exact HI264.out))) : gb284 ≠ gb264); replace HI264 := a_ (IsS61.below (by repeat (first | (with_reducible first | exact HI264.out | apply IsS61.alloc | apply IsS61.drewN | apply IsS61.drew | apply IsS61.set_1 | apply IsS61.set_2 | refine IsS61.far ?_ NB264_260.out _ | refine IsS61.far ?_ NB264_261.out _ | refine IsS61.far ?_ NB264_262.out _ | refine IsS61.far ?_ NB264_263.out _ | refine IsS61.far ?_ NB264_274.out _) | exact HI264.out)) hb); clear hb hbox hg; have hnb24 := NB284_260.out; have hnc24 := NB260_284.out; have hnb25 := NB284_261.out; have hnc25 := NB261_284.out; have hnb26 := NB284_262.out; have hnc26 := NB262_284.out; have hnb27 := NB284_263.out; have hnc27 := NB263_284.out; have hnb28 := NB284_274.out; have hnc28 := NB274_284.out; have hnb29 := NB284_264.out; have hnc29 := NB264_284.out; have hcz30_0 : _ = some (Value.int .i64 0) := (blk_cell BK284.out 0).trans rfl; have hcz30_1 : _ = some (Value.int .i64 0) := (blk_cell BK284.out 1).trans rfl; have hcz30_2 : _ = some (Value.int .i64 0) := (blk_cell BK284.out 2).trans rfl; have hcz30_3 : _ = some (Value.int .i64 0) := (blk_cell BK284.out 3).trans rfl; have hcz30_4 : _ = some (Value.int .i64 0) := (blk_cell BK284.out 4).trans rfl; have hcz30_5 : _ = some (Value.int .i64 0) := (blk_cell BK284.out 5).trans rfl; have hcz30_6 : _ = some (Value.int .i64 0) := (blk_cell BK284.out 6).trans rfl; have hfz30_0 := blk_frozen BK284.out 0; have hfz30_1 := blk_frozen BK284.out 1; have hfz30_2 := blk_frozen BK284.out 2; have hfz30_3 := blk_frozen BK284.out 3; have hfz30_4 := blk_frozen BK284.out 4; have hfz30_5 := blk_frozen BK284.out 5; have hfz30_6 := blk_frozen BK284.out 6))
 have n0_ : Aside0 ((((((((w23.setCell ⟨gb284, 0, none⟩ (.int .i64 t275)).setCell ⟨gb284, 1, none⟩ (.int .i64 t276)).setCell ⟨gb284, 2, none⟩ (.int .i64 t277)).setCell ⟨gb284, 3, none⟩ (.int .i64 t278)).setCell ⟨gb284, 4, none⟩ (.int .i64 t279)).setCell ⟨gb284, 5, none⟩ (.int .i64 t280)).setCell ⟨gb284, 6, none⟩ (.int .i64 t281)).heap[gb260]? = some (.cells #[.int .i64 0, .int .i64 0, .int .i64 0, .int .i64 0, .int .i64 0, .int .i64 0, .int .i64 0] 30 (0, 0))) := ⟨by refine pk ?_; refine blk_far ?_ NB260_284.out _; refine pk ?_; refine blk_far ?_ NB260_284.out _; refine pk ?_; refine blk_far ?_ NB260_284.out _; refine pk ?_; refine blk_far ?_ NB260_284.out _; refine pk ?_; refine blk_far ?_ NB260_284.out _; refine pk ?_; refine blk_far ?_ NB260_284.out _; refine pk ?_; refine blk_far ?_ NB260_284.out _; refine pk ?_; exact BK260.out⟩
 have n1_ : Aside0 ((((((((w23.setCell ⟨gb284, 0, none⟩ (.int .i64 t275)).setCell ⟨gb284, 1, none⟩ (.int .i64 t276)).setCell ⟨gb284, 2, none⟩ (.int .i64 t277)).setCell ⟨gb284, 3, none⟩ (.int .i64 t278)).setCell ⟨gb284, 4, none⟩ (.int .i64 t279)).setCell ⟨gb284, 5, none⟩ (.int .i64 t280)).setCell ⟨gb284, 6, none⟩ (.int .i64 t281)).heap[gb261]? = some (.cells #[.int .i64 0, .int .i64 0, .int .i64 0, .int .i64 0, .int .i64 0, .int .i64 0, .int .i64 0] 30 (0, 0))) := ⟨by refine pk ?_; refine blk_far ?_ NB261_284.out _; refine pk ?_; refine blk_far ?_ NB261_284.out _; refine pk ?_; refine blk_far ?_ NB261_284.out _; refine pk ?_; refine blk_far ?_ NB261_284.out _; refine pk ?_; refine blk_far ?_ NB261_284.out _; refine pk ?_; refine blk_far ?_ NB261_284.out _; refine pk ?_; refine blk_far ?_ NB261_284.out _; refine pk ?_; exact BK261.out⟩
 have n2_ : Aside0 ((((((((w23.setCell ⟨gb284, 0, none⟩ (.int .i64 t275)).setCell ⟨gb284, 1, none⟩ (.int .i64 t276)).setCell ⟨gb284, 2, none⟩ (.int .i64 t277)).setCell ⟨gb284, 3, none⟩ (.int .i64 t278)).setCell ⟨gb284, 4, none⟩ (.int .i64 t279)).setCell ⟨gb284, 5, none⟩ (.int .i64 t280)).setCell ⟨gb284, 6, none⟩ (.int .i64 t281)).heap[gb262]? = some (.cells #[.bool false, .int .i64 0, .int .i64 0, .int .i64 0] 27 (0, 0))) := ⟨by refine pk ?_; refine blk_far ?_ NB262_284.out _; refine pk ?_; refine blk_far ?_ NB262_284.out _; refine pk ?_; refine blk_far ?_ NB262_284.out _; refine pk ?_; refine blk_far ?_ NB262_284.out _; refine pk ?_; refine blk_far ?_ NB262_284.out _; refine pk ?_; refine blk_far ?_ NB262_284.out _; refine pk ?_; refine blk_far ?_ NB262_284.out _; refine pk ?_; exact BK262.out⟩
 have n3_ : Aside0 ((((((((w23.setCell ⟨gb284, 0, none⟩ (.int .i64 t275)).setCell ⟨gb284, 1, none⟩ (.int .i64 t276)).setCell ⟨gb284, 2, none⟩ (.int .i64 t277)).setCell ⟨gb284, 3, none⟩ (.int .i64 t278)).setCell ⟨gb284, 4, none⟩ (.int .i64 t279)).setCell ⟨gb284, 5, none⟩ (.int .i64 t280)).setCell ⟨gb284, 6, none⟩ (.int .i64 t281)).heap[gb263]? = some (.cells #[.bool false, .int .i64 0, .int .i64 0, .int .i64 0] 27 (0, 0))) := ⟨by refine pk ?_; refine blk_far ?_ NB263_284.out _; refine pk ?_; refine blk_far ?_ NB263_284.out _; refine pk ?_; refine blk_far ?_ NB263_284.out _; refine pk ?_; refine blk_far ?_ NB263_284.out _; refine pk ?_; refine blk_far ?_ NB263_284.out _; refine pk ?_; refine blk_far ?_ NB263_284.out _; refine pk ?_; refine blk_far ?_ NB263_284.out _; refine pk ?_; exact BK263.out⟩
 have n4_ : Aside0 ((((((((w23.setCell ⟨gb284, 0, none⟩ (.int .i64 t275)).setCell ⟨gb284, 1, none⟩ (.int .i64 t276)).setCell ⟨gb284, 2, none⟩ (.int .i64 t277)).setCell ⟨gb284, 3, none⟩ (.int .i64 t278)).setCell ⟨gb284, 4, none⟩ (.int .i64 t279)).setCell ⟨gb284, 5, none⟩ (.int .i64 t280)).setCell ⟨gb284, 6, none⟩ (.int .i64 t281)).heap[gb274]? = some (.cells #[.int .i64 t265, .int .i64 t266, .int .i64 t267, .int .i64 t268, .int .i64 t269, .int .i64 t270, .int .i64 t271] 30 (0, 0))) := ⟨by refine pk ?_; refine blk_far ?_ NB274_284.out _; refine pk ?_; refine blk_far ?_ NB274_284.out _; refine pk ?_; refine blk_far ?_ NB274_284.out _; refine pk ?_; refine blk_far ?_ NB274_284.out _; refine pk ?_; refine blk_far ?_ NB274_284.out _; refine pk ?_; refine blk_far ?_ NB274_284.out _; refine pk ?_; refine blk_far ?_ NB274_284.out _; refine pk ?_; exact BK274.out⟩
 have n5_ : Aside0 ((((((((w23.setCell ⟨gb284, 0, none⟩ (.int .i64 t275)).setCell ⟨gb284, 1, none⟩ (.int .i64 t276)).setCell ⟨gb284, 2, none⟩ (.int .i64 t277)).setCell ⟨gb284, 3, none⟩ (.int .i64 t278)).setCell ⟨gb284, 4, none⟩ (.int .i64 t279)).setCell ⟨gb284, 5, none⟩ (.int .i64 t280)).setCell ⟨gb284, 6, none⟩ (.int .i64 t281)).heap[gb284]? = some (.cells #[.int .i64 t275, .int .i64 t276, .int .i64 t277, .int .i64 t278, .int .i64 t279, .int .i64 t280, .int .i64 t281] 30 (0, 0))) := ⟨by refine pk ?_; refine blk_put (cs := #[.int .i64 t275, .int .i64 t276, .int .i64 t277, .int .i64 t278, .int .i64 t279, .int .i64 t280, .int .i64 0]) ?_ 6 _ rfl; refine pk ?_; refine blk_put (cs := #[.int .i64 t275, .int .i64 t276, .int .i64 t277, .int .i64 t278, .int .i64 t279, .int .i64 0, .int .i64 0]) ?_ 5 _ rfl; refine pk ?_; refine blk_put (cs := #[.int .i64 t275, .int .i64 t276, .int .i64 t277, .int .i64 t278, .int .i64 0, .int .i64 0, .int .i64 0]) ?_ 4 _ rfl; refine pk ?_; refine blk_put (cs := #[.int .i64 t275, .int .i64 t276, .int .i64 t277, .int .i64 0, .int .i64 0, .int .i64 0, .int .i64 0]) ?_ 3 _ rfl; refine pk ?_; refine blk_put (cs := #[.int .i64 t275, .int .i64 t276, .int .i64 0, .int .i64 0, .int .i64 0, .int .i64 0, .int .i64 0]) ?_ 2 _ rfl; refine pk ?_; refine blk_put (cs := #[.int .i64 t275, .int .i64 0, .int .i64 0, .int .i64 0, .int .i64 0, .int .i64 0, .int .i64 0]) ?_ 1 _ rfl; refine pk ?_; refine blk_put (cs := #[.int .i64 0, .int .i64 0, .int .i64 0, .int .i64 0, .int .i64 0, .int .i64 0, .int .i64 0]) ?_ 0 _ rfl; refine pk ?_; exact BK284.out⟩
 have n6_ : Aside0 (IsS61 w (((((((w23.setCell ⟨gb284, 0, none⟩ (.int .i64 t275)).setCell ⟨gb284, 1, none⟩ (.int .i64 t276)).setCell ⟨gb284, 2, none⟩ (.int .i64 t277)).setCell ⟨gb284, 3, none⟩ (.int .i64 t278)).setCell ⟨gb284, 4, none⟩ (.int .i64 t279)).setCell ⟨gb284, 5, none⟩ (.int .i64 t280)).setCell ⟨gb284, 6, none⟩ (.int .i64 t281)) gb264 l0 t282 t283) := ⟨by repeat (first | (with_reducible first | exact HI264.out | apply IsS61.alloc | apply IsS61.drewN | apply IsS61.drew | apply IsS61.set_1 | apply IsS61.set_2 | refine IsS61.far ?_ NB264_260.out _ | refine IsS61.far ?_ NB264_261.out _ | refine IsS61.far ?_ NB264_262.out _ | refine IsS61.far ?_ NB264_263.out _ | refine IsS61.far ?_ NB264_274.out _ | refine IsS61.far ?_ NB264_284.out _) | exact HI264.out)⟩
 have n7_ : Aside0 (Below w.heap.size w (((((((w23.setCell ⟨gb284, 0, none⟩ (.int .i64 t275)).setCell ⟨gb284, 1, none⟩ (.int .i64 t276)).setCell ⟨gb284, 2, none⟩ (.int .i64 t277)).setCell ⟨gb284, 3, none⟩ (.int .i64 t278)).setCell ⟨gb284, 4, none⟩ (.int .i64 t279)).setCell ⟨gb284, 5, none⟩ (.int .i64 t280)).setCell ⟨gb284, 6, none⟩ (.int .i64 t281))) := ⟨by repeat (first | (with_reducible first | exact HB.out | apply below_alloc | apply pw_below_drewN | apply below_drew1 | refine below_set ?_ (IsS61.ge HI264.out) | refine below_set ?_ GE260.out | refine below_set ?_ GE261.out | refine below_set ?_ GE262.out | refine below_set ?_ GE263.out | refine below_set ?_ GE274.out | refine below_set ?_ GE284.out) | exact HB.out)⟩
 (try clear BK260)
 (try clear BK261)
 (try clear BK262)
 (try clear BK263)
 (try clear BK274)
 (try clear BK284)
 (try clear HI264)
 (try clear HB)
 generalize (((((((w23.setCell ⟨gb284, 0, none⟩ (.int .i64 t275)).setCell ⟨gb284, 1, none⟩ (.int .i64 t276)).setCell ⟨gb284, 2, none⟩ (.int .i64 t277)).setCell ⟨gb284, 3, none⟩ (.int .i64 t278)).setCell ⟨gb284, 4, none⟩ (.int .i64 t279)).setCell ⟨gb284, 5, none⟩ (.int .i64 t280)).setCell ⟨gb284, 6, none⟩ (.int .i64 t281)) = w31 at n0_ n1_ n2_ n3_ n4_ n5_ n6_ n7_ ⊢
 have BK260 := n0_
 have BK261 := n1_
 have BK262 := n2_
 have BK263 := n3_
 have BK274 := n4_
 have BK284 := n5_
 have HI264 := n6_
 have HB := n7_
 clear n0_ n1_ n2_ n3_ n4_ n5_ n6_ n7_
 replace BK260 := a_ (blk_drew BK260.out)
 replace BK261 := a_ (blk_drew BK261.out)
 replace BK262 := a_ (blk_drew BK262.out)
 replace BK263 := a_ (blk_drew BK263.out)
 replace BK274 := a_ (blk_drew BK274.out)
 replace BK284 := a_ (blk_drew BK284.out)
 replace HI264 := a_ (IsS61.drew HI264.out)
 replace HB := a_ (below_drew1 HB.out)
 refine start_ (n := 21) (S := fun w' => w'.cell? ⟨gb274, 0, none⟩ = some (.int .i64 t265) ∧ w'.cell? ⟨gb274, 1, none⟩ = some (.int .i64 t266) ∧ w'.cell? ⟨gb274, 2, none⟩ = some (.int .i64 t267) ∧ w'.cell? ⟨gb274, 3, none⟩ = some (.int .i64 t268) ∧ w'.cell? ⟨gb274, 4, none⟩ = some (.int .i64 t269) ∧ w'.cell? ⟨gb274, 5, none⟩ = some (.int .i64 t270) ∧ w'.cell? ⟨gb274, 6, none⟩ = some (.int .i64 t271) ∧ w'.cell? ⟨gb284, 0, none⟩ = some (.int .i64 t275) ∧ w'.cell? ⟨gb284, 1, none⟩ = some (.int .i64 t276) ∧ w'.cell? ⟨gb284, 2, none⟩ = some (.int .i64 t277) ∧ w'.cell? ⟨gb284, 3, none⟩ = some (.int .i64 t278) ∧ w'.cell? ⟨gb284, 4, none⟩ = some (.int .i64 t279) ∧ w'.cell? ⟨gb284, 5, none⟩ = some (.int .i64 t280) ∧ w'.cell? ⟨gb284, 6, none⟩ = some (.int .i64 t281)) (ds := []) #[false, false, false, false, false, false, false, false, false, false, false, false, false, false, false, false, false, false, false, false, false] (by kernel_rfl) rfl rfl ⟨(blk_cell BK274.out 0).trans rfl, (blk_cell BK274.out 1).trans rfl, (blk_cell BK274.out 2).trans rfl, (blk_cell BK274.out 3).trans rfl, (blk_cell BK274.out 4).trans rfl, (blk_cell BK274.out 5).trans rfl, (blk_cell BK274.out 6).trans rfl, (blk_cell BK284.out 0).trans rfl, (blk_cell BK284.out 1).trans rfl, (blk_cell BK284.out 2).trans rfl, (blk_cell BK284.out 3).trans rfl, (blk_cell BK284.out 4).trans rfl, (blk_cell BK284.out 5).trans rfl, (blk_cell BK284.out 6).trans rfl⟩ (fun hHeld => ?_); refine with_tabW spec_DrawCascadeStep.tab4 spec_DrawCascadeStep.bits4 (fun HT_ HW_ => ?_)
 generalize w31.drew = w32 at BK260 BK261 BK262 BK263 BK274 BK284 HI264 HB hHeld ⊢
 refine pure_ (i := 2) (N := some 21) (v := ?_) (a' := ?_) #[false, false, true, false, false, false, false, false, false, false, false, false, false, false, false, false, false, false, false, false, false] rfl rfl (any_of HT_.out (by kernel_rfl)) (fun _ _ _ h => h) (Or.inl ⟨by rfl, ?_⟩) ?_ ?_
 rotate_left
 ·intro w'
  go_simp
  with_reducible rfl
 rotate_left
 ·simp only [Act.put, List.setIfInBounds_toArray, List.set_cons_zero, List.set_cons_succ, i64_w, i32_w]
  rfl
 refine pure_ (i := 5) (N := some 24) (v := ?_) (a' := ?_) #[false, false, true, false, false, true, false, false, false, false, false, false, false, false, false, false, false, false, false, false, false] rfl rfl (any_of HT_.out (by kernel_rfl)) (fun _ _ _ h => h) (Or.inl ⟨by rfl, ?_⟩) ?_ ?_
 rotate_left
 ·intro w'
  go_simp
  with_reducible rfl
 rotate_left
 ·simp only [Act.put, List.setIfInBounds_toArray, List.set_cons_zero, List.set_cons_succ, i64_w, i32_w]
  rfl
 refine pure_ (i := 8) (N := some 27) (v := ?_) (a' := ?_) #[false, false, true, false, false, true, false, false, true, false, false, false, false, false, false, false, false, false, false, false, false] rfl rfl (any_of HT_.out (by kernel_rfl)) (fun _ _ _ h => h) (Or.inl ⟨by rfl, ?_⟩) ?_ ?_
 rotate_left
 ·intro w'
  go_simp
  with_reducible rfl
 rotate_left
 ·simp only [Act.put, List.setIfInBounds_toArray, List.set_cons_zero, List.set_cons_succ, i64_w, i32_w]
  rfl
 refine pure_ (i := 10) (N := some 29) (v := ?_) (a' := ?_) #[false, false, true, false, false, true, false, false, true, false, true, false, false, false, false, false, false, false, false, false, false] rfl rfl (any_of HT_.out (by kernel_rfl)) (fun _ _ _ h => h) (Or.inl ⟨by rfl, ?_⟩) ?_ ?_
 rotate_left
 ·intro w'
  go_simp
  with_reducible rfl
 rotate_left
 ·simp only [Act.put, List.setIfInBounds_toArray, List.set_cons_zero, List.set_cons_succ, i64_w, i32_w]
  rfl
 refine pure_ (i := 12) (N := some 31) (v := ?_) (a' := ?_) #[false, false, true, false, false, true, false, false, true, false, true, false, true, false, false, false, false, false, false, false, false] rfl rfl (any_of HT_.out (by kernel_rfl)) (fun _ _ _ h => h) (Or.inl ⟨by rfl, ?_⟩) ?_ ?_
 rotate_left
 ·intro w'
  go_simp
  with_reducible rfl
 rotate_left
 ·simp only [Act.put, List.setIfInBounds_toArray, List.set_cons_zero, List.set_cons_succ, i64_w, i32_w]
  rfl
 refine take_ (i := 0) (N := some 19) (v := ?_) (a' := ?_) #[true, false, true, false, false, true, false, false, true, false, true, false, true, false, false, false, false, false, false, false, false] rfl rfl (take_ofW HT_.out HW_.out (by kernel_rfl)) (fun _ _ _ h => h) (Or.inl ⟨by rfl, ?_⟩) hHeld ?_ ?_
 rotate_left
 ·rintro w' ⟨s0, s1, s2, s3, s4, s5, s6, s7, s8, s9, s10, s11, s12, s13⟩
  go_simp
  with_reducible rfl
 rotate_left
 ·simp only [Act.put, List.setIfInBounds_toArray, List.set_cons_zero, List.set_cons_succ, i64_w, i32_w]
  rfl
 refine take_ (i := 1) (N := some 20) (v := ?_) (a' := ?_) #[true, true, true, false, false, true, false, false, true, false, true, false, true, false, false, false, false, false, false, false, false] rfl rfl (take_ofW HT_.out HW_.out (by kernel_rfl)) (fun _ _ _ h => h) (Or.inl ⟨by rfl, ?_⟩) hHeld ?_ ?_
 rotate_left
 ·rintro w' ⟨s0, s1, s2, s3, s4, s5, s6, s7, s8, s9, s10, s11, s12, s13⟩
  go_simp
  with_reducible rfl
 rotate_left
 ·simp only [Act.put, List.setIfInBounds_toArray, List.set_cons_zero, List.set_cons_succ, i64_w, i32_w]
  rfl
 refine take_ (i := 3) (N := some 22) (v := ?_) (a' := ?_) #[true, true, true, true, false, true, false, false, true, false, true, false, true, false, false, false, false, false, false, false, false] rfl rfl (take_ofW HT_.out HW_.out (by kernel_rfl)) (fun _ _ _ h => h) (Or.inl ⟨by rfl, ?_⟩) hHeld ?_ ?_
 rotate_left
 ·rintro w' ⟨s0, s1, s2, s3, s4, s5, s6, s7, s8, s9, s10, s11, s12, s13⟩
  go_simp
  with_reducible rfl
 rotate_left
 ·simp only [Act.put, List.setIfInBounds_toArray, List.set_cons_zero, List.set_cons_succ, i64_w, i32_w]
  rfl
 refine take_ (i := 6) (N := some 25) (v := ?_) (a' := ?_) #[true, true, true, true, false, true, true, false, true, false, true, false, true, false, false, false, false, false, false, false, false] rfl rfl (take_ofW HT_.out HW_.out (by kernel_rfl)) (fun _ _ _ h => h) (Or.inl ⟨by rfl, ?_⟩) hHeld ?_ ?_
 rotate_left
 ·rintro w' ⟨s0, s1, s2, s3, s4, s5, s6, s7, s8, s9, s10, s11, s12, s13⟩
  go_simp
  with_reducible rfl
 rotate_left
 ·simp only [Act.put, List.setIfInBounds_toArray, List.set_cons_zero, List.set_cons_succ, i64_w, i32_w]
  rfl
 refine one_ (i := 4) (N := some 23) #[true, true, true, true, true, true, true, false, true, false, true, false, true, false, false, false, false, false, false, false, false] rfl rfl (one_of HT_.out (by kernel_rfl)) (by decide) (fun K hK => ?_)
 refine goes_ Try.func31 (by kernel_rfl) rfl #[.pointer (some ⟨gb264, 0, none⟩), .agg #[.int .i64 t265, .int .i64 t266, .int .i64 t267, .int .i64 t268, .int .i64 t269, .int .i64 t270, .int .i64 t271]] (by rfl) rfl rfl (by (try simp only [lA, lB, lC]); first | done | rfl | (simp only [lD, lE]; rfl)) ?_
 with_reducible refine (spec_l1Cur_hold.calls k gb264 l0 t282 t283 t265 t266 t267 t268 t269 t270 t271 t285 t286 t287 t288 t289 t290 w _ ?side1 ?side2 A4.out).mono ?_
 (case side1 => repeat (first | (with_reducible first | exact HI264.out | apply IsS61.alloc | apply IsS61.drewN | apply IsS61.drew | apply IsS61.set_1 | apply IsS61.set_2 | refine IsS61.far ?_ NB264_260.out _ | refine IsS61.far ?_ NB264_261.out _ | refine IsS61.far ?_ NB264_262.out _ | refine IsS61.far ?_ NB264_263.out _ | refine IsS61.far ?_ NB264_274.out _ | refine IsS61.far ?_ NB264_284.out _) | exact HI264.out))
 (case side2 => repeat (first | (with_reducible first | exact HB.out | apply below_alloc | apply pw_below_drewN | apply below_drew1 | refine below_set ?_ (IsS61.ge HI264.out) | refine below_set ?_ GE260.out | refine below_set ?_ GE261.out | refine below_set ?_ GE262.out | refine below_set ?_ GE263.out | refine below_set ?_ GE274.out | refine below_set ?_ GE284.out) | exact HB.out))
 rintro e w33 ⟨rfl, hi, hb, hk⟩
 refine ⟨_, rfl, ?_⟩
 replace BK260 := a_ (KeepBut.blk hk (g' := gb260) (o := .cells #[.int .i64 0, .int .i64 0, .int .i64 0, .int .i64 0, .int .i64 0, .int .i64 0, .int .i64 0] 30 (0, 0)) (pk BK260.out) NB260_264.out (by simp))
 replace BK261 := a_ (KeepBut.blk hk (g' := gb261) (o := .cells #[.int .i64 0, .int .i64 0, .int .i64 0, .int .i64 0, .int .i64 0, .int .i64 0, .int .i64 0] 30 (0, 0)) (pk BK261.out) NB261_264.out (by simp))
 replace BK262 := a_ (KeepBut.blk hk (g' := gb262) (o := .cells #[.bool false, .int .i64 0, .int .i64 0, .int .i64 0] 27 (0, 0)) (pk BK262.out) NB262_264.out (by simp))
 replace BK263 := a_ (KeepBut.blk hk (g' := gb263) (o := .cells #[.bool false, .int .i64 0, .int .i64 0, .int .i64 0] 27 (0, 0)) (pk BK263.out) NB263_264.out (by simp))
 replace BK274 := a_ (KeepBut.blk hk (g' := gb274) (o := .cells #[.int .i64 t265, .int .i64 t266, .int .i64 t267, .int .i64 t268, .int .i64 t269, .int .i64 t270, .int .i64 t271] 30 (0, 0)) (pk BK274.out) NB274_264.out (by simp))
 replace BK284 := a_ (KeepBut.blk hk (g' := gb284) (o := .cells #[.int .i64 t275, .int .i64 t276, .int .i64 t277, .int .i64 t278, .int .i64 t279, .int .i64 t280, .int .i64 t281] 30 (0, 0)) (pk BK284.out) NB284_264.out (by simp))
 replace HB := a_ (hb)
 replace HI264 := a_ (hi)
 (try clear hb)
 (try clear hb2)
 (try clear hk)
 (try clear hi)
 refine hK.out _ _ ⟨(blk_cell BK274.out 0).trans rfl, (blk_cell BK274.out 1).trans rfl, (blk_cell BK274.out 2).trans rfl, (blk_cell BK274.out 3).trans rfl, (blk_cell BK274.out 4).trans rfl, (blk_cell BK274.out 5).trans rfl, (blk_cell BK274.out 6).trans rfl, (blk_cell BK284.out 0).trans rfl, (blk_cell BK284.out 1).trans rfl, (blk_cell BK284.out 2).trans rfl, (blk_cell BK284.out 3).trans rfl, (blk_cell BK284.out 4).trans rfl, (blk_cell BK284.out 5).trans rfl, (blk_cell BK284.out 6).trans rfl⟩ (fun hHeld => ?_)
 clear hK K
 refine norm_ (a' := ?_) ?_ ?_
 rotate_left
 ·show Act.put _ (some 23) _ = _
  simp only [Act.put, List.setIfInBounds_toArray, List.set_cons_zero, List.set_cons_succ, i64_w, i32_w]
  rfl
 refine one_ (i := 7) (N := some 26) #[true, true, true, true, true, true, true, true, true, false, true, false, true, false, false, false, false, false, false, false, false] rfl rfl (one_of HT_.out (by kernel_rfl)) (by decide) (fun K hK => ?_)
 refine goes_ Try.func31 (by kernel_rfl) rfl #[.pointer (some ⟨gb264, 0, none⟩), .agg #[.int .i64 t275, .int .i64 t276, .int .i64 t277, .int .i64 t278, .int .i64 t279, .int .i64 t280, .int .i64 t281]] (by rfl) rfl rfl (by (try simp only [lA, lB, lC]); first | done | rfl | (simp only [lD, lE]; rfl)) ?_
 with_reducible refine (spec_l1Cur_hold.calls k gb264 l0 t289 t290 t275 t276 t277 t278 t279 t280 t281 t291 t292 t293 t294 t295 t296 w _ ?side1 ?side2 A5.out).mono ?_
 (case side1 => repeat (first | (with_reducible first | exact HI264.out | apply IsS61.alloc | apply IsS61.drewN | apply IsS61.drew | apply IsS61.set_1 | apply IsS61.set_2 | refine IsS61.far ?_ NB264_260.out _ | refine IsS61.far ?_ NB264_261.out _ | refine IsS61.far ?_ NB264_262.out _ | refine IsS61.far ?_ NB264_263.out _ | refine IsS61.far ?_ NB264_274.out _ | refine IsS61.far ?_ NB264_284.out _) | exact HI264.out))
 (case side2 => repeat (first | (with_reducible first | exact HB.out | apply below_alloc | apply pw_below_drewN | apply below_drew1 | refine below_set ?_ (IsS61.ge HI264.out) | refine below_set ?_ GE260.out | refine below_set ?_ GE261.out | refine below_set ?_ GE262.out | refine below_set ?_ GE263.out | refine below_set ?_ GE274.out | refine below_set ?_ GE284.out) | exact HB.out))
 rintro e w34 ⟨rfl, hi, hb, hk⟩
 refine ⟨_, rfl, ?_⟩
 replace BK260 := a_ (KeepBut.blk hk (g' := gb260) (o := .cells #[.int .i64 0, .int .i64 0, .int .i64 0, .int .i64 0, .int .i64 0, .int .i64 0, .int .i64 0] 30 (0, 0)) (pk BK260.out) NB260_264.out (by simp))
 replace BK261 := a_ (KeepBut.blk hk (g' := gb261) (o := .cells #[.int .i64 0, .int .i64 0, .int .i64 0, .int .i64 0, .int .i64 0, .int .i64 0, .int .i64 0] 30 (0, 0)) (pk BK261.out) NB261_264.out (by simp))
 replace BK262 := a_ (KeepBut.blk hk (g' := gb262) (o := .cells #[.bool false, .int .i64 0, .int .i64 0, .int .i64 0] 27 (0, 0)) (pk BK262.out) NB262_264.out (by simp))
 replace BK263 := a_ (KeepBut.blk hk (g' := gb263) (o := .cells #[.bool false, .int .i64 0, .int .i64 0, .int .i64 0] 27 (0, 0)) (pk BK263.out) NB263_264.out (by simp))
 replace BK274 := a_ (KeepBut.blk hk (g' := gb274) (o := .cells #[.int .i64 t265, .int .i64 t266, .int .i64 t267, .int .i64 t268, .int .i64 t269, .int .i64 t270, .int .i64 t271] 30 (0, 0)) (pk BK274.out) NB274_264.out (by simp))
 replace BK284 := a_ (KeepBut.blk hk (g' := gb284) (o := .cells #[.int .i64 t275, .int .i64 t276, .int .i64 t277, .int .i64 t278, .int .i64 t279, .int .i64 t280, .int .i64 t281] 30 (0, 0)) (pk BK284.out) NB284_264.out (by simp))
 replace HB := a_ (hb)
 replace HI264 := a_ (hi)
 (try clear hb)
 (try clear hb2)
 (try clear hk)
 (try clear hi)
 refine hK.out _ _ ⟨(blk_cell BK274.out 0).trans rfl, (blk_cell BK274.out 1).trans rfl, (blk_cell BK274.out 2).trans rfl, (blk_cell BK274.out 3).trans rfl, (blk_cell BK274.out 4).trans rfl, (blk_cell BK274.out 5).trans rfl, (blk_cell BK274.out 6).trans rfl, (blk_cell BK284.out 0).trans rfl, (blk_cell BK284.out 1).trans rfl, (blk_cell BK284.out 2).trans rfl, (blk_cell BK284.out 3).trans rfl, (blk_cell BK284.out 4).trans rfl, (blk_cell BK284.out 5).trans rfl, (blk_cell BK284.out 6).trans rfl⟩ (fun hHeld => ?_)
 clear hK K
 refine norm_ (a' := ?_) ?_ ?_
 rotate_left
 ·show Act.put _ (some 26) _ = _
  simp only [Act.put, List.setIfInBounds_toArray, List.set_cons_zero, List.set_cons_succ, i64_w, i32_w]
  rfl
 refine one_ (i := 9) (N := some 28) #[true, true, true, true, true, true, true, true, true, true, true, false, true, false, false, false, false, false, false, false, false] rfl rfl (one_of HT_.out (by kernel_rfl)) (by decide) (fun K hK => ?_)
 refine goes_ Try.func32 (by kernel_rfl) rfl #[.pointer (some ⟨gb264, 0, none⟩)] (by rfl) rfl rfl (by (try simp only [lA, lB, lC]); first | done | rfl | (simp only [lD, lE]; rfl)) ?_
 with_reducible refine (spec_l1Cur_level.calls gb264 l0 t295 t296 t297 t298 t299 w _ ?side1 ?side2 A6.out).mono ?_
 (case side1 => repeat (first | (with_reducible first | exact HI264.out | apply IsS61.alloc | apply IsS61.drewN | apply IsS61.drew | apply IsS61.set_1 | apply IsS61.set_2 | refine IsS61.far ?_ NB264_260.out _ | refine IsS61.far ?_ NB264_261.out _ | refine IsS61.far ?_ NB264_262.out _ | refine IsS61.far ?_ NB264_263.out _ | refine IsS61.far ?_ NB264_274.out _ | refine IsS61.far ?_ NB264_284.out _) | exact HI264.out))
 (case side2 => repeat (first | (with_reducible first | exact HB.out | apply below_alloc | apply pw_below_drewN | apply below_drew1 | refine below_set ?_ (IsS61.ge HI264.out) | refine below_set ?_ GE260.out | refine below_set ?_ GE261.out | refine below_set ?_ GE262.out | refine below_set ?_ GE263.out | refine below_set ?_ GE274.out | refine below_set ?_ GE284.out) | exact HB.out))
 rintro e w35 ⟨rfl, hi, hb, hk⟩
 refine ⟨_, rfl, ?_⟩
 replace BK260 := a_ (KeepBut.blk hk (g' := gb260) (o := .cells #[.int .i64 0, .int .i64 0, .int .i64 0, .int .i64 0, .int .i64 0, .int .i64 0, .int .i64 0] 30 (0, 0)) (pk BK260.out) NB260_264.out (by simp))
 replace BK261 := a_ (KeepBut.blk hk (g' := gb261) (o := .cells #[.int .i64 0, .int .i64 0, .int .i64 0, .int .i64 0, .int .i64 0, .int .i64 0, .int .i64 0] 30 (0, 0)) (pk BK261.out) NB261_264.out (by simp))
 replace BK262 := a_ (KeepBut.blk hk (g' := gb262) (o := .cells #[.bool false, .int .i64 0, .int .i64 0, .int .i64 0] 27 (0, 0)) (pk BK262.out) NB262_264.out (by simp))
 replace BK263 := a_ (KeepBut.blk hk (g' := gb263) (o := .cells #[.bool false, .int .i64 0, .int .i64 0, .int .i64 0] 27 (0, 0)) (pk BK263.out) NB263_264.out (by simp))
 replace BK274 := a_ (KeepBut.blk hk (g' := gb274) (o := .cells #[.int .i64 t265, .int .i64 t266, .int .i64 t267, .int .i64 t268, .int .i64 t269, .int .i64 t270, .int .i64 t271] 30 (0, 0)) (pk BK274.out) NB274_264.out (by simp))
 replace BK284 := a_ (KeepBut.blk hk (g' := gb284) (o := .cells #[.int .i64 t275, .int .i64 t276, .int .i64 t277, .int .i64 t278, .int .i64 t279, .int .i64 t280, .int .i64 t281] 30 (0, 0)) (pk BK284.out) NB284_264.out (by simp))
 replace HB := a_ (hb)
 replace HI264 := a_ (hi)
 (try clear hb)
 (try clear hb2)
 (try clear hk)
 (try clear hi)
 refine hK.out _ _ ⟨(blk_cell BK274.out 0).trans rfl, (blk_cell BK274.out 1).trans rfl, (blk_cell BK274.out 2).trans rfl, (blk_cell BK274.out 3).trans rfl, (blk_cell BK274.out 4).trans rfl, (blk_cell BK274.out 5).trans rfl, (blk_cell BK274.out 6).trans rfl, (blk_cell BK284.out 0).trans rfl, (blk_cell BK284.out 1).trans rfl, (blk_cell BK284.out 2).trans rfl, (blk_cell BK284.out 3).trans rfl, (blk_cell BK284.out 4).trans rfl, (blk_cell BK284.out 5).trans rfl, (blk_cell BK284.out 6).trans rfl⟩ (fun hHeld => ?_)
 clear hK K
 refine norm_ (a' := ?_) ?_ ?_
 rotate_left
 ·show Act.put _ (some 28) _ = _
  simp only [Act.put, List.setIfInBounds_toArray, List.set_cons_zero, List.set_cons_succ, i64_w, i32_w]
  rfl
 refine one_ (i := 11) (N := some 30) #[true, true, true, true, true, true, true, true, true, true, true, true, true, false, false, false, false, false, false, false, false] rfl rfl (one_of HT_.out (by kernel_rfl)) (by decide) (fun K hK => ?_)
 refine goes_ Try.func32 (by kernel_rfl) rfl #[.pointer (some ⟨gb264, 0, none⟩)] (by rfl) rfl rfl (by (try simp only [lA, lB, lC]); first | done | rfl | (simp only [lD, lE]; rfl)) ?_
 with_reducible refine (spec_l1Cur_level.calls gb264 l0 t298 t299 t300 t301 t302 w _ ?side1 ?side2 A7.out).mono ?_
 (case side1 => repeat (first | (with_reducible first | exact HI264.out | apply IsS61.alloc | apply IsS61.drewN | apply IsS61.drew | apply IsS61.set_1 | apply IsS61.set_2 | refine IsS61.far ?_ NB264_260.out _ | refine IsS61.far ?_ NB264_261.out _ | refine IsS61.far ?_ NB264_262.out _ | refine IsS61.far ?_ NB264_263.out _ | refine IsS61.far ?_ NB264_274.out _ | refine IsS61.far ?_ NB264_284.out _) | exact HI264.out))
 (case side2 => repeat (first | (with_reducible first | exact HB.out | apply below_alloc | apply pw_below_drewN | apply below_drew1 | refine below_set ?_ (IsS61.ge HI264.out) | refine below_set ?_ GE260.out | refine below_set ?_ GE261.out | refine below_set ?_ GE262.out | refine below_set ?_ GE263.out | refine below_set ?_ GE274.out | refine below_set ?_ GE284.out) | exact HB.out))
 rintro e w36 ⟨rfl, hi, hb, hk⟩
 refine ⟨_, rfl, ?_⟩
 replace BK260 := a_ (KeepBut.blk hk (g' := gb260) (o := .cells #[.int .i64 0, .int .i64 0, .int .i64 0, .int .i64 0, .int .i64 0, .int .i64 0, .int .i64 0] 30 (0, 0)) (pk BK260.out) NB260_264.out (by simp))
 replace BK261 := a_ (KeepBut.blk hk (g' := gb261) (o := .cells #[.int .i64 0, .int .i64 0, .int .i64 0, .int .i64 0, .int .i64 0, .int .i64 0, .int .i64 0] 30 (0, 0)) (pk BK261.out) NB261_264.out (by simp))
 replace BK262 := a_ (KeepBut.blk hk (g' := gb262) (o := .cells #[.bool false, .int .i64 0, .int .i64 0, .int .i64 0] 27 (0, 0)) (pk BK262.out) NB262_264.out (by simp))
 replace BK263 := a_ (KeepBut.blk hk (g' := gb263) (o := .cells #[.bool false, .int .i64 0, .int .i64 0, .int .i64 0] 27 (0, 0)) (pk BK263.out) NB263_264.out (by simp))
 replace BK274 := a_ (KeepBut.blk hk (g' := gb274) (o := .cells #[.int .i64 t265, .int .i64 t266, .int .i64 t267, .int .i64 t268, .int .i64 t269, .int .i64 t270, .int .i64 t271] 30 (0, 0)) (pk BK274.out) NB274_264.out (by simp))
 replace BK284 := a_ (KeepBut.blk hk (g' := gb284) (o := .cells #[.int .i64 t275, .int .i64 t276, .int .i64 t277, .int .i64 t278, .int .i64 t279, .int .i64 t280, .int .i64 t281] 30 (0, 0)) (pk BK284.out) NB284_264.out (by simp))
 replace HB := a_ (hb)
 replace HI264 := a_ (hi)
 (try clear hb)
 (try clear hb2)
 (try clear hk)
 (try clear hi)
 refine hK.out _ _ ⟨(blk_cell BK274.out 0).trans rfl, (blk_cell BK274.out 1).trans rfl, (blk_cell BK274.out 2).trans rfl, (blk_cell BK274.out 3).trans rfl, (blk_cell BK274.out 4).trans rfl, (blk_cell BK274.out 5).trans rfl, (blk_cell BK274.out 6).trans rfl, (blk_cell BK284.out 0).trans rfl, (blk_cell BK284.out 1).trans rfl, (blk_cell BK284.out 2).trans rfl, (blk_cell BK284.out 3).trans rfl, (blk_cell BK284.out 4).trans rfl, (blk_cell BK284.out 5).trans rfl, (blk_cell BK284.out 6).trans rfl⟩ (fun hHeld => ?_)
 clear hK K
 refine norm_ (a' := ?_) ?_ ?_
 rotate_left
 ·show Act.put _ (some 30) _ = _
  simp only [Act.put, List.setIfInBounds_toArray, List.set_cons_zero, List.set_cons_succ, i64_w, i32_w]
  rfl
 refine one_ (i := 13) (N := some 32) #[true, true, true, true, true, true, true, true, true, true, true, true, true, true, false, false, false, false, false, false, false] rfl rfl (one_of HT_.out (by kernel_rfl)) (by decide) (fun K hK => ?_)
 refine goes_ Try.func32 (by kernel_rfl) rfl #[.pointer (some ⟨gb264, 0, none⟩)] (by rfl) rfl rfl (by (try simp only [lA, lB, lC]); first | done | rfl | (simp only [lD, lE]; rfl)) ?_
 with_reducible refine (spec_l1Cur_level.calls gb264 l0 t301 t302 t303 t304 t305 w _ ?side1 ?side2 A8.out).mono ?_
 (case side1 => repeat (first | (with_reducible first | exact HI264.out | apply IsS61.alloc | apply IsS61.drewN | apply IsS61.drew | apply IsS61.set_1 | apply IsS61.set_2 | refine IsS61.far ?_ NB264_260.out _ | refine IsS61.far ?_ NB264_261.out _ | refine IsS61.far ?_ NB264_262.out _ | refine IsS61.far ?_ NB264_263.out _ | refine IsS61.far ?_ NB264_274.out _ | refine IsS61.far ?_ NB264_284.out _) | exact HI264.out))
 (case side2 => repeat (first | (with_reducible first | exact HB.out | apply below_alloc | apply pw_below_drewN | apply below_drew1 | refine below_set ?_ (IsS61.ge HI264.out) | refine below_set ?_ GE260.out | refine below_set ?_ GE261.out | refine below_set ?_ GE262.out | refine below_set ?_ GE263.out | refine below_set ?_ GE274.out | refine below_set ?_ GE284.out) | exact HB.out))
 rintro e w37 ⟨rfl, hi, hb, hk⟩
 refine ⟨_, rfl, ?_⟩
 replace BK260 := a_ (KeepBut.blk hk (g' := gb260) (o := .cells #[.int .i64 0, .int .i64 0, .int .i64 0, .int .i64 0, .int .i64 0, .int .i64 0, .int .i64 0] 30 (0, 0)) (pk BK260.out) NB260_264.out (by simp))
 replace BK261 := a_ (KeepBut.blk hk (g' := gb261) (o := .cells #[.int .i64 0, .int .i64 0, .int .i64 0, .int .i64 0, .int .i64 0, .int .i64 0, .int .i64 0] 30 (0, 0)) (pk BK261.out) NB261_264.out (by simp))
 replace BK262 := a_ (KeepBut.blk hk (g' := gb262) (o := .cells #[.bool false, .int .i64 0, .int .i64 0, .int .i64 0] 27 (0, 0)) (pk BK262.out) NB262_264.out (by simp))
 replace BK263 := a_ (KeepBut.blk hk (g' := gb263) (o := .cells #[.bool false, .int .i64 0, .int .i64 0, .int .i64 0] 27 (0, 0)) (pk BK263.out) NB263_264.out (by simp))
 replace BK274 := a_ (KeepBut.blk hk (g' := gb274) (o := .cells #[.int .i64 t265, .int .i64 t266, .int .i64 t267, .int .i64 t268, .int .i64 t269, .int .i64 t270, .int .i64 t271] 30 (0, 0)) (pk BK274.out) NB274_264.out (by simp))
 replace BK284 := a_ (KeepBut.blk hk (g' := gb284) (o := .cells #[.int .i64 t275, .int .i64 t276, .int .i64 t277, .int .i64 t278, .int .i64 t279, .int .i64 t280, .int .i64 t281] 30 (0, 0)) (pk BK284.out) NB284_264.out (by simp))
 replace HB := a_ (hb)
 replace HI264 := a_ (hi)
 (try clear hb)
 (try clear hb2)
 (try clear hk)
 (try clear hi)
 refine hK.out _ _ ⟨(blk_cell BK274.out 0).trans rfl, (blk_cell BK274.out 1).trans rfl, (blk_cell BK274.out 2).trans rfl, (blk_cell BK274.out 3).trans rfl, (blk_cell BK274.out 4).trans rfl, (blk_cell BK274.out 5).trans rfl, (blk_cell BK274.out 6).trans rfl, (blk_cell BK284.out 0).trans rfl, (blk_cell BK284.out 1).trans rfl, (blk_cell BK284.out 2).trans rfl, (blk_cell BK284.out 3).trans rfl, (blk_cell BK284.out 4).trans rfl, (blk_cell BK284.out 5).trans rfl, (blk_cell BK284.out 6).trans rfl⟩ (fun hHeld => ?_)
 clear hK K
 refine norm_ (a' := ?_) ?_ ?_
 rotate_left
 ·show Act.put _ (some 32) _ = _
  simp only [Act.put, List.setIfInBounds_toArray, List.set_cons_zero, List.set_cons_succ, i64_w, i32_w]
  rfl
 refine one_ (i := 14) (N := none) #[true, true, true, true, true, true, true, true, true, true, true, true, true, true, true, false, false, false, false, false, false] rfl rfl (one_of HT_.out (by kernel_rfl)) (by decide) (fun K hK => ?_)
 have hs38 : w37.cell? ⟨gb260, 0, none⟩ = some (.int .i64 0) := (blk_cell BK260.out 0).trans rfl
 have hfs38 := blk_frozen BK260.out 0
 have hns38_1 := NB261_260.out
 have hns38_2 := NB262_260.out
 have hns38_3 := NB263_260.out
 have hns38_4 := NB274_260.out
 have hns38_5 := NB284_260.out
 have hms38_1 := NB260_261.out
 have hms38_2 := NB260_262.out
 have hms38_3 := NB260_263.out
 have hms38_4 := NB260_274.out
 have hms38_5 := NB260_284.out
 have hs39 : w37.cell? ⟨gb260, 1, none⟩ = some (.int .i64 0) := (blk_cell BK260.out 1).trans rfl
 have hfs39 := blk_frozen BK260.out 1
 have hns39_1 := NB261_260.out
 have hns39_2 := NB262_260.out
 have hns39_3 := NB263_260.out
 have hns39_4 := NB274_260.out
 have hns39_5 := NB284_260.out
 have hms39_1 := NB260_261.out
 have hms39_2 := NB260_262.out
 have hms39_3 := NB260_263.out
 have hms39_4 := NB260_274.out
 have hms39_5 := NB260_284.out
 have hs40 : w37.cell? ⟨gb260, 2, none⟩ = some (.int .i64 0) := (blk_cell BK260.out 2).trans rfl
 have hfs40 := blk_frozen BK260.out 2
 have hns40_1 := NB261_260.out
 have hns40_2 := NB262_260.out
 have hns40_3 := NB263_260.out
 have hns40_4 := NB274_260.out
 have hns40_5 := NB284_260.out
 have hms40_1 := NB260_261.out
 have hms40_2 := NB260_262.out
 have hms40_3 := NB260_263.out
 have hms40_4 := NB260_274.out
 have hms40_5 := NB260_284.out
 have hs41 : w37.cell? ⟨gb260, 3, none⟩ = some (.int .i64 0) := (blk_cell BK260.out 3).trans rfl
 have hfs41 := blk_frozen BK260.out 3
 have hns41_1 := NB261_260.out
 have hns41_2 := NB262_260.out
 have hns41_3 := NB263_260.out
 have hns41_4 := NB274_260.out
 have hns41_5 := NB284_260.out
 have hms41_1 := NB260_261.out
 have hms41_2 := NB260_262.out
 have hms41_3 := NB260_263.out
 have hms41_4 := NB260_274.out
 have hms41_5 := NB260_284.out
 have hs42 : w37.cell? ⟨gb260, 4, none⟩ = some (.int .i64 0) := (blk_cell BK260.out 4).trans rfl
 have hfs42 := blk_frozen BK260.out 4
 have hns42_1 := NB261_260.out
 have hns42_2 := NB262_260.out
 have hns42_3 := NB263_260.out
 have hns42_4 := NB274_260.out
 have hns42_5 := NB284_260.out
 have hms42_1 := NB260_261.out
 have hms42_2 := NB260_262.out
 have hms42_3 := NB260_263.out
 have hms42_4 := NB260_274.out
 have hms42_5 := NB260_284.out
 have hs43 : w37.cell? ⟨gb260, 5, none⟩ = some (.int .i64 0) := (blk_cell BK260.out 5).trans rfl
 have hfs43 := blk_frozen BK260.out 5
 have hns43_1 := NB261_260.out
 have hns43_2 := NB262_260.out
 have hns43_3 := NB263_260.out
 have hns43_4 := NB274_260.out
 have hns43_5 := NB284_260.out
 have hms43_1 := NB260_261.out
 have hms43_2 := NB260_262.out
 have hms43_3 := NB260_263.out
 have hms43_4 := NB260_274.out
 have hms43_5 := NB260_284.out
 have hs44 : w37.cell? ⟨gb260, 6, none⟩ = some (.int .i64 0) := (blk_cell BK260.out 6).trans rfl
 have hfs44 := blk_frozen BK260.out 6
 have hns44_1 := NB261_260.out
 have hns44_2 := NB262_260.out
 have hns44_3 := NB263_260.out
 have hns44_4 := NB274_260.out
 have hns44_5 := NB284_260.out
 have hms44_1 := NB260_261.out
 have hms44_2 := NB260_262.out
 have hms44_3 := NB260_263.out
 have hms44_4 := NB260_274.out
 have hms44_5 := NB260_284.out
 refine skip_ (w1 := ?_) ?_ ?_ ?_ ?_
 rotate_left
 ·rfl
 ·rfl
 ·go_simp
  rfl
 refine hK.out _ _ ⟨((cell_far (p := ⟨gb260, _, none⟩) NB274_260.out _).trans (((cell_far (p := ⟨gb260, _, none⟩) NB274_260.out _).trans (((cell_far (p := ⟨gb260, _, none⟩) NB274_260.out _).trans (((cell_far (p := ⟨gb260, _, none⟩) NB274_260.out _).trans (((cell_far (p := ⟨gb260, _, none⟩) NB274_260.out _).trans (((cell_far (p := ⟨gb260, _, none⟩) NB274_260.out _).trans (((cell_far (p := ⟨gb260, _, none⟩) NB274_260.out _).trans (hHeld.1)))))))))))))), ((cell_far (p := ⟨gb260, _, none⟩) NB274_260.out _).trans (((cell_far (p := ⟨gb260, _, none⟩) NB274_260.out _).trans (((cell_far (p := ⟨gb260, _, none⟩) NB274_260.out _).trans (((cell_far (p := ⟨gb260, _, none⟩) NB274_260.out _).trans (((cell_far (p := ⟨gb260, _, none⟩) NB274_260.out _).trans (((cell_far (p := ⟨gb260, _, none⟩) NB274_260.out _).trans (((cell_far (p := ⟨gb260, _, none⟩) NB274_260.out _).trans (hHeld.2.1)))))))))))))), ((cell_far (p := ⟨gb260, _, none⟩) NB274_260.out _).trans (((cell_far (p := ⟨gb260, _, none⟩) NB274_260.out _).trans (((cell_far (p := ⟨gb260, _, none⟩) NB274_260.out _).trans (((cell_far (p := ⟨gb260, _, none⟩) NB274_260.out _).trans (((cell_far (p := ⟨gb260, _, none⟩) NB274_260.out _).trans (((cell_far (p := ⟨gb260, _, none⟩) NB274_260.out _).trans (((cell_far (p := ⟨gb260, _, none⟩) NB274_260.out _).trans (hHeld.2.2.1)))))))))))))), ((cell_far (p := ⟨gb260, _, none⟩) NB274_260.out _).trans (((cell_far (p := ⟨gb260, _, none⟩) NB274_260.out _).trans (((cell_far (p := ⟨gb260, _, none⟩) NB274_260.out _).trans (((cell_far (p := ⟨gb260, _, none⟩) NB274_260.out _).trans (((cell_far (p := ⟨gb260, _, none⟩) NB274_260.out _).trans (((cell_far (p := ⟨gb260, _, none⟩) NB274_260.out _).trans (((cell_far (p := ⟨gb260, _, none⟩) NB274_260.out _).trans (hHeld.2.2.2.1)))))))))))))), ((cell_far (p := ⟨gb260, _, none⟩) NB274_260.out _).trans (((cell_far (p := ⟨gb260, _, none⟩) NB274_260.out _).trans (((cell_far (p := ⟨gb260, _, none⟩) NB274_260.out _).trans (((cell_far (p := ⟨gb260, _, none⟩) NB274_260.out _).trans (((cell_far (p := ⟨gb260, _, none⟩) NB274_260.out _).trans (((cell_far (p := ⟨gb260, _, none⟩) NB274_260.out _).trans (((cell_far (p := ⟨gb260, _, none⟩) NB274_260.out _).trans (hHeld.2.2.2.2.1)))))))))))))), ((cell_far (p := ⟨gb260, _, none⟩) NB274_260.out _).trans (((cell_far (p := ⟨gb260, _, none⟩) NB274_260.out _).trans (((cell_far (p := ⟨gb260, _, none⟩) NB274_260.out _).trans (((cell_far (p := ⟨gb260, _, none⟩) NB274_260.out _).trans (((cell_far (p := ⟨gb260, _, none⟩) NB274_260.out _).trans (((cell_far (p := ⟨gb260, _, none⟩) NB274_260.out _).trans (((cell_far (p := ⟨gb260, _, none⟩) NB274_260.out _).trans (hHeld.2.2.2.2.2.1)))))))))))))), ((cell_far (p := ⟨gb260, _, none⟩) NB274_260.out _).trans (((cell_far (p := ⟨gb260, _, none⟩) NB274_260.out _).trans (((cell_far (p := ⟨gb260, _, none⟩) NB274_260.out _).trans (((cell_far (p := ⟨gb260, _, none⟩) NB274_260.out _).trans (((cell_far (p := ⟨gb260, _, none⟩) NB274_260.out _).trans (((cell_far (p := ⟨gb260, _, none⟩) NB274_260.out _).trans (((cell_far (p := ⟨gb260, _, none⟩) NB274_260.out _).trans (hHeld.2.2.2.2.2.2.1)))))))))))))), ((cell_far (p := ⟨gb260, _, none⟩) NB284_260.out _).trans (((cell_far (p := ⟨gb260, _, none⟩) NB284_260.out _).trans (((cell_far (p := ⟨gb260, _, none⟩) NB284_260.out _).trans (((cell_far (p := ⟨gb260, _, none⟩) NB284_260.out _).trans (((cell_far (p := ⟨gb260, _, none⟩) NB284_260.out _).trans (((cell_far (p := ⟨gb260, _, none⟩) NB284_260.out _).trans (((cell_far (p := ⟨gb260, _, none⟩) NB284_260.out _).trans (hHeld.2.2.2.2.2.2.2.1)))))))))))))), ((cell_far (p := ⟨gb260, _, none⟩) NB284_260.out _).trans (((cell_far (p := ⟨gb260, _, none⟩) NB284_260.out _).trans (((cell_far (p := ⟨gb260, _, none⟩) NB284_260.out _).trans (((cell_far (p := ⟨gb260, _, none⟩) NB284_260.out _).trans (((cell_far (p := ⟨gb260, _, none⟩) NB284_260.out _).trans (((cell_far (p := ⟨gb260, _, none⟩) NB284_260.out _).trans (((cell_far (p := ⟨gb260, _, none⟩) NB284_260.out _).trans (hHeld.2.2.2.2.2.2.2.2.1)))))))))))))), ((cell_far (p := ⟨gb260, _, none⟩) NB284_260.out _).trans (((cell_far (p := ⟨gb260, _, none⟩) NB284_260.out _).trans (((cell_far (p := ⟨gb260, _, none⟩) NB284_260.out _).trans (((cell_far (p := ⟨gb260, _, none⟩) NB284_260.out _).trans (((cell_far (p := ⟨gb260, _, none⟩) NB284_260.out _).trans (((cell_far (p := ⟨gb260, _, none⟩) NB284_260.out _).trans (((cell_far (p := ⟨gb260, _, none⟩) NB284_260.out _).trans (hHeld.2.2.2.2.2.2.2.2.2.1)))))))))))))), ((cell_far (p := ⟨gb260, _, none⟩) NB284_260.out _).trans (((cell_far (p := ⟨gb260, _, none⟩) NB284_260.out _).trans (((cell_far (p := ⟨gb260, _, none⟩) NB284_260.out _).trans (((cell_far (p := ⟨gb260, _, none⟩) NB284_260.out _).trans (((cell_far (p := ⟨gb260, _, none⟩) NB284_260.out _).trans (((cell_far (p := ⟨gb260, _, none⟩) NB284_260.out _).trans (((cell_far (p := ⟨gb260, _, none⟩) NB284_260.out _).trans (hHeld.2.2.2.2.2.2.2.2.2.2.1)))))))))))))), ((cell_far (p := ⟨gb260, _, none⟩) NB284_260.out _).trans (((cell_far (p := ⟨gb260, _, none⟩) NB284_260.out _).trans (((cell_far (p := ⟨gb260, _, none⟩) NB284_260.out _).trans (((cell_far (p := ⟨gb260, _, none⟩) NB284_260.out _).trans (((cell_far (p := ⟨gb260, _, none⟩) NB284_260.out _).trans (((cell_far (p := ⟨gb260, _, none⟩) NB284_260.out _).trans (((cell_far (p := ⟨gb260, _, none⟩) NB284_260.out _).trans (hHeld.2.2.2.2.2.2.2.2.2.2.2.1)))))))))))))), ((cell_far (p := ⟨gb260, _, none⟩) NB284_260.out _).trans (((cell_far (p := ⟨gb260, _, none⟩) NB284_260.out _).trans (((cell_far (p := ⟨gb260, _, none⟩) NB284_260.out _).trans (((cell_far (p := ⟨gb260, _, none⟩) NB284_260.out _).trans (((cell_far (p := ⟨gb260, _, none⟩) NB284_260.out _).trans (((cell_far (p := ⟨gb260, _, none⟩) NB284_260.out _).trans (((cell_far (p := ⟨gb260, _, none⟩) NB284_260.out _).trans (hHeld.2.2.2.2.2.2.2.2.2.2.2.2.1)))))))))))))), ((cell_far (p := ⟨gb260, _, none⟩) NB284_260.out _).trans (((cell_far (p := ⟨gb260, _, none⟩) NB284_260.out _).trans (((cell_far (p := ⟨gb260, _, none⟩) NB284_260.out _).trans (((cell_far (p := ⟨gb260, _, none⟩) NB284_260.out _).trans (((cell_far (p := ⟨gb260, _, none⟩) NB284_260.out _).trans (((cell_far (p := ⟨gb260, _, none⟩) NB284_260.out _).trans (((cell_far (p := ⟨gb260, _, none⟩) NB284_260.out _).trans (hHeld.2.2.2.2.2.2.2.2.2.2.2.2.2))))))))))))))⟩ (fun hHeld => ?_)
 clear hK K
 refine one_ (i := 15) (N := none) #[true, true, true, true, true, true, true, true, true, true, true, true, true, true, true, true, false, false, false, false, false] rfl rfl (one_of HT_.out (by kernel_rfl)) (by decide) (fun K hK => ?_)
 have hs45 : w37.cell? ⟨gb261, 0, none⟩ = some (.int .i64 0) := (blk_cell BK261.out 0).trans rfl
 have hfs45 := blk_frozen BK261.out 0
 have hns45_0 := NB260_261.out
 have hns45_2 := NB262_261.out
 have hns45_3 := NB263_261.out
 have hns45_4 := NB274_261.out
 have hns45_5 := NB284_261.out
 have hms45_0 := NB261_260.out
 have hms45_2 := NB261_262.out
 have hms45_3 := NB261_263.out
 have hms45_4 := NB261_274.out
 have hms45_5 := NB261_284.out
 have hs46 : w37.cell? ⟨gb261, 1, none⟩ = some (.int .i64 0) := (blk_cell BK261.out 1).trans rfl
 have hfs46 := blk_frozen BK261.out 1
 have hns46_0 := NB260_261.out
 have hns46_2 := NB262_261.out
 have hns46_3 := NB263_261.out
 have hns46_4 := NB274_261.out
 have hns46_5 := NB284_261.out
 have hms46_0 := NB261_260.out
 have hms46_2 := NB261_262.out
 have hms46_3 := NB261_263.out
 have hms46_4 := NB261_274.out
 have hms46_5 := NB261_284.out
 have hs47 : w37.cell? ⟨gb261, 2, none⟩ = some (.int .i64 0) := (blk_cell BK261.out 2).trans rfl
 have hfs47 := blk_frozen BK261.out 2
 have hns47_0 := NB260_261.out
 have hns47_2 := NB262_261.out
 have hns47_3 := NB263_261.out
 have hns47_4 := NB274_261.out
 have hns47_5 := NB284_261.out
 have hms47_0 := NB261_260.out
 have hms47_2 := NB261_262.out
 have hms47_3 := NB261_263.out
 have hms47_4 := NB261_274.out
 have hms47_5 := NB261_284.out
 have hs48 : w37.cell? ⟨gb261, 3, none⟩ = some (.int .i64 0) := (blk_cell BK261.out 3).trans rfl
 have hfs48 := blk_frozen BK261.out 3
 have hns48_0 := NB260_261.out
 have hns48_2 := NB262_261.out
 have hns48_3 := NB263_261.out
 have hns48_4 := NB274_261.out
 have hns48_5 := NB284_261.out
 have hms48_0 := NB261_260.out
 have hms48_2 := NB261_262.out
 have hms48_3 := NB261_263.out
 have hms48_4 := NB261_274.out
 have hms48_5 := NB261_284.out
 have hs49 : w37.cell? ⟨gb261, 4, none⟩ = some (.int .i64 0) := (blk_cell BK261.out 4).trans rfl
 have hfs49 := blk_frozen BK261.out 4
 have hns49_0 := NB260_261.out
 have hns49_2 := NB262_261.out
 have hns49_3 := NB263_261.out
 have hns49_4 := NB274_261.out
 have hns49_5 := NB284_261.out
 have hms49_0 := NB261_260.out
 have hms49_2 := NB261_262.out
 have hms49_3 := NB261_263.out
 have hms49_4 := NB261_274.out
 have hms49_5 := NB261_284.out
 have hs50 : w37.cell? ⟨gb261, 5, none⟩ = some (.int .i64 0) := (blk_cell BK261.out 5).trans rfl
 have hfs50 := blk_frozen BK261.out 5
 have hns50_0 := NB260_261.out
 have hns50_2 := NB262_261.out
 have hns50_3 := NB263_261.out
 have hns50_4 := NB274_261.out
 have hns50_5 := NB284_261.out
 have hms50_0 := NB261_260.out
 have hms50_2 := NB261_262.out
 have hms50_3 := NB261_263.out
 have hms50_4 := NB261_274.out
 have hms50_5 := NB261_284.out
 have hs51 : w37.cell? ⟨gb261, 6, none⟩ = some (.int .i64 0) := (blk_cell BK261.out 6).trans rfl
 have hfs51 := blk_frozen BK261.out 6
 have hns51_0 := NB260_261.out
 have hns51_2 := NB262_261.out
 have hns51_3 := NB263_261.out
 have hns51_4 := NB274_261.out
 have hns51_5 := NB284_261.out
 have hms51_0 := NB261_260.out
 have hms51_2 := NB261_262.out
 have hms51_3 := NB261_263.out
 have hms51_4 := NB261_274.out
 have hms51_5 := NB261_284.out
 refine skip_ (w1 := ?_) ?_ ?_ ?_ ?_
 rotate_left
 ·rfl
 ·rfl
 ·go_simp
  rfl
 refine hK.out _ _ ⟨((cell_far (p := ⟨gb261, _, none⟩) NB274_261.out _).trans (((cell_far (p := ⟨gb261, _, none⟩) NB274_261.out _).trans (((cell_far (p := ⟨gb261, _, none⟩) NB274_261.out _).trans (((cell_far (p := ⟨gb261, _, none⟩) NB274_261.out _).trans (((cell_far (p := ⟨gb261, _, none⟩) NB274_261.out _).trans (((cell_far (p := ⟨gb261, _, none⟩) NB274_261.out _).trans (((cell_far (p := ⟨gb261, _, none⟩) NB274_261.out _).trans (hHeld.1)))))))))))))), ((cell_far (p := ⟨gb261, _, none⟩) NB274_261.out _).trans (((cell_far (p := ⟨gb261, _, none⟩) NB274_261.out _).trans (((cell_far (p := ⟨gb261, _, none⟩) NB274_261.out _).trans (((cell_far (p := ⟨gb261, _, none⟩) NB274_261.out _).trans (((cell_far (p := ⟨gb261, _, none⟩) NB274_261.out _).trans (((cell_far (p := ⟨gb261, _, none⟩) NB274_261.out _).trans (((cell_far (p := ⟨gb261, _, none⟩) NB274_261.out _).trans (hHeld.2.1)))))))))))))), ((cell_far (p := ⟨gb261, _, none⟩) NB274_261.out _).trans (((cell_far (p := ⟨gb261, _, none⟩) NB274_261.out _).trans (((cell_far (p := ⟨gb261, _, none⟩) NB274_261.out _).trans (((cell_far (p := ⟨gb261, _, none⟩) NB274_261.out _).trans (((cell_far (p := ⟨gb261, _, none⟩) NB274_261.out _).trans (((cell_far (p := ⟨gb261, _, none⟩) NB274_261.out _).trans (((cell_far (p := ⟨gb261, _, none⟩) NB274_261.out _).trans (hHeld.2.2.1)))))))))))))), ((cell_far (p := ⟨gb261, _, none⟩) NB274_261.out _).trans (((cell_far (p := ⟨gb261, _, none⟩) NB274_261.out _).trans (((cell_far (p := ⟨gb261, _, none⟩) NB274_261.out _).trans (((cell_far (p := ⟨gb261, _, none⟩) NB274_261.out _).trans (((cell_far (p := ⟨gb261, _, none⟩) NB274_261.out _).trans (((cell_far (p := ⟨gb261, _, none⟩) NB274_261.out _).trans (((cell_far (p := ⟨gb261, _, none⟩) NB274_261.out _).trans (hHeld.2.2.2.1)))))))))))))), ((cell_far (p := ⟨gb261, _, none⟩) NB274_261.out _).trans (((cell_far (p := ⟨gb261, _, none⟩) NB274_261.out _).trans (((cell_far (p := ⟨gb261, _, none⟩) NB274_261.out _).trans (((cell_far (p := ⟨gb261, _, none⟩) NB274_261.out _).trans (((cell_far (p := ⟨gb261, _, none⟩) NB274_261.out _).trans (((cell_far (p := ⟨gb261, _, none⟩) NB274_261.out _).trans (((cell_far (p := ⟨gb261, _, none⟩) NB274_261.out _).trans (hHeld.2.2.2.2.1)))))))))))))), ((cell_far (p := ⟨gb261, _, none⟩) NB274_261.out _).trans (((cell_far (p := ⟨gb261, _, none⟩) NB274_261.out _).trans (((cell_far (p := ⟨gb261, _, none⟩) NB274_261.out _).trans (((cell_far (p := ⟨gb261, _, none⟩) NB274_261.out _).trans (((cell_far (p := ⟨gb261, _, none⟩) NB274_261.out _).trans (((cell_far (p := ⟨gb261, _, none⟩) NB274_261.out _).trans (((cell_far (p := ⟨gb261, _, none⟩) NB274_261.out _).trans (hHeld.2.2.2.2.2.1)))))))))))))), ((cell_far (p := ⟨gb261, _, none⟩) NB274_261.out _).trans (((cell_far (p := ⟨gb261, _, none⟩) NB274_261.out _).trans (((cell_far (p := ⟨gb261, _, none⟩) NB274_261.out _).trans (((cell_far (p := ⟨gb261, _, none⟩) NB274_261.out _).trans (((cell_far (p := ⟨gb261, _, none⟩) NB274_261.out _).trans (((cell_far (p := ⟨gb261, _, none⟩) NB274_261.out _).trans (((cell_far (p := ⟨gb261, _, none⟩) NB274_261.out _).trans (hHeld.2.2.2.2.2.2.1)))))))))))))), ((cell_far (p := ⟨gb261, _, none⟩) NB284_261.out _).trans (((cell_far (p := ⟨gb261, _, none⟩) NB284_261.out _).trans (((cell_far (p := ⟨gb261, _, none⟩) NB284_261.out _).trans (((cell_far (p := ⟨gb261, _, none⟩) NB284_261.out _).trans (((cell_far (p := ⟨gb261, _, none⟩) NB284_261.out _).trans (((cell_far (p := ⟨gb261, _, none⟩) NB284_261.out _).trans (((cell_far (p := ⟨gb261, _, none⟩) NB284_261.out _).trans (hHeld.2.2.2.2.2.2.2.1)))))))))))))), ((cell_far (p := ⟨gb261, _, none⟩) NB284_261.out _).trans (((cell_far (p := ⟨gb261, _, none⟩) NB284_261.out _).trans (((cell_far (p := ⟨gb261, _, none⟩) NB284_261.out _).trans (((cell_far (p := ⟨gb261, _, none⟩) NB284_261.out _).trans (((cell_far (p := ⟨gb261, _, none⟩) NB284_261.out _).trans (((cell_far (p := ⟨gb261, _, none⟩) NB284_261.out _).trans (((cell_far (p := ⟨gb261, _, none⟩) NB284_261.out _).trans (hHeld.2.2.2.2.2.2.2.2.1)))))))))))))), ((cell_far (p := ⟨gb261, _, none⟩) NB284_261.out _).trans (((cell_far (p := ⟨gb261, _, none⟩) NB284_261.out _).trans (((cell_far (p := ⟨gb261, _, none⟩) NB284_261.out _).trans (((cell_far (p := ⟨gb261, _, none⟩) NB284_261.out _).trans (((cell_far (p := ⟨gb261, _, none⟩) NB284_261.out _).trans (((cell_far (p := ⟨gb261, _, none⟩) NB284_261.out _).trans (((cell_far (p := ⟨gb261, _, none⟩) NB284_261.out _).trans (hHeld.2.2.2.2.2.2.2.2.2.1)))))))))))))), ((cell_far (p := ⟨gb261, _, none⟩) NB284_261.out _).trans (((cell_far (p := ⟨gb261, _, none⟩) NB284_261.out _).trans (((cell_far (p := ⟨gb261, _, none⟩) NB284_261.out _).trans (((cell_far (p := ⟨gb261, _, none⟩) NB284_261.out _).trans (((cell_far (p := ⟨gb261, _, none⟩) NB284_261.out _).trans (((cell_far (p := ⟨gb261, _, none⟩) NB284_261.out _).trans (((cell_far (p := ⟨gb261, _, none⟩) NB284_261.out _).trans (hHeld.2.2.2.2.2.2.2.2.2.2.1)))))))))))))), ((cell_far (p := ⟨gb261, _, none⟩) NB284_261.out _).trans (((cell_far (p := ⟨gb261, _, none⟩) NB284_261.out _).trans (((cell_far (p := ⟨gb261, _, none⟩) NB284_261.out _).trans (((cell_far (p := ⟨gb261, _, none⟩) NB284_261.out _).trans (((cell_far (p := ⟨gb261, _, none⟩) NB284_261.out _).trans (((cell_far (p := ⟨gb261, _, none⟩) NB284_261.out _).trans (((cell_far (p := ⟨gb261, _, none⟩) NB284_261.out _).trans (hHeld.2.2.2.2.2.2.2.2.2.2.2.1)))))))))))))), ((cell_far (p := ⟨gb261, _, none⟩) NB284_261.out _).trans (((cell_far (p := ⟨gb261, _, none⟩) NB284_261.out _).trans (((cell_far (p := ⟨gb261, _, none⟩) NB284_261.out _).trans (((cell_far (p := ⟨gb261, _, none⟩) NB284_261.out _).trans (((cell_far (p := ⟨gb261, _, none⟩) NB284_261.out _).trans (((cell_far (p := ⟨gb261, _, none⟩) NB284_261.out _).trans (((cell_far (p := ⟨gb261, _, none⟩) NB284_261.out _).trans (hHeld.2.2.2.2.2.2.2.2.2.2.2.2.1)))))))))))))), ((cell_far (p := ⟨gb261, _, none⟩) NB284_261.out _).trans (((cell_far (p := ⟨gb261, _, none⟩) NB284_261.out _).trans (((cell_far (p := ⟨gb261, _, none⟩) NB284_261.out _).trans (((cell_far (p := ⟨gb261, _, none⟩) NB284_261.out _).trans (((cell_far (p := ⟨gb261, _, none⟩) NB284_261.out _).trans (((cell_far (p := ⟨gb261, _, none⟩) NB284_261.out _).trans (((cell_far (p := ⟨gb261, _, none⟩) NB284_261.out _).trans (hHeld.2.2.2.2.2.2.2.2.2.2.2.2.2))))))))))))))⟩ (fun hHeld => ?_)
 clear hK K
 refine one_ (i := 16) (N := none) #[true, true, true, true, true, true, true, true, true, true, true, true, true, true, true, true, true, false, false, false, false] rfl rfl (one_of HT_.out (by kernel_rfl)) (by decide) (fun K hK => ?_)
 have hs52 : w37.cell? ⟨gb262, 0, none⟩ = some (.bool false) := (blk_cell BK262.out 0).trans rfl
 have hfs52 := blk_frozen BK262.out 0
 have hns52_0 := NB260_262.out
 have hns52_1 := NB261_262.out
 have hns52_3 := NB263_262.out
 have hns52_4 := NB274_262.out
 have hns52_5 := NB284_262.out
 have hms52_0 := NB262_260.out
 have hms52_1 := NB262_261.out
 have hms52_3 := NB262_263.out
 have hms52_4 := NB262_274.out
 have hms52_5 := NB262_284.out
 have hs53 : w37.cell? ⟨gb262, 1, none⟩ = some (.int .i64 0) := (blk_cell BK262.out 1).trans rfl
 have hfs53 := blk_frozen BK262.out 1
 have hns53_0 := NB260_262.out
 have hns53_1 := NB261_262.out
 have hns53_3 := NB263_262.out
 have hns53_4 := NB274_262.out
 have hns53_5 := NB284_262.out
 have hms53_0 := NB262_260.out
 have hms53_1 := NB262_261.out
 have hms53_3 := NB262_263.out
 have hms53_4 := NB262_274.out
 have hms53_5 := NB262_284.out
 have hs54 : w37.cell? ⟨gb262, 2, none⟩ = some (.int .i64 0) := (blk_cell BK262.out 2).trans rfl
 have hfs54 := blk_frozen BK262.out 2
 have hns54_0 := NB260_262.out
 have hns54_1 := NB261_262.out
 have hns54_3 := NB263_262.out
 have hns54_4 := NB274_262.out
 have hns54_5 := NB284_262.out
 have hms54_0 := NB262_260.out
 have hms54_1 := NB262_261.out
 have hms54_3 := NB262_263.out
 have hms54_4 := NB262_274.out
 have hms54_5 := NB262_284.out
 have hs55 : w37.cell? ⟨gb262, 3, none⟩ = some (.int .i64 0) := (blk_cell BK262.out 3).trans rfl
 have hfs55 := blk_frozen BK262.out 3
 have hns55_0 := NB260_262.out
 have hns55_1 := NB261_262.out
 have hns55_3 := NB263_262.out
 have hns55_4 := NB274_262.out
 have hns55_5 := NB284_262.out
 have hms55_0 := NB262_260.out
 have hms55_1 := NB262_261.out
 have hms55_3 := NB262_263.out
 have hms55_4 := NB262_274.out
 have hms55_5 := NB262_284.out
 refine skip_ (w1 := ?_) ?_ ?_ ?_ ?_
 rotate_left
 ·rfl
 ·rfl
 ·go_simp
  rfl
 refine hK.out _ _ ⟨((cell_far (p := ⟨gb262, _, none⟩) NB274_262.out _).trans (((cell_far (p := ⟨gb262, _, none⟩) NB274_262.out _).trans (((cell_far (p := ⟨gb262, _, none⟩) NB274_262.out _).trans (((cell_far (p := ⟨gb262, _, none⟩) NB274_262.out _).trans (hHeld.1)))))))), ((cell_far (p := ⟨gb262, _, none⟩) NB274_262.out _).trans (((cell_far (p := ⟨gb262, _, none⟩) NB274_262.out _).trans (((cell_far (p := ⟨gb262, _, none⟩) NB274_262.out _).trans (((cell_far (p := ⟨gb262, _, none⟩) NB274_262.out _).trans (hHeld.2.1)))))))), ((cell_far (p := ⟨gb262, _, none⟩) NB274_262.out _).trans (((cell_far (p := ⟨gb262, _, none⟩) NB274_262.out _).trans (((cell_far (p := ⟨gb262, _, none⟩) NB274_262.out _).trans (((cell_far (p := ⟨gb262, _, none⟩) NB274_262.out _).trans (hHeld.2.2.1)))))))), ((cell_far (p := ⟨gb262, _, none⟩) NB274_262.out _).trans (((cell_far (p := ⟨gb262, _, none⟩) NB274_262.out _).trans (((cell_far (p := ⟨gb262, _, none⟩) NB274_262.out _).trans (((cell_far (p := ⟨gb262, _, none⟩) NB274_262.out _).trans (hHeld.2.2.2.1)))))))), ((cell_far (p := ⟨gb262, _, none⟩) NB274_262.out _).trans (((cell_far (p := ⟨gb262, _, none⟩) NB274_262.out _).trans (((cell_far (p := ⟨gb262, _, none⟩) NB274_262.out _).trans (((cell_far (p := ⟨gb262, _, none⟩) NB274_262.out _).trans (hHeld.2.2.2.2.1)))))))), ((cell_far (p := ⟨gb262, _, none⟩) NB274_262.out _).trans (((cell_far (p := ⟨gb262, _, none⟩) NB274_262.out _).trans (((cell_far (p := ⟨gb262, _, none⟩) NB274_262.out _).trans (((cell_far (p := ⟨gb262, _, none⟩) NB274_262.out _).trans (hHeld.2.2.2.2.2.1)))))))), ((cell_far (p := ⟨gb262, _, none⟩) NB274_262.out _).trans (((cell_far (p := ⟨gb262, _, none⟩) NB274_262.out _).trans (((cell_far (p := ⟨gb262, _, none⟩) NB274_262.out _).trans (((cell_far (p := ⟨gb262, _, none⟩) NB274_262.out _).trans (hHeld.2.2.2.2.2.2.1)))))))), ((cell_far (p := ⟨gb262, _, none⟩) NB284_262.out _).trans (((cell_far (p := ⟨gb262, _, none⟩) NB284_262.out _).trans (((cell_far (p := ⟨gb262, _, none⟩) NB284_262.out _).trans (((cell_far (p := ⟨gb262, _, none⟩) NB284_262.out _).trans (hHeld.2.2.2.2.2.2.2.1)))))))), ((cell_far (p := ⟨gb262, _, none⟩) NB284_262.out _).trans (((cell_far (p := ⟨gb262, _, none⟩) NB284_262.out _).trans (((cell_far (p := ⟨gb262, _, none⟩) NB284_262.out _).trans (((cell_far (p := ⟨gb262, _, none⟩) NB284_262.out _).trans (hHeld.2.2.2.2.2.2.2.2.1)))))))), ((cell_far (p := ⟨gb262, _, none⟩) NB284_262.out _).trans (((cell_far (p := ⟨gb262, _, none⟩) NB284_262.out _).trans (((cell_far (p := ⟨gb262, _, none⟩) NB284_262.out _).trans (((cell_far (p := ⟨gb262, _, none⟩) NB284_262.out _).trans (hHeld.2.2.2.2.2.2.2.2.2.1)))))))), ((cell_far (p := ⟨gb262, _, none⟩) NB284_262.out _).trans (((cell_far (p := ⟨gb262, _, none⟩) NB284_262.out _).trans (((cell_far (p := ⟨gb262, _, none⟩) NB284_262.out _).trans (((cell_far (p := ⟨gb262, _, none⟩) NB284_262.out _).trans (hHeld.2.2.2.2.2.2.2.2.2.2.1)))))))), ((cell_far (p := ⟨gb262, _, none⟩) NB284_262.out _).trans (((cell_far (p := ⟨gb262, _, none⟩) NB284_262.out _).trans (((cell_far (p := ⟨gb262, _, none⟩) NB284_262.out _).trans (((cell_far (p := ⟨gb262, _, none⟩) NB284_262.out _).trans (hHeld.2.2.2.2.2.2.2.2.2.2.2.1)))))))), ((cell_far (p := ⟨gb262, _, none⟩) NB284_262.out _).trans (((cell_far (p := ⟨gb262, _, none⟩) NB284_262.out _).trans (((cell_far (p := ⟨gb262, _, none⟩) NB284_262.out _).trans (((cell_far (p := ⟨gb262, _, none⟩) NB284_262.out _).trans (hHeld.2.2.2.2.2.2.2.2.2.2.2.2.1)))))))), ((cell_far (p := ⟨gb262, _, none⟩) NB284_262.out _).trans (((cell_far (p := ⟨gb262, _, none⟩) NB284_262.out _).trans (((cell_far (p := ⟨gb262, _, none⟩) NB284_262.out _).trans (((cell_far (p := ⟨gb262, _, none⟩) NB284_262.out _).trans (hHeld.2.2.2.2.2.2.2.2.2.2.2.2.2))))))))⟩ (fun hHeld => ?_)
 clear hK K
 refine one_ (i := 17) (N := none) #[true, true, true, true, true, true, true, true, true, true, true, true, true, true, true, true, true, true, false, false, false] rfl rfl (one_of HT_.out (by kernel_rfl)) (by decide) (fun K hK => ?_)
 have hs56 : w37.cell? ⟨gb263, 0, none⟩ = some (.bool false) := (blk_cell BK263.out 0).trans rfl
 have hfs56 := blk_frozen BK263.out 0
 have hns56_0 := NB260_263.out
 have hns56_1 := NB261_263.out
 have hns56_2 := NB262_263.out
 have hns56_4 := NB274_263.out
 have hns56_5 := NB284_263.out
 have hms56_0 := NB263_260.out
 have hms56_1 := NB263_261.out
 have hms56_2 := NB263_262.out
 have hms56_4 := NB263_274.out
 have hms56_5 := NB263_284.out
 have hs57 : w37.cell? ⟨gb263, 1, none⟩ = some (.int .i64 0) := (blk_cell BK263.out 1).trans rfl
 have hfs57 := blk_frozen BK263.out 1
 have hns57_0 := NB260_263.out
 have hns57_1 := NB261_263.out
 have hns57_2 := NB262_263.out
 have hns57_4 := NB274_263.out
 have hns57_5 := NB284_263.out
 have hms57_0 := NB263_260.out
 have hms57_1 := NB263_261.out
 have hms57_2 := NB263_262.out
 have hms57_4 := NB263_274.out
 have hms57_5 := NB263_284.out
 have hs58 : w37.cell? ⟨gb263, 2, none⟩ = some (.int .i64 0) := (blk_cell BK263.out 2).trans rfl
 have hfs58 := blk_frozen BK263.out 2
 have hns58_0 := NB260_263.out
 have hns58_1 := NB261_263.out
 have hns58_2 := NB262_263.out
 have hns58_4 := NB274_263.out
 have hns58_5 := NB284_263.out
 have hms58_0 := NB263_260.out
 have hms58_1 := NB263_261.out
 have hms58_2 := NB263_262.out
 have hms58_4 := NB263_274.out
 have hms58_5 := NB263_284.out
 have hs59 : w37.cell? ⟨gb263, 3, none⟩ = some (.int .i64 0) := (blk_cell BK263.out 3).trans rfl
 have hfs59 := blk_frozen BK263.out 3
 have hns59_0 := NB260_263.out
 have hns59_1 := NB261_263.out
 have hns59_2 := NB262_263.out
 have hns59_4 := NB274_263.out
 have hns59_5 := NB284_263.out
 have hms59_0 := NB263_260.out
 have hms59_1 := NB263_261.out
 have hms59_2 := NB263_262.out
 have hms59_4 := NB263_274.out
 have hms59_5 := NB263_284.out
 refine skip_ (w1 := ?_) ?_ ?_ ?_ ?_
 rotate_left
 ·rfl
 ·rfl
 ·go_simp
  rfl
 refine hK.out _ _ ⟨((cell_far (p := ⟨gb263, _, none⟩) NB274_263.out _).trans (((cell_far (p := ⟨gb263, _, none⟩) NB274_263.out _).trans (((cell_far (p := ⟨gb263, _, none⟩) NB274_263.out _).trans (((cell_far (p := ⟨gb263, _, none⟩) NB274_263.out _).trans (hHeld.1)))))))), ((cell_far (p := ⟨gb263, _, none⟩) NB274_263.out _).trans (((cell_far (p := ⟨gb263, _, none⟩) NB274_263.out _).trans (((cell_far (p := ⟨gb263, _, none⟩) NB274_263.out _).trans (((cell_far (p := ⟨gb263, _, none⟩) NB274_263.out _).trans (hHeld.2.1)))))))), ((cell_far (p := ⟨gb263, _, none⟩) NB274_263.out _).trans (((cell_far (p := ⟨gb263, _, none⟩) NB274_263.out _).trans (((cell_far (p := ⟨gb263, _, none⟩) NB274_263.out _).trans (((cell_far (p := ⟨gb263, _, none⟩) NB274_263.out _).trans (hHeld.2.2.1)))))))), ((cell_far (p := ⟨gb263, _, none⟩) NB274_263.out _).trans (((cell_far (p := ⟨gb263, _, none⟩) NB274_263.out _).trans (((cell_far (p := ⟨gb263, _, none⟩) NB274_263.out _).trans (((cell_far (p := ⟨gb263, _, none⟩) NB274_263.out _).trans (hHeld.2.2.2.1)))))))), ((cell_far (p := ⟨gb263, _, none⟩) NB274_263.out _).trans (((cell_far (p := ⟨gb263, _, none⟩) NB274_263.out _).trans (((cell_far (p := ⟨gb263, _, none⟩) NB274_263.out _).trans (((cell_far (p := ⟨gb263, _, none⟩) NB274_263.out _).trans (hHeld.2.2.2.2.1)))))))), ((cell_far (p := ⟨gb263, _, none⟩) NB274_263.out _).trans (((cell_far (p := ⟨gb263, _, none⟩) NB274_263.out _).trans (((cell_far (p := ⟨gb263, _, none⟩) NB274_263.out _).trans (((cell_far (p := ⟨gb263, _, none⟩) NB274_263.out _).trans (hHeld.2.2.2.2.2.1)))))))), ((cell_far (p := ⟨gb263, _, none⟩) NB274_263.out _).trans (((cell_far (p := ⟨gb263, _, none⟩) NB274_263.out _).trans (((cell_far (p := ⟨gb263, _, none⟩) NB274_263.out _).trans (((cell_far (p := ⟨gb263, _, none⟩) NB274_263.out _).trans (hHeld.2.2.2.2.2.2.1)))))))), ((cell_far (p := ⟨gb263, _, none⟩) NB284_263.out _).trans (((cell_far (p := ⟨gb263, _, none⟩) NB284_263.out _).trans (((cell_far (p := ⟨gb263, _, none⟩) NB284_263.out _).trans (((cell_far (p := ⟨gb263, _, none⟩) NB284_263.out _).trans (hHeld.2.2.2.2.2.2.2.1)))))))), ((cell_far (p := ⟨gb263, _, none⟩) NB284_263.out _).trans (((cell_far (p := ⟨gb263, _, none⟩) NB284_263.out _).trans (((cell_far (p := ⟨gb263, _, none⟩) NB284_263.out _).trans (((cell_far (p := ⟨gb263, _, none⟩) NB284_263.out _).trans (hHeld.2.2.2.2.2.2.2.2.1)))))))), ((cell_far (p := ⟨gb263, _, none⟩) NB284_263.out _).trans (((cell_far (p := ⟨gb263, _, none⟩) NB284_263.out _).trans (((cell_far (p := ⟨gb263, _, none⟩) NB284_263.out _).trans (((cell_far (p := ⟨gb263, _, none⟩) NB284_263.out _).trans (hHeld.2.2.2.2.2.2.2.2.2.1)))))))), ((cell_far (p := ⟨gb263, _, none⟩) NB284_263.out _).trans (((cell_far (p := ⟨gb263, _, none⟩) NB284_263.out _).trans (((cell_far (p := ⟨gb263, _, none⟩) NB284_263.out _).trans (((cell_far (p := ⟨gb263, _, none⟩) NB284_263.out _).trans (hHeld.2.2.2.2.2.2.2.2.2.2.1)))))))), ((cell_far (p := ⟨gb263, _, none⟩) NB284_263.out _).trans (((cell_far (p := ⟨gb263, _, none⟩) NB284_263.out _).trans (((cell_far (p := ⟨gb263, _, none⟩) NB284_263.out _).trans (((cell_far (p := ⟨gb263, _, none⟩) NB284_263.out _).trans (hHeld.2.2.2.2.2.2.2.2.2.2.2.1)))))))), ((cell_far (p := ⟨gb263, _, none⟩) NB284_263.out _).trans (((cell_far (p := ⟨gb263, _, none⟩) NB284_263.out _).trans (((cell_far (p := ⟨gb263, _, none⟩) NB284_263.out _).trans (((cell_far (p := ⟨gb263, _, none⟩) NB284_263.out _).trans (hHeld.2.2.2.2.2.2.2.2.2.2.2.2.1)))))))), ((cell_far (p := ⟨gb263, _, none⟩) NB284_263.out _).trans (((cell_far (p := ⟨gb263, _, none⟩) NB284_263.out _).trans (((cell_far (p := ⟨gb263, _, none⟩) NB284_263.out _).trans (((cell_far (p := ⟨gb263, _, none⟩) NB284_263.out _).trans (hHeld.2.2.2.2.2.2.2.2.2.2.2.2.2))))))))⟩ (fun hHeld => ?_)
 clear hK K
 refine pure_ (i := 18) (N := some 6) (v := ?_) (a' := ?_) #[true, true, true, true, true, true, true, true, true, true, true, true, true, true, true, true, true, true, true, false, false] rfl rfl (any_of HT_.out (by kernel_rfl)) (fun _ _ _ h => h) (Or.inl ⟨by rfl, ?_⟩) ?_ ?_
 rotate_left
 ·intro w'
  go_simp
  with_reducible rfl
 rotate_left
 ·simp only [Act.put, List.setIfInBounds_toArray, List.set_cons_zero, List.set_cons_succ, i64_w, i32_w]
  rfl
 refine pure_ (i := 19) (N := some 7) (v := ?_) (a' := ?_) #[true, true, true, true, true, true, true, true, true, true, true, true, true, true, true, true, true, true, true, true, false] rfl rfl (any_of HT_.out (by kernel_rfl)) (fun _ _ _ h => h) (Or.inl ⟨by rfl, ?_⟩) ?_ ?_
 rotate_left
 ·intro w'
  go_simp
  with_reducible rfl
 rotate_left
 ·simp only [Act.put, List.setIfInBounds_toArray, List.set_cons_zero, List.set_cons_succ, i64_w, i32_w]
  rfl
 refine pure_ (i := 20) (N := some 8) (v := ?_) (a' := ?_) #[true, true, true, true, true, true, true, true, true, true, true, true, true, true, true, true, true, true, true, true, true] rfl rfl (any_of HT_.out (by kernel_rfl)) (fun _ _ _ h => h) (Or.inl ⟨by rfl, ?_⟩) ?_ ?_
 rotate_left
 ·intro w'
  go_simp
  with_reducible rfl
 rotate_left
 ·simp only [Act.put, List.setIfInBounds_toArray, List.set_cons_zero, List.set_cons_succ, i64_w, i32_w]
  rfl
 refine done_ (done_of HT_.out (by kernel_rfl)) ?_
 try go_wp2
 refine bodyPost_ret (results_list (rs := [.cell 2 30, .cell 3 30, .cell 4 27, .cell 5 27, .tmp 6, .tmp 7, .tmp 8]) rfl (by simp) (.cell gb260 30 #[.int .i64 t265, .int .i64 t266, .int .i64 t267, .int .i64 t268, .int .i64 t269, .int .i64 t270, .int .i64 t271] (0, 0) _ rfl (by refine pk ?_; refine blk_far ?_ NB260_263.out _; refine pk ?_; refine blk_far ?_ NB260_263.out _; refine pk ?_; refine blk_far ?_ NB260_263.out _; refine pk ?_; refine blk_far ?_ NB260_263.out _; refine pk ?_; refine blk_far ?_ NB260_262.out _; refine pk ?_; refine blk_far ?_ NB260_262.out _; refine pk ?_; refine blk_far ?_ NB260_262.out _; refine pk ?_; refine blk_far ?_ NB260_262.out _; refine pk ?_; refine blk_far ?_ NB260_261.out _; refine pk ?_; refine blk_far ?_ NB260_261.out _; refine pk ?_; refine blk_far ?_ NB260_261.out _; refine pk ?_; refine blk_far ?_ NB260_261.out _; refine pk ?_; refine blk_far ?_ NB260_261.out _; refine pk ?_; refine blk_far ?_ NB260_261.out _; refine pk ?_; refine blk_far ?_ NB260_261.out _; refine pk ?_; refine blk_put (cs := #[.int .i64 t265, .int .i64 t266, .int .i64 t267, .int .i64 t268, .int .i64 t269, .int .i64 t270, .int .i64 0]) ?_ 6 _ rfl; refine pk ?_; refine blk_put (cs := #[.int .i64 t265, .int .i64 t266, .int .i64 t267, .int .i64 t268, .int .i64 t269, .int .i64 0, .int .i64 0]) ?_ 5 _ rfl; refine pk ?_; refine blk_put (cs := #[.int .i64 t265, .int .i64 t266, .int .i64 t267, .int .i64 t268, .int .i64 0, .int .i64 0, .int .i64 0]) ?_ 4 _ rfl; refine pk ?_; refine blk_put (cs := #[.int .i64 t265, .int .i64 t266, .int .i64 t267, .int .i64 0, .int .i64 0, .int .i64 0, .int .i64 0]) ?_ 3 _ rfl; refine pk ?_; refine blk_put (cs := #[.int .i64 t265, .int .i64 t266, .int .i64 0, .int .i64 0, .int .i64 0, .int .i64 0, .int .i64 0]) ?_ 2 _ rfl; refine pk ?_; refine blk_put (cs := #[.int .i64 t265, .int .i64 0, .int .i64 0, .int .i64 0, .int .i64 0, .int .i64 0, .int .i64 0]) ?_ 1 _ rfl; refine pk ?_; refine blk_put (cs := #[.int .i64 0, .int .i64 0, .int .i64 0, .int .i64 0, .int .i64 0, .int .i64 0, .int .i64 0]) ?_ 0 _ rfl; refine pk ?_; exact BK260.out) Try.underlying30 rfl (by kernel_rfl) (.cell gb261 30 #[.int .i64 t275, .int .i64 t276, .int .i64 t277, .int .i64 t278, .int .i64 t279, .int .i64 t280, .int .i64 t281] (0, 0) _ rfl (by refine pk ?_; refine blk_far ?_ NB261_263.out _; refine pk ?_; refine blk_far ?_ NB261_263.out _; refine pk ?_; refine blk_far ?_ NB261_263.out _; refine pk ?_; refine blk_far ?_ NB261_263.out _; refine pk ?_; refine blk_far ?_ NB261_262.out _; refine pk ?_; refine blk_far ?_ NB261_262.out _; refine pk ?_; refine blk_far ?_ NB261_262.out _; refine pk ?_; refine blk_far ?_ NB261_262.out _; refine pk ?_; refine blk_put (cs := #[.int .i64 t275, .int .i64 t276, .int .i64 t277, .int .i64 t278, .int .i64 t279, .int .i64 t280, .int .i64 0]) ?_ 6 _ rfl; refine pk ?_; refine blk_put (cs := #[.int .i64 t275, .int .i64 t276, .int .i64 t277, .int .i64 t278, .int .i64 t279, .int .i64 0, .int .i64 0]) ?_ 5 _ rfl; refine pk ?_; refine blk_put (cs := #[.int .i64 t275, .int .i64 t276, .int .i64 t277, .int .i64 t278, .int .i64 0, .int .i64 0, .int .i64 0]) ?_ 4 _ rfl; refine pk ?_; refine blk_put (cs := #[.int .i64 t275, .int .i64 t276, .int .i64 t277, .int .i64 0, .int .i64 0, .int .i64 0, .int .i64 0]) ?_ 3 _ rfl; refine pk ?_; refine blk_put (cs := #[.int .i64 t275, .int .i64 t276, .int .i64 0, .int .i64 0, .int .i64 0, .int .i64 0, .int .i64 0]) ?_ 2 _ rfl; refine pk ?_; refine blk_put (cs := #[.int .i64 t275, .int .i64 0, .int .i64 0, .int .i64 0, .int .i64 0, .int .i64 0, .int .i64 0]) ?_ 1 _ rfl; refine pk ?_; refine blk_put (cs := #[.int .i64 0, .int .i64 0, .int .i64 0, .int .i64 0, .int .i64 0, .int .i64 0, .int .i64 0]) ?_ 0 _ rfl; refine pk ?_; refine blk_far ?_ NB261_260.out _; refine pk ?_; refine blk_far ?_ NB261_260.out _; refine pk ?_; refine blk_far ?_ NB261_260.out _; refine pk ?_; refine blk_far ?_ NB261_260.out _; refine pk ?_; refine blk_far ?_ NB261_260.out _; refine pk ?_; refine blk_far ?_ NB261_260.out _; refine pk ?_; refine blk_far ?_ NB261_260.out _; refine pk ?_; exact BK261.out) Try.underlying30 rfl (by kernel_rfl) (.cell gb262 27 #[.bool t285, .int .i64 t286, .int .i64 t287, .int .i64 t288] (0, 0) _ rfl (by refine pk ?_; refine blk_far ?_ NB262_263.out _; refine pk ?_; refine blk_far ?_ NB262_263.out _; refine pk ?_; refine blk_far ?_ NB262_263.out _; refine pk ?_; refine blk_far ?_ NB262_263.out _; refine pk ?_; refine blk_put (cs := #[.bool t285, .int .i64 t286, .int .i64 t287, .int .i64 0]) ?_ 3 _ rfl; refine pk ?_; refine blk_put (cs := #[.bool t285, .int .i64 t286, .int .i64 0, .int .i64 0]) ?_ 2 _ rfl; refine pk ?_; refine blk_put (cs := #[.bool t285, .int .i64 0, .int .i64 0, .int .i64 0]) ?_ 1 _ rfl; refine pk ?_; refine blk_put (cs := #[.bool false, .int .i64 0, .int .i64 0, .int .i64 0]) ?_ 0 _ rfl; refine pk ?_; refine blk_far ?_ NB262_261.out _; refine pk ?_; refine blk_far ?_ NB262_261.out _; refine pk ?_; refine blk_far ?_ NB262_261.out _; refine pk ?_; refine blk_far ?_ NB262_261.out _; refine pk ?_; refine blk_far ?_ NB262_261.out _; refine pk ?_; refine blk_far ?_ NB262_261.out _; refine pk ?_; refine blk_far ?_ NB262_261.out _; refine pk ?_; refine blk_far ?_ NB262_260.out _; refine pk ?_; refine blk_far ?_ NB262_260.out _; refine pk ?_; refine blk_far ?_ NB262_260.out _; refine pk ?_; refine blk_far ?_ NB262_260.out _; refine pk ?_; refine blk_far ?_ NB262_260.out _; refine pk ?_; refine blk_far ?_ NB262_260.out _; refine pk ?_; refine blk_far ?_ NB262_260.out _; refine pk ?_; exact BK262.out) Try.underlying27 rfl (by kernel_rfl) (.cell gb263 27 #[.bool t291, .int .i64 t292, .int .i64 t293, .int .i64 t294] (0, 0) _ rfl (by refine pk ?_; refine blk_put (cs := #[.bool t291, .int .i64 t292, .int .i64 t293, .int .i64 0]) ?_ 3 _ rfl; refine pk ?_; refine blk_put (cs := #[.bool t291, .int .i64 t292, .int .i64 0, .int .i64 0]) ?_ 2 _ rfl; refine pk ?_; refine blk_put (cs := #[.bool t291, .int .i64 0, .int .i64 0, .int .i64 0]) ?_ 1 _ rfl; refine pk ?_; refine blk_put (cs := #[.bool false, .int .i64 0, .int .i64 0, .int .i64 0]) ?_ 0 _ rfl; refine pk ?_; refine blk_far ?_ NB263_262.out _; refine pk ?_; refine blk_far ?_ NB263_262.out _; refine pk ?_; refine blk_far ?_ NB263_262.out _; refine pk ?_; refine blk_far ?_ NB263_262.out _; refine pk ?_; refine blk_far ?_ NB263_261.out _; refine pk ?_; refine blk_far ?_ NB263_261.out _; refine pk ?_; refine blk_far ?_ NB263_261.out _; refine pk ?_; refine blk_far ?_ NB263_261.out _; refine pk ?_; refine blk_far ?_ NB263_261.out _; refine pk ?_; refine blk_far ?_ NB263_261.out _; refine pk ?_; refine blk_far ?_ NB263_261.out _; refine pk ?_; refine blk_far ?_ NB263_260.out _; refine pk ?_; refine blk_far ?_ NB263_260.out _; refine pk ?_; refine blk_far ?_ NB263_260.out _; refine pk ?_; refine blk_far ?_ NB263_260.out _; refine pk ?_; refine blk_far ?_ NB263_260.out _; refine pk ?_; refine blk_far ?_ NB263_260.out _; refine pk ?_; refine blk_far ?_ NB263_260.out _; refine pk ?_; exact BK263.out) Try.underlying27 rfl (by kernel_rfl) (.tmp (.tmp (.tmp .nil)))))))) rfl ?_
 exact ⟨by first | rfl | (simp [errW_none, errW_some] <;> rfl) | (simp [*, errW_none, errW_some] <;> rfl), by repeat (first | (with_reducible first | exact HB.out | apply below_alloc | apply pw_below_drewN | apply below_drew1 | refine below_set ?_ (IsS61.ge HI264.out) | refine below_set ?_ GE260.out | refine below_set ?_ GE261.out | refine below_set ?_ GE262.out | refine below_set ?_ GE263.out | refine below_set ?_ GE274.out | refine below_set ?_ GE284.out) | exact HB.out)⟩

/-! ### impl_within: function 33 -/
def impl_within.f (a0 : Int) (a1 : Int) : Option (Bool) := if a0 ≥ (wrap64 (-a1)) then (some (decide (a0 ≤ a1))) else (some false)
set_option maxHeartbeats 8000000 in
set_option maxRecDepth 100000 in
theorem impl_within.calls (a0 : Int) (a1 : Int) (r : Bool) (w : World) (h : impl_within.f a0 a1 = some r) :
  Calls Try.prog 33 #[.int .i64 a0, .int .i64 a1] w fun e w' => e = .returned (.bool r) ∧ Drawn0 w w' := by
 have H : (if a0 ≥ (wrap64 (-a1)) then (some (decide (a0 ≤ a1))) else (some false)) = some r := h
 clear h
 by_cases c3 : a0 ≥ (wrap64 (-a1))
 ·rw [if_pos c3] at H
  have c3b0 : decide ((wrap64 (-a1)) ≤ a0) = true := decide_eq_true c3
  clear c3
  obtain rfl := Option.some.inj H
  go_enter Try.func33, Try.ntmps33
  go_wp2
  go_ret
  exact ⟨by first | rfl | (simp; done) | (simp [*]; done), by repeat (first | exact Drawn0.refl _ | apply Drawn0.step)⟩
 ·rw [if_neg c3] at H
  have c3b0 : decide ((wrap64 (-a1)) ≤ a0) = false := decide_eq_false c3
  clear c3
  obtain rfl := Option.some.inj H
  go_enter Try.func33, Try.ntmps33
  go_wp2
  go_ret
  exact ⟨by first | rfl | (simp; done) | (simp [*]; done), by repeat (first | exact Drawn0.refl _ | apply Drawn0.step)⟩

/-! ### impl_GoodHold: function 25 -/
def impl_GoodHold.f (a0_0 : Int) (a0_1 : Int) (a0_2 : Int) (a0_3 : Int) (a0_4 : Int) (a0_5 : Int) (a0_6 : Int) (a1_0 : Bool) (a1_1 : Int) (a1_2 : Int) (a1_3 : Int) : Option (Bool) := (impl_GoodLoop.f a0_0 a0_1 a0_2 a0_3 a0_4 a0_5 a0_6).bind fun t308 => (if t308 = true then ((impl_within.f a1_1 a0_5).bind fun t309 => (if t309 = true then ((impl_within.f a1_3 a0_4).bind fun t310 => (if t310 = true then ((impl_within.f a1_2 2000000).bind fun t311 => (if t311 = true then (if a1_0 = true then (some true) else (some (!a1_0 && (a1_1 == 0 && (a1_2 == 0 && (a1_3 == 0)))))) else (some false))) else (some false))) else (some false))) else (some false))
set_option maxHeartbeats 8000000 in
set_option maxRecDepth 100000 in
theorem impl_GoodHold.calls (a0_0 : Int) (a0_1 : Int) (a0_2 : Int) (a0_3 : Int) (a0_4 : Int) (a0_5 : Int) (a0_6 : Int) (a1_0 : Bool) (a1_1 : Int) (a1_2 : Int) (a1_3 : Int) (r : Bool) (w : World) (h : impl_GoodHold.f a0_0 a0_1 a0_2 a0_3 a0_4 a0_5 a0_6 a1_0 a1_1 a1_2 a1_3 = some r) :
  Calls Try.prog 25 #[.agg #[.int .i64 a0_0, .int .i64 a0_1, .int .i64 a0_2, .int .i64 a0_3, .int .i64 a0_4, .int .i64 a0_5, .int .i64 a0_6], .agg #[.bool a1_0, .int .i64 a1_1, .int .i64 a1_2, .int .i64 a1_3]] w fun e w' => e = .returned (.bool r) ∧ Below w.heap.size w w' := by
 have hu30 := Try.underlying30
 have hu27 := Try.underlying27
 have HB := a_ (Below.refl w.heap.size w)
 have H : ((impl_GoodLoop.f a0_0 a0_1 a0_2 a0_3 a0_4 a0_5 a0_6).bind fun t308 => (if t308 = true then ((impl_within.f a1_1 a0_5).bind fun t309 => (if t309 = true then ((impl_within.f a1_3 a0_4).bind fun t310 => (if t310 = true then ((impl_within.f a1_2 2000000).bind fun t311 => (if t311 = true then (if a1_0 = true then (some true) else (some (!a1_0 && (a1_1 == 0 && (a1_2 == 0 && (a1_3 == 0)))))) else (some false))) else (some false))) else (some false))) else (some false))) = some r := h
 clear h
 replace H := Option.bind_eq_some_iff.mp H
 obtain ⟨t308, A30, H⟩ := H
 have A3 := Aside0.mk A30
 clear A30
 by_cases c4 : t308 = true
 ·subst c4
  have H1 : ((impl_within.f a1_1 a0_5).bind fun t309 => (if t309 = true then ((impl_within.f a1_3 a0_4).bind fun t310 => (if t310 = true then ((impl_within.f a1_2 2000000).bind fun t311 => (if t311 = true then (if a1_0 = true then (some true) else (some (!a1_0 && (a1_1 == 0 && (a1_2 == 0 && (a1_3 == 0)))))) else (some false))) else (some false))) else (some false))) = some r := by rw [if_pos rfl] at H; exact H
  clear H
  have H := H1
  clear H1
  replace H := Option.bind_eq_some_iff.mp H
  obtain ⟨t309, A50, H⟩ := H
  have A5 := Aside0.mk A50
  clear A50
  by_cases c6 : t309 = true
  ·subst c6
   have H1 : ((impl_within.f a1_3 a0_4).bind fun t310 => (if t310 = true then ((impl_within.f a1_2 2000000).bind fun t311 => (if t311 = true then (if a1_0 = true then (some true) else (some (!a1_0 && (a1_1 == 0 && (a1_2 == 0 && (a1_3 == 0)))))) else (some false))) else (some false))) = some r := by rw [if_pos rfl] at H; exact H
   clear H
   have H := H1
   clear H1
   replace H := Option.bind_eq_some_iff.mp H
   obtain ⟨t310, A70, H⟩ := H
   have A7 := Aside0.mk A70
   clear A70
   by_cases c8 : t310 = true
   ·subst c8
    have H1 : ((impl_within.f a1_2 2000000).bind fun t311 => (if t311 = true then (if a1_0 = true then (some true) else (some (!a1_0 && (a1_1 == 0 && (a1_2 == 0 && (a1_3 == 0)))))) else (some false))) = some r := by rw [if_pos rfl] at H; exact H
    clear H
    have H := H1
    clear H1
    replace H := Option.bind_eq_some_iff.mp H
    obtain ⟨t311, A90, H⟩ := H
    have A9 := Aside0.mk A90
    clear A90
    by_cases c10 : t311 = true
    ·subst c10
     have H1 : (if a1_0 = true then (some true) else (some (!a1_0 && (a1_1 == 0 && (a1_2 == 0 && (a1_3 == 0)))))) = some r := by rw [if_pos rfl] at H; exact H
     clear H
     have H := H1
     clear H1
     by_cases c11 : a1_0 = true
     ·subst c11
      have H1 : (some true) = some r := by rw [if_pos rfl] at H; exact H
      clear H
      have H := H1
      clear H1
      obtain rfl := Option.some.inj H
      go_enter Try.func25, Try.ntmps25
      go_wp2_with (first | ((with_reducible refine gate_dst (N := 2) rfl ?_); refine box_event ?hg (N := 2) ?hd (cs := #[.int .i64 a0_0, .int .i64 a0_1, .int .i64 a0_2, .int .i64 a0_3, .int .i64 a0_4, .int .i64 a0_5, .int .i64 a0_6]) (t := 30) ?hr ?_; (case hd => rfl); (case hg => rfl); (case hr => first | (go_simp; done) | (go_simp; rfl)); intro gb306 hg w12 hbox hb; have BK306 := a_ (hbox); have GW306 := a_ (bsg hg HB.out); have GE306 := a_ (bsg hg HB.out); replace HB := a_ (below_step (un HB.out) hb); clear hb hbox hg) | ((with_reducible refine gate_dst (N := 3) rfl ?_); refine box_event ?hg (N := 3) ?hd (cs := #[.bool true, .int .i64 a1_1, .int .i64 a1_2, .int .i64 a1_3]) (t := 27) ?hr ?_; (case hd => rfl); (case hg => rfl); (case hr => first | (go_simp; done) | (go_simp; rfl)); intro gb307 hg w13 hbox hb; have BK307 := a_ (hbox); have GW307 := a_ (bsg hg HB.out); have GE307 := a_ (bsg hg HB.out); replace HB := a_ (below_step (by repeat first | (with_reducible first | exact HB.out | refine bz ?_ (by assumption) | apply bA | apply bN | apply bD) | exact HB.out) hb); have NB306_307 := a_ (nel hg BK306.out); have NB307_306 := a_ (nle hg BK306.out); replace BK306 := a_ (blk_below (pk BK306.out) hb); clear hb hbox hg; have hnb14 := NB306_307.out; have hnc14 := NB307_306.out; have hcz15_0 : _ = some (Value.int .i64 a0_0) := (blk_cell BK306.out 0).trans rfl; have hcz15_1 : _ = some (Value.int .i64 a0_1) := (blk_cell BK306.out 1).trans rfl; have hcz15_2 : _ = some (Value.int .i64 a0_2) := (blk_cell BK306.out 2).trans rfl; have hcz15_3 : _ = some (Value.int .i64 a0_3) := (blk_cell BK306.out 3).trans rfl; have hcz15_4 : _ = some (Value.int .i64 a0_4) := (blk_cell BK306.out 4).trans rfl; have hcz15_5 : _ = some (Value.int .i64 a0_5) := (blk_cell BK306.out 5).trans rfl; have hcz15_6 : _ = some (Value.int .i64 a0_6) := (blk_cell BK306.out 6).trans rfl; have hfz15_0 := blk_frozen BK306.out 0; have hfz15_1 := blk_frozen BK306.out 1; have hfz15_2 := blk_frozen BK306.out 2; have hfz15_3 := blk_frozen BK306.out 3; have hfz15_4 := blk_frozen BK306.out 4; have hfz15_5 := blk_frozen BK306.out 5; have hfz15_6 := blk_frozen BK306.out 6) | ((with_reducible refine gate_callee (f := 29) rfl ?_); refine goesL_ (some 6) rfl rfl Try.func29 (by kernel_rfl) rfl #[.agg #[.int .i64 a0_0, .int .i64 a0_1, .int .i64 a0_2, .int .i64 a0_3, .int .i64 a0_4, .int .i64 a0_5, .int .i64 a0_6]] rfl (by (try simp only [lA, lB, lC]); first | done | rfl | (simp only [lD, lE]; rfl)) ?_; (with_reducible refine (impl_GoodLoop.calls a0_0 a0_1 a0_2 a0_3 a0_4 a0_5 a0_6 true _ A3.out).mono ?_); rintro e w16 ⟨rfl, hb⟩; refine ⟨_, rfl, ?_⟩; replace BK306 := a_ (blk_below (pk BK306.out) hb); replace BK307 := a_ (blk_below (pk BK307.out) hb); replace HB := a_ (below_step (by repeat first | (with_reducible first | exact HB.out | refine bz ?_ (by assumption) | apply bA | apply bN | apply bD) | exact HB.out) hb); clear hb; have hcz17_0 : _ = some (Value.bool true) := (blk_cell BK307.out 0).trans rfl; have hcz17_1 : _ = some (Value.int .i64 a1_1) := (blk_cell BK307.out 1).trans rfl; have hcz17_2 : _ = some (Value.int .i64 a1_2) := (blk_cell BK307.out 2).trans rfl; have hcz17_3 : _ = some (Value.int .i64 a1_3) := (blk_cell BK307.out 3).trans rfl; have hfz17_0 := blk_frozen BK307.out 0; have hfz17_1 := blk_frozen BK307.out 1; have hfz17_2 := blk_frozen BK307.out 2; have hfz17_3 := blk_frozen BK307.out 3; have hcz18_0 : _ = some (Value.int .i64 a0_0) := (blk_cell BK306.out 0).trans rfl; have hcz18_1 : _ = some (Value.int .i64 a0_1) := (blk_cell BK306.out 1).trans rfl; have hcz18_2 : _ = some (Value.int .i64 a0_2) := (blk_cell BK306.out 2).trans rfl; have hcz18_3 : _ = some (Value.int .i64 a0_3) := (blk_cell BK306.out 3).trans rfl; have hcz18_4 : _ = some (Value.int .i64 a0_4) := (blk_cell BK306.out 4).trans rfl; have hcz18_5 : _ = some (Value.int .i64 a0_5) := (blk_cell BK306.out 5).trans rfl; have hcz18_6 : _ = some (Value.int .i64 a0_6) := (blk_cell BK306.out 6).trans rfl; have hfz18_0 := blk_frozen BK306.out 0; have hfz18_1 := blk_frozen BK306.out 1; have hfz18_2 := blk_frozen BK306.out 2; have hfz18_3 := blk_frozen BK306.out 3; have hfz18_4 := blk_frozen BK306.out 4; have hfz18_5 := blk_frozen BK306.out 5; have hfz18_6 := blk_frozen BK306.out 6) | (go_at_call 33; (with_reducible refine (impl_within.calls a1_1 a0_5 true _ A5.out).mono ?_); rintro e w' ⟨rfl, ⟨nd, rfl⟩⟩) | (go_at_call 33; (with_reducible refine (impl_within.calls a1_3 a0_4 true _ A7.out).mono ?_); rintro e w' ⟨rfl, ⟨nd, rfl⟩⟩) | (go_at_call 33; (with_reducible refine (impl_within.calls a1_2 2000000 true _ A9.out).mono ?_); rintro e w' ⟨rfl, ⟨nd, rfl⟩⟩))
      go_ret
      exact ⟨by first | rfl | (simp [errW_none, errW_some] <;> rfl) | (simp [*, errW_none, errW_some] <;> rfl), by repeat first | (with_reducible first | exact HB.out | refine bz ?_ (by assumption) | apply bA | apply bN | apply bD) | exact HB.out⟩
     ·replace c11 := Bool.eq_false_iff.mpr c11
      subst c11
      have H1 : (some (!false && (a1_1 == 0 && (a1_2 == 0 && (a1_3 == 0))))) = some r := by rw [if_neg (show ¬ (false = true) by decide)] at H; exact H
      clear H
      have H := H1
      clear H1
      obtain rfl := Option.some.inj H
      go_enter Try.func25, Try.ntmps25
      go_wp2_with (first | ((with_reducible refine gate_dst (N := 2) rfl ?_); refine box_event ?hg (N := 2) ?hd (cs := #[.int .i64 a0_0, .int .i64 a0_1, .int .i64 a0_2, .int .i64 a0_3, .int .i64 a0_4, .int .i64 a0_5, .int .i64 a0_6]) (t := 30) ?hr ?_; (case hd => rfl); (case hg => rfl); (case hr => first | (go_simp; done) | (go_simp; rfl)); intro gb306 hg w19 hbox hb; have BK306 := a_ (hbox); have GW306 := a_ (bsg hg HB.out); have GE306 := a_ (bsg hg HB.out); replace HB := a_ (below_step (un HB.out) hb); clear hb hbox hg) | ((with_reducible refine gate_dst (N := 3) rfl ?_); refine box_event ?hg (N := 3) ?hd (cs := #[.bool false, .int .i64 a1_1, .int .i64 a1_2, .int .i64 a1_3]) (t := 27) ?hr ?_; (case hd => rfl); (case hg => rfl); (case hr => first | (go_simp; done) | (go_simp; rfl)); intro gb307 hg w20 hbox hb; have BK307 := a_ (hbox); have GW307 := a_ (bsg hg HB.out); have GE307 := a_ (bsg hg HB.out); replace HB := a_ (below_step (by repeat first | (with_reducible first | exact HB.out | refine bz ?_ (by assumption) | apply bA | apply bN | apply bD) | exact HB.out) hb); have NB306_307 := a_ (nel hg BK306.out); have NB307_306 := a_ (nle hg BK306.out); replace BK306 := a_ (blk_below (pk BK306.out) hb); clear hb hbox hg; have hnb21 := NB306_307.out; have hnc21 := NB307_306.out; have hcz22_0 : _ = some (Value.int .i64 a0_0) := (blk_cell BK306.out 0).trans rfl; have hcz22_1 : _ = some (Value.int .i64 a0_1) := (blk_cell BK306.out 1).trans rfl; have hcz22_2 : _ = some (Value.int .i64 a0_2) := (blk_cell BK306.out 2).trans rfl; have hcz22_3 : _ = some (Value.int .i64 a0_3) := (blk_cell BK306.out 3).trans rfl; have hcz22_4 : _ = some (Value.int .i64 a0_4) := (blk_cell BK306.out 4).trans rfl; have hcz22_5 : _ = some (Value.int .i64 a0_5) := (blk_cell BK306.out 5).trans rfl; have hcz22_6 : _ = some (Value.int .i64 a0_6) := (blk_cell BK306.out 6).trans rfl; have hfz22_0 := blk_frozen BK306.out 0; have hfz22_1 := blk_frozen BK306.out 1; have hfz22_2 := blk_frozen BK306.out 2; have hfz22_3 := blk_frozen BK306.out 3; have hfz22_4 := blk_frozen BK306.out 4; have hfz22_5 := blk_frozen BK306.out 5; have hfz22_6 := blk_frozen BK306.out 6) | ((with_reducible refine gate_callee (f := 29) rfl ?_); refine goesL_ (some 6) rfl rfl Try.func29 (by kernel_rfl) rfl #[.agg #[.int .i64 a0_0, .int .i64 a0_1, .int .i64 a0_2, .int .i64 a0_3, .int .i64 a0_4, .int .i64 a0_5, .int .i64 a0_6]] rfl (by (try simp only [lA, lB, lC]); first | done | rfl | (simp only [lD, lE]; rfl)) ?_; (with_reducible refine (impl_GoodLoop.calls a0_0 a0_1 a0_2 a0_3 a0_4 a0_5 a0_6 true _ A3.out).mono ?_); rintro e w23 ⟨rfl, hb⟩; refine ⟨_, rfl, ?_⟩; replace BK306 := a_ (blk_below (pk BK306.out) hb); replace BK307 := a_ (blk_below (pk BK307.out) hb); replace HB := a_ (below_step (by repeat first | (with_reducible first | exact HB.out | refine bz ?_ (by assumption) | apply bA | apply bN | apply bD) | exact HB.out) hb); clear hb; have hcz24_0 : _ = some (Value.bool false) := (blk_cell BK307.out 0).trans rfl; have hcz24_1 : _ = some (Value.int .i64 a1_1) := (blk_cell BK307.out 1).trans rfl; have hcz24_2 : _ = some (Value.int .i64 a1_2) := (blk_cell BK307.out 2).trans rfl; have hcz24_3 : _ = some (Value.int .i64 a1_3) := (blk_cell BK307.out 3).trans rfl; have hfz24_0 := blk_frozen BK307.out 0; have hfz24_1 := blk_frozen BK307.out 1; have hfz24_2 := blk_frozen BK307.out 2; have hfz24_3 := blk_frozen BK307.out 3; have hcz25_0 : _ = some (Value.int .i64 a0_0) := (blk_cell BK306.out 0).trans rfl; have hcz25_1 : _ = some (Value.int .i64 a0_1) := (blk_cell BK306.out 1).trans rfl; have hcz25_2 : _ = some (Value.int .i64 a0_2) := (blk_cell BK306.out 2).trans rfl; have hcz25_3 : _ = some (Value.int .i64 a0_3) := (blk_cell BK306.out 3).trans rfl; have hcz25_4 : _ = some (Value.int .i64 a0_4) := (blk_cell BK306.out 4).trans rfl; have hcz25_5 : _ = some (Value.int .i64 a0_5) := (blk_cell BK306.out 5).trans rfl; have hcz25_6 : _ = some (Value.int .i64 a0_6) := (blk_cell BK306.out 6).trans rfl; have hfz25_0 := blk_frozen BK306.out 0; have hfz25_1 := blk_frozen BK306.out 1; have hfz25_2 := blk_frozen BK306.out 2; have hfz25_3 := blk_frozen BK306.out 3; have hfz25_4 := blk_frozen BK306.out 4; have hfz25_5 := blk_frozen BK306.out 5; have hfz25_6 := blk_frozen BK306.out 6) | (go_at_call 33; (with_reducible refine (impl_within.calls a1_1 a0_5 true _ A5.out).mono ?_); rintro e w' ⟨rfl, ⟨nd, rfl⟩⟩) | (go_at_call 33; (with_reducible refine (impl_within.calls a1_3 a0_4 true _ A7.out).mono ?_); rintro e w' ⟨rfl, ⟨nd, rfl⟩⟩) | (go_at_call 33; (with_reducible refine (impl_within.calls a1_2 2000000 true _ A9.out).mono ?_); rintro e w' ⟨rfl, ⟨nd, rfl⟩⟩))
      go_ret
      exact ⟨by first | rfl | (simp [errW_none, errW_some] <;> rfl) | (simp [*, errW_none, errW_some] <;> rfl), by repeat first | (with_reducible first | exact HB.out | refine bz ?_ (by assumption) | apply bA | apply bN | apply bD) | exact HB.out⟩
    ·replace c10 := Bool.eq_false_iff.mpr c10
     subst c10
     have H1 : (some false) = some r := by rw [if_neg (show ¬ (false = true) by decide)] at H; exact H
     clear H
     have H := H1
     clear H1
     obtain rfl := Option.some.inj H
     go_enter Try.func25, Try.ntmps25
     go_wp2_with (first | ((with_reducible refine gate_dst (N := 2) rfl ?_); refine box_event ?hg (N := 2) ?hd (cs := #[.int .i64 a0_0, .int .i64 a0_1, .int .i64 a0_2, .int .i64 a0_3, .int .i64 a0_4, .int .i64 a0_5, .int .i64 a0_6]) (t := 30) ?hr ?_; (case hd => rfl); (case hg => rfl); (case hr => first | (go_simp; done) | (go_simp; rfl)); intro gb306 hg w26 hbox hb; have BK306 := a_ (hbox); have GW306 := a_ (bsg hg HB.out); have GE306 := a_ (bsg hg HB.out); replace HB := a_ (below_step (un HB.out) hb); clear hb hbox hg) | ((with_reducible refine gate_dst (N := 3) rfl ?_); refine box_event ?hg (N := 3) ?hd (cs := #[.bool a1_0, .int .i64 a1_1, .int .i64 a1_2, .int .i64 a1_3]) (t := 27) ?hr ?_; (case hd => rfl); (case hg => rfl); (case hr => first | (go_simp; done) | (go_simp; rfl)); intro gb307 hg w27 hbox hb; have BK307 := a_ (hbox); have GW307 := a_ (bsg hg HB.out); have GE307 := a_ (bsg hg HB.out); replace HB := a_ (below_step (by repeat first | (with_reducible first | exact HB.out | refine bz ?_ (by assumption) | apply bA | apply bN | apply bD) | exact HB.out) hb); have NB306_307 := a_ (nel hg BK306.out); have NB307_306 := a_ (nle hg BK306.out); replace BK306 := a_ (blk_below (pk BK306.out) hb); clear hb hbox hg; have hnb28 := NB306_307.out; have hnc28 := NB307_306.out; have hcz29_0 : _ = some (Value.int .i64 a0_0) := (blk_cell BK306.out 0).trans rfl; have hcz29_1 : _ = some (Value.int .i64 a0_1) := (blk_cell BK306.out 1).trans rfl; have hcz29_2 : _ = some (Value.int .i64 a0_2) := (blk_cell BK306.out 2).trans rfl; have hcz29_3 : _ = some (Value.int .i64 a0_3) := (blk_cell BK306.out 3).trans rfl; have hcz29_4 : _ = some (Value.int .i64 a0_4) := (blk_cell BK306.out 4).trans rfl; have hcz29_5 : _ = some (Value.int .i64 a0_5) := (blk_cell BK306.out 5).trans rfl; have hcz29_6 : _ = some (Value.int .i64 a0_6) := (blk_cell BK306.out 6).trans rfl; have hfz29_0 := blk_frozen BK306.out 0; have hfz29_1 := blk_frozen BK306.out 1; have hfz29_2 := blk_frozen BK306.out 2; have hfz29_3 := blk_frozen BK306.out 3; have hfz29_4 := blk_frozen BK306.out 4; have hfz29_5 := blk_frozen BK306.out 5; have hfz29_6 := blk_frozen BK306.out 6) | ((with_reducible refine gate_callee (f := 29) rfl ?_); refine goesL_ (some 6) rfl rfl Try.func29 (by kernel_rfl) rfl #[.agg #[.int .i64 a0_0, .int .i64 a0_1, .int .i64 a0_2, .int .i64 a0_3, .int .i64 a0_4, .int .i64 a0_5, .int .i64 a0_6]] rfl (by (try simp only [lA, lB, lC]); first | done | rfl | (simp only [lD, lE]; rfl)) ?_; (with_reducible refine (impl_GoodLoop.calls a0_0 a0_1 a0_2 a0_3 a0_4 a0_5 a0_6 true _ A3.out).mono ?_); rintro e w30 ⟨rfl, hb⟩; refine ⟨_, rfl, ?_⟩; replace BK306 := a_ (blk_below (pk BK306.out) hb); replace BK307 := a_ (blk_below (pk BK307.out) hb); replace HB := a_ (below_step (by repeat first | (with_reducible first | exact HB.out | refine bz ?_ (by assumption) | apply bA | apply bN | apply bD) | exact HB.out) hb); clear hb; have hcz31_0 : _ = some (Value.bool a1_0) := (blk_cell BK307.out 0).trans rfl; have hcz31_1 : _ = some (Value.int .i64 a1_1) := (blk_cell BK307.out 1).trans rfl; have hcz31_2 : _ = some (Value.int .i64 a1_2) := (blk_cell BK307.out 2).trans rfl; have hcz31_3 : _ = some (Value.int .i64 a1_3) := (blk_cell BK307.out 3).trans rfl; have hfz31_0 := blk_frozen BK307.out 0; have hfz31_1 := blk_frozen BK307.out 1; have hfz31_2 := blk_frozen BK307.out 2; have hfz31_3 := blk_frozen BK307.out 3; have hcz32_0 : _ = some (Value.int .i64 a0_0) := (blk_cell BK306.out 0).trans rfl; have hcz32_1 : _ = some (Value.int .i64 a0_1) := (blk_cell BK306.out 1).trans rfl; have hcz32_2 : _ = some (Value.int .i64 a0_2) := (blk_cell BK306.out 2).trans rfl; have hcz32_3 : _ = some (Value.int .i64 a0_3) := (blk_cell BK306.out 3).trans rfl; have hcz32_4 : _ = some (Value.int .i64 a0_4) := (blk_cell BK306.out 4).trans rfl; have hcz32_5 : _ = some (Value.int .i64 a0_5) := (blk_cell BK306.out 5).trans rfl; have hcz32_6 : _ = some (Value.int .i64 a0_6) := (blk_cell BK306.out 6).trans rfl; have hfz32_0 := blk_frozen BK306.out 0; have hfz32_1 := blk_frozen BK306.out 1; have hfz32_2 := blk_frozen BK306.out 2; have hfz32_3 := blk_frozen BK306.out 3; have hfz32_4 := blk_frozen BK306.out 4; have hfz32_5 := blk_frozen BK306.out 5; have hfz32_6 := blk_frozen BK306.out 6) | (go_at_call 33; (with_reducible refine (impl_within.calls a1_1 a0_5 true _ A5.out).mono ?_); rintro e w' ⟨rfl, ⟨nd, rfl⟩⟩) | (go_at_call 33; (with_reducible refine (impl_within.calls a1_3 a0_4 true _ A7.out).mono ?_); rintro e w' ⟨rfl, ⟨nd, rfl⟩⟩) | (go_at_call 33; (with_reducible refine (impl_within.calls a1_2 2000000 false _ A9.out).mono ?_); rintro e w' ⟨rfl, ⟨nd, rfl⟩⟩))
     go_ret
     exact ⟨by first | rfl | (simp [errW_none, errW_some] <;> rfl) | (simp [*, errW_none, errW_some] <;> rfl), by repeat first | (with_reducible first | exact HB.out | refine bz ?_ (by assumption) | apply bA | apply bN | apply bD) | exact HB.out⟩
   ·replace c8 := Bool.eq_false_iff.mpr c8
    subst c8
    have H1 : (some false) = some r := by rw [if_neg (show ¬ (false = true) by decide)] at H; exact H
    clear H
    have H := H1
    clear H1
    obtain rfl := Option.some.inj H
    go_enter Try.func25, Try.ntmps25
    go_wp2_with (first | ((with_reducible refine gate_dst (N := 2) rfl ?_); refine box_event ?hg (N := 2) ?hd (cs := #[.int .i64 a0_0, .int .i64 a0_1, .int .i64 a0_2, .int .i64 a0_3, .int .i64 a0_4, .int .i64 a0_5, .int .i64 a0_6]) (t := 30) ?hr ?_; (case hd => rfl); (case hg => rfl); (case hr => first | (go_simp; done) | (go_simp; rfl)); intro gb306 hg w33 hbox hb; have BK306 := a_ (hbox); have GW306 := a_ (bsg hg HB.out); have GE306 := a_ (bsg hg HB.out); replace HB := a_ (below_step (un HB.out) hb); clear hb hbox hg) | ((with_reducible refine gate_dst (N := 3) rfl ?_); refine box_event ?hg (N := 3) ?hd (cs := #[.bool a1_0, .int .i64 a1_1, .int .i64 a1_2, .int .i64 a1_3]) (t := 27) ?hr ?_; (case hd => rfl); (case hg => rfl); (case hr => first | (go_simp; done) | (go_simp; rfl)); intro gb307 hg w34 hbox hb; have BK307 := a_ (hbox); have GW307 := a_ (bsg hg HB.out); have GE307 := a_ (bsg hg HB.out); replace HB := a_ (below_step (by repeat first | (with_reducible first | exact HB.out | refine bz ?_ (by assumption) | apply bA | apply bN | apply bD) | exact HB.out) hb); have NB306_307 := a_ (nel hg BK306.out); have NB307_306 := a_ (nle hg BK306.out); replace BK306 := a_ (blk_below (pk BK306.out) hb); clear hb hbox hg; have hnb35 := NB306_307.out; have hnc35 := NB307_306.out; have hcz36_0 : _ = some (Value.int .i64 a0_0) := (blk_cell BK306.out 0).trans rfl; have hcz36_1 : _ = some (Value.int .i64 a0_1) := (blk_cell BK306.out 1).trans rfl; have hcz36_2 : _ = some (Value.int .i64 a0_2) := (blk_cell BK306.out 2).trans rfl; have hcz36_3 : _ = some (Value.int .i64 a0_3) := (blk_cell BK306.out 3).trans rfl; have hcz36_4 : _ = some (Value.int .i64 a0_4) := (blk_cell BK306.out 4).trans rfl; have hcz36_5 : _ = some (Value.int .i64 a0_5) := (blk_cell BK306.out 5).trans rfl; have hcz36_6 : _ = some (Value.int .i64 a0_6) := (blk_cell BK306.out 6).trans rfl; have hfz36_0 := blk_frozen BK306.out 0; have hfz36_1 := blk_frozen BK306.out 1; have hfz36_2 := blk_frozen BK306.out 2; have hfz36_3 := blk_frozen BK306.out 3; have hfz36_4 := blk_frozen BK306.out 4; have hfz36_5 := blk_frozen BK306.out 5; have hfz36_6 := blk_frozen BK306.out 6) | ((with_reducible refine gate_callee (f := 29) rfl ?_); refine goesL_ (some 6) rfl rfl Try.func29 (by kernel_rfl) rfl #[.agg #[.int .i64 a0_0, .int .i64 a0_1, .int .i64 a0_2, .int .i64 a0_3, .int .i64 a0_4, .int .i64 a0_5, .int .i64 a0_6]] rfl (by (try simp only [lA, lB, lC]); first | done | rfl | (simp only [lD, lE]; rfl)) ?_; (with_reducible refine (impl_GoodLoop.calls a0_0 a0_1 a0_2 a0_3 a0_4 a0_5 a0_6 true _ A3.out).mono ?_); rintro e w37 ⟨rfl, hb⟩; refine ⟨_, rfl, ?_⟩; replace BK306 := a_ (blk_below (pk BK306.out) hb); replace BK307 := a_ (blk_below (pk BK307.out) hb); replace HB := a_ (below_step (by repeat first | (with_reducible first | exact HB.out | refine bz ?_ (by assumption) | apply bA | apply bN | apply bD) | exact HB.out) hb); clear hb; have hcz38_0 : _ = some (Value.bool a1_0) := (blk_cell BK307.out 0).trans rfl; have hcz38_1 : _ = some (Value.int .i64 a1_1) := (blk_cell BK307.out 1).trans rfl; have hcz38_2 : _ = some (Value.int .i64 a1_2) := (blk_cell BK307.out 2).trans rfl; have hcz38_3 : _ = some (Value.int .i64 a1_3) := (blk_cell BK307.out 3).trans rfl; have hfz38_0 := blk_frozen BK307.out 0; have hfz38_1 := blk_frozen BK307.out 1; have hfz38_2 := blk_frozen BK307.out 2; have hfz38_3 := blk_frozen BK307.out 3; have hcz39_0 : _ = some (Value.int .i64 a0_0) := (blk_cell BK306.out 0).trans rfl; have hcz39_1 : _ = some (Value.int .i64 a0_1) := (blk_cell BK306.out 1).trans rfl; have hcz39_2 : _ = some (Value.int .i64 a0_2) := (blk_cell BK306.out 2).trans rfl; have hcz39_3 : _ = some (Value.int .i64 a0_3) := (blk_cell BK306.out 3).trans rfl; have hcz39_4 : _ = some (Value.int .i64 a0_4) := (blk_cell BK306.out 4).trans rfl; have hcz39_5 : _ = some (Value.int .i64 a0_5) := (blk_cell BK306.out 5).trans rfl; have hcz39_6 : _ = some (Value.int .i64 a0_6) := (blk_cell BK306.out 6).trans rfl; have hfz39_0 := blk_frozen BK306.out 0; have hfz39_1 := blk_frozen BK306.out 1; have hfz39_2 := blk_frozen BK306.out 2; have hfz39_3 := blk_frozen BK306.out 3; have hfz39_4 := blk_frozen BK306.out 4; have hfz39_5 := blk_frozen BK306.out 5; have hfz39_6 := blk_frozen BK306.out 6) | (go_at_call 33; (with_reducible refine (impl_within.calls a1_1 a0_5 true _ A5.out).mono ?_); rintro e w' ⟨rfl, ⟨nd, rfl⟩⟩) | (go_at_call 33; (with_reducible refine (impl_within.calls a1_3 a0_4 false _ A7.out).mono ?_); rintro e w' ⟨rfl, ⟨nd, rfl⟩⟩))
    go_ret
    exact ⟨by first | rfl | (simp [errW_none, errW_some] <;> rfl) | (simp [*, errW_none, errW_some] <;> rfl), by repeat first | (with_reducible first | exact HB.out | refine bz ?_ (by assumption) | apply bA | apply bN | apply bD) | exact HB.out⟩
  ·replace c6 := Bool.eq_false_iff.mpr c6
   subst c6
   have H1 : (some false) = some r := by rw [if_neg (show ¬ (false = true) by decide)] at H; exact H
   clear H
   have H := H1
   clear H1
   obtain rfl := Option.some.inj H
   go_enter Try.func25, Try.ntmps25
   go_wp2_with (first | ((with_reducible refine gate_dst (N := 2) rfl ?_); refine box_event ?hg (N := 2) ?hd (cs := #[.int .i64 a0_0, .int .i64 a0_1, .int .i64 a0_2, .int .i64 a0_3, .int .i64 a0_4, .int .i64 a0_5, .int .i64 a0_6]) (t := 30) ?hr ?_; (case hd => rfl); (case hg => rfl); (case hr => first | (go_simp; done) | (go_simp; rfl)); intro gb306 hg w40 hbox hb; have BK306 := a_ (hbox); have GW306 := a_ (bsg hg HB.out); have GE306 := a_ (bsg hg HB.out); replace HB := a_ (below_step (un HB.out) hb); clear hb hbox hg) | ((with_reducible refine gate_dst (N := 3) rfl ?_); refine box_event ?hg (N := 3) ?hd (cs := #[.bool a1_0, .int .i64 a1_1, .int .i64 a1_2, .int .i64 a1_3]) (t := 27) ?hr ?_; (case hd => rfl); (case hg => rfl); (case hr => first | (go_simp; done) | (go_simp; rfl)); intro gb307 hg w41 hbox hb; have BK307 := a_ (hbox); have GW307 := a_ (bsg hg HB.out); have GE307 := a_ (bsg hg HB.out); replace HB := a_ (below_step (by repeat first | (with_reducible first | exact HB.out | refine bz ?_ (by assumption) | apply bA | apply bN | apply bD) | exact HB.out) hb); have NB306_307 := a_ (nel hg BK306.out); have NB307_306 := a_ (nle hg BK306.out); replace BK306 := a_ (blk_below (pk BK306.out) hb); clear hb hbox hg; have hnb42 := NB306_307.out; have hnc42 := NB307_306.out; have hcz43_0 : _ = some (Value.int .i64 a0_0) := (blk_cell BK306.out 0).trans rfl; have hcz43_1 : _ = some (Value.int .i64 a0_1) := (blk_cell BK306.out 1).trans rfl; have hcz43_2 : _ = some (Value.int .i64 a0_2) := (blk_cell BK306.out 2).trans rfl; have hcz43_3 : _ = some (Value.int .i64 a0_3) := (blk_cell BK306.out 3).trans rfl; have hcz43_4 : _ = some (Value.int .i64 a0_4) := (blk_cell BK306.out 4).trans rfl; have hcz43_5 : _ = some (Value.int .i64 a0_5) := (blk_cell BK306.out 5).trans rfl; have hcz43_6 : _ = some (Value.int .i64 a0_6) := (blk_cell BK306.out 6).trans rfl; have hfz43_0 := blk_frozen BK306.out 0; have hfz43_1 := blk_frozen BK306.out 1; have hfz43_2 := blk_frozen BK306.out 2; have hfz43_3 := blk_frozen BK306.out 3; have hfz43_4 := blk_frozen BK306.out 4; have hfz43_5 := blk_frozen BK306.out 5; have hfz43_6 := blk_frozen BK306.out 6) | ((with_reducible refine gate_callee (f := 29) rfl ?_); refine goesL_ (some 6) rfl rfl Try.func29 (by kernel_rfl) rfl #[.agg #[.int .i64 a0_0, .int .i64 a0_1, .int .i64 a0_2, .int .i64 a0_3, .int .i64 a0_4, .int .i64 a0_5, .int .i64 a0_6]] rfl (by (try simp only [lA, lB, lC]); first | done | rfl | (simp only [lD, lE]; rfl)) ?_; (with_reducible refine (impl_GoodLoop.calls a0_0 a0_1 a0_2 a0_3 a0_4 a0_5 a0_6 true _ A3.out).mono ?_); rintro e w44 ⟨rfl, hb⟩; refine ⟨_, rfl, ?_⟩; replace BK306 := a_ (blk_below (pk BK306.out) hb); replace BK307 := a_ (blk_below (pk BK307.out) hb); replace HB := a_ (below_step (by repeat first | (with_reducible first | exact HB.out | refine bz ?_ (by assumption) | apply bA | apply bN | apply bD) | exact HB.out) hb); clear hb; have hcz45_0 : _ = some (Value.bool a1_0) := (blk_cell BK307.out 0).trans rfl; have hcz45_1 : _ = some (Value.int .i64 a1_1) := (blk_cell BK307.out 1).trans rfl; have hcz45_2 : _ = some (Value.int .i64 a1_2) := (blk_cell BK307.out 2).trans rfl; have hcz45_3 : _ = some (Value.int .i64 a1_3) := (blk_cell BK307.out 3).trans rfl; have hfz45_0 := blk_frozen BK307.out 0; have hfz45_1 := blk_frozen BK307.out 1; have hfz45_2 := blk_frozen BK307.out 2; have hfz45_3 := blk_frozen BK307.out 3; have hcz46_0 : _ = some (Value.int .i64 a0_0) := (blk_cell BK306.out 0).trans rfl; have hcz46_1 : _ = some (Value.int .i64 a0_1) := (blk_cell BK306.out 1).trans rfl; have hcz46_2 : _ = some (Value.int .i64 a0_2) := (blk_cell BK306.out 2).trans rfl; have hcz46_3 : _ = some (Value.int .i64 a0_3) := (blk_cell BK306.out 3).trans rfl; have hcz46_4 : _ = some (Value.int .i64 a0_4) := (blk_cell BK306.out 4).trans rfl; have hcz46_5 : _ = some (Value.int .i64 a0_5) := (blk_cell BK306.out 5).trans rfl; have hcz46_6 : _ = some (Value.int .i64 a0_6) := (blk_cell BK306.out 6).trans rfl; have hfz46_0 := blk_frozen BK306.out 0; have hfz46_1 := blk_frozen BK306.out 1; have hfz46_2 := blk_frozen BK306.out 2; have hfz46_3 := blk_frozen BK306.out 3; have hfz46_4 := blk_frozen BK306.out 4; have hfz46_5 := blk_frozen BK306.out 5; have hfz46_6 := blk_frozen BK306.out 6) | (go_at_call 33; (with_reducible refine (impl_within.calls a1_1 a0_5 false _ A5.out).mono ?_); rintro e w' ⟨rfl, ⟨nd, rfl⟩⟩))
   go_ret
   exact ⟨by first | rfl | (simp [errW_none, errW_some] <;> rfl) | (simp [*, errW_none, errW_some] <;> rfl), by repeat first | (with_reducible first | exact HB.out | refine bz ?_ (by assumption) | apply bA | apply bN | apply bD) | exact HB.out⟩
 ·replace c4 := Bool.eq_false_iff.mpr c4
  subst c4
  have H1 : (some false) = some r := by rw [if_neg (show ¬ (false = true) by decide)] at H; exact H
  clear H
  have H := H1
  clear H1
  obtain rfl := Option.some.inj H
  go_enter Try.func25, Try.ntmps25
  go_wp2_with (first | ((with_reducible refine gate_dst (N := 2) rfl ?_); refine box_event ?hg (N := 2) ?hd (cs := #[.int .i64 a0_0, .int .i64 a0_1, .int .i64 a0_2, .int .i64 a0_3, .int .i64 a0_4, .int .i64 a0_5, .int .i64 a0_6]) (t := 30) ?hr ?_; (case hd => rfl); (case hg => rfl); (case hr => first | (go_simp; done) | (go_simp; rfl)); intro gb306 hg w47 hbox hb; have BK306 := a_ (hbox); have GW306 := a_ (bsg hg HB.out); have GE306 := a_ (bsg hg HB.out); replace HB := a_ (below_step (un HB.out) hb); clear hb hbox hg) | ((with_reducible refine gate_dst (N := 3) rfl ?_); refine box_event ?hg (N := 3) ?hd (cs := #[.bool a1_0, .int .i64 a1_1, .int .i64 a1_2, .int .i64 a1_3]) (t := 27) ?hr ?_; (case hd => rfl); (case hg => rfl); (case hr => first | (go_simp; done) | (go_simp; rfl)); intro gb307 hg w48 hbox hb; have BK307 := a_ (hbox); have GW307 := a_ (bsg hg HB.out); have GE307 := a_ (bsg hg HB.out); replace HB := a_ (below_step (by repeat first | (with_reducible first | exact HB.out | refine bz ?_ (by assumption) | apply bA | apply bN | apply bD) | exact HB.out) hb); have NB306_307 := a_ (nel hg BK306.out); have NB307_306 := a_ (nle hg BK306.out); replace BK306 := a_ (blk_below (pk BK306.out) hb); clear hb hbox hg; have hnb49 := NB306_307.out; have hnc49 := NB307_306.out; have hcz50_0 : _ = some (Value.int .i64 a0_0) := (blk_cell BK306.out 0).trans rfl; have hcz50_1 : _ = some (Value.int .i64 a0_1) := (blk_cell BK306.out 1).trans rfl; have hcz50_2 : _ = some (Value.int .i64 a0_2) := (blk_cell BK306.out 2).trans rfl; have hcz50_3 : _ = some (Value.int .i64 a0_3) := (blk_cell BK306.out 3).trans rfl; have hcz50_4 : _ = some (Value.int .i64 a0_4) := (blk_cell BK306.out 4).trans rfl; have hcz50_5 : _ = some (Value.int .i64 a0_5) := (blk_cell BK306.out 5).trans rfl; have hcz50_6 : _ = some (Value.int .i64 a0_6) := (blk_cell BK306.out 6).trans rfl; have hfz50_0 := blk_frozen BK306.out 0; have hfz50_1 := blk_frozen BK306.out 1; have hfz50_2 := blk_frozen BK306.out 2; have hfz50_3 := blk_frozen BK306.out 3; have hfz50_4 := blk_frozen BK306.out 4; have hfz50_5 := blk_frozen BK306.out 5; have hfz50_6 := blk_frozen BK306.out 6) | ((with_reducible refine gate_callee (f := 29) rfl ?_); refine goesL_ (some 6) rfl rfl Try.func29 (by kernel_rfl) rfl #[.agg #[.int .i64 a0_0, .int .i64 a0_1, .int .i64 a0_2, .int .i64 a0_3, .int .i64 a0_4, .int .i64 a0_5, .int .i64 a0_6]] rfl (by (try simp only [lA, lB, lC]); first | done | rfl | (simp only [lD, lE]; rfl)) ?_; (with_reducible refine (impl_GoodLoop.calls a0_0 a0_1 a0_2 a0_3 a0_4 a0_5 a0_6 false _ A3.out).mono ?_); rintro e w51 ⟨rfl, hb⟩; refine ⟨_, rfl, ?_⟩; replace BK306 := a_ (blk_below (pk BK306.out) hb); replace BK307 := a_ (blk_below (pk BK307.out) hb); replace HB := a_ (below_step (by repeat first | (with_reducible first | exact HB.out | refine bz ?_ (by assumption) | apply bA | apply bN | apply bD) | exact HB.out) hb); clear hb))
  go_ret
  exact ⟨by first | rfl | (simp [errW_none, errW_some] <;> rfl) | (simp [*, errW_none, errW_some] <;> rfl), by repeat first | (with_reducible first | exact HB.out | refine bz ?_ (by assumption) | apply bA | apply bN | apply bD) | exact HB.out⟩

/-! ### impl_cut: function 34 -/
def impl_cut.f (a0 : Int) (a1 : Int) (a2 : Int) : Option (Int) := some (mn (mx a0 a1) a2)
set_option maxHeartbeats 8000000 in
set_option maxRecDepth 100000 in
theorem impl_cut.calls (a0 : Int) (a1 : Int) (a2 : Int) (r : Int) (w : World) (h : impl_cut.f a0 a1 a2 = some r) :
  Calls Try.prog 34 #[.int .i64 a0, .int .i64 a1, .int .i64 a2] w fun e w' => e = .returned (.int .i64 r) ∧ Below w.heap.size w w' := by
 have HB := a_ (Below.refl w.heap.size w)
 have H : (some (mn (mx a0 a1) a2)) = some r := h
 clear h
 obtain ⟨ji4, hji4⟩ : ∃ j_ : Int, (mx a0 a1) = j_ := ⟨_, rfl⟩
 replace H : (some (mn (ji4) a2)) = some r := by first | (rw [hji4] at H; exact H) | (simp only [hji4] at H ⊢; exact H)
 have hji4_ : (if a0 < a1 then a1 else a0) = ji4 := hji4
 obtain ⟨ji5, hji5⟩ : ∃ j_ : Int, (mn (ji4) a2) = j_ := ⟨_, rfl⟩
 replace H : (some ji5) = some r := by first | (rw [hji5] at H; exact H) | (simp only [hji5] at H ⊢; exact H)
 have hji5_ : (if a2 < (ji4) then a2 else (ji4)) = ji5 := hji5
 obtain rfl := Option.some.inj H
 go_enter Try.func34, Try.ntmps34
 go_wp2
 go_ret
 exact ⟨by first | rfl | (simp [errW_none, errW_some] <;> rfl) | (simp only [← hji4, ← hji5]; first | rfl | (simp [errW_none, errW_some] <;> rfl)) | (simp [*, errW_none, errW_some] <;> rfl), un HB.out⟩

end Go.Proofs.Ytineniimpdjpnaa.PFnGains
