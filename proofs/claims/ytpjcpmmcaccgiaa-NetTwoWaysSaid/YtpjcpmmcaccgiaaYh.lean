/- NetTwoWays returns true for every input, and leaves its arguments as they were. Its statement is Rows.NetTwoWaysSaid; no condition beside it. -/
import Derived.Test.YtpjcpmmcaccgiaaYh1
import Derived.Test.YtpjcpmmcaccgiaaRows
import Derived.WalkKit
import Derived.ProofKit
import Derived.OpenShut
import Derived.ShutString
import Derived.ChangeOld
import Derived.Below
import Derived.SizedLaws
set_option linter.all false
set_option maxHeartbeats 4000000
set_option maxRecDepth 100000
namespace Go.Proofs.Ytpjcpmmcaccgiaa.netTwoWays
open Go.ChangeShapes Go.WideShapes Go.ChangeAt Go.RowKit Go.Ab
open Go.ChangeMaps (open_string shut_string)
theorem own : ownKnob Try.prog.godebug = none := by kernel_rfl
theorem laidOut : laidOutB Try.prog = true := by kernel_rfl
theorem calls {w : World} {avs0 : List AV} {n1 : Int} {avs2 : List AV} {avs3 : List AV} {vs : Array Value} (t0 : isT Try.prog 5 26 avs0) (t2 : isT Try.prog 5 53 avs2) (t3 : isT Try.prog 5 53 avs3) (hl : lrel (G.init w) [.agg avs0, .int .i64 n1, .agg avs2, .agg avs3] vs.toList) : Calls Try.prog 8 vs w fun e w' => e = .returned (.bool true) ∧ Below w.heap.size w w' := by
  obtain ⟨x0, z10, s10, z20, s20, z30, s30, rfl, k0, i0⟩ := isNet t0
  obtain ⟨a2, rfl, i2⟩ := isAct t2
  obtain ⟨a3, rfl, i3⟩ := isAct t3
  exact row_of f8 (by kernel_rfl) (by kernel_rfl) (ways8 k0 rfl) hl

theorem lifted (os : Os) (started : os.Started) (H : Type) (enc : TypeId × Value → H) :
    ReturnsInHanded {} Try.checked os 8 .any (Rows.netTwoWaysSpec.pre6 enc Try.prog Try.f8 Rows.netTwoWaysRow.domain false) (Rows.netTwoWaysSpec.post enc Try.prog Try.f8 false true false false) := by
  refine returnsInHanded_of_change_sized (C := Try.checked) own started (by kernel_rfl) Try.func8
    (ChangeSpec.witness6 (enc := enc) (C := Try.checked) false ⟨#[], #[.agg #[.int .i64 0, .int .i64 0, .int .i64 0, .slice none 0 0, .slice none 0 0, .slice none 0 0], .int .i64 0, .agg #[.int .i64 0, .int .i64 0, .int .i64 0, .int .i64 0, .string ⟨#[]⟩], .agg #[.int .i64 0, .int .i64 0, .int .i64 0, .int .i64 0, .string ⟨#[]⟩]], []⟩ 8 (by kernel_rfl) (by kernel_rfl) (by kernel_rfl) (by kernel_rfl)) ?_
  intro W base args ds gs before hval0 hW hcnd hsz0 _
  have hval : ∀ (j : Nat) t v, Try.f8.params[j]? = some t → args[j]? = some v → Value.okWide Try.prog W .any base t v := hval0
  have hW' := hW
  obtain ⟨p, q, hA0, hV, rfl, hfz, hnd⟩ := hW
  have hA : DataW.TrodAll enc Try.prog W 0 (fun _ => true) true Try.f8.params.toList args.toList ds p := hA0
  rw [Try.params8] at hA hval
  obtain ⟨v0, vs0, d0, ds0, p0, q0, hargs, rfl, rfl, h0, r0⟩ := trodAll_cons hA
  obtain ⟨v1, vs1, d1, ds1, p1, q1, rfl, rfl, rfl, h1, r1⟩ := trodAll_cons r0
  obtain ⟨v2, vs2, d2, ds2, p2, q2, rfl, rfl, rfl, h2, r2⟩ := trodAll_cons r1
  obtain ⟨v3, vs3, d3, ds3, p3, q3, rfl, rfl, rfl, h3, r3⟩ := trodAll_cons r2
  obtain ⟨rfl, rfl, rfl⟩ := trodAll_nil r3
  obtain rfl : args = #[v0, v1, v2, v3] := by cases args; simp_all
  obtain ⟨rfl, rfl⟩ := trodVars_none hV
  obtain ⟨a1, rfl, rfl, rfl, w1⟩ := open_int Try.underlying3 (hval 1 3 v1 rfl rfl) h1
  obtain ⟨c0, rfl, hc0⟩ := okWide_struct Try.underlying26 (hval 0 26 v0 rfl rfl)
  obtain ⟨c2, rfl, hc2⟩ := okWide_struct Try.underlying53 (hval 2 53 v2 rfl rfl)
  obtain ⟨c3, rfl, hc3⟩ := okWide_struct Try.underlying53 (hval 3 53 v3 rfl rfl)
  have k0 := h0
  have lt0 : ∀ x ∈ p0, x.block < W.heap.size := by obtain ⟨m, hm⟩ := k0; exact DataW.trod_lt m _ _ _ hm
  obtain ⟨avs0, e0, y0⟩ : ∃ avs, lrel (G.init W) avs c0.toList ∧ isT Try.prog 5 26 avs := by
    obtain ⟨fuel, hf⟩ := h0
    exact open_arg 5 (by kernel_rfl) (agg_spots Try.underlying26 (hval 0 26 _ rfl rfl)) hf
  have k2 := h2
  have lt2 : ∀ x ∈ p2, x.block < W.heap.size := by obtain ⟨m, hm⟩ := k2; exact DataW.trod_lt m _ _ _ hm
  obtain ⟨avs2, e2, y2⟩ : ∃ avs, lrel (G.init W) avs c2.toList ∧ isT Try.prog 5 53 avs := by
    obtain ⟨fuel, hf⟩ := h2
    exact open_arg 5 (by kernel_rfl) (agg_spots Try.underlying53 (hval 2 53 _ rfl rfl)) hf
  have k3 := h3
  have lt3 : ∀ x ∈ p3, x.block < W.heap.size := by obtain ⟨m, hm⟩ := k3; exact DataW.trod_lt m _ _ _ hm
  obtain ⟨avs3, e3, y3⟩ : ∃ avs, lrel (G.init W) avs c3.toList ∧ isT Try.prog 5 53 avs := by
    obtain ⟨fuel, hf⟩ := h3
    exact open_arg 5 (by kernel_rfl) (agg_spots Try.underlying53 (hval 3 53 _ rfl rfl)) hf
  clear hA0 hval0 hsz0
  refine (calls (n1 := a1) y0 y2 y3 ⟨_, _, rfl, ⟨_, rfl, e0⟩, ⟨_, _, rfl, rfl, ⟨_, _, rfl, ⟨_, rfl, e2⟩, ⟨_, _, rfl, ⟨_, rfl, e3⟩, rfl⟩⟩⟩⟩).mono fun e W' ⟨he, bel⟩ => ?_
  subst he
  exact ⟨_, rfl, _, _, _, [], _, [], hW', trodAll_mk1 (shut_bool Try.underlying4 _), (trodAll_cons_mk (Below.trod laidOut (by kernel_rfl) (of_decide_eq_true (by kernel_rfl)) k0 bel lt0) (trodAll_cons_mk (shut_int Try.underlying3 w1) (trodAll_cons_mk (Below.trod laidOut (by kernel_rfl) (of_decide_eq_true (by kernel_rfl)) k2 bel lt2) (trodAll_cons_mk (Below.trod laidOut (by kernel_rfl) (of_decide_eq_true (by kernel_rfl)) k3 bel lt3) trodAll_mk0)))), rfl, bel.frame _, fun h => by cases h⟩
theorem over : Rows.netTwoWaysRow.holds Try.pinned (OpenSpec.ofChange Rows.netTwoWaysSpec) :=
  OpenClaim.holds_of_wide 8 Try.f8 rfl rfl rfl rfl rfl rfl rfl ⟨rfl, rfl, rfl, rfl, rfl⟩ rfl rfl rfl rfl rfl (by kernel_rfl) Try.func8 (by kernel_rfl)
    (of_decide_eq_true (by kernel_rfl)) (by unfold Func.isWrapper; first | (rw [if_pos (by decide +kernel)]; kernel_rfl) | (rw [if_neg (by decide +kernel)]; exact ⟨rfl, rfl⟩))
    (fun os started H enc _ => lifted os started H enc)
theorem proved : Rows.NetTwoWaysSaid := over
end Go.Proofs.Ytpjcpmmcaccgiaa.netTwoWays
namespace Go.Proofs.Ytpjcpmmcaccgiaa
theorem netTwoWays_holds : Rows.NetTwoWaysSaid := netTwoWays.proved
end Go.Proofs.Ytpjcpmmcaccgiaa
