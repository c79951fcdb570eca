/- NetCuts returns true for every input, and leaves its arguments as they were. Its statement is Rows.NetCutsSaid; no condition beside it. -/
import Derived.Test.YtpjcpmmcaccgiaaYg1
import Derived.Test.YtpjcpmmcaccgiaaRows
import Derived.WalkKit
import Derived.ProofKit
import Derived.OpenShut
import Derived.ShutString
import Derived.ChangeOld
import Derived.Below
import Derived.SizedLaws
set_option linter.all false
set_option maxHeartbeats 4000000
set_option maxRecDepth 100000
namespace Go.Proofs.Ytpjcpmmcaccgiaa.netCuts
open Go.ChangeShapes Go.WideShapes Go.ChangeAt Go.RowKit Go.Ab
open Go.ChangeMaps (open_string shut_string)
theorem own : ownKnob Try.prog.godebug = none := by kernel_rfl
theorem laidOut : laidOutB Try.prog = true := by kernel_rfl
theorem calls {w : World} {avs0 : List AV} {n1 : Int} {n2 : Int} {avs3 : AV} {vs : Array Value} (t0 : isT Try.prog 5 26 avs0) (t3 : isT Try.prog 5 46 [avs3]) (hl : lrel (G.init w) [.agg avs0, .int .i64 n1, .int .i64 n2, avs3] vs.toList) : Calls Try.prog 7 vs w fun e w' => e = .returned (.bool true) ∧ Below w.heap.size w w' := by
  obtain ⟨x0, z10, s10, z20, s20, z30, s30, rfl, k0, i0⟩ := isNet t0
  obtain ⟨za, sa, la, ea, ka, ma, ia⟩ := isT_slice (c := Act.c) (p := Act.inI) Try.underlying46 (fun a ha => isAct ha) t3
  obtain rfl : avs3 = _ := List.cons.inj ea |>.1
  rw [show Pg.cellsOf 53 = 5 by kernel_rfl] at ka
  exact row_of f7 (by kernel_rfl) (by kernel_rfl) (cuts7 k0 ka (Nat.le_trans ma (by decide)) rfl) hl

theorem lifted (os : Os) (started : os.Started) (H : Type) (enc : TypeId × Value → H) :
    ReturnsInHanded {} Try.checked os 7 .any (Rows.netCutsSpec.pre6 enc Try.prog Try.f7 Rows.netCutsRow.domain false) (Rows.netCutsSpec.post enc Try.prog Try.f7 false true false false) := by
  refine returnsInHanded_of_change_sized (C := Try.checked) own started (by kernel_rfl) Try.func7
    (ChangeSpec.witness6 (enc := enc) (C := Try.checked) false ⟨#[], #[.agg #[.int .i64 0, .int .i64 0, .int .i64 0, .slice none 0 0, .slice none 0 0, .slice none 0 0], .int .i64 0, .int .i64 0, .slice none 0 0], []⟩ 8 (by kernel_rfl) (by kernel_rfl) (by kernel_rfl) (by kernel_rfl)) ?_
  intro W base args ds gs before hval0 hW hcnd hsz0 _
  have hval : ∀ (j : Nat) t v, Try.f7.params[j]? = some t → args[j]? = some v → Value.okWide Try.prog W .any base t v := hval0
  have hW' := hW
  obtain ⟨p, q, hA0, hV, rfl, hfz, hnd⟩ := hW
  have hA : DataW.TrodAll enc Try.prog W 0 (fun _ => true) true Try.f7.params.toList args.toList ds p := hA0
  rw [Try.params7] at hA hval
  obtain ⟨v0, vs0, d0, ds0, p0, q0, hargs, rfl, rfl, h0, r0⟩ := trodAll_cons hA
  obtain ⟨v1, vs1, d1, ds1, p1, q1, rfl, rfl, rfl, h1, r1⟩ := trodAll_cons r0
  obtain ⟨v2, vs2, d2, ds2, p2, q2, rfl, rfl, rfl, h2, r2⟩ := trodAll_cons r1
  obtain ⟨v3, vs3, d3, ds3, p3, q3, rfl, rfl, rfl, h3, r3⟩ := trodAll_cons r2
  obtain ⟨rfl, rfl, rfl⟩ := trodAll_nil r3
  obtain rfl : args = #[v0, v1, v2, v3] := by cases args; simp_all
  obtain ⟨rfl, rfl⟩ := trodVars_none hV
  obtain ⟨a1, rfl, rfl, rfl, w1⟩ := open_int Try.underlying3 (hval 1 3 v1 rfl rfl) h1
  obtain ⟨a2, rfl, rfl, rfl, w2⟩ := open_int Try.underlying3 (hval 2 3 v2 rfl rfl) h2
  obtain ⟨c0, rfl, hc0⟩ := okWide_struct Try.underlying26 (hval 0 26 v0 rfl rfl)
  have k0 := h0
  have lt0 : ∀ x ∈ p0, x.block < W.heap.size := by obtain ⟨m, hm⟩ := k0; exact DataW.trod_lt m _ _ _ hm
  obtain ⟨avs0, e0, y0⟩ : ∃ avs, lrel (G.init W) avs c0.toList ∧ isT Try.prog 5 26 avs := by
    obtain ⟨fuel, hf⟩ := h0
    exact open_arg 5 (by kernel_rfl) (agg_spots Try.underlying26 (hval 0 26 _ rfl rfl)) hf
  have k3 := h3
  have lt3 : ∀ x ∈ p3, x.block < W.heap.size := by obtain ⟨m, hm⟩ := k3; exact DataW.trod_lt m _ _ _ hm
  obtain ⟨avs3, e3, y3⟩ : ∃ av, vrel (G.init W) av v3 ∧ isT Try.prog 5 46 [av] := by
    obtain ⟨fuel, hf⟩ := h3
    have hq3 : Value.okWide Try.prog W .any base 46 v3 := hval 3 46 v3 rfl rfl
    rw [slice_cells Try.underlying46 hq3] at hf
    obtain ⟨avs, e1, e2⟩ := open_arg 5 (by kernel_rfl) (slice_spots Try.underlying46 hq3) hf
    obtain ⟨av, rfl⟩ := isT_single Try.underlying46 e2
    simp only [lrel] at e1
    obtain ⟨v, r, e3, e4, rfl⟩ := e1
    cases e3
    exact ⟨av, e4, e2⟩
  clear hA0 hval0 hsz0
  refine (calls (n1 := a1) (n2 := a2) y0 y3 ⟨_, _, rfl, ⟨_, rfl, e0⟩, ⟨_, _, rfl, rfl, ⟨_, _, rfl, rfl, ⟨_, _, rfl, e3, rfl⟩⟩⟩⟩).mono fun e W' ⟨he, bel⟩ => ?_
  subst he
  exact ⟨_, rfl, _, _, _, [], _, [], hW', trodAll_mk1 (shut_bool Try.underlying4 _), (trodAll_cons_mk (Below.trod laidOut (by kernel_rfl) (of_decide_eq_true (by kernel_rfl)) k0 bel lt0) (trodAll_cons_mk (shut_int Try.underlying3 w1) (trodAll_cons_mk (shut_int Try.underlying3 w2) (trodAll_cons_mk (Below.trod laidOut (by kernel_rfl) (of_decide_eq_true (by kernel_rfl)) k3 bel lt3) trodAll_mk0)))), rfl, bel.frame _, fun h => by cases h⟩
theorem over : Rows.netCutsRow.holds Try.pinned (OpenSpec.ofChange Rows.netCutsSpec) :=
  OpenClaim.holds_of_wide 7 Try.f7 rfl rfl rfl rfl rfl rfl rfl ⟨rfl, rfl, rfl, rfl, rfl⟩ rfl rfl rfl rfl rfl (by kernel_rfl) Try.func7 (by kernel_rfl)
    (of_decide_eq_true (by kernel_rfl)) (by unfold Func.isWrapper; first | (rw [if_pos (by decide +kernel)]; kernel_rfl) | (rw [if_neg (by decide +kernel)]; exact ⟨rfl, rfl⟩))
    (fun os started H enc _ => lifted os started H enc)
theorem proved : Rows.NetCutsSaid := over
end Go.Proofs.Ytpjcpmmcaccgiaa.netCuts
namespace Go.Proofs.Ytpjcpmmcaccgiaa
theorem netCuts_holds : Rows.NetCutsSaid := netCuts.proved
end Go.Proofs.Ytpjcpmmcaccgiaa
