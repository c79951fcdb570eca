/- NetConserves returns true for every input, and leaves its arguments as they were. Its statement is Rows.NetConservesSaid; no condition beside it. -/
import Derived.Test.YtpjcpmmcaccgiaaYd2
import Derived.Test.YtpjcpmmcaccgiaaRows
import Derived.WalkKit
import Derived.ProofKit
import Derived.OpenShut
import Derived.ShutString
import Derived.ChangeOld
import Derived.Below
import Derived.SizedLaws
set_option linter.all false
set_option maxHeartbeats 4000000
set_option maxRecDepth 100000
namespace Go.Proofs.Ytpjcpmmcaccgiaa.netConserves
open Go.ChangeShapes Go.WideShapes Go.ChangeAt Go.RowKit Go.Ab
open Go.ChangeMaps (open_string shut_string)
theorem own : ownKnob Try.prog.godebug = none := by kernel_rfl
theorem laidOut : laidOutB Try.prog = true := by kernel_rfl
theorem calls {w : World} {n0 : Int} {avs1 : AV} {vs : Array Value} (t1 : isT Try.prog 5 46 [avs1]) (hl : lrel (G.init w) [.int .i64 n0, avs1] vs.toList) : Calls Try.prog 4 vs w fun e w' => e = .returned (.bool true) ∧ Below w.heap.size w w' := by
  obtain ⟨za, sa, la, ea, ka, ma, ia⟩ := isT_slice (c := Act.c) (p := Act.inI) Try.underlying46 (fun a ha => isAct ha) t1
  obtain rfl : avs1 = _ := List.cons.inj ea |>.1
  rw [show Pg.cellsOf 53 = 5 by kernel_rfl] at ka
  exact row_of f4 (by kernel_rfl) (by kernel_rfl) (conserves4 ka (Nat.le_trans ma (by decide)) (fun _ => rfl)) hl

theorem lifted (os : Os) (started : os.Started) (H : Type) (enc : TypeId × Value → H) :
    ReturnsInHanded {} Try.checked os 4 .any (Rows.netConservesSpec.pre6 enc Try.prog Try.f4 Rows.netConservesRow.domain false) (Rows.netConservesSpec.post enc Try.prog Try.f4 false true false false) := by
  refine returnsInHanded_of_change_sized (C := Try.checked) own started (by kernel_rfl) Try.func4
    (ChangeSpec.witness6 (enc := enc) (C := Try.checked) false ⟨#[], #[.int .i64 0, .slice none 0 0], []⟩ 8 (by kernel_rfl) (by kernel_rfl) (by kernel_rfl) (by kernel_rfl)) ?_
  intro W base args ds gs before hval0 hW hcnd hsz0 _
  have hval : ∀ (j : Nat) t v, Try.f4.params[j]? = some t → args[j]? = some v → Value.okWide Try.prog W .any base t v := hval0
  have hW' := hW
  obtain ⟨p, q, hA0, hV, rfl, hfz, hnd⟩ := hW
  have hA : DataW.TrodAll enc Try.prog W 0 (fun _ => true) true Try.f4.params.toList args.toList ds p := hA0
  rw [Try.params4] at hA hval
  obtain ⟨v0, vs0, d0, ds0, p0, q0, hargs, rfl, rfl, h0, r0⟩ := trodAll_cons hA
  obtain ⟨v1, vs1, d1, ds1, p1, q1, rfl, rfl, rfl, h1, r1⟩ := trodAll_cons r0
  obtain ⟨rfl, rfl, rfl⟩ := trodAll_nil r1
  obtain rfl : args = #[v0, v1] := by cases args; simp_all
  obtain ⟨rfl, rfl⟩ := trodVars_none hV
  obtain ⟨a0, rfl, rfl, rfl, w0⟩ := open_int Try.underlying3 (hval 0 3 v0 rfl rfl) h0
  have k1 := h1
  have lt1 : ∀ x ∈ p1, x.block < W.heap.size := by obtain ⟨m, hm⟩ := k1; exact DataW.trod_lt m _ _ _ hm
  obtain ⟨avs1, e1, y1⟩ : ∃ av, vrel (G.init W) av v1 ∧ isT Try.prog 5 46 [av] := by
    obtain ⟨fuel, hf⟩ := h1
    have hq1 : Value.okWide Try.prog W .any base 46 v1 := hval 1 46 v1 rfl rfl
    rw [slice_cells Try.underlying46 hq1] at hf
    obtain ⟨avs, e1, e2⟩ := open_arg 5 (by kernel_rfl) (slice_spots Try.underlying46 hq1) hf
    obtain ⟨av, rfl⟩ := isT_single Try.underlying46 e2
    simp only [lrel] at e1
    obtain ⟨v, r, e3, e4, rfl⟩ := e1
    cases e3
    exact ⟨av, e4, e2⟩
  clear hA0 hval0 hsz0
  refine (calls (n0 := a0) y1 ⟨_, _, rfl, rfl, ⟨_, _, rfl, e1, rfl⟩⟩).mono fun e W' ⟨he, bel⟩ => ?_
  subst he
  exact ⟨_, rfl, _, _, _, [], _, [], hW', trodAll_mk1 (shut_bool Try.underlying4 _), (trodAll_cons_mk (shut_int Try.underlying3 w0) (trodAll_cons_mk (Below.trod laidOut (by kernel_rfl) (of_decide_eq_true (by kernel_rfl)) k1 bel lt1) trodAll_mk0)), rfl, bel.frame _, fun h => by cases h⟩
theorem over : Rows.netConservesRow.holds Try.pinned (OpenSpec.ofChange Rows.netConservesSpec) :=
  OpenClaim.holds_of_wide 4 Try.f4 rfl rfl rfl rfl rfl rfl rfl ⟨rfl, rfl, rfl, rfl, rfl⟩ rfl rfl rfl rfl rfl (by kernel_rfl) Try.func4 (by kernel_rfl)
    (of_decide_eq_true (by kernel_rfl)) (by unfold Func.isWrapper; first | (rw [if_pos (by decide +kernel)]; kernel_rfl) | (rw [if_neg (by decide +kernel)]; exact ⟨rfl, rfl⟩))
    (fun os started H enc _ => lifted os started H enc)
theorem proved : Rows.NetConservesSaid := over
end Go.Proofs.Ytpjcpmmcaccgiaa.netConserves
namespace Go.Proofs.Ytpjcpmmcaccgiaa
theorem netConserves_holds : Rows.NetConservesSaid := netConserves.proved
end Go.Proofs.Ytpjcpmmcaccgiaa
