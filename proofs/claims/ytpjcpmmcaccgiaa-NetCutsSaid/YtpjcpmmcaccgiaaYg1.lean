/- One text out of several: see the remark at the head of each part. -/
import Derived.Test.YtpjcpmmcaccgiaaBs7
set_option linter.all false
section
set_option maxRecDepth 100000
namespace Go.Ab
def ann25 : Ann := { heap := [4, 5] }
def pl7 : List (Nat × Plan) := [(15, .take 1 (.take 2 (.take 3 (.all [(0, .all [(4, .all [(5, .take 6 (.take 7 (.take 8 (.take 9 (.all [(10, .all [(11, .all [(12, .all [(13, .take 14 (.done))])])]), (11, .all [(10, .all [(12, .all [(13, .take 14 (.done))])])])]))))), (10, .all [(5, .take 6 (.take 7 (.take 8 (.take 9 (.all [(11, .all [(12, .all [(13, .take 14 (.done))])])]))))), (11, .all [(5, .take 6 (.take 7 (.take 8 (.take 9 (.all [(12, .all [(13, .take 14 (.done))])])))))])]), (11, .all [(5, .take 6 (.take 7 (.take 8 (.take 9 (.all [(10, .all [(12, .all [(13, .take 14 (.done))])])]))))), (10, .all [(5, .take 6 (.take 7 (.take 8 (.take 9 (.all [(12, .all [(13, .take 14 (.done))])])))))])])]), (10, .all [(4, .all [(5, .take 6 (.take 7 (.take 8 (.take 9 (.all [(11, .all [(12, .all [(13, .take 14 (.done))])])]))))), (11, .all [(5, .take 6 (.take 7 (.take 8 (.take 9 (.all [(12, .all [(13, .take 14 (.done))])])))))])]), (11, .all [(4, .all [(5, .take 6 (.take 7 (.take 8 (.take 9 (.all [(12, .all [(13, .take 14 (.done))])])))))])])]), (11, .all [(4, .all [(5, .take 6 (.take 7 (.take 8 (.take 9 (.all [(10, .all [(12, .all [(13, .take 14 (.done))])])]))))), (10, .all [(5, .take 6 (.take 7 (.take 8 (.take 9 (.all [(12, .all [(13, .take 14 (.done))])])))))])]), (10, .all [(4, .all [(5, .take 6 (.take 7 (.take 8 (.take 9 (.all [(12, .all [(13, .take 14 (.done))])])))))])])])]), (4, .all [(0, .all [(5, .take 6 (.take 7 (.take 8 (.take 9 (.all [(10, .all [(11, .all [(12, .all [(13, .take 14 (.done))])])]), (11, .all [(10, .all [(12, .all [(13, .take 14 (.done))])])])]))))), (10, .all [(5, .take 6 (.take 7 (.take 8 (.take 9 (.all [(11, .all [(12, .all [(13, .take 14 (.done))])])]))))), (11, .all [(5, .take 6 (.take 7 (.take 8 (.take 9 (.all [(12, .all [(13, .take 14 (.done))])])))))])]), (11, .all [(5, .take 6 (.take 7 (.take 8 (.take 9 (.all [(10, .all [(12, .all [(13, .take 14 (.done))])])]))))), (10, .all [(5, .take 6 (.take 7 (.take 8 (.take 9 (.all [(12, .all [(13, .take 14 (.done))])])))))])])]), (10, .all [(0, .all [(5, .take 6 (.take 7 (.take 8 (.take 9 (.all [(11, .all [(12, .all [(13, .take 14 (.done))])])]))))), (11, .all [(5, .take 6 (.take 7 (.take 8 (.take 9 (.all [(12, .all [(13, .take 14 (.done))])])))))])]), (11, .all [(0, .all [(5, .take 6 (.take 7 (.take 8 (.take 9 (.all [(12, .all [(13, .take 14 (.done))])])))))])])]), (11, .all [(0, .all [(5, .take 6 (.take 7 (.take 8 (.take 9 (.all [(10, .all [(12, .all [(13, .take 14 (.done))])])]))))), (10, .all [(5, .take 6 (.take 7 (.take 8 (.take 9 (.all [(12, .all [(13, .take 14 (.done))])])))))])]), (10, .all [(0, .all [(5, .take 6 (.take 7 (.take 8 (.take 9 (.all [(12, .all [(13, .take 14 (.done))])])))))])])])]), (10, .all [(0, .all [(4, .all [(5, .take 6 (.take 7 (.take 8 (.take 9 (.all [(11, .all [(12, .all [(13, .take 14 (.done))])])]))))), (11, .all [(5, .take 6 (.take 7 (.take 8 (.take 9 (.all [(12, .all [(13, .take 14 (.done))])])))))])]), (11, .all [(4, .all [(5, .take 6 (.take 7 (.take 8 (.take 9 (.all [(12, .all [(13, .take 14 (.done))])])))))])])]), (4, .all [(0, .all [(5, .take 6 (.take 7 (.take 8 (.take 9 (.all [(11, .all [(12, .all [(13, .take 14 (.done))])])]))))), (11, .all [(5, .take 6 (.take 7 (.take 8 (.take 9 (.all [(12, .all [(13, .take 14 (.done))])])))))])]), (11, .all [(0, .all [(5, .take 6 (.take 7 (.take 8 (.take 9 (.all [(12, .all [(13, .take 14 (.done))])])))))])])]), (11, .all [(0, .all [(4, .all [(5, .take 6 (.take 7 (.take 8 (.take 9 (.all [(12, .all [(13, .take 14 (.done))])])))))])]), (4, .all [(0, .all [(5, .take 6 (.take 7 (.take 8 (.take 9 (.all [(12, .all [(13, .take 14 (.done))])])))))])])])]), (11, .all [(0, .all [(4, .all [(5, .take 6 (.take 7 (.take 8 (.take 9 (.all [(10, .all [(12, .all [(13, .take 14 (.done))])])]))))), (10, .all [(5, .take 6 (.take 7 (.take 8 (.take 9 (.all [(12, .all [(13, .take 14 (.done))])])))))])]), (10, .all [(4, .all [(5, .take 6 (.take 7 (.take 8 (.take 9 (.all [(12, .all [(13, .take 14 (.done))])])))))])])]), (4, .all [(0, .all [(5, .take 6 (.take 7 (.take 8 (.take 9 (.all [(10, .all [(12, .all [(13, .take 14 (.done))])])]))))), (10, .all [(5, .take 6 (.take 7 (.take 8 (.take 9 (.all [(12, .all [(13, .take 14 (.done))])])))))])]), (10, .all [(0, .all [(5, .take 6 (.take 7 (.take 8 (.take 9 (.all [(12, .all [(13, .take 14 (.done))])])))))])])]), (10, .all [(0, .all [(4, .all [(5, .take 6 (.take 7 (.take 8 (.take 9 (.all [(12, .all [(13, .take 14 (.done))])])))))])]), (4, .all [(0, .all [(5, .take 6 (.take 7 (.take 8 (.take 9 (.all [(12, .all [(13, .take 14 (.done))])])))))])])])])]))))]
end Go.Ab
end
section
set_option linter.unusedSimpArgs false
set_option linter.unusedVariables false
set_option maxRecDepth 100000
set_option maxHeartbeats 4000000
namespace Go.Ab

section
variable {P : Program} {m t e : Nat} {avs : List AV}
end
section
variable {m : Nat} {avs : List AV}
open Go.Proofs
theorem isAct (h : isT Pg (m + 2) 53 avs) : ∃ l : Act, avs = Act.c l ∧ l.inI := by
  have := isT_struct Try.underlying53 h
  obtain ⟨a1, r1, rfl, h1, this⟩ := isT_f this
  obtain ⟨a2, r2, rfl, h2, this⟩ := isT_f this
  obtain ⟨a3, r3, rfl, h3, this⟩ := isT_f this
  obtain ⟨a4, r4, rfl, h4, this⟩ := isT_f this
  obtain ⟨a5, r5, rfl, h5, this⟩ := isT_f this
  obtain rfl := isT_n this
  obtain ⟨n1, rfl, w1⟩ := isT_int u3 h1
  obtain ⟨n2, rfl, w2⟩ := isT_int u3 h2
  obtain ⟨n3, rfl, w3⟩ := isT_int u3 h3
  obtain ⟨n4, rfl, w4⟩ := isT_int u3 h4
  obtain ⟨s, rfl, _⟩ := isT_str u9 h5
  exact ⟨⟨n1, n2, n3, n4, s⟩, rfl, w1, w2, w3, w4⟩
end
end Go.Ab
end
section
/- The laws' arguments: slices. -/
set_option linter.unusedSimpArgs false
set_option linter.unusedVariables false
namespace Go.Ab
theorem slice_spots {P : Program} {w : World} {r : Reach} {b t e : Nat} {v : Value} (hu : P.underlying t = some (.slice e)) (h : Value.okWide P w r b t v) : ∀ a l c, Value.slice (some a) l c ∈ [v] → a.spot = none := by
  intro a l c hm
  rw [List.mem_singleton] at hm
  subst hm
  unfold Value.okWide at h
  rw [hu] at h
  exact spot_none h
theorem slice_cells {P : Program} {w : World} {r : Reach} {b t e : Nat} {v : Value} (hu : P.underlying t = some (.slice e)) (h : Value.okWide P w r b t v) : v.cells.toList = [v] := by
  unfold Value.okWide at h
  rw [hu] at h
  cases v
  case agg cs => simp [Cell.okWide, Cell.ok, hu] at h
  all_goals rfl
theorem isT_single {P : Program} {m t e : Nat} {avs : List AV} (hu : P.underlying t = some (.slice e)) (h : isT P (m + 1) t avs) : ∃ av, avs = [av] := by
  unfold isT at h
  rw [hu] at h
  obtain ⟨z, s, es, rfl, _⟩ := h
  exact ⟨_, rfl⟩
end Go.Ab
end
section
set_option maxRecDepth 100000
namespace Go.Ab
section
variable {C : CX} {d : AV} {l : List (Nat × AV)} {bx bx' : List (List AV)} {h h' : List AObj} {s : ASt} {K : Exit → ASt → Prop}
noncomputable def b25 : List It := [.o (some 3) (.box false (.t 0)) none, .o (some 4) (.box true (.t 1)) none, .o (some 5) (.box true (.t 2)) none, .o (some 6) (.alloc false [.int .i64 0, .int .i64 0, .int .i64 0, .sl true 0 [] .own, .sl true 0 [] .own, .sl true 0 [] .own]) none, .o (some 7) (.tk (.const (.int .i64 0))) none, .o (some 8) (.ldA 6 [.int .i64, .int .i64, .int .i64, .slice 33, .slice 100, .slice 86] (.t 3)) none, .o (some 9) (.mkf 64 [.t 4, .t 5]) none, .o (some 10) (.call 58 [.t 8, .t 9]) none, .o (some 11) (.ext (.t 10) 0) none, .o (some 12) (.ext (.t 10) 1) none, .o none (.st 6 (.t 6) (.tmp 11)) none, .o (some 7) (.tk (.tmp 12)) none, .ret]
theorem c25 : compR T ann25 [] (bodyOf Go.Proofs.Try.f25) = b25 := by kernel_rfl
theorem n25 : Go.Proofs.Try.f25.ntmps = 13 := by kernel_rfl
theorem r25 : Go.Proofs.Try.f25.results.toList = [.cell 6 26, .tmp 7] := by kernel_rfl
theorem f25 : Pg.funcs[25]? = some Go.Proofs.Try.f25 := by kernel_rfl
theorem run25 {args : List AV} {K : AV → List AObj → Prop} (hv : Run C Pg T ann25 none b25 (S (.tup []) 13 (enumL 0 args) [] h) (bodyK T Go.Proofs.Try.f25 K)) (hown : args.all (fun a => !a.owns) = true := by first | rfl | simp [AV.owns]) (hl : args.length ≤ 13 := by exact Nat.le_of_ble_eq_true rfl) : ACall C Pg 25 args h K := ACall.of_runR T_ok ann25 [] (c := bodyOf Go.Proofs.Try.f25) f25 (by kernel_rfl) (by kernel_rfl) c25 n25 hown hl hv
noncomputable def b64 : List It := [.o (some 4) (.tk (.const (.int .i64 0))) none, .o (some 5) (.mv (.t 0)) none, .o (some 6) (.ld1 (.int .i64) (.t 1)) none, .o (some 7) (.ld1 (.int .i64) (.t 2)) none, .o (some 8) (.call 65 [.t 5, .t 6, .t 7]) none, .o (some 4) (.tk (.tmp 8)) none, .ret]
theorem c64 : compR T {} [] (bodyOf Go.Proofs.Try.f64) = b64 := by kernel_rfl
theorem n64 : Go.Proofs.Try.f64.ntmps = 9 := by kernel_rfl
theorem r64 : Go.Proofs.Try.f64.results.toList = [.tmp 4] := by kernel_rfl
theorem f64 : Pg.funcs[64]? = some Go.Proofs.Try.f64 := by kernel_rfl
theorem run64 {args : List AV} {K : AV → List AObj → Prop} (hv : Run C Pg T {} none b64 (S (.tup []) 9 (enumL 0 args) [] h) (bodyK T Go.Proofs.Try.f64 K)) (hown : args.all (fun a => !a.owns) = true := by first | rfl | simp [AV.owns]) (hl : args.length ≤ 9 := by exact Nat.le_of_ble_eq_true rfl) : ACall C Pg 64 args h K := ACall.of_runR T_ok {} [] (c := bodyOf Go.Proofs.Try.f64) f64 (by kernel_rfl) (by kernel_rfl) c64 n64 hown hl hv
end
end Go.Ab
end
section
set_option linter.unusedSimpArgs false
set_option linter.unusedVariables false
set_option maxRecDepth 100000
set_option maxHeartbeats 4000000
namespace Go.Ab

section
variable {C : CX} {h : List AObj} {K : AV → List AObj → Prop} {a b nd tg n : Int} {x : Net} {A B D : AV} {cid : Nat} {z1 z2 z3 : Bool} {s1 s2 s3 : Nat}
theorem heal25g (hk : Nk z1 s1 z2 s2 z3 s3 x) (hc : x.cuts.length < 1000000)
    (h1 : ¬ WF x → K (.tup [zeroN, .int .i64 2]) h)
    (h2 : WF x → healE x a b ≠ 0 → K (.tup [zeroN, .int .i64 (healE x a b)]) h)
    (h3 : WF x → healE x a b = 0 → ∀ z1 s1 z2 s2 z3 s3, Nk z1 s1 z2 s2 z3 s3 (healG x a b) → K (.tup [.agg [.int .i64 (healG x a b).nodes, .int .i64 (healG x a b).now, .int .i64 (healG x a b).next, .sl z1 s1 ((healG x a b).way.map Letter.c) .no, .sl z2 s2 ((healG x a b).cuts.map Link.c) .no, .sl z3 s3 ((healG x a b).timers.map Timer.c) .no], .int .i64 0]) h) :
    ACall C Pg 25 [.agg [.int .i64 x.nodes, .int .i64 x.now, .int .i64 x.next, .sl z1 s1 (x.way.map Letter.c) .no, .sl z2 s2 (x.cuts.map Link.c) .no, .sl z3 s3 (x.timers.map Timer.c) .no], .int .i64 a, .int .i64 b] h K := by
  refine ACall.closed (by simp [AV.deep.deeps, AV.deep, deep_L, deep_C, deep_T]) (ACall.weaken (ACall.freeze (ACall.freeze (ACall.freeze ?_))))
  refine run25 ?_
  simp -implicitDefEqProofs [b25, r25, rue, wrC, readC, -List.getD_eq_getElem?_getD, ru, ruc, rud, laid]
  refine changed58 hk hc rfl (fun hw => ?_) (fun hw cid A B D g hcid hge hch => ?_)
  · simp -implicitDefEqProofs [r25, zeroN, rue, wrC, readC, -List.getD_eq_getElem?_getD, ru, ruc, rud, laid]
    exact frz3 ⟨rfl, rfl, h1 hw⟩
  · have ha := hch.all
    refine run64 ?_
    simp -implicitDefEqProofs [b64, r64, ha, rue, wrC, readC, -List.getD_eq_getElem?_getD, ru, ruc, rud, laid]
    refine (heal65 hw hch hc fun h' y A' B' D' hc2 hy => ?_)
    simp -implicitDefEqProofs [r64, Letter.c, rue, wrC, readC, -List.getD_eq_getElem?_getD, ru, ruc, rud, laid]
    refine ⟨healE x a b, y, A', B', D', rfl, hc2, fun h0 => ?_, fun h0 => ?_⟩
    · simp -implicitDefEqProofs [r25, zeroN, rue, wrC, readC, -List.getD_eq_getElem?_getD, ru, ruc, rud, laid]
      exact frz3 ⟨rfl, rfl, h2 hw h0⟩
    · have e := hy h0
      subst e
      have ha2 := hc2.all
      simp -implicitDefEqProofs [r25, ha2, rue, wrC, readC, -List.getD_eq_getElem?_getD, ru, ruc, rud, laid]
      exact fin (K := fun r => K r h) hc2 (rest := [_]) rfl (fun _ _ => rfl) rfl fun z1 s1 z2 s2 z3 s3 hk2 => h3 hw h0 z1 s1 z2 s2 z3 s3 hk2
end
end Go.Ab
end
section
set_option linter.unusedSimpArgs false
set_option linter.unusedVariables false
set_option maxRecDepth 100000
set_option maxHeartbeats 4000000
namespace Go.Ab

section
variable {C : CX} {h : List AObj} {K : AV → List AObj → Prop} {a b nd tg n ee : Int} {z1 z2 z3 : Bool} {s1 s2 s3 : Nat} {x y : Net}
theorem heal25u (hk : Nk z1 s1 z2 s2 z3 s3 x) (hc : x.cuts.length < 1000000) (hr : resOf x (healE x a b) (healG x a b) y ee)
    (hK : ∀ z1 s1 z2 s2 z3 s3, Nk z1 s1 z2 s2 z3 s3 y → K (.tup [.agg [.int .i64 y.nodes, .int .i64 y.now, .int .i64 y.next, .sl z1 s1 (y.way.map Letter.c) .no, .sl z2 s2 (y.cuts.map Link.c) .no, .sl z3 s3 (y.timers.map Timer.c) .no], .int .i64 ee]) h) : ACall C Pg 25 [.agg [.int .i64 x.nodes, .int .i64 x.now, .int .i64 x.next, .sl z1 s1 (x.way.map Letter.c) .no, .sl z2 s2 (x.cuts.map Link.c) .no, .sl z3 s3 (x.timers.map Timer.c) .no], .int .i64 a, .int .i64 b] h K := by
  refine heal25g hk hc (fun w => ?_) (fun w he => ?_) (fun w he z1 s1 z2 s2 z3 s3 hk2 => ?_)
  · rcases hr with ⟨_, rfl, rfl⟩ | ⟨w2, _⟩ | ⟨w2, _⟩
    · exact hK _ _ _ _ _ _ nkZ
    · exact absurd w2 w
    · exact absurd w2 w
  · rcases hr with ⟨w2, _⟩ | ⟨_, _, rfl, rfl⟩ | ⟨_, h0, _⟩
    · exact absurd w w2
    · exact hK _ _ _ _ _ _ nkZ
    · exact absurd h0 he
  · rcases hr with ⟨w2, _⟩ | ⟨_, h0, _⟩ | ⟨_, _, rfl, rfl⟩
    · exact absurd w w2
    · exact absurd he h0
    · exact hK _ _ _ _ _ _ hk2
end
end Go.Ab
end
section
/- The program's functions as lists of items. -/
set_option maxRecDepth 100000
namespace Go.Ab
section
variable {C : CX} {d : AV} {l : List (Nat × AV)} {bx bx' : List (List AV)} {h h' : List AObj} {s : ASt} {K : Exit → ASt → Prop}
noncomputable def b7q0 : List It := [.o (some 117) (.mv (.t 17)) none, .o (some 118) (.mv (.t 3)) none, .o (some 119) (.lens (.t 118)) none, .o (some 120) (.ar .lss (.t 117) (.t 119)) none, .cond (.tmp 120) [] [.exit 0], .block 1 [.o (some 123) (.mv (.t 3)) none, .o (some 124) (.mv (.t 17)) none, .o (some 125) (.ixs 5 [.int .i64, .int .i64, .int .i64, .int .i64, .str] (.t 123) (.t 124)) none, .o (some 126) (.fa 0 (.t 125)) none, .o (some 127) (.ld1 (.int .i64) (.t 126)) none, .o (some 128) (.eq1 (.int .i64) false (.t 127) (.c (.int .i64 7))) none, .cond (.tmp 128) [.exit 1] [], .rf (rg (bodyOf Go.Proofs.Try.f7) 0), .o (some 139) (.mv (.t 20)) none, .o (some 140) (.eq1 (.int .i64) true (.t 139) (.c (.int .i64 0))) none, .cond (.tmp 140) [.o (some 8) (.tk (.const (.bool false))) none, .ret] [], .o (some 141) (.fa 7 (.t 19)) none, .o (some 142) (.ldA 5 [.int .i64, .int .i64, .int .i64, .int .i64, .str] (.t 141)) none, .o (some 21) (.alloc false [.int .i64 0, .int .i64 0, .int .i64 0, .int .i64 0, .str []]) none, .o none (.st 5 (.t 21) (.tmp 142)) none, .o (some 143) (.fa 5 (.t 19)) none, .o (some 144) (.ld1 (.int .i64) (.t 143)) none, .o (some 145) (.eq1 (.int .i64) false (.t 144) (.c (.int .i64 0))) none, .o (some 146) (.mv (.t 145)) none, .o (some 147) (.mv (.t 3)) (some (some 146, true)), .o (some 148) (.mv (.t 17)) (some (some 146, true)), .o (some 149) (.ixs 5 [.int .i64, .int .i64, .int .i64, .int .i64, .str] (.t 147) (.t 148)) (some (some 146, true)), .o (some 150) (.fa 0 (.t 149)) (some (some 146, true)), .o (some 151) (.ld1 (.int .i64) (.t 150)) (some (some 146, true)), .o (some 152) (.eq1 (.int .i64) false (.t 151) (.c (.int .i64 2))) (some (some 146, true)), .o (some 153) (.pick (.t 146) (.t 152) (.c (.bool false))) none, .o (some 154) (.mv (.t 153)) none, .o (some 155) (.fa 1 (.t 21)) (some (some 154, true)), .o (some 156) (.ld1 (.int .i64) (.t 155)) (some (some 154, true)), .o (some 157) (.mv (.t 1)) (some (some 154, true)), .o (some 158) (.eq1 (.int .i64) false (.t 156) (.t 157)) (some (some 154, true)), .o (some 159) (.mv (.t 158)) (some (some 154, true)), .o (some 160) (.fa 2 (.t 21)) (some (some 159, true)), .o (some 161) (.ld1 (.int .i64) (.t 160)) (some (some 159, true)), .o (some 162) (.mv (.t 2)) (some (some 159, true)), .o (some 163) (.eq1 (.int .i64) false (.t 161) (.t 162)) (some (some 159, true)), .o (some 164) (.pick (.t 159) (.t 163) (.c (.bool false))) (some (some 154, true)), .o (some 165) (.mv (.t 164)) (some (some 154, true)), .o (some 166) (.fa 1 (.t 21)) (some (some 165, false)), .o (some 167) (.ld1 (.int .i64) (.t 166)) (some (some 165, false)), .o (some 168) (.mv (.t 2)) (some (some 165, false)), .o (some 169) (.eq1 (.int .i64) false (.t 167) (.t 168)) (some (some 165, false)), .o (some 170) (.mv (.t 169)) (some (some 165, false)), .o (some 171) (.fa 2 (.t 21)) (some (some 170, true)), .o (some 172) (.ld1 (.int .i64) (.t 171)) (some (some 170, true)), .o (some 173) (.mv (.t 1)) (some (some 170, true)), .o (some 174) (.eq1 (.int .i64) false (.t 172) (.t 173)) (some (some 170, true)), .o (some 175) (.pick (.t 170) (.t 174) (.c (.bool false))) (some (some 165, false)), .o (some 176) (.pick (.t 165) (.c (.bool true)) (.t 175)) (some (some 154, true)), .o (some 177) (.pick (.t 154) (.t 176) (.c (.bool false))) none, .cond (.tmp 177) [.o (some 8) (.tk (.const (.bool false))) none, .ret] [], .o (some 178) (.ldA 6 [.int .i64, .int .i64, .int .i64, .slice 33, .slice 100, .slice 86] (.t 18)) none, .o none (.st 6 (.t 9) (.tmp 178)) none], .o (some 121) (.mv (.t 17)) none, .o (some 122) (.ar .add (.t 121) (.c (.int .i64 1))) none, .o (some 17) (.tk (.tmp 122)) none]
noncomputable def b7 : List It := [.o (some 4) (.box false (.t 0)) none, .o (some 8) (.tk (.const (.bool false))) none, .o (some 22) (.ldA 6 [.int .i64, .int .i64, .int .i64, .slice 33, .slice 100, .slice 86] (.t 4)) none, .o (some 23) (.call 12 [.t 22]) none, .o (some 24) (.not (.t 23)) none, .o (some 25) (.mv (.t 24)) none, .o (some 26) (.mv (.t 3)) (some (some 25, false)), .o (some 27) (.call 21 [.t 26, .c (.int .i64 60)]) (some (some 25, false)), .o (some 28) (.not (.t 27)) (some (some 25, false)), .o (some 29) (.pick (.t 25) (.c (.bool true)) (.t 28)) none, .o (some 30) (.mv (.t 29)) none, .o (some 31) (.ldA 6 [.int .i64, .int .i64, .int .i64, .slice 33, .slice 100, .slice 86] (.t 4)) (some (some 30, false)), .o (some 32) (.call 19 [.t 31]) (some (some 30, false)), .o (some 33) (.eq1 (.int .i64) true (.t 32) (.c (.int .i64 0))) (some (some 30, false)), .o (some 34) (.pick (.t 30) (.c (.bool true)) (.t 33)) none, .o (some 35) (.mv (.t 34)) none, .o (some 36) (.mv (.t 1)) (some (some 35, false)), .o (some 37) (.ar .lss (.t 36) (.c (.int .i64 0))) (some (some 35, false)), .o (some 38) (.pick (.t 35) (.c (.bool true)) (.t 37)) none, .o (some 39) (.mv (.t 38)) none, .o (some 40) (.mv (.t 1)) (some (some 39, false)), .o (some 41) (.fa 0 (.t 4)) (some (some 39, false)), .o (some 42) (.ld1 (.int .i64) (.t 41)) (some (some 39, false)), .o (some 43) (.ar .geq (.t 40) (.t 42)) (some (some 39, false)), .o (some 44) (.pick (.t 39) (.c (.bool true)) (.t 43)) none, .o (some 45) (.mv (.t 44)) none, .o (some 46) (.mv (.t 2)) (some (some 45, false)), .o (some 47) (.ar .lss (.t 46) (.c (.int .i64 0))) (some (some 45, false)), .o (some 48) (.pick (.t 45) (.c (.bool true)) (.t 47)) none, .o (some 49) (.mv (.t 48)) none, .o (some 50) (.mv (.t 2)) (some (some 49, false)), .o (some 51) (.fa 0 (.t 4)) (some (some 49, false)), .o (some 52) (.ld1 (.int .i64) (.t 51)) (some (some 49, false)), .o (some 53) (.ar .geq (.t 50) (.t 52)) (some (some 49, false)), .o (some 54) (.pick (.t 49) (.c (.bool true)) (.t 53)) none, .o (some 55) (.mv (.t 54)) none, .o (some 56) (.mv (.t 1)) (some (some 55, false)), .o (some 57) (.mv (.t 2)) (some (some 55, false)), .o (some 58) (.eq1 (.int .i64) false (.t 56) (.t 57)) (some (some 55, false)), .o (some 59) (.pick (.t 55) (.c (.bool true)) (.t 58)) none, .cond (.tmp 59) [.o (some 60) (.call 13 []) none, .o (some 8) (.tk (.tmp 60)) none, .ret] [], .o (some 62) (.ldA 6 [.int .i64, .int .i64, .int .i64, .slice 33, .slice 100, .slice 86] (.t 4)) none, .o (some 63) (.mv (.t 1)) none, .o (some 64) (.mv (.t 2)) none, .o (some 65) (.call 23 [.t 62, .t 63, .t 64]) none, .o (some 61) (.mv (.t 65)) none, .o (some 66) (.ext (.t 61) 0) none, .o (some 67) (.ext (.t 61) 1) none, .o (some 9) (.alloc false [.int .i64 0, .int .i64 0, .int .i64 0, .sl true 0 [] .own, .sl true 0 [] .own, .sl true 0 [] .own]) none, .o none (.st 6 (.t 9) (.tmp 66)) none, .o (some 10) (.tk (.tmp 67)) none, .o (some 68) (.mv (.t 10)) none, .o (some 69) (.eq1 (.int .i64) false (.t 68) (.c (.int .i64 5))) none, .cond (.tmp 69) [.o (some 71) (.ldA 6 [.int .i64, .int .i64, .int .i64, .slice 33, .slice 100, .slice 86] (.t 4)) none, .o (some 72) (.mv (.t 1)) none, .o (some 73) (.mv (.t 2)) none, .o (some 74) (.call 25 [.t 71, .t 72, .t 73]) none, .o (some 70) (.mv (.t 74)) none, .o (some 75) (.ext (.t 70) 0) none, .o (some 76) (.ext (.t 70) 1) none, .o (some 11) (.alloc false [.int .i64 0, .int .i64 0, .int .i64 0, .sl true 0 [] .own, .sl true 0 [] .own, .sl true 0 [] .own]) none, .o none (.st 6 (.t 11) (.tmp 75)) none, .o (some 12) (.tk (.tmp 76)) none, .o (some 78) (.ldA 6 [.int .i64, .int .i64, .int .i64, .slice 33, .slice 100, .slice 86] (.t 11)) none, .o (some 79) (.mv (.t 2)) none, .o (some 80) (.mv (.t 1)) none, .o (some 81) (.call 23 [.t 78, .t 79, .t 80]) none, .o (some 77) (.mv (.t 81)) none, .o (some 82) (.ext (.t 77) 0) none, .o (some 83) (.ext (.t 77) 1) none, .o (some 13) (.alloc false [.int .i64 0, .int .i64 0, .int .i64 0, .sl true 0 [] .own, .sl true 0 [] .own, .sl true 0 [] .own]) none, .o none (.st 6 (.t 13) (.tmp 82)) none, .o (some 14) (.tk (.tmp 83)) none, .o (some 84) (.call 13 []) none, .o (some 85) (.mv (.t 84)) none, .o (some 86) (.mv (.t 12)) (some (some 85, true)), .o (some 87) (.eq1 (.int .i64) false (.t 86) (.c (.int .i64 0))) (some (some 85, true)), .o (some 88) (.pick (.t 85) (.t 87) (.c (.bool false))) none, .o (some 89) (.mv (.t 88)) none, .o (some 90) (.mv (.t 14)) (some (some 89, true)), .o (some 91) (.eq1 (.int .i64) false (.t 90) (.c (.int .i64 0))) (some (some 89, true)), .o (some 92) (.pick (.t 89) (.t 91) (.c (.bool false))) none, .o (some 93) (.mv (.t 92)) none, .o (some 94) (.ldA 6 [.int .i64, .int .i64, .int .i64, .slice 33, .slice 100, .slice 86] (.t 13)) (some (some 93, true)), .o (some 95) (.ldA 6 [.int .i64, .int .i64, .int .i64, .slice 33, .slice 100, .slice 86] (.t 4)) (some (some 93, true)), .o (some 96) (.call 18 [.t 94, .t 95]) (some (some 93, true)), .o (some 97) (.pick (.t 93) (.t 96) (.c (.bool false))) none, .o (some 8) (.tk (.tmp 97)) none, .ret] [], .o (some 99) (.ldA 6 [.int .i64, .int .i64, .int .i64, .slice 33, .slice 100, .slice 86] (.t 9)) none, .o (some 100) (.mv (.t 2)) none, .o (some 101) (.mv (.t 1)) none, .o (some 102) (.call 25 [.t 99, .t 100, .t 101]) none, .o (some 98) (.mv (.t 102)) none, .o (some 103) (.ext (.t 98) 0) none, .o (some 104) (.ext (.t 98) 1) none, .o (some 15) (.alloc false [.int .i64 0, .int .i64 0, .int .i64 0, .sl true 0 [] .own, .sl true 0 [] .own, .sl true 0 [] .own]) none, .o none (.st 6 (.t 15) (.tmp 103)) none, .o (some 16) (.tk (.tmp 104)) none, .o (some 105) (.mv (.t 10)) none, .o (some 106) (.eq1 (.int .i64) true (.t 105) (.c (.int .i64 0))) none, .o (some 107) (.mv (.t 106)) none, .o (some 108) (.mv (.t 16)) (some (some 107, false)), .o (some 109) (.eq1 (.int .i64) true (.t 108) (.c (.int .i64 0))) (some (some 107, false)), .o (some 110) (.pick (.t 107) (.c (.bool true)) (.t 109)) none, .o (some 111) (.mv (.t 110)) none, .o (some 112) (.ldA 6 [.int .i64, .int .i64, .int .i64, .slice 33, .slice 100, .slice 86] (.t 15)) (some (some 111, false)), .o (some 113) (.ldA 6 [.int .i64, .int .i64, .int .i64, .slice 33, .slice 100, .slice 86] (.t 4)) (some (some 111, false)), .o (some 114) (.call 18 [.t 112, .t 113]) (some (some 111, false)), .o (some 115) (.not (.t 114)) (some (some 111, false)), .o (some 116) (.pick (.t 111) (.c (.bool true)) (.t 115)) none, .cond (.tmp 116) [.o (some 8) (.tk (.const (.bool false))) none, .ret] [], .o (some 17) (.tk (.const (.int .i64 0))) none, .block 0 [.loop b7q0 (lp (bodyOf Go.Proofs.Try.f7) 0)], .o (some 179) (.call 13 []) none, .o (some 8) (.tk (.tmp 179)) none, .ret]
theorem c7q0 : compR T {} pl7 (lp (bodyOf Go.Proofs.Try.f7) 0) = b7q0 := by kernel_rfl
theorem lp7q0 {α : Type} (m : Nat) (ls : α → List (Nat × AV)) (bs : α → List (List AV)) (hs : α → List AObj) (φ : α → Prop) (μ : α → Nat) (g0 : α) (h0 : φ g0) (hkeys : ∀ g, (ls g).map (·.1) = (ls g0).map (·.1)) (e1 : allIn d l m (ls g0)) (e2 : bs g0 = bx.take m) (e3 : (bs g0).all (fun cs => AV.lb.lbs m cs) = true) (e4 : h = hs g0) (round : ∀ g, φ g → Run C Pg T {} none b7q0 (S .undef 180 (ls g) (bs g) (hs g)) (nextR d 180 m ls bs hs φ μ g K)) : AWp C Pg none (.loop (lp (bodyOf Go.Proofs.Try.f7) 0)) (S d 180 l bx h) K := AWp.loopQ T_ok {} pl7 c7q0 m ls bs hs φ μ g0 h0 hkeys e1 e2 e3 e4 round
theorem c7 : compR T {} pl7 (bodyOf Go.Proofs.Try.f7) = b7 := by kernel_rfl
noncomputable def g7q0 : List It := [.o (some 131) (.mv (.t 3)) none, .o (some 132) (.mv (.t 17)) none, .o (some 133) (.ixs 5 [.int .i64, .int .i64, .int .i64, .int .i64, .str] (.t 131) (.t 132)) none, .alts [[.o (some 130) (.ldA 6 [.int .i64, .int .i64, .int .i64, .slice 33, .slice 100, .slice 86] (.t 9)) none, .alts [[.o (some 134) (.ldA 5 [.int .i64, .int .i64, .int .i64, .int .i64, .str] (.t 133)) none, .alts [[.o (some 135) (.call 34 [.t 130, .t 134]) none, .o (some 129) (.mv (.t 135)) none, .o (some 136) (.ext (.t 129) 0) none, .o (some 137) (.ext (.t 129) 1) none, .o (some 138) (.ext (.t 129) 2) none, .alts [[.o (some 18) (.alloc false [.int .i64 0, .int .i64 0, .int .i64 0, .sl true 0 [] .own, .sl true 0 [] .own, .sl true 0 [] .own]) none, .alts [[.o (some 19) (.alloc false [.int .i64 0, .int .i64 0, .int .i64 0, .int .i64 0, .str [], .int .i64 0, .int .i64 0, .int .i64 0, .int .i64 0, .int .i64 0, .int .i64 0, .str [], .sl true 0 [] .own]) none, .alts [[.o none (.st 6 (.t 18) (.tmp 136)) none, .alts [[.o none (.st 13 (.t 19) (.tmp 137)) none, .o (some 20) (.tk (.tmp 138)) none]]]]]]], [.o (some 19) (.alloc false [.int .i64 0, .int .i64 0, .int .i64 0, .int .i64 0, .str [], .int .i64 0, .int .i64 0, .int .i64 0, .int .i64 0, .int .i64 0, .int .i64 0, .str [], .sl true 0 [] .own]) none, .alts [[.o (some 18) (.alloc false [.int .i64 0, .int .i64 0, .int .i64 0, .sl true 0 [] .own, .sl true 0 [] .own, .sl true 0 [] .own]) none, .alts [[.o none (.st 6 (.t 18) (.tmp 136)) none, .alts [[.o none (.st 13 (.t 19) (.tmp 137)) none, .o (some 20) (.tk (.tmp 138)) none]]]]]]]]], [.o (some 18) (.alloc false [.int .i64 0, .int .i64 0, .int .i64 0, .sl true 0 [] .own, .sl true 0 [] .own, .sl true 0 [] .own]) none, .alts [[.o (some 135) (.call 34 [.t 130, .t 134]) none, .o (some 129) (.mv (.t 135)) none, .o (some 136) (.ext (.t 129) 0) none, .o (some 137) (.ext (.t 129) 1) none, .o (some 138) (.ext (.t 129) 2) none, .alts [[.o (some 19) (.alloc false [.int .i64 0, .int .i64 0, .int .i64 0, .int .i64 0, .str [], .int .i64 0, .int .i64 0, .int .i64 0, .int .i64 0, .int .i64 0, .int .i64 0, .str [], .sl true 0 [] .own]) none, .alts [[.o none (.st 6 (.t 18) (.tmp 136)) none, .alts [[.o none (.st 13 (.t 19) (.tmp 137)) none, .o (some 20) (.tk (.tmp 138)) none]]]]]]], [.o (some 19) (.alloc false [.int .i64 0, .int .i64 0, .int .i64 0, .int .i64 0, .str [], .int .i64 0, .int .i64 0, .int .i64 0, .int .i64 0, .int .i64 0, .int .i64 0, .str [], .sl true 0 [] .own]) none, .alts [[.o (some 135) (.call 34 [.t 130, .t 134]) none, .o (some 129) (.mv (.t 135)) none, .o (some 136) (.ext (.t 129) 0) none, .o (some 137) (.ext (.t 129) 1) none, .o (some 138) (.ext (.t 129) 2) none, .alts [[.o none (.st 6 (.t 18) (.tmp 136)) none, .alts [[.o none (.st 13 (.t 19) (.tmp 137)) none, .o (some 20) (.tk (.tmp 138)) none]]]]]]]]], [.o (some 19) (.alloc false [.int .i64 0, .int .i64 0, .int .i64 0, .int .i64 0, .str [], .int .i64 0, .int .i64 0, .int .i64 0, .int .i64 0, .int .i64 0, .int .i64 0, .str [], .sl true 0 [] .own]) none, .alts [[.o (some 135) (.call 34 [.t 130, .t 134]) none, .o (some 129) (.mv (.t 135)) none, .o (some 136) (.ext (.t 129) 0) none, .o (some 137) (.ext (.t 129) 1) none, .o (some 138) (.ext (.t 129) 2) none, .alts [[.o (some 18) (.alloc false [.int .i64 0, .int .i64 0, .int .i64 0, .sl true 0 [] .own, .sl true 0 [] .own, .sl true 0 [] .own]) none, .alts [[.o none (.st 6 (.t 18) (.tmp 136)) none, .alts [[.o none (.st 13 (.t 19) (.tmp 137)) none, .o (some 20) (.tk (.tmp 138)) none]]]]]]], [.o (some 18) (.alloc false [.int .i64 0, .int .i64 0, .int .i64 0, .sl true 0 [] .own, .sl true 0 [] .own, .sl true 0 [] .own]) none, .alts [[.o (some 135) (.call 34 [.t 130, .t 134]) none, .o (some 129) (.mv (.t 135)) none, .o (some 136) (.ext (.t 129) 0) none, .o (some 137) (.ext (.t 129) 1) none, .o (some 138) (.ext (.t 129) 2) none, .alts [[.o none (.st 6 (.t 18) (.tmp 136)) none, .alts [[.o none (.st 13 (.t 19) (.tmp 137)) none, .o (some 20) (.tk (.tmp 138)) none]]]]]]]]]]], [.o (some 18) (.alloc false [.int .i64 0, .int .i64 0, .int .i64 0, .sl true 0 [] .own, .sl true 0 [] .own, .sl true 0 [] .own]) none, .alts [[.o (some 134) (.ldA 5 [.int .i64, .int .i64, .int .i64, .int .i64, .str] (.t 133)) none, .alts [[.o (some 135) (.call 34 [.t 130, .t 134]) none, .o (some 129) (.mv (.t 135)) none, .o (some 136) (.ext (.t 129) 0) none, .o (some 137) (.ext (.t 129) 1) none, .o (some 138) (.ext (.t 129) 2) none, .alts [[.o (some 19) (.alloc false [.int .i64 0, .int .i64 0, .int .i64 0, .int .i64 0, .str [], .int .i64 0, .int .i64 0, .int .i64 0, .int .i64 0, .int .i64 0, .int .i64 0, .str [], .sl true 0 [] .own]) none, .alts [[.o none (.st 6 (.t 18) (.tmp 136)) none, .alts [[.o none (.st 13 (.t 19) (.tmp 137)) none, .o (some 20) (.tk (.tmp 138)) none]]]]]]], [.o (some 19) (.alloc false [.int .i64 0, .int .i64 0, .int .i64 0, .int .i64 0, .str [], .int .i64 0, .int .i64 0, .int .i64 0, .int .i64 0, .int .i64 0, .int .i64 0, .str [], .sl true 0 [] .own]) none, .alts [[.o (some 135) (.call 34 [.t 130, .t 134]) none, .o (some 129) (.mv (.t 135)) none, .o (some 136) (.ext (.t 129) 0) none, .o (some 137) (.ext (.t 129) 1) none, .o (some 138) (.ext (.t 129) 2) none, .alts [[.o none (.st 6 (.t 18) (.tmp 136)) none, .alts [[.o none (.st 13 (.t 19) (.tmp 137)) none, .o (some 20) (.tk (.tmp 138)) none]]]]]]]]], [.o (some 19) (.alloc false [.int .i64 0, .int .i64 0, .int .i64 0, .int .i64 0, .str [], .int .i64 0, .int .i64 0, .int .i64 0, .int .i64 0, .int .i64 0, .int .i64 0, .str [], .sl true 0 [] .own]) none, .alts [[.o (some 134) (.ldA 5 [.int .i64, .int .i64, .int .i64, .int .i64, .str] (.t 133)) none, .alts [[.o (some 135) (.call 34 [.t 130, .t 134]) none, .o (some 129) (.mv (.t 135)) none, .o (some 136) (.ext (.t 129) 0) none, .o (some 137) (.ext (.t 129) 1) none, .o (some 138) (.ext (.t 129) 2) none, .alts [[.o none (.st 6 (.t 18) (.tmp 136)) none, .alts [[.o none (.st 13 (.t 19) (.tmp 137)) none, .o (some 20) (.tk (.tmp 138)) none]]]]]]]]]]], [.o (some 19) (.alloc false [.int .i64 0, .int .i64 0, .int .i64 0, .int .i64 0, .str [], .int .i64 0, .int .i64 0, .int .i64 0, .int .i64 0, .int .i64 0, .int .i64 0, .str [], .sl true 0 [] .own]) none, .alts [[.o (some 134) (.ldA 5 [.int .i64, .int .i64, .int .i64, .int .i64, .str] (.t 133)) none, .alts [[.o (some 135) (.call 34 [.t 130, .t 134]) none, .o (some 129) (.mv (.t 135)) none, .o (some 136) (.ext (.t 129) 0) none, .o (some 137) (.ext (.t 129) 1) none, .o (some 138) (.ext (.t 129) 2) none, .alts [[.o (some 18) (.alloc false [.int .i64 0, .int .i64 0, .int .i64 0, .sl true 0 [] .own, .sl true 0 [] .own, .sl true 0 [] .own]) none, .alts [[.o none (.st 6 (.t 18) (.tmp 136)) none, .alts [[.o none (.st 13 (.t 19) (.tmp 137)) none, .o (some 20) (.tk (.tmp 138)) none]]]]]]], [.o (some 18) (.alloc false [.int .i64 0, .int .i64 0, .int .i64 0, .sl true 0 [] .own, .sl true 0 [] .own, .sl true 0 [] .own]) none, .alts [[.o (some 135) (.call 34 [.t 130, .t 134]) none, .o (some 129) (.mv (.t 135)) none, .o (some 136) (.ext (.t 129) 0) none, .o (some 137) (.ext (.t 129) 1) none, .o (some 138) (.ext (.t 129) 2) none, .alts [[.o none (.st 6 (.t 18) (.tmp 136)) none, .alts [[.o none (.st 13 (.t 19) (.tmp 137)) none, .o (some 20) (.tk (.tmp 138)) none]]]]]]]]], [.o (some 18) (.alloc false [.int .i64 0, .int .i64 0, .int .i64 0, .sl true 0 [] .own, .sl true 0 [] .own, .sl true 0 [] .own]) none, .alts [[.o (some 134) (.ldA 5 [.int .i64, .int .i64, .int .i64, .int .i64, .str] (.t 133)) none, .alts [[.o (some 135) (.call 34 [.t 130, .t 134]) none, .o (some 129) (.mv (.t 135)) none, .o (some 136) (.ext (.t 129) 0) none, .o (some 137) (.ext (.t 129) 1) none, .o (some 138) (.ext (.t 129) 2) none, .alts [[.o none (.st 6 (.t 18) (.tmp 136)) none, .alts [[.o none (.st 13 (.t 19) (.tmp 137)) none, .o (some 20) (.tk (.tmp 138)) none]]]]]]]]]]]]], [.o (some 134) (.ldA 5 [.int .i64, .int .i64, .int .i64, .int .i64, .str] (.t 133)) none, .alts [[.o (some 130) (.ldA 6 [.int .i64, .int .i64, .int .i64, .slice 33, .slice 100, .slice 86] (.t 9)) none, .alts [[.o (some 135) (.call 34 [.t 130, .t 134]) none, .o (some 129) (.mv (.t 135)) none, .o (some 136) (.ext (.t 129) 0) none, .o (some 137) (.ext (.t 129) 1) none, .o (some 138) (.ext (.t 129) 2) none, .alts [[.o (some 18) (.alloc false [.int .i64 0, .int .i64 0, .int .i64 0, .sl true 0 [] .own, .sl true 0 [] .own, .sl true 0 [] .own]) none, .alts [[.o (some 19) (.alloc false [.int .i64 0, .int .i64 0, .int .i64 0, .int .i64 0, .str [], .int .i64 0, .int .i64 0, .int .i64 0, .int .i64 0, .int .i64 0, .int .i64 0, .str [], .sl true 0 [] .own]) none, .alts [[.o none (.st 6 (.t 18) (.tmp 136)) none, .alts [[.o none (.st 13 (.t 19) (.tmp 137)) none, .o (some 20) (.tk (.tmp 138)) none]]]]]]], [.o (some 19) (.alloc false [.int .i64 0, .int .i64 0, .int .i64 0, .int .i64 0, .str [], .int .i64 0, .int .i64 0, .int .i64 0, .int .i64 0, .int .i64 0, .int .i64 0, .str [], .sl true 0 [] .own]) none, .alts [[.o (some 18) (.alloc false [.int .i64 0, .int .i64 0, .int .i64 0, .sl true 0 [] .own, .sl true 0 [] .own, .sl true 0 [] .own]) none, .alts [[.o none (.st 6 (.t 18) (.tmp 136)) none, .alts [[.o none (.st 13 (.t 19) (.tmp 137)) none, .o (some 20) (.tk (.tmp 138)) none]]]]]]]]], [.o (some 18) (.alloc false [.int .i64 0, .int .i64 0, .int .i64 0, .sl true 0 [] .own, .sl true 0 [] .own, .sl true 0 [] .own]) none, .alts [[.o (some 135) (.call 34 [.t 130, .t 134]) none, .o (some 129) (.mv (.t 135)) none, .o (some 136) (.ext (.t 129) 0) none, .o (some 137) (.ext (.t 129) 1) none, .o (some 138) (.ext (.t 129) 2) none, .alts [[.o (some 19) (.alloc false [.int .i64 0, .int .i64 0, .int .i64 0, .int .i64 0, .str [], .int .i64 0, .int .i64 0, .int .i64 0, .int .i64 0, .int .i64 0, .int .i64 0, .str [], .sl true 0 [] .own]) none, .alts [[.o none (.st 6 (.t 18) (.tmp 136)) none, .alts [[.o none (.st 13 (.t 19) (.tmp 137)) none, .o (some 20) (.tk (.tmp 138)) none]]]]]]], [.o (some 19) (.alloc false [.int .i64 0, .int .i64 0, .int .i64 0, .int .i64 0, .str [], .int .i64 0, .int .i64 0, .int .i64 0, .int .i64 0, .int .i64 0, .int .i64 0, .str [], .sl true 0 [] .own]) none, .alts [[.o (some 135) (.call 34 [.t 130, .t 134]) none, .o (some 129) (.mv (.t 135)) none, .o (some 136) (.ext (.t 129) 0) none, .o (some 137) (.ext (.t 129) 1) none, .o (some 138) (.ext (.t 129) 2) none, .alts [[.o none (.st 6 (.t 18) (.tmp 136)) none, .alts [[.o none (.st 13 (.t 19) (.tmp 137)) none, .o (some 20) (.tk (.tmp 138)) none]]]]]]]]], [.o (some 19) (.alloc false [.int .i64 0, .int .i64 0, .int .i64 0, .int .i64 0, .str [], .int .i64 0, .int .i64 0, .int .i64 0, .int .i64 0, .int .i64 0, .int .i64 0, .str [], .sl true 0 [] .own]) none, .alts [[.o (some 135) (.call 34 [.t 130, .t 134]) none, .o (some 129) (.mv (.t 135)) none, .o (some 136) (.ext (.t 129) 0) none, .o (some 137) (.ext (.t 129) 1) none, .o (some 138) (.ext (.t 129) 2) none, .alts [[.o (some 18) (.alloc false [.int .i64 0, .int .i64 0, .int .i64 0, .sl true 0 [] .own, .sl true 0 [] .own, .sl true 0 [] .own]) none, .alts [[.o none (.st 6 (.t 18) (.tmp 136)) none, .alts [[.o none (.st 13 (.t 19) (.tmp 137)) none, .o (some 20) (.tk (.tmp 138)) none]]]]]]], [.o (some 18) (.alloc false [.int .i64 0, .int .i64 0, .int .i64 0, .sl true 0 [] .own, .sl true 0 [] .own, .sl true 0 [] .own]) none, .alts [[.o (some 135) (.call 34 [.t 130, .t 134]) none, .o (some 129) (.mv (.t 135)) none, .o (some 136) (.ext (.t 129) 0) none, .o (some 137) (.ext (.t 129) 1) none, .o (some 138) (.ext (.t 129) 2) none, .alts [[.o none (.st 6 (.t 18) (.tmp 136)) none, .alts [[.o none (.st 13 (.t 19) (.tmp 137)) none, .o (some 20) (.tk (.tmp 138)) none]]]]]]]]]]], [.o (some 18) (.alloc false [.int .i64 0, .int .i64 0, .int .i64 0, .sl true 0 [] .own, .sl true 0 [] .own, .sl true 0 [] .own]) none, .alts [[.o (some 130) (.ldA 6 [.int .i64, .int .i64, .int .i64, .slice 33, .slice 100, .slice 86] (.t 9)) none, .alts [[.o (some 135) (.call 34 [.t 130, .t 134]) none, .o (some 129) (.mv (.t 135)) none, .o (some 136) (.ext (.t 129) 0) none, .o (some 137) (.ext (.t 129) 1) none, .o (some 138) (.ext (.t 129) 2) none, .alts [[.o (some 19) (.alloc false [.int .i64 0, .int .i64 0, .int .i64 0, .int .i64 0, .str [], .int .i64 0, .int .i64 0, .int .i64 0, .int .i64 0, .int .i64 0, .int .i64 0, .str [], .sl true 0 [] .own]) none, .alts [[.o none (.st 6 (.t 18) (.tmp 136)) none, .alts [[.o none (.st 13 (.t 19) (.tmp 137)) none, .o (some 20) (.tk (.tmp 138)) none]]]]]]], [.o (some 19) (.alloc false [.int .i64 0, .int .i64 0, .int .i64 0, .int .i64 0, .str [], .int .i64 0, .int .i64 0, .int .i64 0, .int .i64 0, .int .i64 0, .int .i64 0, .str [], .sl true 0 [] .own]) none, .alts [[.o (some 135) (.call 34 [.t 130, .t 134]) none, .o (some 129) (.mv (.t 135)) none, .o (some 136) (.ext (.t 129) 0) none, .o (some 137) (.ext (.t 129) 1) none, .o (some 138) (.ext (.t 129) 2) none, .alts [[.o none (.st 6 (.t 18) (.tmp 136)) none, .alts [[.o none (.st 13 (.t 19) (.tmp 137)) none, .o (some 20) (.tk (.tmp 138)) none]]]]]]]]], [.o (some 19) (.alloc false [.int .i64 0, .int .i64 0, .int .i64 0, .int .i64 0, .str [], .int .i64 0, .int .i64 0, .int .i64 0, .int .i64 0, .int .i64 0, .int .i64 0, .str [], .sl true 0 [] .own]) none, .alts [[.o (some 130) (.ldA 6 [.int .i64, .int .i64, .int .i64, .slice 33, .slice 100, .slice 86] (.t 9)) none, .alts [[.o (some 135) (.call 34 [.t 130, .t 134]) none, .o (some 129) (.mv (.t 135)) none, .o (some 136) (.ext (.t 129) 0) none, .o (some 137) (.ext (.t 129) 1) none, .o (some 138) (.ext (.t 129) 2) none, .alts [[.o none (.st 6 (.t 18) (.tmp 136)) none, .alts [[.o none (.st 13 (.t 19) (.tmp 137)) none, .o (some 20) (.tk (.tmp 138)) none]]]]]]]]]]], [.o (some 19) (.alloc false [.int .i64 0, .int .i64 0, .int .i64 0, .int .i64 0, .str [], .int .i64 0, .int .i64 0, .int .i64 0, .int .i64 0, .int .i64 0, .int .i64 0, .str [], .sl true 0 [] .own]) none, .alts [[.o (some 130) (.ldA 6 [.int .i64, .int .i64, .int .i64, .slice 33, .slice 100, .slice 86] (.t 9)) none, .alts [[.o (some 135) (.call 34 [.t 130, .t 134]) none, .o (some 129) (.mv (.t 135)) none, .o (some 136) (.ext (.t 129) 0) none, .o (some 137) (.ext (.t 129) 1) none, .o (some 138) (.ext (.t 129) 2) none, .alts [[.o (some 18) (.alloc false [.int .i64 0, .int .i64 0, .int .i64 0, .sl true 0 [] .own, .sl true 0 [] .own, .sl true 0 [] .own]) none, .alts [[.o none (.st 6 (.t 18) (.tmp 136)) none, .alts [[.o none (.st 13 (.t 19) (.tmp 137)) none, .o (some 20) (.tk (.tmp 138)) none]]]]]]], [.o (some 18) (.alloc false [.int .i64 0, .int .i64 0, .int .i64 0, .sl true 0 [] .own, .sl true 0 [] .own, .sl true 0 [] .own]) none, .alts [[.o (some 135) (.call 34 [.t 130, .t 134]) none, .o (some 129) (.mv (.t 135)) none, .o (some 136) (.ext (.t 129) 0) none, .o (some 137) (.ext (.t 129) 1) none, .o (some 138) (.ext (.t 129) 2) none, .alts [[.o none (.st 6 (.t 18) (.tmp 136)) none, .alts [[.o none (.st 13 (.t 19) (.tmp 137)) none, .o (some 20) (.tk (.tmp 138)) none]]]]]]]]], [.o (some 18) (.alloc false [.int .i64 0, .int .i64 0, .int .i64 0, .sl true 0 [] .own, .sl true 0 [] .own, .sl true 0 [] .own]) none, .alts [[.o (some 130) (.ldA 6 [.int .i64, .int .i64, .int .i64, .slice 33, .slice 100, .slice 86] (.t 9)) none, .alts [[.o (some 135) (.call 34 [.t 130, .t 134]) none, .o (some 129) (.mv (.t 135)) none, .o (some 136) (.ext (.t 129) 0) none, .o (some 137) (.ext (.t 129) 1) none, .o (some 138) (.ext (.t 129) 2) none, .alts [[.o none (.st 6 (.t 18) (.tmp 136)) none, .alts [[.o none (.st 13 (.t 19) (.tmp 137)) none, .o (some 20) (.tk (.tmp 138)) none]]]]]]]]]]]]], [.o (some 18) (.alloc false [.int .i64 0, .int .i64 0, .int .i64 0, .sl true 0 [] .own, .sl true 0 [] .own, .sl true 0 [] .own]) none, .alts [[.o (some 130) (.ldA 6 [.int .i64, .int .i64, .int .i64, .slice 33, .slice 100, .slice 86] (.t 9)) none, .alts [[.o (some 134) (.ldA 5 [.int .i64, .int .i64, .int .i64, .int .i64, .str] (.t 133)) none, .alts [[.o (some 135) (.call 34 [.t 130, .t 134]) none, .o (some 129) (.mv (.t 135)) none, .o (some 136) (.ext (.t 129) 0) none, .o (some 137) (.ext (.t 129) 1) none, .o (some 138) (.ext (.t 129) 2) none, .alts [[.o (some 19) (.alloc false [.int .i64 0, .int .i64 0, .int .i64 0, .int .i64 0, .str [], .int .i64 0, .int .i64 0, .int .i64 0, .int .i64 0, .int .i64 0, .int .i64 0, .str [], .sl true 0 [] .own]) none, .alts [[.o none (.st 6 (.t 18) (.tmp 136)) none, .alts [[.o none (.st 13 (.t 19) (.tmp 137)) none, .o (some 20) (.tk (.tmp 138)) none]]]]]]], [.o (some 19) (.alloc false [.int .i64 0, .int .i64 0, .int .i64 0, .int .i64 0, .str [], .int .i64 0, .int .i64 0, .int .i64 0, .int .i64 0, .int .i64 0, .int .i64 0, .str [], .sl true 0 [] .own]) none, .alts [[.o (some 135) (.call 34 [.t 130, .t 134]) none, .o (some 129) (.mv (.t 135)) none, .o (some 136) (.ext (.t 129) 0) none, .o (some 137) (.ext (.t 129) 1) none, .o (some 138) (.ext (.t 129) 2) none, .alts [[.o none (.st 6 (.t 18) (.tmp 136)) none, .alts [[.o none (.st 13 (.t 19) (.tmp 137)) none, .o (some 20) (.tk (.tmp 138)) none]]]]]]]]], [.o (some 19) (.alloc false [.int .i64 0, .int .i64 0, .int .i64 0, .int .i64 0, .str [], .int .i64 0, .int .i64 0, .int .i64 0, .int .i64 0, .int .i64 0, .int .i64 0, .str [], .sl true 0 [] .own]) none, .alts [[.o (some 134) (.ldA 5 [.int .i64, .int .i64, .int .i64, .int .i64, .str] (.t 133)) none, .alts [[.o (some 135) (.call 34 [.t 130, .t 134]) none, .o (some 129) (.mv (.t 135)) none, .o (some 136) (.ext (.t 129) 0) none, .o (some 137) (.ext (.t 129) 1) none, .o (some 138) (.ext (.t 129) 2) none, .alts [[.o none (.st 6 (.t 18) (.tmp 136)) none, .alts [[.o none (.st 13 (.t 19) (.tmp 137)) none, .o (some 20) (.tk (.tmp 138)) none]]]]]]]]]]], [.o (some 134) (.ldA 5 [.int .i64, .int .i64, .int .i64, .int .i64, .str] (.t 133)) none, .alts [[.o (some 130) (.ldA 6 [.int .i64, .int .i64, .int .i64, .slice 33, .slice 100, .slice 86] (.t 9)) none, .alts [[.o (some 135) (.call 34 [.t 130, .t 134]) none, .o (some 129) (.mv (.t 135)) none, .o (some 136) (.ext (.t 129) 0) none, .o (some 137) (.ext (.t 129) 1) none, .o (some 138) (.ext (.t 129) 2) none, .alts [[.o (some 19) (.alloc false [.int .i64 0, .int .i64 0, .int .i64 0, .int .i64 0, .str [], .int .i64 0, .int .i64 0, .int .i64 0, .int .i64 0, .int .i64 0, .int .i64 0, .str [], .sl true 0 [] .own]) none, .alts [[.o none (.st 6 (.t 18) (.tmp 136)) none, .alts [[.o none (.st 13 (.t 19) (.tmp 137)) none, .o (some 20) (.tk (.tmp 138)) none]]]]]]], [.o (some 19) (.alloc false [.int .i64 0, .int .i64 0, .int .i64 0, .int .i64 0, .str [], .int .i64 0, .int .i64 0, .int .i64 0, .int .i64 0, .int .i64 0, .int .i64 0, .str [], .sl true 0 [] .own]) none, .alts [[.o (some 135) (.call 34 [.t 130, .t 134]) none, .o (some 129) (.mv (.t 135)) none, .o (some 136) (.ext (.t 129) 0) none, .o (some 137) (.ext (.t 129) 1) none, .o (some 138) (.ext (.t 129) 2) none, .alts [[.o none (.st 6 (.t 18) (.tmp 136)) none, .alts [[.o none (.st 13 (.t 19) (.tmp 137)) none, .o (some 20) (.tk (.tmp 138)) none]]]]]]]]], [.o (some 19) (.alloc false [.int .i64 0, .int .i64 0, .int .i64 0, .int .i64 0, .str [], .int .i64 0, .int .i64 0, .int .i64 0, .int .i64 0, .int .i64 0, .int .i64 0, .str [], .sl true 0 [] .own]) none, .alts [[.o (some 130) (.ldA 6 [.int .i64, .int .i64, .int .i64, .slice 33, .slice 100, .slice 86] (.t 9)) none, .alts [[.o (some 135) (.call 34 [.t 130, .t 134]) none, .o (some 129) (.mv (.t 135)) none, .o (some 136) (.ext (.t 129) 0) none, .o (some 137) (.ext (.t 129) 1) none, .o (some 138) (.ext (.t 129) 2) none, .alts [[.o none (.st 6 (.t 18) (.tmp 136)) none, .alts [[.o none (.st 13 (.t 19) (.tmp 137)) none, .o (some 20) (.tk (.tmp 138)) none]]]]]]]]]]], [.o (some 19) (.alloc false [.int .i64 0, .int .i64 0, .int .i64 0, .int .i64 0, .str [], .int .i64 0, .int .i64 0, .int .i64 0, .int .i64 0, .int .i64 0, .int .i64 0, .str [], .sl true 0 [] .own]) none, .alts [[.o (some 130) (.ldA 6 [.int .i64, .int .i64, .int .i64, .slice 33, .slice 100, .slice 86] (.t 9)) none, .alts [[.o (some 134) (.ldA 5 [.int .i64, .int .i64, .int .i64, .int .i64, .str] (.t 133)) none, .alts [[.o (some 135) (.call 34 [.t 130, .t 134]) none, .o (some 129) (.mv (.t 135)) none, .o (some 136) (.ext (.t 129) 0) none, .o (some 137) (.ext (.t 129) 1) none, .o (some 138) (.ext (.t 129) 2) none, .alts [[.o none (.st 6 (.t 18) (.tmp 136)) none, .alts [[.o none (.st 13 (.t 19) (.tmp 137)) none, .o (some 20) (.tk (.tmp 138)) none]]]]]]]]], [.o (some 134) (.ldA 5 [.int .i64, .int .i64, .int .i64, .int .i64, .str] (.t 133)) none, .alts [[.o (some 130) (.ldA 6 [.int .i64, .int .i64, .int .i64, .slice 33, .slice 100, .slice 86] (.t 9)) none, .alts [[.o (some 135) (.call 34 [.t 130, .t 134]) none, .o (some 129) (.mv (.t 135)) none, .o (some 136) (.ext (.t 129) 0) none, .o (some 137) (.ext (.t 129) 1) none, .o (some 138) (.ext (.t 129) 2) none, .alts [[.o none (.st 6 (.t 18) (.tmp 136)) none, .alts [[.o none (.st 13 (.t 19) (.tmp 137)) none, .o (some 20) (.tk (.tmp 138)) none]]]]]]]]]]]]], [.o (some 19) (.alloc false [.int .i64 0, .int .i64 0, .int .i64 0, .int .i64 0, .str [], .int .i64 0, .int .i64 0, .int .i64 0, .int .i64 0, .int .i64 0, .int .i64 0, .str [], .sl true 0 [] .own]) none, .alts [[.o (some 130) (.ldA 6 [.int .i64, .int .i64, .int .i64, .slice 33, .slice 100, .slice 86] (.t 9)) none, .alts [[.o (some 134) (.ldA 5 [.int .i64, .int .i64, .int .i64, .int .i64, .str] (.t 133)) none, .alts [[.o (some 135) (.call 34 [.t 130, .t 134]) none, .o (some 129) (.mv (.t 135)) none, .o (some 136) (.ext (.t 129) 0) none, .o (some 137) (.ext (.t 129) 1) none, .o (some 138) (.ext (.t 129) 2) none, .alts [[.o (some 18) (.alloc false [.int .i64 0, .int .i64 0, .int .i64 0, .sl true 0 [] .own, .sl true 0 [] .own, .sl true 0 [] .own]) none, .alts [[.o none (.st 6 (.t 18) (.tmp 136)) none, .alts [[.o none (.st 13 (.t 19) (.tmp 137)) none, .o (some 20) (.tk (.tmp 138)) none]]]]]]], [.o (some 18) (.alloc false [.int .i64 0, .int .i64 0, .int .i64 0, .sl true 0 [] .own, .sl true 0 [] .own, .sl true 0 [] .own]) none, .alts [[.o (some 135) (.call 34 [.t 130, .t 134]) none, .o (some 129) (.mv (.t 135)) none, .o (some 136) (.ext (.t 129) 0) none, .o (some 137) (.ext (.t 129) 1) none, .o (some 138) (.ext (.t 129) 2) none, .alts [[.o none (.st 6 (.t 18) (.tmp 136)) none, .alts [[.o none (.st 13 (.t 19) (.tmp 137)) none, .o (some 20) (.tk (.tmp 138)) none]]]]]]]]], [.o (some 18) (.alloc false [.int .i64 0, .int .i64 0, .int .i64 0, .sl true 0 [] .own, .sl true 0 [] .own, .sl true 0 [] .own]) none, .alts [[.o (some 134) (.ldA 5 [.int .i64, .int .i64, .int .i64, .int .i64, .str] (.t 133)) none, .alts [[.o (some 135) (.call 34 [.t 130, .t 134]) none, .o (some 129) (.mv (.t 135)) none, .o (some 136) (.ext (.t 129) 0) none, .o (some 137) (.ext (.t 129) 1) none, .o (some 138) (.ext (.t 129) 2) none, .alts [[.o none (.st 6 (.t 18) (.tmp 136)) none, .alts [[.o none (.st 13 (.t 19) (.tmp 137)) none, .o (some 20) (.tk (.tmp 138)) none]]]]]]]]]]], [.o (some 134) (.ldA 5 [.int .i64, .int .i64, .int .i64, .int .i64, .str] (.t 133)) none, .alts [[.o (some 130) (.ldA 6 [.int .i64, .int .i64, .int .i64, .slice 33, .slice 100, .slice 86] (.t 9)) none, .alts [[.o (some 135) (.call 34 [.t 130, .t 134]) none, .o (some 129) (.mv (.t 135)) none, .o (some 136) (.ext (.t 129) 0) none, .o (some 137) (.ext (.t 129) 1) none, .o (some 138) (.ext (.t 129) 2) none, .alts [[.o (some 18) (.alloc false [.int .i64 0, .int .i64 0, .int .i64 0, .sl true 0 [] .own, .sl true 0 [] .own, .sl true 0 [] .own]) none, .alts [[.o none (.st 6 (.t 18) (.tmp 136)) none, .alts [[.o none (.st 13 (.t 19) (.tmp 137)) none, .o (some 20) (.tk (.tmp 138)) none]]]]]]], [.o (some 18) (.alloc false [.int .i64 0, .int .i64 0, .int .i64 0, .sl true 0 [] .own, .sl true 0 [] .own, .sl true 0 [] .own]) none, .alts [[.o (some 135) (.call 34 [.t 130, .t 134]) none, .o (some 129) (.mv (.t 135)) none, .o (some 136) (.ext (.t 129) 0) none, .o (some 137) (.ext (.t 129) 1) none, .o (some 138) (.ext (.t 129) 2) none, .alts [[.o none (.st 6 (.t 18) (.tmp 136)) none, .alts [[.o none (.st 13 (.t 19) (.tmp 137)) none, .o (some 20) (.tk (.tmp 138)) none]]]]]]]]], [.o (some 18) (.alloc false [.int .i64 0, .int .i64 0, .int .i64 0, .sl true 0 [] .own, .sl true 0 [] .own, .sl true 0 [] .own]) none, .alts [[.o (some 130) (.ldA 6 [.int .i64, .int .i64, .int .i64, .slice 33, .slice 100, .slice 86] (.t 9)) none, .alts [[.o (some 135) (.call 34 [.t 130, .t 134]) none, .o (some 129) (.mv (.t 135)) none, .o (some 136) (.ext (.t 129) 0) none, .o (some 137) (.ext (.t 129) 1) none, .o (some 138) (.ext (.t 129) 2) none, .alts [[.o none (.st 6 (.t 18) (.tmp 136)) none, .alts [[.o none (.st 13 (.t 19) (.tmp 137)) none, .o (some 20) (.tk (.tmp 138)) none]]]]]]]]]]], [.o (some 18) (.alloc false [.int .i64 0, .int .i64 0, .int .i64 0, .sl true 0 [] .own, .sl true 0 [] .own, .sl true 0 [] .own]) none, .alts [[.o (some 130) (.ldA 6 [.int .i64, .int .i64, .int .i64, .slice 33, .slice 100, .slice 86] (.t 9)) none, .alts [[.o (some 134) (.ldA 5 [.int .i64, .int .i64, .int .i64, .int .i64, .str] (.t 133)) none, .alts [[.o (some 135) (.call 34 [.t 130, .t 134]) none, .o (some 129) (.mv (.t 135)) none, .o (some 136) (.ext (.t 129) 0) none, .o (some 137) (.ext (.t 129) 1) none, .o (some 138) (.ext (.t 129) 2) none, .alts [[.o none (.st 6 (.t 18) (.tmp 136)) none, .alts [[.o none (.st 13 (.t 19) (.tmp 137)) none, .o (some 20) (.tk (.tmp 138)) none]]]]]]]]], [.o (some 134) (.ldA 5 [.int .i64, .int .i64, .int .i64, .int .i64, .str] (.t 133)) none, .alts [[.o (some 130) (.ldA 6 [.int .i64, .int .i64, .int .i64, .slice 33, .slice 100, .slice 86] (.t 9)) none, .alts [[.o (some 135) (.call 34 [.t 130, .t 134]) none, .o (some 129) (.mv (.t 135)) none, .o (some 136) (.ext (.t 129) 0) none, .o (some 137) (.ext (.t 129) 1) none, .o (some 138) (.ext (.t 129) 2) none, .alts [[.o none (.st 6 (.t 18) (.tmp 136)) none, .alts [[.o none (.st 13 (.t 19) (.tmp 137)) none, .o (some 20) (.tk (.tmp 138)) none]]]]]]]]]]]]]]]
theorem gc7q0 : compC T {} pl7 (rg (bodyOf Go.Proofs.Try.f7) 0) = g7q0 := by kernel_rfl
theorem go7q0 : okCode {} none pl7 (rg (bodyOf Go.Proofs.Try.f7) 0) = true := by kernel_rfl
theorem rg7q0 (F : List (Nat × AV) → List (List AV) → List AObj → Prop) (h1 : Run C Pg T {} none g7q0 (S d 180 l bx h) (joinK d 180 l [18, 19, 20, 129, 130, 131, 132, 133, 134, 135, 136, 137, 138] F)) (h2 : ∀ l' bx' h', (∀ t, ([18, 19, 20, 129, 130, 131, 132, 133, 134, 135, 136, 137, 138] : List Nat).contains t = false → lk d l' t = lk d l t) → F l' bx' h' → K .normal (S d 180 l' bx' h')) : AWp C Pg none (rg (bodyOf Go.Proofs.Try.f7) 0) (S d 180 l bx h) K := AWp.joinR T_ok mixed {} pl7 go7q0 gc7q0 _ F h1 h2
theorem n7 : Go.Proofs.Try.f7.ntmps = 180 := by kernel_rfl
theorem r7 : Go.Proofs.Try.f7.results.toList = [.tmp 8] := by kernel_rfl
theorem f7 : Pg.funcs[7]? = some Go.Proofs.Try.f7 := by kernel_rfl
theorem run7 {args : List AV} {K : AV → List AObj → Prop} (hv : Run C Pg T {} none b7 (S (.tup []) 180 (enumL 0 args) [] h) (bodyK T Go.Proofs.Try.f7 K)) (hown : args.all (fun a => !a.owns) = true := by first | rfl | simp [AV.owns]) (hl : args.length ≤ 180 := by exact Nat.le_of_ble_eq_true rfl) : ACall C Pg 7 args h K := ACall.of_runR T_ok {} pl7 (c := bodyOf Go.Proofs.Try.f7) f7 (by kernel_rfl) (by kernel_rfl) c7 n7 hown hl hv
noncomputable def b21q0 : List It := [.o (some 6) (.mv (.t 5)) none, .o (some 7) (.mv (.t 0)) none, .o (some 8) (.lens (.t 7)) none, .o (some 9) (.ar .lss (.t 6) (.t 8)) none, .cond (.tmp 9) [] [.exit 0], .block 1 [.o (some 12) (.mv (.t 0)) none, .o (some 13) (.mv (.t 5)) none, .o (some 14) (.ixs 5 [.int .i64, .int .i64, .int .i64, .int .i64, .str] (.t 12) (.t 13)) none, .o (some 15) (.fa 4 (.t 14)) none, .o (some 16) (.ld1 .str (.t 15)) none, .o (some 17) (.lenS (.t 16)) none, .o (some 18) (.ar .gtr (.t 17) (.c (.int .i64 300))) none, .cond (.tmp 18) [.o (some 4) (.tk (.const (.bool false))) none, .ret] []], .o (some 10) (.mv (.t 5)) none, .o (some 11) (.ar .add (.t 10) (.c (.int .i64 1))) none, .o (some 5) (.tk (.tmp 11)) none]
noncomputable def b21 : List It := [.o (some 4) (.tk (.const (.bool false))) none, .o (some 5) (.tk (.const (.int .i64 0))) none, .block 0 [.loop b21q0 (lp (bodyOf Go.Proofs.Try.f21) 0)], .o (some 19) (.mv (.t 0)) none, .o (some 20) (.lens (.t 19)) none, .o (some 21) (.mv (.t 1)) none, .o (some 22) (.ar .leq (.t 20) (.t 21)) none, .o (some 4) (.tk (.tmp 22)) none, .ret]
theorem c21q0 : compR T {} [] (lp (bodyOf Go.Proofs.Try.f21) 0) = b21q0 := by kernel_rfl
theorem lp21q0 {α : Type} (m : Nat) (ls : α → List (Nat × AV)) (bs : α → List (List AV)) (hs : α → List AObj) (φ : α → Prop) (μ : α → Nat) (g0 : α) (h0 : φ g0) (hkeys : ∀ g, (ls g).map (·.1) = (ls g0).map (·.1)) (e1 : allIn d l m (ls g0)) (e2 : bs g0 = bx.take m) (e3 : (bs g0).all (fun cs => AV.lb.lbs m cs) = true) (e4 : h = hs g0) (round : ∀ g, φ g → Run C Pg T {} none b21q0 (S .undef 23 (ls g) (bs g) (hs g)) (nextR d 23 m ls bs hs φ μ g K)) : AWp C Pg none (.loop (lp (bodyOf Go.Proofs.Try.f21) 0)) (S d 23 l bx h) K := AWp.loopQ T_ok {} [] c21q0 m ls bs hs φ μ g0 h0 hkeys e1 e2 e3 e4 round
theorem c21 : compR T {} [] (bodyOf Go.Proofs.Try.f21) = b21 := by kernel_rfl
theorem n21 : Go.Proofs.Try.f21.ntmps = 23 := by kernel_rfl
theorem r21 : Go.Proofs.Try.f21.results.toList = [.tmp 4] := by kernel_rfl
theorem f21 : Pg.funcs[21]? = some Go.Proofs.Try.f21 := by kernel_rfl
theorem run21 {args : List AV} {K : AV → List AObj → Prop} (hv : Run C Pg T {} none b21 (S (.tup []) 23 (enumL 0 args) [] h) (bodyK T Go.Proofs.Try.f21 K)) (hown : args.all (fun a => !a.owns) = true := by first | rfl | simp [AV.owns]) (hl : args.length ≤ 23 := by exact Nat.le_of_ble_eq_true rfl) : ACall C Pg 21 args h K := ACall.of_runR T_ok {} [] (c := bodyOf Go.Proofs.Try.f21) f21 (by kernel_rfl) (by kernel_rfl) c21 n21 hown hl hv
end
end Go.Ab
end
section
/- Do, told in one; timers of different nodes. -/
set_option linter.unusedSimpArgs false
set_option linter.unusedVariables false
set_option maxRecDepth 100000
set_option maxHeartbeats 4000000
namespace Go.Ab

theorem pair_ext {α : Type} {f : α → α → Int} (ht : ∀ p q r, f p q < 0 → f q r < 0 → f p r < 0) (hi : ∀ p, ¬ f p p < 0) : ∀ {l m : List α}, (l.Pairwise fun a b => f a b < 0) → (m.Pairwise fun a b => f a b < 0) → (∀ t, t ∈ l ↔ t ∈ m) → l = m
  | [], [], _, _, _ => rfl
  | [], b :: m, _, _, h => by have := (h b).2 (List.mem_cons_self ..); cases this
  | a :: l, [], _, _, h => by have := (h a).1 (List.mem_cons_self ..); cases this
  | a :: l, b :: m, h1, h2, h => by
    rw [List.pairwise_cons] at h1 h2
    have e : a = b := by
      rcases List.mem_cons.1 ((h a).1 (List.mem_cons_self ..)) with e | e
      · exact e
      · rcases List.mem_cons.1 ((h b).2 (List.mem_cons_self ..)) with e2 | e2
        · exact e2.symm
        · exact absurd (ht _ _ _ (h1.1 b e2) (h2.1 a e)) (hi a)
    subst e
    have hl : a ∉ l := fun hm => hi a (h1.1 a hm)
    have hm : a ∉ m := fun hm => hi a (h2.1 a hm)
    rw [pair_ext ht hi h1.2 h2.2 fun t => ?_]
    constructor
    · intro ht1
      rcases List.mem_cons.1 ((h t).1 (List.mem_cons_of_mem _ ht1)) with e | e
      · subst e; exact absurd ht1 hl
      · exact e
    · intro ht1
      rcases List.mem_cons.1 ((h t).2 (List.mem_cons_of_mem _ ht1)) with e | e
      · subst e; exact absurd ht1 hm
      · exact e
theorem extC {l m : List Link} (h1 : rises cmpC l) (h2 : rises cmpC m) (h : ∀ t, t ∈ l ↔ t ∈ m) : l = m := pair_ext (f := cmpC) (fun p q r a b => cmpC_trans a b) (fun p => cmpC_irr rfl) (riseC.1 h1) (riseC.1 h2) h
section
variable {C : CX} {h : List AObj} {K : AV → List AObj → Prop} {z1 z2 z3 : Bool} {s1 s2 s3 : Nat} {x : Net}
def doOf (x : Net) (a : Act) (y : Net) (sn : Seen) (ee : Int) : Prop := (¬ WF x ∧ y = zN ∧ sn = ⟨noAct, 0, 0, noLetter, []⟩ ∧ ee = 2) ∨ (WF x ∧ y = afterX (stepF x a) x ∧ sn = seenOf (stepF x a) x a ∧ ee = 0)
theorem doOf.lens {x y : Net} {a : Act} {sn : Seen} {ee : Int} (h : doOf x a y sn ee) : y.way.length < 1000000 ∧ y.cuts.length < 1000000 ∧ y.timers.length < 1000000 := by
  rcases h with ⟨_, rfl, _⟩ | ⟨w, rfl, _⟩
  · simp [zN]
  · have w2 := w.after a
    have := w2.fl; have := w2.cl; have := w2.tl
    omega
theorem do34u {a : Act} {y : Net} {sn : Seen} {ee : Int} (hk : Nk z1 s1 z2 s2 z3 s3 x) (hc : x.cuts.length < 1000000) (hr : doOf x a y sn ee)
    (hK : ∀ z1 s1 z2 s2 z3 s3, Nk z1 s1 z2 s2 z3 s3 y → K (.tup [.agg [.int .i64 y.nodes, .int .i64 y.now, .int .i64 y.next, .sl z1 s1 (y.way.map Letter.c) .no, .sl z2 s2 (y.cuts.map Link.c) .no, .sl z3 s3 (y.timers.map Timer.c) .no], .agg (Seen.c sn), .int .i64 ee]) h) : ACall C Pg 34 [.agg [.int .i64 x.nodes, .int .i64 x.now, .int .i64 x.next, .sl z1 s1 (x.way.map Letter.c) .no, .sl z2 s2 (x.cuts.map Link.c) .no, .sl z3 s3 (x.timers.map Timer.c) .no], .agg (Act.c a)] h K := by
  refine do34g hk hc (fun w => ?_) (fun w z1 s1 z2 s2 z3 s3 hk2 => ?_)
  · rcases hr with ⟨_, rfl, rfl, rfl⟩ | ⟨w2, _⟩
    · exact hK _ _ _ _ _ _ nkZ
    · exact absurd w2 w
  · rcases hr with ⟨w2, _⟩ | ⟨_, rfl, rfl, rfl⟩
    · exact absurd w w2
    · exact hK _ _ _ _ _ _ hk2
theorem few21 {l : List Act} {z : Bool} {s : Nat} {n : Int} {t : Tip} (ht : t = .no) (hz : Slk z s 5 l.length) (hl : l.length ≤ 9223372036854775807) (hK : ∀ r, (r = true → (l.length : Int) ≤ n) → K (.bool r) h) : ACall C Pg 21 [.sl z s (l.map Act.c) t, .int .i64 n] h K := by
  subst ht
  refine run21 ?_; simp -implicitDefEqProofs only [b21, r21, ru, ruc, rud, ru5, Nat.reduceLT, Nat.reduceEqDiff, reduceIte, Nat.reduceAdd, Nat.reduceLeDiff, Int.reduceEq, Int.reduceLT, Int.reduceLE, Int.reduceNeg]
  refine lp21q0 (α := Nat) 0 (fun i => [(0, .sl z s (l.map Act.c) .no), (1, .int .i64 n), (5, .int .i64 i)]) (fun _ => []) (fun _ => h)
    (fun i => i ≤ l.length) (fun i => l.length - i) 0 (Nat.zero_le _) (fun _ => rfl) ?_ rfl rfl rfl ?_
  · simp [allIn, lk, AV.lb, AV.lb.lbs]
  · intro i hi
    simp -implicitDefEqProofs only [b21q0, r21, List.length_map, ru, ruc, rud, ru5, Nat.reduceLT, Nat.reduceEqDiff, reduceIte, Nat.reduceAdd, Nat.reduceLeDiff, Int.reduceEq, Int.reduceLT, Int.reduceLE, Int.reduceNeg]
    refine condV_split (fun g => ?_) (fun g => ?_)
    · simp -implicitDefEqProofs only [r21, ru, ruc, rud, ru5, Nat.reduceLT, Nat.reduceEqDiff, reduceIte, Nat.reduceAdd, Nat.reduceLeDiff, Int.reduceEq, Int.reduceLT, Int.reduceLE, Int.reduceNeg]
      simp only [decide_eq_true_eq] at g
      have g' : i < l.length := by omega
      refine ixA hz rfl g' ?_
      simp -implicitDefEqProofs only [r21, Act.c, ru, ruc, rud, ru5, Nat.reduceLT, Nat.reduceEqDiff, reduceIte, Nat.reduceAdd, Nat.reduceLeDiff, Int.reduceEq, Int.reduceLT, Int.reduceLE, Int.reduceNeg]
      refine condV_split (fun g2 => ?_) (fun g2 => ?_)
      · simp -implicitDefEqProofs only [r21, ru, ruc, rud, ru5, Nat.reduceLT, Nat.reduceEqDiff, reduceIte, Nat.reduceAdd, Nat.reduceLeDiff, Int.reduceEq, Int.reduceLT, Int.reduceLE, Int.reduceNeg]
        exact hK false (fun h => by cases h)
      · simp -implicitDefEqProofs only [r21, ru, ruc, rud, ru5, Nat.reduceLT, Nat.reduceEqDiff, reduceIte, Nat.reduceAdd, Nat.reduceLeDiff, Int.reduceEq, Int.reduceLT, Int.reduceLE, Int.reduceNeg]
        refine next_normal (i + 1) (by omega) (by omega) rfl ?_ rfl rfl
        simp [allIn, lk, AV.lb, AV.lb.lbs, wrap_i (show i < 9223372036854775807 by omega)]
    · simp -implicitDefEqProofs only [r21, List.length_map, ru, ruc, rud, ru5, Nat.reduceLT, Nat.reduceEqDiff, reduceIte, Nat.reduceAdd, Nat.reduceLeDiff, Int.reduceEq, Int.reduceLT, Int.reduceLE, Int.reduceNeg]
      exact hK _ (fun h => by simpa using h)
end
end Go.Ab
end
section
/- NetCuts. -/
set_option linter.unusedSimpArgs false
set_option linter.unusedVariables false
set_option maxRecDepth 100000
set_option maxHeartbeats 8000000
namespace Go.Ab

theorem pairOf_comm {a b : Int} (h : a ≠ b) : pairOf b a = pairOf a b := by
  unfold pairOf
  split <;> split <;> first | rfl | omega
section
variable {x : Net} {a b : Int}
theorem pairP_comm (h : pairP x a b) : pairP x b a := ⟨h.2.1, h.1, fun e => h.2.2 e.symm⟩
theorem cut_heal (w : WF x) (hp : pairP x a b) (h : cutE x a b = 0) : healE (cutG x a b) b a = 0 ∧ healG (cutG x a b) b a = x := by
  have hm : pairOf a b ∉ x.cuts := fun hm => by
    unfold cutE at h
    rw [if_neg (fun h => h hp), if_pos hm] at h
    cases h
  have hc := pairOf_comm hp.2.2
  constructor
  · unfold healE
    rw [if_neg (fun h => h (show pairP (cutG x a b) b a from pairP_comm hp)), hc]
    exact if_pos (mem_insAt.2 (.inl rfl))
  · have e : (healG (cutG x a b) b a).cuts = x.cuts := by
      refine extC (filterC (pairC w.cr hm) _) w.cr fun t => ?_
      show t ∈ ((cutG x a b).cuts.filter fun c => !decide (c = pairOf b a)) ↔ _
      rw [hc, List.mem_filter]
      simp only [Bool.not_eq_true', decide_eq_false_iff_not]
      constructor
      · rintro ⟨h1, h2⟩
        exact (mem_insAt.1 h1).resolve_left h2
      · intro h1
        exact ⟨mem_insAt.2 (.inr h1), fun e => hm (e ▸ h1)⟩
    show ({ x with cuts := (healG (cutG x a b) b a).cuts } : Net) = x
    rw [e]
theorem heal_cut (w : WF x) (hp : pairP x a b) (h : cutE x a b ≠ 0) : cutE x a b = 5 ∧ healE x a b = 0 ∧ cutE (healG x a b) b a = 0 ∧ cutG (healG x a b) b a = x := by
  have hm : pairOf a b ∈ x.cuts := Classical.byContradiction fun hm => h (by
    unfold cutE
    rw [if_neg (fun h => h hp), if_neg hm])
  have hc := pairOf_comm hp.2.2
  have hno : pairOf a b ∉ (healG x a b).cuts := fun h1 => by
    have := (List.mem_filter.1 h1).2
    simp at this
  refine ⟨?_, ?_, ?_, ?_⟩
  · unfold cutE
    rw [if_neg (fun h => h hp), if_pos hm]
  · unfold healE
    rw [if_neg (fun h => h hp), if_pos hm]
  · unfold cutE
    rw [if_neg (fun h => h (show pairP (healG x a b) b a from pairP_comm hp)), hc, if_neg hno]
  · have e : (cutG (healG x a b) b a).cuts = x.cuts := by
      refine extC (pairC (filterC w.cr _) (by rw [hc]; exact hno)) w.cr fun t => ?_
      show t ∈ insAt _ _ (pairOf b a) ↔ _
      rw [mem_insAt, hc]
      constructor
      · rintro (rfl | h1)
        · exact hm
        · exact (List.mem_filter.1 h1).1
      · intro h1
        by_cases e : t = pairOf a b
        · exact .inl e
        · exact .inr (List.mem_filter.2 ⟨h1, by simpa using e⟩)
    show ({ x with cuts := (cutG (healG x a b) b a).cuts } : Net) = x
    rw [e]
theorem keep_cut {y : Net} {c : Act} (hk : c.k ≠ 7) {p : Link} (hm : p ∈ y.cuts) : p ∈ (afterX (stepF y c) y).cuts := by
  unfold afterX
  split
  · unfold stepF
    split
    · exact hm
    split
    · exact hm
    split
    · exact hm
    split
    · exact hm
    split
    · exact hm
    split
    · exact mem_insAt.2 (.inr hm)
    split
    · exact hm
    split
    · exact hm
    split
    · exact hm
    · exact hm
  · exact hm
theorem no_deliver {y : Net} {c : Act} (hn : a ≠ b) (hm : pairOf a b ∈ y.cuts) (hk : c.k = 2) (he : (stepF y c).e = 0) :
    ¬ (((stepF y c).l.fr = a ∧ (stepF y c).l.to = b) ∨ ((stepF y c).l.fr = b ∧ (stepF y c).l.to = a)) := by
  have e1 : stepF y c = ⟨deliverE y c.n, loseG y c.n, atL y c.n, []⟩ := by simp [stepF, hk]
  rw [e1] at he ⊢
  simp only at he ⊢
  have hcan : canX y (atL y c.n) = true := by
    unfold deliverE at he
    split at he
    · cases he
    split at he
    · assumption
    · cases he
  simp only [canX, Bool.and_eq_true, Bool.not_eq_true', decide_eq_false_iff_not] at hcan
  rintro (⟨h1, h2⟩ | ⟨h1, h2⟩)
  · rw [h1, h2] at hcan
    exact hcan.2 hm
  · rw [h1, h2, pairOf_comm hn] at hcan
    exact hcan.2 hm
end
section
variable {C : CX} {h : List AObj} {K : AV → List AObj → Prop} {z z1 z2 z3 : Bool} {s s1 s2 s3 : Nat} {x : Net} {a b : Int} {l : List Act}
theorem seen_e9 {x : Net} {a : Act} : (seenOf (stepF x a) x a).e = (stepF x a).e := by
  unfold seenOf
  split
  · rename_i h; exact h.symm
  · rfl
theorem cuts7 (hk : Nk z1 s1 z2 s2 z3 s3 x) (hz : Slk z s 5 l.length) (hl : l.length ≤ 9223372036854775807) (hK : K (.bool true) h) : ACall C Pg 7 [.agg [.int .i64 x.nodes, .int .i64 x.now, .int .i64 x.next, .sl z1 s1 (x.way.map Letter.c) .no, .sl z2 s2 (x.cuts.map Link.c) .no, .sl z3 s3 (x.timers.map Timer.c) .no], .int .i64 a, .int .i64 b, .sl z s (l.map Act.c) .no] h K := by
  refine run7 ?_; simp -implicitDefEqProofs only [b7, r7, ru, ruc, rud, ru5, Nat.reduceLT, Nat.reduceEqDiff, reduceIte, Nat.reduceAdd, Nat.reduceLeDiff, Int.reduceEq, Int.reduceLT, Int.reduceLE, Int.reduceNeg]
  refine small12 hk (fun hs => ?_) (fun hs => ?_)
  · have hcu : x.cuts.length < 1000000 := by have := hs.2.1; omega
    simp -implicitDefEqProofs only [r7, ru, ruc, rud, ru5, Nat.reduceLT, Nat.reduceEqDiff, reduceIte, Nat.reduceAdd, Nat.reduceLeDiff, Int.reduceEq, Int.reduceLT, Int.reduceLE, Int.reduceNeg]
    repeat' (first | (refine guardV_split (fun g => ?_) (fun g => ?_) <;> simp -implicitDefEqProofs only [r7, ru, ruc, rud, ru5, Nat.reduceLT, Nat.reduceEqDiff, reduceIte, Nat.reduceAdd, Nat.reduceLeDiff, Int.reduceEq, Int.reduceLT, Int.reduceLE, Int.reduceNeg]) | (refine condV_split (fun g => ?_) (fun g => ?_) <;> simp -implicitDefEqProofs only [r7, ru, ruc, rud, ru5, Nat.reduceLT, Nat.reduceEqDiff, reduceIte, Nat.reduceAdd, Nat.reduceLeDiff, Int.reduceEq, Int.reduceLT, Int.reduceLE, Int.reduceNeg]) | (refine few21 rfl hz hl (fun r hr => ?_) <;> try simp -implicitDefEqProofs only [r7, ru, ruc, rud, ru5, Nat.reduceLT, Nat.reduceEqDiff, reduceIte, Nat.reduceAdd, Nat.reduceLeDiff, Int.reduceEq, Int.reduceLT, Int.reduceLE, Int.reduceNeg]) | (refine check19c hk hcu (fun r2 hr2 => ?_) <;> try simp -implicitDefEqProofs only [r7, ru, ruc, rud, ru5, Nat.reduceLT, Nat.reduceEqDiff, reduceIte, Nat.reduceAdd, Nat.reduceLeDiff, Int.reduceEq, Int.reduceLT, Int.reduceLE, Int.reduceNeg]) | (refine sane13 ?_ <;> try simp -implicitDefEqProofs only [r7, ru, ruc, rud, ru5, Nat.reduceLT, Nat.reduceEqDiff, reduceIte, Nat.reduceAdd, Nat.reduceLeDiff, Int.reduceEq, Int.reduceLT, Int.reduceLE, Int.reduceNeg]))
    all_goals try exact hK
    have w : WF x := by
      have g9 : (!decide ((if r2 = true then (0 : Int) else 2) = 0)) = false := by assumption
      cases r2 with
      | true => exact hr2.1 rfl
      | false => simp at g9
    have hp : pairP x a b := by
      simp only [pairP, nodeOk]
      simp only [Bool.not_eq_true', Bool.not_eq_false', decide_eq_true_eq, decide_eq_false_iff_not] at *
      omega
    have hl60 : l.length ≤ 60 := by
      have g8 : (!r) = false := by assumption
      have := hr (by simpa using g8)
      omega
    by_cases h5 : cutE x a b = 0
    · obtain ⟨g1, g2⟩ := cut_heal w hp h5
      have wy := w.cut h5
      refine cut23u (y := cutG x a b) (ee := 0) hk hcu (.inr (.inr ⟨w, h5, rfl, rfl⟩)) fun p1 q1 p2 q2 p3 q3 hk1 => ?_
      simp -implicitDefEqProofs only [r7, ru, ruc, rud, ru5, Nat.reduceLT, Nat.reduceEqDiff, reduceIte, Nat.reduceAdd, Nat.reduceLeDiff, Int.reduceEq, Int.reduceLT, Int.reduceLE, Int.reduceNeg]
      refine heal25u (x := cutG x a b) (y := x) (ee := 0) hk1 wy.cb (.inr (.inr ⟨wy, g1, rfl, g2.symm⟩)) fun p4 q4 p5 q5 p6 q6 hk2 => ?_
      simp -implicitDefEqProofs only [r7, ru, ruc, rud, ru5, Nat.reduceLT, Nat.reduceEqDiff, reduceIte, Nat.reduceAdd, Nat.reduceLeDiff, Int.reduceEq, Int.reduceLT, Int.reduceLE, Int.reduceNeg]
      refine same18 hk2 hk (by have := w.fl; omega) w.cb (by have := w.tl; omega) ?_
      simp -implicitDefEqProofs only [r7, ru, ruc, rud, ru5, Nat.reduceLT, Nat.reduceEqDiff, reduceIte, Nat.reduceAdd, Nat.reduceLeDiff, Int.reduceEq, Int.reduceLT, Int.reduceLE, Int.reduceNeg]
      have hpm : pairOf a b ∈ (cutG x a b).cuts := mem_insAt.2 (.inl rfl)
      have ht : ∀ (ts : List Timer), (accU 3 Timer.c ts).un = accU 3 Timer.c ts ∧ (accU 3 Timer.c ts).nol = true ∧ (accU 3 Timer.c ts).one = true ∧ (accU 3 Timer.c ts).owns = false ∧ (accU 3 Timer.c ts).cells = [accU 3 Timer.c ts] ∧ (accU 3 Timer.c ts).scells = [accU 3 Timer.c ts] := fun _ => accU_all
      refine lp7q0 (α := Nat × Net × (Bool × Nat × Bool × Nat × Bool × Nat)) 3 (fun g => [(1, .int .i64 a), (2, .int .i64 b), (3, .sl z s (l.map Act.c) .no), (4, .lptr 0 0), (9, .lptr 1 0), (17, .int .i64 g.1)])
        (fun g => [[.int .i64 x.nodes, .int .i64 x.now, .int .i64 x.next, .sl z1 s1 (x.way.map Letter.c) .no, .sl z2 s2 (x.cuts.map Link.c) .no, .sl z3 s3 (x.timers.map Timer.c) .no], [.int .i64 g.2.1.nodes, .int .i64 g.2.1.now, .int .i64 g.2.1.next, .sl g.2.2.1 g.2.2.2.1 (g.2.1.way.map Letter.c) .no, .sl g.2.2.2.2.1 g.2.2.2.2.2.1 (g.2.1.cuts.map Link.c) .no, .sl g.2.2.2.2.2.2.1 g.2.2.2.2.2.2.2 (g.2.1.timers.map Timer.c) .no], [.int .i64 x.nodes, .int .i64 x.now, .int .i64 x.next, .sl p4 q4 (x.way.map Letter.c) .no, .sl p5 q5 (x.cuts.map Link.c) .no, .sl p6 q6 (x.timers.map Timer.c) .no]]) (fun _ => h)
        (fun g => g.1 ≤ l.length ∧ WF g.2.1 ∧ pairOf a b ∈ g.2.1.cuts ∧ Nk g.2.2.1 g.2.2.2.1 g.2.2.2.2.1 g.2.2.2.2.2.1 g.2.2.2.2.2.2.1 g.2.2.2.2.2.2.2 g.2.1) (fun g => l.length - g.1) (0, cutG x a b, (p1, q1, p2, q2, p3, q3)) ⟨Nat.zero_le _, wy, hpm, hk1⟩ (fun _ => rfl) ?_ rfl rfl rfl ?_
      · simp [allIn, lk, AV.lb, AV.lb.lbs]
      · rintro ⟨i, Y, f1, f2, f3, f4, f5, f6⟩ ⟨hi, wY, hpY, hkY⟩
        simp only at hi wY hpY hkY
        simp -implicitDefEqProofs only [b7q0, r7, List.length_map, ru, ruc, rud, ru5, Nat.reduceLT, Nat.reduceEqDiff, reduceIte, Nat.reduceAdd, Nat.reduceLeDiff, Int.reduceEq, Int.reduceLT, Int.reduceLE, Int.reduceNeg]
        refine condV_split (fun g => ?_) (fun g => ?_)
        · simp -implicitDefEqProofs only [r7, ru, ruc, rud, ru5, Nat.reduceLT, Nat.reduceEqDiff, reduceIte, Nat.reduceAdd, Nat.reduceLeDiff, Int.reduceEq, Int.reduceLT, Int.reduceLE, Int.reduceNeg]
          simp only [decide_eq_true_eq] at g
          have g' : i < l.length := by omega
          refine ixA hz rfl g' ?_
          simp -implicitDefEqProofs only [r7, Act.c, ru, ruc, rud, ru5, Nat.reduceLT, Nat.reduceEqDiff, reduceIte, Nat.reduceAdd, Nat.reduceLeDiff, Int.reduceEq, Int.reduceLT, Int.reduceLE, Int.reduceNeg]
          refine condV_split (fun gk => ?_) (fun gk => ?_)
          · simp -implicitDefEqProofs only [r7, ru, ruc, rud, ru5, Nat.reduceLT, Nat.reduceEqDiff, reduceIte, Nat.reduceAdd, Nat.reduceLeDiff, Int.reduceEq, Int.reduceLT, Int.reduceLE, Int.reduceNeg]
            refine next_normal (i + 1, Y, (f1, f2, f3, f4, f5, f6)) ⟨g', wY, hpY, hkY⟩ (by simp only; omega) rfl ?_ rfl rfl
            simp [allIn, lk, AV.lb, AV.lb.lbs, wrap_i (show i < 9223372036854775807 by omega)]
          · obtain ⟨Y', sn, hr9⟩ : ∃ Y' sn, doOf Y l[i] Y' sn 0 := ⟨_, _, .inr ⟨wY, rfl, rfl, rfl⟩⟩
            have hgk : l[i].k ≠ 7 := by simpa using gk
            have hY' : WF Y' ∧ pairOf a b ∈ Y'.cuts ∧ (sn.e = 0 → l[i].k = 2 → ¬ ((sn.l.fr = a ∧ sn.l.to = b) ∨ (sn.l.fr = b ∧ sn.l.to = a))) := by
              rcases hr9 with ⟨_, _, _, r⟩ | ⟨_, rfl, rfl, _⟩
              · cases r
              · refine ⟨wY.after _, keep_cut hgk hpY, fun h1 h2 => ?_⟩
                rw [seen_e9] at h1
                have h3 := no_deliver hp.2.2 hpY h2 h1
                unfold seenOf
                rw [if_pos h1]
                exact h3
            simp -implicitDefEqProofs only [r7, ru, ruc, rud, ru5, Nat.reduceLT, Nat.reduceEqDiff, reduceIte, Nat.reduceAdd, Nat.reduceLeDiff, Int.reduceEq, Int.reduceLT, Int.reduceLE, Int.reduceNeg]
            refine rg7q0 (fun l' bx' h' => h' = h ∧ lk .undef l' 20 = .int .i64 0 ∧ ∃ u1 v1 u2 v2 u3 v3, Nk u1 v1 u2 v2 u3 v3 Y' ∧ ((lk .undef l' 18 = .lptr 3 0 ∧ lk .undef l' 19 = .lptr 4 0 ∧ bx' = [[.int .i64 x.nodes, .int .i64 x.now, .int .i64 x.next, .sl z1 s1 (x.way.map Letter.c) .no, .sl z2 s2 (x.cuts.map Link.c) .no, .sl z3 s3 (x.timers.map Timer.c) .no], [.int .i64 Y.nodes, .int .i64 Y.now, .int .i64 Y.next, .sl f1 f2 (Y.way.map Letter.c) .no, .sl f3 f4 (Y.cuts.map Link.c) .no, .sl f5 f6 (Y.timers.map Timer.c) .no], [.int .i64 x.nodes, .int .i64 x.now, .int .i64 x.next, .sl p4 q4 (x.way.map Letter.c) .no, .sl p5 q5 (x.cuts.map Link.c) .no, .sl p6 q6 (x.timers.map Timer.c) .no], [.int .i64 Y'.nodes, .int .i64 Y'.now, .int .i64 Y'.next, .sl u1 v1 (Y'.way.map Letter.c) .no, .sl u2 v2 (Y'.cuts.map Link.c) .no, .sl u3 v3 (Y'.timers.map Timer.c) .no], Seen.c sn]) ∨ (lk .undef l' 18 = .lptr 4 0 ∧ lk .undef l' 19 = .lptr 3 0 ∧ bx' = [[.int .i64 x.nodes, .int .i64 x.now, .int .i64 x.next, .sl z1 s1 (x.way.map Letter.c) .no, .sl z2 s2 (x.cuts.map Link.c) .no, .sl z3 s3 (x.timers.map Timer.c) .no], [.int .i64 Y.nodes, .int .i64 Y.now, .int .i64 Y.next, .sl f1 f2 (Y.way.map Letter.c) .no, .sl f3 f4 (Y.cuts.map Link.c) .no, .sl f5 f6 (Y.timers.map Timer.c) .no], [.int .i64 x.nodes, .int .i64 x.now, .int .i64 x.next, .sl p4 q4 (x.way.map Letter.c) .no, .sl p5 q5 (x.cuts.map Link.c) .no, .sl p6 q6 (x.timers.map Timer.c) .no], Seen.c sn, [.int .i64 Y'.nodes, .int .i64 Y'.now, .int .i64 Y'.next, .sl u1 v1 (Y'.way.map Letter.c) .no, .sl u2 v2 (Y'.cuts.map Link.c) .no, .sl u3 v3 (Y'.timers.map Timer.c) .no]]))) ?_ ?_
            · simp -implicitDefEqProofs only [g7q0, ru, ruc, rud, ru5, Nat.reduceLT, Nat.reduceEqDiff, reduceIte, Nat.reduceAdd, Nat.reduceLeDiff, Int.reduceEq, Int.reduceLT, Int.reduceLE, Int.reduceNeg]
              repeat' (first
                | (refine ixA hz rfl g' ?_; simp -implicitDefEqProofs only [Act.c, ru, ruc, rud, ru5, Nat.reduceLT, Nat.reduceEqDiff, reduceIte, Nat.reduceAdd, Nat.reduceLeDiff, Int.reduceEq, Int.reduceLT, Int.reduceLE, Int.reduceNeg])
                | (refine do34u (a := l[i]) hkY wY.cb hr9 (fun u1 v1 u2 v2 u3 v3 hk9 => ?_); simp -implicitDefEqProofs only [Seen.c, seenC, ht, ru, ruc, rud, ru5, Nat.reduceLT, Nat.reduceEqDiff, reduceIte, Nat.reduceAdd, Nat.reduceLeDiff, Int.reduceEq, Int.reduceLT, Int.reduceLE, Int.reduceNeg])
                | (refine And.intro ?_ ?_))
              all_goals refine join_n (by repeat (first | exact Sk.refl | refine Sk.cons rfl ?_)) ⟨rfl, rfl, u1, v1, u2, v2, u3, v3, hk9, ?_⟩
              all_goals first
                | exact .inl ⟨rfl, rfl, rfl⟩
                | exact .inr ⟨rfl, rfl, rfl⟩
            · rintro l' bx' h' hl9 ⟨rfl, e20, u1, v1, u2, v2, u3, v3, hk9, hc9⟩
              have e1 := hl9 1 rfl
              have e2 := hl9 2 rfl
              have e3 := hl9 3 rfl
              have e4 := hl9 4 rfl
              have e9 := hl9 9 rfl
              have e17 := hl9 17 rfl
              simp [lk] at e1 e2 e3 e4 e9 e17
              rcases hc9 with ⟨e18, e19, rfl⟩ | ⟨e18, e19, rfl⟩
              all_goals (
                simp -implicitDefEqProofs only [r7, e1, e2, e3, e4, e9, e17, e18, e19, e20, Seen.c, seenC, ht, ru, ruc, rud, ru5, Nat.reduceLT, Nat.reduceEqDiff, reduceIte, Nat.reduceAdd, Nat.reduceLeDiff, Int.reduceEq, Int.reduceLT, Int.reduceLE, Int.reduceNeg]
                repeat' (first | (refine guardV_split (fun g => ?_) (fun g => ?_) <;> simp -implicitDefEqProofs only [e1, e2, e3, e4, e9, e17, e18, e19, e20, Act.c, r7, ru, ruc, rud, ru5, Nat.reduceLT, Nat.reduceEqDiff, reduceIte, Nat.reduceAdd, Nat.reduceLeDiff, Int.reduceEq, Int.reduceLT, Int.reduceLE, Int.reduceNeg]) | (refine condV_split (fun g => ?_) (fun g => ?_) <;> simp -implicitDefEqProofs only [e1, e2, e3, e4, e9, e17, e18, e19, e20, Act.c, r7, ru, ruc, rud, ru5, Nat.reduceLT, Nat.reduceEqDiff, reduceIte, Nat.reduceAdd, Nat.reduceLeDiff, Int.reduceEq, Int.reduceLT, Int.reduceLE, Int.reduceNeg]) | (refine ixA hz rfl g' ?_ <;> try simp -implicitDefEqProofs only [e1, e2, e3, e4, e9, e17, e18, e19, e20, Act.c, r7, ru, ruc, rud, ru5, Nat.reduceLT, Nat.reduceEqDiff, reduceIte, Nat.reduceAdd, Nat.reduceLeDiff, Int.reduceEq, Int.reduceLT, Int.reduceLE, Int.reduceNeg]))
                all_goals (try simp only [decide_eq_true_eq, decide_eq_false_iff_not, Bool.not_eq_true', Bool.not_eq_false', if_true, Bool.false_eq_true, if_false] at *)
                all_goals first
                  | (refine next_normal (i + 1, Y', (u1, v1, u2, v2, u3, v3)) ⟨g', hY'.1, hY'.2.1, hk9⟩ (by simp only; omega) rfl ?_ rfl rfl
                     simp [allIn, lk, AV.lb, AV.lb.lbs, e1, e2, e3, e4, e9, e17, wrap_i (show i < 9223372036854775807 by omega)])
                  | (exfalso
                     have h7 := hY'.2.2 (by assumption) (by assumption)
                     omega))
        · simp -implicitDefEqProofs only [r7, ru, ruc, rud, ru5, Nat.reduceLT, Nat.reduceEqDiff, reduceIte, Nat.reduceAdd, Nat.reduceLeDiff, Int.reduceEq, Int.reduceLT, Int.reduceLE, Int.reduceNeg]
          refine sane13 ?_
          simp -implicitDefEqProofs only [r7, ru, ruc, rud, ru5, Nat.reduceLT, Nat.reduceEqDiff, reduceIte, Nat.reduceAdd, Nat.reduceLeDiff, Int.reduceEq, Int.reduceLT, Int.reduceLE, Int.reduceNeg]
          exact hK
    · obtain ⟨g0, g1, g2, g3⟩ := heal_cut w hp h5
      have wy := w.heal (a := a) (b := b)
      refine cut23u (y := zN) (ee := 5) hk hcu (.inr (.inl ⟨w, h5, g0.symm, rfl⟩)) fun p1 q1 p2 q2 p3 q3 hk1 => ?_
      simp -implicitDefEqProofs only [r7, ru, ruc, rud, ru5, Nat.reduceLT, Nat.reduceEqDiff, reduceIte, Nat.reduceAdd, Nat.reduceLeDiff, Int.reduceEq, Int.reduceLT, Int.reduceLE, Int.reduceNeg]
      refine heal25u (y := healG x a b) (ee := 0) hk hcu (.inr (.inr ⟨w, g1, rfl, rfl⟩)) fun p4 q4 p5 q5 p6 q6 hk2 => ?_
      simp -implicitDefEqProofs only [r7, ru, ruc, rud, ru5, Nat.reduceLT, Nat.reduceEqDiff, reduceIte, Nat.reduceAdd, Nat.reduceLeDiff, Int.reduceEq, Int.reduceLT, Int.reduceLE, Int.reduceNeg]
      refine cut23u (x := healG x a b) (y := x) (ee := 0) hk2 wy.cb (.inr (.inr ⟨wy, g2, rfl, g3.symm⟩)) fun p7 q7 p8 q8 p9 q9 hk3 => ?_
      simp -implicitDefEqProofs only [r7, ru, ruc, rud, ru5, Nat.reduceLT, Nat.reduceEqDiff, reduceIte, Nat.reduceAdd, Nat.reduceLeDiff, Int.reduceEq, Int.reduceLT, Int.reduceLE, Int.reduceNeg]
      refine sane13 ?_
      simp -implicitDefEqProofs only [r7, ru, ruc, rud, ru5, Nat.reduceLT, Nat.reduceEqDiff, reduceIte, Nat.reduceAdd, Nat.reduceLeDiff, Int.reduceEq, Int.reduceLT, Int.reduceLE, Int.reduceNeg]
      refine same18 hk3 hk (by have := w.fl; omega) w.cb (by have := w.tl; omega) ?_
      simp -implicitDefEqProofs only [r7, ru, ruc, rud, ru5, Nat.reduceLT, Nat.reduceEqDiff, reduceIte, Nat.reduceAdd, Nat.reduceLeDiff, Int.reduceEq, Int.reduceLT, Int.reduceLE, Int.reduceNeg]
      exact hK
  · simp -implicitDefEqProofs only [r7, ru, ruc, rud, ru5, Nat.reduceLT, Nat.reduceEqDiff, reduceIte, Nat.reduceAdd, Nat.reduceLeDiff, Int.reduceEq, Int.reduceLT, Int.reduceLE, Int.reduceNeg]
    refine sane13 ?_
    simp -implicitDefEqProofs only [r7, ru, ruc, rud, ru5, Nat.reduceLT, Nat.reduceEqDiff, reduceIte, Nat.reduceAdd, Nat.reduceLeDiff, Int.reduceEq, Int.reduceLT, Int.reduceLE, Int.reduceNeg]
    exact hK
end
end Go.Ab
end
