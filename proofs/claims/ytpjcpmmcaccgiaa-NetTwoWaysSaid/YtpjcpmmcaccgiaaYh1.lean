/- One text out of several: see the remark at the head of each part. -/
import Derived.Test.YtpjcpmmcaccgiaaBs7
set_option linter.all false
section
set_option maxRecDepth 100000
namespace Go.Ab
def ann36 : Ann := { heap := [3] }
end Go.Ab
end
section
set_option linter.unusedSimpArgs false
set_option linter.unusedVariables false
set_option maxRecDepth 100000
set_option maxHeartbeats 4000000
namespace Go.Ab

section
variable {P : Program} {m t e : Nat} {avs : List AV}
end
section
variable {m : Nat} {avs : List AV}
open Go.Proofs
theorem isAct (h : isT Pg (m + 2) 53 avs) : ∃ l : Act, avs = Act.c l ∧ l.inI := by
  have := isT_struct Try.underlying53 h
  obtain ⟨a1, r1, rfl, h1, this⟩ := isT_f this
  obtain ⟨a2, r2, rfl, h2, this⟩ := isT_f this
  obtain ⟨a3, r3, rfl, h3, this⟩ := isT_f this
  obtain ⟨a4, r4, rfl, h4, this⟩ := isT_f this
  obtain ⟨a5, r5, rfl, h5, this⟩ := isT_f this
  obtain rfl := isT_n this
  obtain ⟨n1, rfl, w1⟩ := isT_int u3 h1
  obtain ⟨n2, rfl, w2⟩ := isT_int u3 h2
  obtain ⟨n3, rfl, w3⟩ := isT_int u3 h3
  obtain ⟨n4, rfl, w4⟩ := isT_int u3 h4
  obtain ⟨s, rfl, _⟩ := isT_str u9 h5
  exact ⟨⟨n1, n2, n3, n4, s⟩, rfl, w1, w2, w3, w4⟩
end
end Go.Ab
end
section
/- The laws' arguments: slices. -/
set_option linter.unusedSimpArgs false
set_option linter.unusedVariables false
namespace Go.Ab
end Go.Ab
end
section
set_option linter.unusedSimpArgs false
set_option linter.unusedVariables false
set_option maxRecDepth 100000
set_option maxHeartbeats 4000000
namespace Go.Ab

section
variable {α : Type}
end
theorem cmpT_irr {p q : Timer} (e : p = q) : ¬ cmpT p q < 0 := by
  subst e
  rw [cmpT_lt]
  omega
end Go.Ab
end
section
set_option maxRecDepth 100000
namespace Go.Ab
section
variable {C : CX} {d : AV} {l : List (Nat × AV)} {bx bx' : List (List AV)} {h h' : List AObj} {s : ASt} {K : Exit → ASt → Prop}
noncomputable def b36 : List It := [.o (some 2) (.box false (.t 0)) none, .o (some 3) (.box true (.t 1)) none, .o (some 4) (.alloc false [.int .i64 0, .int .i64 0, .int .i64 0, .sl true 0 [] .own, .sl true 0 [] .own, .sl true 0 [] .own]) none, .o (some 5) (.tk (.const (.int .i64 0))) none, .o (some 6) (.ldA 6 [.int .i64, .int .i64, .int .i64, .slice 33, .slice 100, .slice 86] (.t 2)) none, .o (some 7) (.mkf 77 [.t 3]) none, .o (some 8) (.call 58 [.t 6, .t 7]) none, .o (some 9) (.ext (.t 8) 0) none, .o (some 10) (.ext (.t 8) 1) none, .o none (.st 6 (.t 4) (.tmp 9)) none, .o (some 5) (.tk (.tmp 10)) none, .ret]
theorem c36 : compR T ann36 [] (bodyOf Go.Proofs.Try.f36) = b36 := by kernel_rfl
theorem n36 : Go.Proofs.Try.f36.ntmps = 11 := by kernel_rfl
theorem r36 : Go.Proofs.Try.f36.results.toList = [.cell 4 26, .tmp 5] := by kernel_rfl
theorem f36 : Pg.funcs[36]? = some Go.Proofs.Try.f36 := by kernel_rfl
theorem run36 {args : List AV} {K : AV → List AObj → Prop} (hv : Run C Pg T ann36 none b36 (S (.tup []) 11 (enumL 0 args) [] h) (bodyK T Go.Proofs.Try.f36 K)) (hown : args.all (fun a => !a.owns) = true := by first | rfl | simp [AV.owns]) (hl : args.length ≤ 11 := by exact Nat.le_of_ble_eq_true rfl) : ACall C Pg 36 args h K := ACall.of_runR T_ok ann36 [] (c := bodyOf Go.Proofs.Try.f36) f36 (by kernel_rfl) (by kernel_rfl) c36 n36 hown hl hv
noncomputable def b77 : List It := [.o (some 3) (.tk (.const (.int .i64 0))) none, .o (some 7) (.mv (.t 0)) none, .o (some 8) (.ld1 (.int .i64) (.t 1)) none, .o (some 9) (.call 78 [.t 7, .t 8]) none, .o (some 6) (.mv (.t 9)) none, .o (some 10) (.ext (.t 6) 0) none, .o (some 11) (.ext (.t 6) 1) none, .o (some 4) (.alloc false [.int .i64 0, .int .i64 0, .int .i64 0, .int .i64 0, .str []]) none, .o none (.st 5 (.t 4) (.tmp 10)) none, .o (some 5) (.tk (.tmp 11)) none, .o (some 12) (.mv (.t 5)) none, .o (some 3) (.tk (.tmp 12)) none, .ret]
theorem c77 : compR T {} [] (bodyOf Go.Proofs.Try.f77) = b77 := by kernel_rfl
theorem n77 : Go.Proofs.Try.f77.ntmps = 13 := by kernel_rfl
theorem r77 : Go.Proofs.Try.f77.results.toList = [.tmp 3] := by kernel_rfl
theorem f77 : Pg.funcs[77]? = some Go.Proofs.Try.f77 := by kernel_rfl
theorem run77 {args : List AV} {K : AV → List AObj → Prop} (hv : Run C Pg T {} none b77 (S (.tup []) 13 (enumL 0 args) [] h) (bodyK T Go.Proofs.Try.f77 K)) (hown : args.all (fun a => !a.owns) = true := by first | rfl | simp [AV.owns]) (hl : args.length ≤ 13 := by exact Nat.le_of_ble_eq_true rfl) : ACall C Pg 77 args h K := ACall.of_runR T_ok {} [] (c := bodyOf Go.Proofs.Try.f77) f77 (by kernel_rfl) (by kernel_rfl) c77 n77 hown hl hv
end
end Go.Ab
end
section
set_option linter.unusedSimpArgs false
set_option linter.unusedVariables false
set_option maxRecDepth 100000
set_option maxHeartbeats 4000000
namespace Go.Ab

section
variable {C : CX} {h : List AObj} {K : AV → List AObj → Prop} {a b nd tg n : Int} {x : Net} {A B D : AV} {cid : Nat} {z1 z2 z3 : Bool} {s1 s2 s3 : Nat}
theorem lose36g (hk : Nk z1 s1 z2 s2 z3 s3 x) (hc : x.cuts.length < 1000000)
    (h1 : ¬ WF x → K (.tup [zeroN, .int .i64 2]) h)
    (h2 : WF x → loseE x a ≠ 0 → K (.tup [zeroN, .int .i64 (loseE x a)]) h)
    (h3 : WF x → loseE x a = 0 → ∀ z1 s1 z2 s2 z3 s3, Nk z1 s1 z2 s2 z3 s3 (loseG x a) → K (.tup [.agg [.int .i64 (loseG x a).nodes, .int .i64 (loseG x a).now, .int .i64 (loseG x a).next, .sl z1 s1 ((loseG x a).way.map Letter.c) .no, .sl z2 s2 ((loseG x a).cuts.map Link.c) .no, .sl z3 s3 ((loseG x a).timers.map Timer.c) .no], .int .i64 0]) h) :
    ACall C Pg 36 [.agg [.int .i64 x.nodes, .int .i64 x.now, .int .i64 x.next, .sl z1 s1 (x.way.map Letter.c) .no, .sl z2 s2 (x.cuts.map Link.c) .no, .sl z3 s3 (x.timers.map Timer.c) .no], .int .i64 a] h K := by
  refine ACall.closed (by simp [AV.deep.deeps, AV.deep, deep_L, deep_C, deep_T]) (ACall.weaken (ACall.freeze (ACall.freeze (ACall.freeze ?_))))
  refine run36 ?_
  simp -implicitDefEqProofs [b36, r36, rue, wrC, readC, -List.getD_eq_getElem?_getD, ru, ruc, rud, laid]
  refine changed58 hk hc rfl (fun hw => ?_) (fun hw cid A B D g hcid hge hch => ?_)
  · simp -implicitDefEqProofs [r36, zeroN, rue, wrC, readC, -List.getD_eq_getElem?_getD, ru, ruc, rud, laid]
    exact frz3 ⟨rfl, rfl, h1 hw⟩
  · have ha := hch.all
    refine run77 ?_
    simp -implicitDefEqProofs [b77, r77, ha, rue, wrC, readC, -List.getD_eq_getElem?_getD, ru, ruc, rud, laid]
    refine (lose78g hw hch fun h' y A' l hc2 hy0 => have hy : loseE x a = 0 → y = loseG x a := fun h0 => (hy0 h0).1;  ?_)
    simp -implicitDefEqProofs [r77, Letter.c, rue, wrC, readC, -List.getD_eq_getElem?_getD, ru, ruc, rud, laid]
    refine ⟨loseE x a, y, A', B, D, rfl, hc2, fun h0 => ?_, fun h0 => ?_⟩
    · simp -implicitDefEqProofs [r36, zeroN, rue, wrC, readC, -List.getD_eq_getElem?_getD, ru, ruc, rud, laid]
      exact frz3 ⟨rfl, rfl, h2 hw h0⟩
    · have e := hy h0
      subst e
      have ha2 := hc2.all
      simp -implicitDefEqProofs [r36, ha2, rue, wrC, readC, -List.getD_eq_getElem?_getD, ru, ruc, rud, laid]
      exact fin (K := fun r => K r h) hc2 (rest := [_]) rfl (fun _ _ => rfl) rfl fun z1 s1 z2 s2 z3 s3 hk2 => h3 hw h0 z1 s1 z2 s2 z3 s3 hk2

theorem deliver35g (hk : Nk z1 s1 z2 s2 z3 s3 x) (hc : x.cuts.length < 1000000)
    (h1 : ¬ WF x → K (.tup [zeroN, zeroL, .int .i64 2]) h)
    (h2 : WF x → deliverE x a ≠ 0 → K (.tup [zeroN, zeroL, .int .i64 (deliverE x a)]) h)
    (h3 : WF x → deliverE x a = 0 → ∀ z1 s1 z2 s2 z3 s3, Nk z1 s1 z2 s2 z3 s3 (loseG x a) → K (.tup [.agg [.int .i64 (loseG x a).nodes, .int .i64 (loseG x a).now, .int .i64 (loseG x a).next, .sl z1 s1 ((loseG x a).way.map Letter.c) .no, .sl z2 s2 ((loseG x a).cuts.map Link.c) .no, .sl z3 s3 ((loseG x a).timers.map Timer.c) .no], .agg (Letter.c (atL x a)), .int .i64 0]) h) :
    ACall C Pg 35 [.agg [.int .i64 x.nodes, .int .i64 x.now, .int .i64 x.next, .sl z1 s1 (x.way.map Letter.c) .no, .sl z2 s2 (x.cuts.map Link.c) .no, .sl z3 s3 (x.timers.map Timer.c) .no], .int .i64 a] h K := by
  refine deliver35 hk hc h1 (fun w h0 => ?_) (fun w j hj h0 hcan => ?_) (fun w j hj h0 hcan => ?_)
  · have he : deliverE x a = 4 := if_pos h0
    have := h2 w (by rw [he]; decide)
    rwa [he] at this
  · subst h0
    have he : deliverE x j = 6 := by
      simp only [deliverE, atL_eq hj, hcan]
      rw [if_neg (fun h2 => h2 ⟨by omega, by omega⟩)]
      rfl
    have := h2 w (by rw [he]; decide)
    rwa [he] at this
  · subst h0
    have he : deliverE x j = 0 := by
      simp only [deliverE, atL_eq hj, hcan]
      rw [if_neg (fun h2 => h2 ⟨by omega, by omega⟩)]
      rfl
    have h4 := h3 w he
    rw [atL_eq hj] at h4
    have e : loseG x (j : Int) = dropX x j := by simp [dropX, loseG]
    rw [e] at h4
    exact h4
end
end Go.Ab
end
section
set_option linter.unusedSimpArgs false
set_option linter.unusedVariables false
set_option maxRecDepth 100000
set_option maxHeartbeats 4000000
namespace Go.Ab

theorem resOf.ex (x : Net) (e : Int) (g : Net) : ∃ y ee, resOf x e g y ee := by
  by_cases w : WF x
  · by_cases h : e = 0
    · exact ⟨g, 0, .inr (.inr ⟨w, h, rfl, rfl⟩)⟩
    · exact ⟨zN, e, .inr (.inl ⟨w, h, rfl, rfl⟩)⟩
  · exact ⟨zN, 2, .inl ⟨w, rfl, rfl⟩⟩
section
variable {C : CX} {h : List AObj} {K : AV → List AObj → Prop} {a b nd tg n ee : Int} {z1 z2 z3 : Bool} {s1 s2 s3 : Nat} {x y : Net}
end
end Go.Ab
end
section
/- The program's functions as lists of items. -/
set_option maxRecDepth 100000
namespace Go.Ab
section
variable {C : CX} {d : AV} {l : List (Nat × AV)} {bx bx' : List (List AV)} {h h' : List AObj} {s : ASt} {K : Exit → ASt → Prop}
noncomputable def b8 : List It := [.o (some 4) (.box false (.t 0)) none, .o (some 6) (.box false (.t 2)) none, .o (some 7) (.box false (.t 3)) none, .o (some 8) (.tk (.const (.bool false))) none, .o (some 23) (.ldA 6 [.int .i64, .int .i64, .int .i64, .slice 33, .slice 100, .slice 86] (.t 4)) none, .o (some 24) (.call 12 [.t 23]) none, .o (some 25) (.not (.t 24)) none, .cond (.tmp 25) [.o (some 26) (.call 13 []) none, .o (some 8) (.tk (.tmp 26)) none, .ret] [], .o (some 28) (.ldA 6 [.int .i64, .int .i64, .int .i64, .slice 33, .slice 100, .slice 86] (.t 4)) none, .o (some 29) (.mv (.t 1)) none, .o (some 30) (.call 35 [.t 28, .t 29]) none, .o (some 27) (.mv (.t 30)) none, .o (some 31) (.ext (.t 27) 0) none, .o (some 32) (.ext (.t 27) 1) none, .o (some 33) (.ext (.t 27) 2) none, .o (some 9) (.alloc false [.int .i64 0, .int .i64 0, .int .i64 0, .sl true 0 [] .own, .sl true 0 [] .own, .sl true 0 [] .own]) none, .o (some 10) (.alloc false [.int .i64 0, .int .i64 0, .int .i64 0, .int .i64 0, .str []]) none, .o none (.st 6 (.t 9) (.tmp 31)) none, .o none (.st 5 (.t 10) (.tmp 32)) none, .o (some 11) (.tk (.tmp 33)) none, .o (some 35) (.ldA 6 [.int .i64, .int .i64, .int .i64, .slice 33, .slice 100, .slice 86] (.t 4)) none, .o (some 36) (.mv (.t 1)) none, .o (some 37) (.call 36 [.t 35, .t 36]) none, .o (some 34) (.mv (.t 37)) none, .o (some 38) (.ext (.t 34) 0) none, .o (some 39) (.ext (.t 34) 1) none, .o (some 12) (.alloc false [.int .i64 0, .int .i64 0, .int .i64 0, .sl true 0 [] .own, .sl true 0 [] .own, .sl true 0 [] .own]) none, .o none (.st 6 (.t 12) (.tmp 38)) none, .o (some 13) (.tk (.tmp 39)) none, .o (some 40) (.mv (.t 11)) none, .o (some 41) (.eq1 (.int .i64) false (.t 40) (.c (.int .i64 0))) none, .o (some 42) (.mv (.t 41)) none, .o (some 43) (.mv (.t 13)) (some (some 42, true)), .o (some 44) (.eq1 (.int .i64) true (.t 43) (.c (.int .i64 0))) (some (some 42, true)), .o (some 45) (.mv (.t 44)) (some (some 42, true)), .o (some 46) (.ldA 6 [.int .i64, .int .i64, .int .i64, .slice 33, .slice 100, .slice 86] (.t 9)) (some (some 45, false)), .o (some 47) (.ldA 6 [.int .i64, .int .i64, .int .i64, .slice 33, .slice 100, .slice 86] (.t 12)) (some (some 45, false)), .o (some 48) (.call 18 [.t 46, .t 47]) (some (some 45, false)), .o (some 49) (.not (.t 48)) (some (some 45, false)), .o (some 50) (.pick (.t 45) (.c (.bool true)) (.t 49)) (some (some 42, true)), .o (some 51) (.pick (.t 42) (.t 50) (.c (.bool false))) none, .cond (.tmp 51) [.o (some 8) (.tk (.const (.bool false))) none, .ret] [], .o (some 52) (.fa 0 (.t 6)) none, .o (some 53) (.ld1 (.int .i64) (.t 52)) none, .o (some 54) (.eq1 (.int .i64) false (.t 53) (.c (.int .i64 8))) none, .o (some 55) (.mv (.t 54)) none, .o (some 56) (.fa 0 (.t 6)) (some (some 55, false)), .o (some 57) (.ld1 (.int .i64) (.t 56)) (some (some 55, false)), .o (some 58) (.eq1 (.int .i64) false (.t 57) (.c (.int .i64 9))) (some (some 55, false)), .o (some 59) (.pick (.t 55) (.c (.bool true)) (.t 58)) none, .o (some 60) (.mv (.t 59)) none, .o (some 61) (.fa 0 (.t 7)) (some (some 60, true)), .o (some 62) (.ld1 (.int .i64) (.t 61)) (some (some 60, true)), .o (some 63) (.eq1 (.int .i64) false (.t 62) (.c (.int .i64 8))) (some (some 60, true)), .o (some 64) (.mv (.t 63)) (some (some 60, true)), .o (some 65) (.fa 0 (.t 7)) (some (some 64, false)), .o (some 66) (.ld1 (.int .i64) (.t 65)) (some (some 64, false)), .o (some 67) (.eq1 (.int .i64) false (.t 66) (.c (.int .i64 9))) (some (some 64, false)), .o (some 68) (.pick (.t 64) (.c (.bool true)) (.t 67)) (some (some 60, true)), .o (some 69) (.pick (.t 60) (.t 68) (.c (.bool false))) none, .o (some 14) (.tk (.tmp 69)) none, .o (some 70) (.mv (.t 14)) none, .o (some 71) (.not (.t 70)) none, .o (some 72) (.mv (.t 71)) none, .o (some 73) (.fa 1 (.t 6)) (some (some 72, false)), .o (some 74) (.ld1 (.int .i64) (.t 73)) (some (some 72, false)), .o (some 75) (.fa 1 (.t 7)) (some (some 72, false)), .o (some 76) (.ld1 (.int .i64) (.t 75)) (some (some 72, false)), .o (some 77) (.eq1 (.int .i64) false (.t 74) (.t 76)) (some (some 72, false)), .o (some 78) (.pick (.t 72) (.c (.bool true)) (.t 77)) none, .o (some 79) (.mv (.t 78)) none, .o (some 80) (.fa 4 (.t 6)) (some (some 79, false)), .o (some 81) (.ld1 .str (.t 80)) (some (some 79, false)), .o (some 82) (.lenS (.t 81)) (some (some 79, false)), .o (some 83) (.fa 4 (.t 7)) (some (some 79, false)), .o (some 84) (.ld1 .str (.t 83)) (some (some 79, false)), .o (some 85) (.lenS (.t 84)) (some (some 79, false)), .o (some 86) (.ar .add (.t 82) (.t 85)) (some (some 79, false)), .o (some 87) (.ar .gtr (.t 86) (.c (.int .i64 300))) (some (some 79, false)), .o (some 88) (.pick (.t 79) (.c (.bool true)) (.t 87)) none, .cond (.tmp 88) [.o (some 89) (.call 13 []) none, .o (some 8) (.tk (.tmp 89)) none, .ret] [], .o (some 91) (.ldA 6 [.int .i64, .int .i64, .int .i64, .slice 33, .slice 100, .slice 86] (.t 4)) none, .o (some 92) (.ldA 5 [.int .i64, .int .i64, .int .i64, .int .i64, .str] (.t 6)) none, .o (some 93) (.call 34 [.t 91, .t 92]) none, .o (some 90) (.mv (.t 93)) none, .o (some 94) (.ext (.t 90) 0) none, .o (some 95) (.ext (.t 90) 1) none, .o (some 96) (.ext (.t 90) 2) none, .o (some 15) (.alloc false [.int .i64 0, .int .i64 0, .int .i64 0, .sl true 0 [] .own, .sl true 0 [] .own, .sl true 0 [] .own]) none, .o (some 16) (.alloc false [.int .i64 0, .int .i64 0, .int .i64 0, .int .i64 0, .str [], .int .i64 0, .int .i64 0, .int .i64 0, .int .i64 0, .int .i64 0, .int .i64 0, .str [], .sl true 0 [] .own]) none, .o none (.st 6 (.t 15) (.tmp 94)) none, .o none (.st 13 (.t 16) (.tmp 95)) none, .o (some 11) (.tk (.tmp 96)) none, .o (some 98) (.ldA 6 [.int .i64, .int .i64, .int .i64, .slice 33, .slice 100, .slice 86] (.t 15)) none, .o (some 99) (.ldA 5 [.int .i64, .int .i64, .int .i64, .int .i64, .str] (.t 7)) none, .o (some 100) (.call 34 [.t 98, .t 99]) none, .o (some 97) (.mv (.t 100)) none, .o (some 101) (.ext (.t 97) 0) none, .o (some 102) (.ext (.t 97) 1) none, .o (some 103) (.ext (.t 97) 2) none, .o (some 17) (.alloc false [.int .i64 0, .int .i64 0, .int .i64 0, .int .i64 0, .str [], .int .i64 0, .int .i64 0, .int .i64 0, .int .i64 0, .int .i64 0, .int .i64 0, .str [], .sl true 0 [] .own]) none, .o none (.st 6 (.t 15) (.tmp 101)) none, .o none (.st 13 (.t 17) (.tmp 102)) none, .o (some 13) (.tk (.tmp 103)) none, .o (some 105) (.ldA 6 [.int .i64, .int .i64, .int .i64, .slice 33, .slice 100, .slice 86] (.t 4)) none, .o (some 106) (.ldA 5 [.int .i64, .int .i64, .int .i64, .int .i64, .str] (.t 7)) none, .o (some 107) (.call 34 [.t 105, .t 106]) none, .o (some 104) (.mv (.t 107)) none, .o (some 108) (.ext (.t 104) 0) none, .o (some 109) (.ext (.t 104) 1) none, .o (some 110) (.ext (.t 104) 2) none, .o (some 18) (.alloc false [.int .i64 0, .int .i64 0, .int .i64 0, .sl true 0 [] .own, .sl true 0 [] .own, .sl true 0 [] .own]) none, .o (some 19) (.alloc false [.int .i64 0, .int .i64 0, .int .i64 0, .int .i64 0, .str [], .int .i64 0, .int .i64 0, .int .i64 0, .int .i64 0, .int .i64 0, .int .i64 0, .str [], .sl true 0 [] .own]) none, .o none (.st 6 (.t 18) (.tmp 108)) none, .o none (.st 13 (.t 19) (.tmp 109)) none, .o (some 20) (.tk (.tmp 110)) none, .o (some 112) (.ldA 6 [.int .i64, .int .i64, .int .i64, .slice 33, .slice 100, .slice 86] (.t 18)) none, .o (some 113) (.ldA 5 [.int .i64, .int .i64, .int .i64, .int .i64, .str] (.t 6)) none, .o (some 114) (.call 34 [.t 112, .t 113]) none, .o (some 111) (.mv (.t 114)) none, .o (some 115) (.ext (.t 111) 0) none, .o (some 116) (.ext (.t 111) 1) none, .o (some 117) (.ext (.t 111) 2) none, .o (some 21) (.alloc false [.int .i64 0, .int .i64 0, .int .i64 0, .int .i64 0, .str [], .int .i64 0, .int .i64 0, .int .i64 0, .int .i64 0, .int .i64 0, .int .i64 0, .str [], .sl true 0 [] .own]) none, .o none (.st 6 (.t 18) (.tmp 115)) none, .o none (.st 13 (.t 21) (.tmp 116)) none, .o (some 22) (.tk (.tmp 117)) none, .o (some 118) (.mv (.t 11)) none, .o (some 119) (.eq1 (.int .i64) true (.t 118) (.c (.int .i64 0))) none, .o (some 120) (.mv (.t 119)) none, .o (some 121) (.mv (.t 13)) (some (some 120, false)), .o (some 122) (.eq1 (.int .i64) true (.t 121) (.c (.int .i64 0))) (some (some 120, false)), .o (some 123) (.pick (.t 120) (.c (.bool true)) (.t 122)) none, .o (some 124) (.mv (.t 123)) none, .o (some 125) (.mv (.t 20)) (some (some 124, false)), .o (some 126) (.eq1 (.int .i64) true (.t 125) (.c (.int .i64 0))) (some (some 124, false)), .o (some 127) (.pick (.t 124) (.c (.bool true)) (.t 126)) none, .o (some 128) (.mv (.t 127)) none, .o (some 129) (.mv (.t 22)) (some (some 128, false)), .o (some 130) (.eq1 (.int .i64) true (.t 129) (.c (.int .i64 0))) (some (some 128, false)), .o (some 131) (.pick (.t 128) (.c (.bool true)) (.t 130)) none, .o (some 132) (.mv (.t 131)) none, .o (some 133) (.fa 5 (.t 16)) (some (some 132, false)), .o (some 134) (.ld1 (.int .i64) (.t 133)) (some (some 132, false)), .o (some 135) (.eq1 (.int .i64) true (.t 134) (.c (.int .i64 0))) (some (some 132, false)), .o (some 136) (.pick (.t 132) (.c (.bool true)) (.t 135)) none, .o (some 137) (.mv (.t 136)) none, .o (some 138) (.fa 5 (.t 17)) (some (some 137, false)), .o (some 139) (.ld1 (.int .i64) (.t 138)) (some (some 137, false)), .o (some 140) (.eq1 (.int .i64) true (.t 139) (.c (.int .i64 0))) (some (some 137, false)), .o (some 141) (.pick (.t 137) (.c (.bool true)) (.t 140)) none, .o (some 142) (.mv (.t 141)) none, .o (some 143) (.fa 5 (.t 19)) (some (some 142, false)), .o (some 144) (.ld1 (.int .i64) (.t 143)) (some (some 142, false)), .o (some 145) (.eq1 (.int .i64) true (.t 144) (.c (.int .i64 0))) (some (some 142, false)), .o (some 146) (.pick (.t 142) (.c (.bool true)) (.t 145)) none, .o (some 147) (.mv (.t 146)) none, .o (some 148) (.fa 5 (.t 21)) (some (some 147, false)), .o (some 149) (.ld1 (.int .i64) (.t 148)) (some (some 147, false)), .o (some 150) (.eq1 (.int .i64) true (.t 149) (.c (.int .i64 0))) (some (some 147, false)), .o (some 151) (.pick (.t 147) (.c (.bool true)) (.t 150)) none, .cond (.tmp 151) [.o (some 152) (.call 13 []) none, .o (some 8) (.tk (.tmp 152)) none, .ret] [], .o (some 153) (.call 13 []) none, .o (some 154) (.mv (.t 153)) none, .o (some 155) (.ldA 6 [.int .i64, .int .i64, .int .i64, .slice 33, .slice 100, .slice 86] (.t 15)) (some (some 154, true)), .o (some 156) (.ldA 6 [.int .i64, .int .i64, .int .i64, .slice 33, .slice 100, .slice 86] (.t 18)) (some (some 154, true)), .o (some 157) (.call 18 [.t 155, .t 156]) (some (some 154, true)), .o (some 158) (.pick (.t 154) (.t 157) (.c (.bool false))) none, .o (some 8) (.tk (.tmp 158)) none, .ret]
theorem c8 : compR T {} [] (bodyOf Go.Proofs.Try.f8) = b8 := by kernel_rfl
theorem n8 : Go.Proofs.Try.f8.ntmps = 159 := by kernel_rfl
theorem r8 : Go.Proofs.Try.f8.results.toList = [.tmp 8] := by kernel_rfl
theorem f8 : Pg.funcs[8]? = some Go.Proofs.Try.f8 := by kernel_rfl
theorem run8 {args : List AV} {K : AV → List AObj → Prop} (hv : Run C Pg T {} none b8 (S (.tup []) 159 (enumL 0 args) [] h) (bodyK T Go.Proofs.Try.f8 K)) (hown : args.all (fun a => !a.owns) = true := by first | rfl | simp [AV.owns]) (hl : args.length ≤ 159 := by exact Nat.le_of_ble_eq_true rfl) : ACall C Pg 8 args h K := ACall.of_runR T_ok {} [] (c := bodyOf Go.Proofs.Try.f8) f8 (by kernel_rfl) (by kernel_rfl) c8 n8 hown hl hv
end
end Go.Ab
end
section
/- Do, told in one; timers of different nodes. -/
set_option linter.unusedSimpArgs false
set_option linter.unusedVariables false
set_option maxRecDepth 100000
set_option maxHeartbeats 4000000
namespace Go.Ab

theorem pair_ext {α : Type} {f : α → α → Int} (ht : ∀ p q r, f p q < 0 → f q r < 0 → f p r < 0) (hi : ∀ p, ¬ f p p < 0) : ∀ {l m : List α}, (l.Pairwise fun a b => f a b < 0) → (m.Pairwise fun a b => f a b < 0) → (∀ t, t ∈ l ↔ t ∈ m) → l = m
  | [], [], _, _, _ => rfl
  | [], b :: m, _, _, h => by have := (h b).2 (List.mem_cons_self ..); cases this
  | a :: l, [], _, _, h => by have := (h a).1 (List.mem_cons_self ..); cases this
  | a :: l, b :: m, h1, h2, h => by
    rw [List.pairwise_cons] at h1 h2
    have e : a = b := by
      rcases List.mem_cons.1 ((h a).1 (List.mem_cons_self ..)) with e | e
      · exact e
      · rcases List.mem_cons.1 ((h b).2 (List.mem_cons_self ..)) with e2 | e2
        · exact e2.symm
        · exact absurd (ht _ _ _ (h1.1 b e2) (h2.1 a e)) (hi a)
    subst e
    have hl : a ∉ l := fun hm => hi a (h1.1 a hm)
    have hm : a ∉ m := fun hm => hi a (h2.1 a hm)
    rw [pair_ext ht hi h1.2 h2.2 fun t => ?_]
    constructor
    · intro ht1
      rcases List.mem_cons.1 ((h t).1 (List.mem_cons_of_mem _ ht1)) with e | e
      · subst e; exact absurd ht1 hl
      · exact e
    · intro ht1
      rcases List.mem_cons.1 ((h t).2 (List.mem_cons_of_mem _ ht1)) with e | e
      · subst e; exact absurd ht1 hm
      · exact e
theorem extT {l m : List Timer} (h1 : rises cmpT l) (h2 : rises cmpT m) (h : ∀ t, t ∈ l ↔ t ∈ m) : l = m := pair_ext (f := cmpT) (fun p q r a b => cmpT_trans a b) (fun p => cmpT_irr rfl) (riseT.1 h1) (riseT.1 h2) h
theorem mem_drop {l : List Timer} {nd tg : Int} {t : Timer} : t ∈ dropT l nd tg ↔ t ∈ l ∧ ¬ (t.nd = nd ∧ t.tg = tg) := by
  simp only [dropT, List.mem_filter, isTm, Bool.not_eq_true', Bool.and_eq_false_iff, decide_eq_false_iff_not]
  constructor
  · rintro ⟨h1, h2⟩
    exact ⟨h1, fun h3 => by omega⟩
  · rintro ⟨h1, h2⟩
    exact ⟨h1, by omega⟩
def isSet (k : Int) : Prop := k = 8 ∨ k = 9
theorem memF {x : Net} {a : Act} (ka : isSet a.k) {t : Timer} : t ∈ (stepF x a).x.timers ↔ (a.k = 8 ∧ t = ⟨x.now + a.n, a.a, a.b⟩) ∨ (t ∈ x.timers ∧ ¬ (t.nd = a.a ∧ t.tg = a.b)) := by
  rcases ka with ka | ka
  · have e : (stepF x a).x = setG x a.a a.b a.n := by simp [stepF, ka]
    rw [e]
    simp only [setG, insT, mem_insAt, mem_drop, ka, true_and]
  · have e : (stepF x a).x = stopG x a.a a.b := by simp [stepF, ka]
    rw [e]
    simp only [stopG, mem_drop, ka]
    constructor
    · exact .inr
    · rintro (⟨h, _⟩ | h)
      · cases h
      · exact h
theorem restF {x : Net} {a : Act} (h : isSet a.k) : (stepF x a).x.nodes = x.nodes ∧ (stepF x a).x.now = x.now ∧ (stepF x a).x.next = x.next ∧ (stepF x a).x.way = x.way ∧ (stepF x a).x.cuts = x.cuts := by
  rcases h with h | h <;> simp [stepF, h, setG, stopG]
theorem commT {x : Net} (w : WF x) {a b : Act} (ka : isSet a.k) (kb : isSet b.k) (hn : a.a ≠ b.a) (e1 : (stepF x a).e = 0) (e2 : (stepF (stepF x a).x b).e = 0) (e3 : (stepF x b).e = 0) (e4 : (stepF (stepF x b).x a).e = 0) :
    (stepF (stepF x a).x b).x = (stepF (stepF x b).x a).x := by
  have w1 := w.step e1
  have w2 := w1.step e2
  have w3 := w.step e3
  have w4 := w3.step e4
  have ht : (stepF (stepF x a).x b).x.timers = (stepF (stepF x b).x a).x.timers := by
    refine extT w2.tr w4.tr fun t => ?_
    rw [memF kb, memF ka, memF ka, memF kb, (restF (x := x) ka).2.1, (restF (x := x) kb).2.1]
    constructor
    · rintro (⟨h1, h2⟩ | ⟨⟨h1, h2⟩ | ⟨h1, h2⟩, h3⟩)
      · exact .inr ⟨.inl ⟨h1, h2⟩, fun h => hn (by rw [← h.1, h2])⟩
      · exact .inl ⟨h1, h2⟩
      · exact .inr ⟨.inr ⟨h1, h3⟩, h2⟩
    · rintro (⟨h1, h2⟩ | ⟨⟨h1, h2⟩ | ⟨h1, h2⟩, h3⟩)
      · exact .inr ⟨.inl ⟨h1, h2⟩, fun h => hn (by rw [← h.1, h2])⟩
      · exact .inl ⟨h1, h2⟩
      · exact .inr ⟨.inr ⟨h1, h3⟩, h2⟩
  obtain ⟨a1, a2, a3, a4, a5⟩ := restF (x := x) ka
  obtain ⟨b1, b2, b3, b4, b5⟩ := restF (x := (stepF x a).x) kb
  obtain ⟨c1, c2, c3, c4, c5⟩ := restF (x := x) kb
  obtain ⟨d1, d2, d3, d4, d5⟩ := restF (x := (stepF x b).x) ka
  revert ht b1 b2 b3 b4 b5 d1 d2 d3 d4 d5
  generalize (stepF (stepF x a).x b).x = p
  generalize (stepF (stepF x b).x a).x = q
  intro ht b1 b2 b3 b4 b5 d1 d2 d3 d4 d5
  cases p; cases q
  simp_all

section
variable {C : CX} {h : List AObj} {K : AV → List AObj → Prop} {z1 z2 z3 : Bool} {s1 s2 s3 : Nat} {x : Net}
def doOf (x : Net) (a : Act) (y : Net) (sn : Seen) (ee : Int) : Prop := (¬ WF x ∧ y = zN ∧ sn = ⟨noAct, 0, 0, noLetter, []⟩ ∧ ee = 2) ∨ (WF x ∧ y = afterX (stepF x a) x ∧ sn = seenOf (stepF x a) x a ∧ ee = 0)
theorem doOf.ex (x : Net) (a : Act) : ∃ y sn ee, doOf x a y sn ee := by
  by_cases w : WF x
  · exact ⟨_, _, 0, .inr ⟨w, rfl, rfl, rfl⟩⟩
  · exact ⟨_, _, 2, .inl ⟨w, rfl, rfl, rfl⟩⟩
theorem doOf.lens {x y : Net} {a : Act} {sn : Seen} {ee : Int} (h : doOf x a y sn ee) : y.way.length < 1000000 ∧ y.cuts.length < 1000000 ∧ y.timers.length < 1000000 := by
  rcases h with ⟨_, rfl, _⟩ | ⟨w, rfl, _⟩
  · simp [zN]
  · have w2 := w.after a
    have := w2.fl; have := w2.cl; have := w2.tl
    omega
theorem do34u {a : Act} {y : Net} {sn : Seen} {ee : Int} (hk : Nk z1 s1 z2 s2 z3 s3 x) (hc : x.cuts.length < 1000000) (hr : doOf x a y sn ee)
    (hK : ∀ z1 s1 z2 s2 z3 s3, Nk z1 s1 z2 s2 z3 s3 y → K (.tup [.agg [.int .i64 y.nodes, .int .i64 y.now, .int .i64 y.next, .sl z1 s1 (y.way.map Letter.c) .no, .sl z2 s2 (y.cuts.map Link.c) .no, .sl z3 s3 (y.timers.map Timer.c) .no], .agg (Seen.c sn), .int .i64 ee]) h) : ACall C Pg 34 [.agg [.int .i64 x.nodes, .int .i64 x.now, .int .i64 x.next, .sl z1 s1 (x.way.map Letter.c) .no, .sl z2 s2 (x.cuts.map Link.c) .no, .sl z3 s3 (x.timers.map Timer.c) .no], .agg (Act.c a)] h K := by
  refine do34g hk hc (fun w => ?_) (fun w z1 s1 z2 s2 z3 s3 hk2 => ?_)
  · rcases hr with ⟨_, rfl, rfl, rfl⟩ | ⟨w2, _⟩
    · exact hK _ _ _ _ _ _ nkZ
    · exact absurd w2 w
  · rcases hr with ⟨w2, _⟩ | ⟨_, rfl, rfl, rfl⟩
    · exact absurd w w2
    · exact hK _ _ _ _ _ _ hk2
end
end Go.Ab
end
section
/- NetTwoWays. -/
set_option linter.unusedSimpArgs false
set_option linter.unusedVariables false
set_option maxRecDepth 100000
set_option maxHeartbeats 8000000
namespace Go.Ab

section
variable {C : CX} {h : List AObj} {K : AV → List AObj → Prop} {z1 z2 z3 : Bool} {s1 s2 s3 : Nat} {x y : Net} {i ee : Int} {a b : Act}
theorem deliver35u (hk : Nk z1 s1 z2 s2 z3 s3 x) (hc : x.cuts.length < 1000000) (hr : resOf x (deliverE x i) (loseG x i) y ee)
    (hK : ∀ l z1 s1 z2 s2 z3 s3, Nk z1 s1 z2 s2 z3 s3 y → K (.tup [.agg [.int .i64 y.nodes, .int .i64 y.now, .int .i64 y.next, .sl z1 s1 (y.way.map Letter.c) .no, .sl z2 s2 (y.cuts.map Link.c) .no, .sl z3 s3 (y.timers.map Timer.c) .no], .agg (Letter.c l), .int .i64 ee]) h) : ACall C Pg 35 [.agg [.int .i64 x.nodes, .int .i64 x.now, .int .i64 x.next, .sl z1 s1 (x.way.map Letter.c) .no, .sl z2 s2 (x.cuts.map Link.c) .no, .sl z3 s3 (x.timers.map Timer.c) .no], .int .i64 i] h K := by
  refine deliver35g hk hc (fun w => ?_) (fun w he => ?_) (fun w he z1 s1 z2 s2 z3 s3 hk2 => ?_)
  · rcases hr with ⟨_, rfl, rfl⟩ | ⟨w2, _⟩ | ⟨w2, _⟩
    · exact hK noLetter _ _ _ _ _ _ nkZ
    · exact absurd w2 w
    · exact absurd w2 w
  · rcases hr with ⟨w2, _⟩ | ⟨_, _, rfl, rfl⟩ | ⟨_, h0, _⟩
    · exact absurd w w2
    · exact hK noLetter _ _ _ _ _ _ nkZ
    · exact absurd h0 he
  · rcases hr with ⟨w2, _⟩ | ⟨_, h0, _⟩ | ⟨_, _, rfl, rfl⟩
    · exact absurd w w2
    · exact absurd he h0
    · exact hK _ _ _ _ _ _ _ hk2
theorem lose36u (hk : Nk z1 s1 z2 s2 z3 s3 x) (hc : x.cuts.length < 1000000) (hr : resOf x (loseE x i) (loseG x i) y ee)
    (hK : ∀ z1 s1 z2 s2 z3 s3, Nk z1 s1 z2 s2 z3 s3 y → K (.tup [.agg [.int .i64 y.nodes, .int .i64 y.now, .int .i64 y.next, .sl z1 s1 (y.way.map Letter.c) .no, .sl z2 s2 (y.cuts.map Link.c) .no, .sl z3 s3 (y.timers.map Timer.c) .no], .int .i64 ee]) h) : ACall C Pg 36 [.agg [.int .i64 x.nodes, .int .i64 x.now, .int .i64 x.next, .sl z1 s1 (x.way.map Letter.c) .no, .sl z2 s2 (x.cuts.map Link.c) .no, .sl z3 s3 (x.timers.map Timer.c) .no], .int .i64 i] h K := by
  refine lose36g hk hc (fun w => ?_) (fun w he => ?_) (fun w he z1 s1 z2 s2 z3 s3 hk2 => ?_)
  · rcases hr with ⟨_, rfl, rfl⟩ | ⟨w2, _⟩ | ⟨w2, _⟩
    · exact hK _ _ _ _ _ _ nkZ
    · exact absurd w2 w
    · exact absurd w2 w
  · rcases hr with ⟨w2, _⟩ | ⟨_, _, rfl, rfl⟩ | ⟨_, h0, _⟩
    · exact absurd w w2
    · exact hK _ _ _ _ _ _ nkZ
    · exact absurd h0 he
  · rcases hr with ⟨w2, _⟩ | ⟨_, h0, _⟩ | ⟨_, _, rfl, rfl⟩
    · exact absurd w w2
    · exact absurd he h0
    · exact hK _ _ _ _ _ _ hk2
theorem seen_e {x : Net} {a : Act} : (seenOf (stepF x a) x a).e = (stepF x a).e := by
  unfold seenOf
  split
  · rename_i h; exact h.symm
  · rfl
theorem twice {y3 y4 y5 y6 : Net} {t3 t4 t5 t6 : Seen} {e3 e4 e5 e6 : Int} (h3 : doOf x a y3 t3 e3) (h4 : doOf y3 b y4 t4 e4) (h5 : doOf x b y5 t5 e5) (h6 : doOf y5 a y6 t6 e6)
    (ka : isSet a.k) (kb : isSet b.k) (hn : a.a ≠ b.a) (g3 : e3 = 0) (g4 : e4 = 0) (g5 : e5 = 0) (g6 : e6 = 0) (q3 : t3.e = 0) (q4 : t4.e = 0) (q5 : t5.e = 0) (q6 : t6.e = 0) : y4 = y6 := by
  rcases h3 with ⟨_, _, _, r⟩ | ⟨w, rfl, rfl, _⟩
  · rw [g3] at r; cases r
  rcases h5 with ⟨_, _, _, r⟩ | ⟨_, rfl, rfl, _⟩
  · rw [g5] at r; cases r
  rcases h4 with ⟨_, _, _, r⟩ | ⟨_, rfl, rfl, _⟩
  · rw [g4] at r; cases r
  rcases h6 with ⟨_, _, _, r⟩ | ⟨_, rfl, rfl, _⟩
  · rw [g6] at r; cases r
  rw [seen_e] at q3 q4 q5 q6
  have f3 : afterX (stepF x a) x = (stepF x a).x := if_pos q3
  have f5 : afterX (stepF x b) x = (stepF x b).x := if_pos q5
  rw [f3] at q4 ⊢
  rw [f5] at q6 ⊢
  rw [show afterX (stepF (stepF x a).x b) (stepF x a).x = (stepF (stepF x a).x b).x from if_pos q4, show afterX (stepF (stepF x b).x a) (stepF x b).x = (stepF (stepF x b).x a).x from if_pos q6]
  exact commT w ka kb hn q3 q4 q5 q6
theorem tail8b (hk : Nk z1 s1 z2 s2 z3 s3 x) (hc : x.cuts.length < 1000000) {l0 : List (Nat × AV)} {B3 B4 B5 : List AV} (ka : isSet a.k) (kb : isSet b.k) (hn : a.a ≠ b.a)
    (q4 : lk (.tup []) l0 4 = .lptr 0 0) (q6 : lk (.tup []) l0 6 = .lptr 1 0) (q7 : lk (.tup []) l0 7 = .lptr 2 0) (hK : K (.bool true) h) :
    Run C Pg T {} none (List.drop 81 b8) (S (.tup []) 159 l0 [[.int .i64 x.nodes, .int .i64 x.now, .int .i64 x.next, .sl z1 s1 (x.way.map Letter.c) .no, .sl z2 s2 (x.cuts.map Link.c) .no, .sl z3 s3 (x.timers.map Timer.c) .no], [.int .i64 a.k, .int .i64 a.a, .int .i64 a.b, .int .i64 a.n, .str a.data], [.int .i64 b.k, .int .i64 b.a, .int .i64 b.b, .int .i64 b.n, .str b.data], B3, B4, B5] h) (bodyK T Go.Proofs.Try.f8 K) := by
  obtain ⟨y3, t3, e3, hr3⟩ := doOf.ex x a
  obtain ⟨y4, t4, e4, hr4⟩ := doOf.ex y3 b
  obtain ⟨y5, t5, e5, hr5⟩ := doOf.ex x b
  obtain ⟨y6, t6, e6, hr6⟩ := doOf.ex y5 a
  have l3 := hr3.lens
  have l4 := hr4.lens
  have l5 := hr5.lens
  have hfin := twice hr3 hr4 hr5 hr6
  have ht : ∀ (ts : List Timer), (accU 3 Timer.c ts).un = accU 3 Timer.c ts ∧ (accU 3 Timer.c ts).nol = true ∧ (accU 3 Timer.c ts).one = true ∧ (accU 3 Timer.c ts).owns = false ∧ (accU 3 Timer.c ts).cells = [accU 3 Timer.c ts] ∧ (accU 3 Timer.c ts).scells = [accU 3 Timer.c ts] := fun _ => accU_all
  simp only [b8, List.drop_succ_cons, List.drop_zero]
  simp -implicitDefEqProofs only [r8, q4, q6, q7, ru, ruc, rud, ru5, Nat.reduceLT, Nat.reduceEqDiff, reduceIte, Nat.reduceAdd, Nat.reduceLeDiff, Int.reduceEq, Int.reduceLT, Int.reduceLE, Int.reduceNeg]
  repeat' (first | (refine guardV_split (fun g => ?_) (fun g => ?_) <;> simp -implicitDefEqProofs only [q4, q6, q7, Seen.c, seenC, ht, r8, ru, ruc, rud, ru5, Nat.reduceLT, Nat.reduceEqDiff, reduceIte, Nat.reduceAdd, Nat.reduceLeDiff, Int.reduceEq, Int.reduceLT, Int.reduceLE, Int.reduceNeg]) | (refine condV_split (fun g => ?_) (fun g => ?_) <;> simp -implicitDefEqProofs only [q4, q6, q7, Seen.c, seenC, ht, r8, ru, ruc, rud, ru5, Nat.reduceLT, Nat.reduceEqDiff, reduceIte, Nat.reduceAdd, Nat.reduceLeDiff, Int.reduceEq, Int.reduceLT, Int.reduceLE, Int.reduceNeg]) | (refine do34u (a := a) hk hc hr3 (fun u1 v1 u2 v2 u3 v3 hk3 => ?_) <;> try simp -implicitDefEqProofs only [q4, q6, q7, Seen.c, seenC, ht, r8, ru, ruc, rud, ru5, Nat.reduceLT, Nat.reduceEqDiff, reduceIte, Nat.reduceAdd, Nat.reduceLeDiff, Int.reduceEq, Int.reduceLT, Int.reduceLE, Int.reduceNeg]) | (refine do34u (a := b) hk3 l3.2.1 hr4 (fun u4 v4 u5 v5 u6 v6 hk4 => ?_) <;> try simp -implicitDefEqProofs only [q4, q6, q7, Seen.c, seenC, ht, r8, ru, ruc, rud, ru5, Nat.reduceLT, Nat.reduceEqDiff, reduceIte, Nat.reduceAdd, Nat.reduceLeDiff, Int.reduceEq, Int.reduceLT, Int.reduceLE, Int.reduceNeg]) | (refine do34u (a := b) hk hc hr5 (fun u7 v7 u8 v8 u9 v9 hk5 => ?_) <;> try simp -implicitDefEqProofs only [q4, q6, q7, Seen.c, seenC, ht, r8, ru, ruc, rud, ru5, Nat.reduceLT, Nat.reduceEqDiff, reduceIte, Nat.reduceAdd, Nat.reduceLeDiff, Int.reduceEq, Int.reduceLT, Int.reduceLE, Int.reduceNeg]) | (refine do34u (a := a) hk5 l5.2.1 hr6 (fun ua va ub vb uc vc hk6 => ?_) <;> try simp -implicitDefEqProofs only [q4, q6, q7, Seen.c, seenC, ht, r8, ru, ruc, rud, ru5, Nat.reduceLT, Nat.reduceEqDiff, reduceIte, Nat.reduceAdd, Nat.reduceLeDiff, Int.reduceEq, Int.reduceLT, Int.reduceLE, Int.reduceNeg]) | (refine sane13 ?_ <;> try simp -implicitDefEqProofs only [q4, q6, q7, Seen.c, seenC, ht, r8, ru, ruc, rud, ru5, Nat.reduceLT, Nat.reduceEqDiff, reduceIte, Nat.reduceAdd, Nat.reduceLeDiff, Int.reduceEq, Int.reduceLT, Int.reduceLE, Int.reduceNeg]) | (refine same18 hk4 hk6 l4.1 l4.2.1 l4.2.2 ?_ <;> try simp -implicitDefEqProofs only [q4, q6, q7, Seen.c, seenC, ht, r8, ru, ruc, rud, ru5, Nat.reduceLT, Nat.reduceEqDiff, reduceIte, Nat.reduceAdd, Nat.reduceLeDiff, Int.reduceEq, Int.reduceLT, Int.reduceLE, Int.reduceNeg]))
  all_goals first
    | exact hK
    | (simp only [decide_eq_true_eq, decide_eq_false_iff_not, Bool.not_eq_true', Bool.not_eq_false', if_true, Bool.false_eq_true, if_false] at *
       have hres : y4 = y6 := hfin ka kb hn (by assumption) (by assumption) (by assumption) (by assumption) (by assumption) (by assumption) (by assumption) (by assumption)
       rw [decide_eq_true hres]
       exact hK)
theorem tail8a (hk : Nk z1 s1 z2 s2 z3 s3 x) (hc : x.cuts.length < 1000000) {l0 : List (Nat × AV)} {B3 B4 B5 : List AV}
    (q4 : lk (.tup []) l0 4 = .lptr 0 0) (q6 : lk (.tup []) l0 6 = .lptr 1 0) (q7 : lk (.tup []) l0 7 = .lptr 2 0) (hK : K (.bool true) h) :
    Run C Pg T {} none (List.drop 42 b8) (S (.tup []) 159 l0 [[.int .i64 x.nodes, .int .i64 x.now, .int .i64 x.next, .sl z1 s1 (x.way.map Letter.c) .no, .sl z2 s2 (x.cuts.map Link.c) .no, .sl z3 s3 (x.timers.map Timer.c) .no], [.int .i64 a.k, .int .i64 a.a, .int .i64 a.b, .int .i64 a.n, .str a.data], [.int .i64 b.k, .int .i64 b.a, .int .i64 b.b, .int .i64 b.n, .str b.data], B3, B4, B5] h) (bodyK T Go.Proofs.Try.f8 K) := by
  have htl := fun l0 ka kb hn q4 q6 q7 => tail8b (C := C) (h := h) (K := K) (x := x) (a := a) (b := b) hk hc (l0 := l0) (B3 := B3) (B4 := B4) (B5 := B5) ka kb hn q4 q6 q7 hK
  rw [← List.take_append_drop 39 (List.drop 42 b8), List.drop_drop]
  rw [show 42 + 39 = 81 from rfl]
  generalize List.drop 81 b8 = t8 at htl ⊢
  simp only [b8, List.drop_succ_cons, List.drop_zero, List.take_succ_cons, List.take_zero, List.cons_append, List.nil_append]
  simp -implicitDefEqProofs only [r8, q4, q6, q7, ru, ruc, rud, ru5, Nat.reduceLT, Nat.reduceEqDiff, reduceIte, Nat.reduceAdd, Nat.reduceLeDiff, Int.reduceEq, Int.reduceLT, Int.reduceLE, Int.reduceNeg]
  by_cases ka : isSet a.k
  case' neg =>
    have a8 : decide (a.k = 8) = false := by simp; intro h; exact ka (.inl h)
    have a9 : decide (a.k = 9) = false := by simp; intro h; exact ka (.inr h)
    simp -implicitDefEqProofs only [r8, q4, q6, q7, a8, a9, ru, ruc, rud, ru5, Nat.reduceLT, Nat.reduceEqDiff, reduceIte, Nat.reduceAdd, Nat.reduceLeDiff, Int.reduceEq, Int.reduceLT, Int.reduceLE, Int.reduceNeg]
    repeat' (first | (refine guardV_split (fun g => ?_) (fun g => ?_) <;> simp -implicitDefEqProofs only [q4, q6, q7, a8, a9, r8, ru, ruc, rud, ru5, Nat.reduceLT, Nat.reduceEqDiff, reduceIte, Nat.reduceAdd, Nat.reduceLeDiff, Int.reduceEq, Int.reduceLT, Int.reduceLE, Int.reduceNeg]) | (refine condV_split (fun g => ?_) (fun g => ?_) <;> simp -implicitDefEqProofs only [q4, q6, q7, a8, a9, r8, ru, ruc, rud, ru5, Nat.reduceLT, Nat.reduceEqDiff, reduceIte, Nat.reduceAdd, Nat.reduceLeDiff, Int.reduceEq, Int.reduceLT, Int.reduceLE, Int.reduceNeg]) | (refine sane13 ?_ <;> try simp -implicitDefEqProofs only [q4, q6, q7, a8, a9, r8, ru, ruc, rud, ru5, Nat.reduceLT, Nat.reduceEqDiff, reduceIte, Nat.reduceAdd, Nat.reduceLeDiff, Int.reduceEq, Int.reduceLT, Int.reduceLE, Int.reduceNeg]))
    exact hK
  by_cases kb : isSet b.k
  case' neg =>
    have b8' : decide (b.k = 8) = false := by simp; intro h; exact kb (.inl h)
    have b9' : decide (b.k = 9) = false := by simp; intro h; exact kb (.inr h)
    repeat' (first | (refine guardV_split (fun g => ?_) (fun g => ?_) <;> simp -implicitDefEqProofs only [q4, q6, q7, b8', b9', r8, ru, ruc, rud, ru5, Nat.reduceLT, Nat.reduceEqDiff, reduceIte, Nat.reduceAdd, Nat.reduceLeDiff, Int.reduceEq, Int.reduceLT, Int.reduceLE, Int.reduceNeg]) | (refine condV_split (fun g => ?_) (fun g => ?_) <;> simp -implicitDefEqProofs only [q4, q6, q7, b8', b9', r8, ru, ruc, rud, ru5, Nat.reduceLT, Nat.reduceEqDiff, reduceIte, Nat.reduceAdd, Nat.reduceLeDiff, Int.reduceEq, Int.reduceLT, Int.reduceLE, Int.reduceNeg]) | (refine sane13 ?_ <;> try simp -implicitDefEqProofs only [q4, q6, q7, b8', b9', r8, ru, ruc, rud, ru5, Nat.reduceLT, Nat.reduceEqDiff, reduceIte, Nat.reduceAdd, Nat.reduceLeDiff, Int.reduceEq, Int.reduceLT, Int.reduceLE, Int.reduceNeg]))
    all_goals try exact hK
    all_goals (exfalso; simp only [decide_eq_true_eq, decide_eq_false_iff_not, Bool.not_eq_true', Bool.not_eq_false', if_true, Bool.false_eq_true, if_false] at *; simp only [isSet] at ka; omega)
  repeat' (first | (refine guardV_split (fun g => ?_) (fun g => ?_) <;> simp -implicitDefEqProofs only [q4, q6, q7, r8, ru, ruc, rud, ru5, Nat.reduceLT, Nat.reduceEqDiff, reduceIte, Nat.reduceAdd, Nat.reduceLeDiff, Int.reduceEq, Int.reduceLT, Int.reduceLE, Int.reduceNeg]) | (refine condV_split (fun g => ?_) (fun g => ?_) <;> simp -implicitDefEqProofs only [q4, q6, q7, r8, ru, ruc, rud, ru5, Nat.reduceLT, Nat.reduceEqDiff, reduceIte, Nat.reduceAdd, Nat.reduceLeDiff, Int.reduceEq, Int.reduceLT, Int.reduceLE, Int.reduceNeg]) | (refine sane13 ?_ <;> try simp -implicitDefEqProofs only [q4, q6, q7, r8, ru, ruc, rud, ru5, Nat.reduceLT, Nat.reduceEqDiff, reduceIte, Nat.reduceAdd, Nat.reduceLeDiff, Int.reduceEq, Int.reduceLT, Int.reduceLE, Int.reduceNeg]))
  all_goals first
    | exact hK
    | (simp only [decide_eq_true_eq, decide_eq_false_iff_not, Bool.not_eq_true', Bool.not_eq_false', if_true, Bool.false_eq_true, if_false] at *
       exact htl _ ka kb (by assumption) (by simp [lk, q4]) (by simp [lk, q6]) (by simp [lk, q7]))
    | (exfalso; simp only [decide_eq_true_eq, decide_eq_false_iff_not, Bool.not_eq_true', Bool.not_eq_false', if_true, Bool.false_eq_true, if_false] at *; simp only [isSet] at ka kb; omega)
theorem ways8 (hk : Nk z1 s1 z2 s2 z3 s3 x) (hK : K (.bool true) h) : ACall C Pg 8 [.agg [.int .i64 x.nodes, .int .i64 x.now, .int .i64 x.next, .sl z1 s1 (x.way.map Letter.c) .no, .sl z2 s2 (x.cuts.map Link.c) .no, .sl z3 s3 (x.timers.map Timer.c) .no], .int .i64 i, .agg (Act.c a), .agg (Act.c b)] h K := by
  refine run8 ?_
  rw [← List.take_append_drop 42 b8]
  have htl := fun l0 hc B3 B4 B5 q4 q6 q7 => tail8a (C := C) (h := h) (K := K) (x := x) (a := a) (b := b) hk hc (l0 := l0) (B3 := B3) (B4 := B4) (B5 := B5) q4 q6 q7 hK
  generalize List.drop 42 b8 = t8 at htl ⊢
  simp only [b8, List.take_succ_cons, List.take_zero, List.cons_append, List.nil_append]
  simp -implicitDefEqProofs only [r8, Act.c, ru, ruc, rud, ru5, Nat.reduceLT, Nat.reduceEqDiff, reduceIte, Nat.reduceAdd, Nat.reduceLeDiff, Int.reduceEq, Int.reduceLT, Int.reduceLE, Int.reduceNeg]
  refine small12 hk (fun hs => ?_) (fun hs => ?_)
  · simp -implicitDefEqProofs only [r8, ru, ruc, rud, ru5, Nat.reduceLT, Nat.reduceEqDiff, reduceIte, Nat.reduceAdd, Nat.reduceLeDiff, Int.reduceEq, Int.reduceLT, Int.reduceLE, Int.reduceNeg]
    have hcu : x.cuts.length < 1000000 := by have := hs.2.1; omega
    obtain ⟨y1, e1, hr1⟩ := resOf.ex x (deliverE x i) (loseG x i)
    obtain ⟨y2, e2, hr2⟩ := resOf.ex x (loseE x i) (loseG x i)
    have l1 := hr1.lens (fun w h => w.lose)
    have hde : e1 = 0 → e2 = 0 ∧ y2 = y1 := fun h0 => by
      rcases hr1 with ⟨_, r, _⟩ | ⟨_, n0, r, _⟩ | ⟨w, n0, _, rfl⟩
      · rw [h0] at r; cases r
      · exact absurd (r ▸ h0) n0
      · have hat : atOk x i := Classical.byContradiction fun hn => by
          rw [show deliverE x i = 4 from if_pos hn] at n0
          cases n0
        rcases hr2 with ⟨w2, _⟩ | ⟨_, n2, _⟩ | ⟨_, _, rfl, rfl⟩
        · exact absurd w w2
        · exact absurd (if_neg (fun h => h hat)) n2
        · exact ⟨rfl, rfl⟩
    refine deliver35u hk hcu hr1 fun l p1 q1 p2 q2 p3 q3 hk1 => ?_
    simp -implicitDefEqProofs only [r8, Letter.c, ru, ruc, rud, ru5, Nat.reduceLT, Nat.reduceEqDiff, reduceIte, Nat.reduceAdd, Nat.reduceLeDiff, Int.reduceEq, Int.reduceLT, Int.reduceLE, Int.reduceNeg]
    refine lose36u hk hcu hr2 fun p4 q4 p5 q5 p6 q6 hk2 => ?_
    simp -implicitDefEqProofs only [r8, ru, ruc, rud, ru5, Nat.reduceLT, Nat.reduceEqDiff, reduceIte, Nat.reduceAdd, Nat.reduceLeDiff, Int.reduceEq, Int.reduceLT, Int.reduceLE, Int.reduceNeg]
    by_cases h0 : e1 = 0
    · obtain ⟨rfl, rfl⟩ := hde h0
      subst h0
      simp -implicitDefEqProofs only [r8, ru, ruc, rud, ru5, Nat.reduceLT, Nat.reduceEqDiff, reduceIte, Nat.reduceAdd, Nat.reduceLeDiff, Int.reduceEq, Int.reduceLT, Int.reduceLE, Int.reduceNeg]
      refine same18 hk1 hk2 l1.1 l1.2.1 l1.2.2 ?_
      simp -implicitDefEqProofs only [r8, ru, ruc, rud, ru5, Nat.reduceLT, Nat.reduceEqDiff, reduceIte, Nat.reduceAdd, Nat.reduceLeDiff, Int.reduceEq, Int.reduceLT, Int.reduceLE, Int.reduceNeg]
      exact htl _ hcu _ _ _ rfl rfl rfl
    · have d1 : decide (e1 = 0) = false := by simpa using h0
      simp -implicitDefEqProofs only [r8, d1, ru, ruc, rud, ru5, Nat.reduceLT, Nat.reduceEqDiff, reduceIte, Nat.reduceAdd, Nat.reduceLeDiff, Int.reduceEq, Int.reduceLT, Int.reduceLE, Int.reduceNeg]
      exact htl _ hcu _ _ _ rfl rfl rfl
  · simp -implicitDefEqProofs only [r8, ru, ruc, rud, ru5, Nat.reduceLT, Nat.reduceEqDiff, reduceIte, Nat.reduceAdd, Nat.reduceLeDiff, Int.reduceEq, Int.reduceLT, Int.reduceLE, Int.reduceNeg]
    refine sane13 ?_
    simp -implicitDefEqProofs only [r8, ru, ruc, rud, ru5, Nat.reduceLT, Nat.reduceEqDiff, reduceIte, Nat.reduceAdd, Nat.reduceLeDiff, Int.reduceEq, Int.reduceLT, Int.reduceLE, Int.reduceNeg]
    exact hK
end
end Go.Ab
end
