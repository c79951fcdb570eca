/- One text out of several: see the remark at the head of each part. -/
import Derived.Test.YtpjcpmmcaccgiaaBs7
set_option linter.all false
section
set_option maxRecDepth 100000
namespace Go.Ab
def ann24 : Ann := { take := [78, 82, 88] }
def ann26 : Ann := { take := [54] }
def ann25 : Ann := { heap := [4, 5] }
def pl26 : List (Nat × Plan) := [(11, .take 0 (.take 2 (.take 5 (.take 6 (.all [(1, .take 3 (.all [(4, .all [(7, .take 8 (.done))]), (7, .all [(4, .take 8 (.done))])])), (7, .all [(1, .take 3 (.all [(4, .take 8 (.done))]))])])))))]
def pl62 : List (Nat × Plan) := [(4, .take 0 (.take 2 (.take 5 (.take 6 (.all [(1, .take 3 (.all [(4, .all [(7, .take 8 (.done))]), (7, .all [(4, .take 8 (.done))])])), (7, .all [(1, .take 3 (.all [(4, .take 8 (.done))]))])])))))]
end Go.Ab
end
section
set_option maxRecDepth 100000
namespace Go.Ab
section
variable {C : CX} {d : AV} {l : List (Nat × AV)} {bx bx' : List (List AV)} {h h' : List AObj} {s : ASt} {K : Exit → ASt → Prop}
noncomputable def b62q0 : List It := [.o (some 8) (.mv (.t 7)) none, .o (some 9) (.fa 4 (.t 3)) none, .o (some 10) (.ld1 (.slice 100) (.t 9)) none, .o (some 11) (.lens (.t 10)) none, .o (some 12) (.ar .lss (.t 8) (.t 11)) none, .cond (.tmp 12) [] [.exit 0], .block 1 [.rf (rg (bodyOf Go.Proofs.Try.f62) 0), .cond (.tmp 23) [.o (some 6) (.tk (.const (.bool true))) none, .ret] []], .o (some 13) (.mv (.t 7)) none, .o (some 14) (.ar .add (.t 13) (.c (.int .i64 1))) none, .o (some 7) (.tk (.tmp 14)) none]
noncomputable def b62 : List It := [.o (some 3) (.box false (.t 0)) none, .o (some 6) (.tk (.const (.bool false))) none, .o (some 7) (.tk (.const (.int .i64 0))) none, .block 0 [.loop b62q0 (lp (bodyOf Go.Proofs.Try.f62) 0)], .o (some 6) (.tk (.const (.bool false))) none, .ret]
theorem c62q0 : compR T {} pl62 (lp (bodyOf Go.Proofs.Try.f62) 0) = b62q0 := by kernel_rfl
theorem lp62q0 {α : Type} (m : Nat) (ls : α → List (Nat × AV)) (bs : α → List (List AV)) (hs : α → List AObj) (φ : α → Prop) (μ : α → Nat) (g0 : α) (h0 : φ g0) (hkeys : ∀ g, (ls g).map (·.1) = (ls g0).map (·.1)) (e1 : allIn d l m (ls g0)) (e2 : bs g0 = bx.take m) (e3 : (bs g0).all (fun cs => AV.lb.lbs m cs) = true) (e4 : h = hs g0) (round : ∀ g, φ g → Run C Pg T {} none b62q0 (S .undef 24 (ls g) (bs g) (hs g)) (nextR d 24 m ls bs hs φ μ g K)) : AWp C Pg none (.loop (lp (bodyOf Go.Proofs.Try.f62) 0)) (S d 24 l bx h) K := AWp.loopQ T_ok {} pl62 c62q0 m ls bs hs φ μ g0 h0 hkeys e1 e2 e3 e4 round
theorem c62 : compR T {} pl62 (bodyOf Go.Proofs.Try.f62) = b62 := by kernel_rfl
noncomputable def g62q0 : List It := [.o (some 15) (.fa 4 (.t 3)) none, .o (some 17) (.mv (.t 7)) none, .o (some 20) (.mv (.t 1)) none, .o (some 21) (.mv (.t 2)) none, .alts [[.o (some 16) (.ld1 (.slice 100) (.t 15)) none, .o (some 18) (.ixs 2 [.int .i64, .int .i64] (.t 16) (.t 17)) none, .alts [[.o (some 19) (.ldA 2 [.int .i64, .int .i64] (.t 18)) none, .alts [[.o (some 22) (.call 63 [.t 20, .t 21]) none, .o (some 23) (.eqt 100 false (.t 19) (.t 22)) none]]], [.o (some 22) (.call 63 [.t 20, .t 21]) none, .alts [[.o (some 19) (.ldA 2 [.int .i64, .int .i64] (.t 18)) none, .o (some 23) (.eqt 100 false (.t 19) (.t 22)) none]]]]], [.o (some 22) (.call 63 [.t 20, .t 21]) none, .alts [[.o (some 16) (.ld1 (.slice 100) (.t 15)) none, .o (some 18) (.ixs 2 [.int .i64, .int .i64] (.t 16) (.t 17)) none, .alts [[.o (some 19) (.ldA 2 [.int .i64, .int .i64] (.t 18)) none, .o (some 23) (.eqt 100 false (.t 19) (.t 22)) none]]]]]]]
theorem gc62q0 : compC T {} pl62 (rg (bodyOf Go.Proofs.Try.f62) 0) = g62q0 := by kernel_rfl
theorem go62q0 : okCode {} none pl62 (rg (bodyOf Go.Proofs.Try.f62) 0) = true := by kernel_rfl
theorem re62q0 (h1 : Run C Pg T {} none g62q0 s K) : AWp C Pg none (rg (bodyOf Go.Proofs.Try.f62) 0) s K := AWp.eachR T_ok mixed {} pl62 go62q0 gc62q0 h1
theorem n62 : Go.Proofs.Try.f62.ntmps = 24 := by kernel_rfl
theorem r62 : Go.Proofs.Try.f62.results.toList = [.tmp 6] := by kernel_rfl
theorem f62 : Pg.funcs[62]? = some Go.Proofs.Try.f62 := by kernel_rfl
theorem run62 {args : List AV} {K : AV → List AObj → Prop} (hv : Run C Pg T {} none b62 (S (.tup []) 24 (enumL 0 args) [] h) (bodyK T Go.Proofs.Try.f62 K)) (hown : args.all (fun a => !a.owns) = true := by first | rfl | simp [AV.owns]) (hl : args.length ≤ 24 := by exact Nat.le_of_ble_eq_true rfl) : ACall C Pg 62 args h K := ACall.of_runR T_ok {} pl62 (c := bodyOf Go.Proofs.Try.f62) f62 (by kernel_rfl) (by kernel_rfl) c62 n62 hown hl hv
noncomputable def b63 : List It := [.o (some 4) (.alloc false [.int .i64 0, .int .i64 0]) none, .o (some 5) (.mv (.t 0)) none, .o (some 6) (.mv (.t 1)) none, .o (some 7) (.ar .gtr (.t 5) (.t 6)) none, .cond (.tmp 7) [.o (some 8) (.mv (.t 1)) none, .o (some 9) (.mv (.t 0)) none, .o (some 10) (.bld 100 [(0, .t 8), (1, .t 9)]) none, .o none (.st 2 (.t 4) (.tmp 10)) none, .ret] [], .o (some 11) (.mv (.t 0)) none, .o (some 12) (.mv (.t 1)) none, .o (some 13) (.bld 100 [(0, .t 11), (1, .t 12)]) none, .o none (.st 2 (.t 4) (.tmp 13)) none, .ret]
theorem c63 : compR T {} [] (bodyOf Go.Proofs.Try.f63) = b63 := by kernel_rfl
theorem n63 : Go.Proofs.Try.f63.ntmps = 14 := by kernel_rfl
theorem r63 : Go.Proofs.Try.f63.results.toList = [.cell 4 100] := by kernel_rfl
theorem f63 : Pg.funcs[63]? = some Go.Proofs.Try.f63 := by kernel_rfl
theorem run63 {args : List AV} {K : AV → List AObj → Prop} (hv : Run C Pg T {} none b63 (S (.tup []) 14 (enumL 0 args) [] h) (bodyK T Go.Proofs.Try.f63 K)) (hown : args.all (fun a => !a.owns) = true := by first | rfl | simp [AV.owns]) (hl : args.length ≤ 14 := by exact Nat.le_of_ble_eq_true rfl) : ACall C Pg 63 args h K := ACall.of_runR T_ok {} [] (c := bodyOf Go.Proofs.Try.f63) f63 (by kernel_rfl) (by kernel_rfl) c63 n63 hown hl hv
end
end Go.Ab
end
section
set_option linter.unusedSimpArgs false
set_option linter.unusedVariables false
set_option maxRecDepth 100000
set_option maxHeartbeats 4000000
namespace Go.Ab

section
variable {C : CX} {h : List AObj} {K : AV → List AObj → Prop} {a b c d e n nodes now next : Int} {u v w : AV} {z1 z2 z3 : Bool} {s1 s2 s3 : Nat} {l1 l2 l3 : List (List AV)}

theorem pair63 (hK : K (.agg (Link.c (pairOf a b))) h) : ACall C Pg 63 [.int .i64 a, .int .i64 b] h K := by
  refine run63 ?_; simp -implicitDefEqProofs only [b63, r63, ru, ruc, rud, ru5, Nat.reduceLT, Nat.reduceEqDiff, reduceIte, Nat.reduceAdd, Nat.reduceLeDiff, Int.reduceEq, Int.reduceLT, Int.reduceLE, Int.reduceNeg]
  repeat' (first | (refine guardV_split (fun g => ?_) (fun g => ?_) <;> simp -implicitDefEqProofs only [r63, ru, ruc, rud, ru5, Nat.reduceLT, Nat.reduceEqDiff, reduceIte, Nat.reduceAdd, Nat.reduceLeDiff, Int.reduceEq, Int.reduceLT, Int.reduceLE, Int.reduceNeg]) | (refine condV_split (fun g => ?_) (fun g => ?_) <;> simp -implicitDefEqProofs only [r63, ru, ruc, rud, ru5, Nat.reduceLT, Nat.reduceEqDiff, reduceIte, Nat.reduceAdd, Nat.reduceLeDiff, Int.reduceEq, Int.reduceLT, Int.reduceLE, Int.reduceNeg]))
  all_goals simp only [pairOf, decide_eq_true_eq, decide_eq_false_iff_not] at *
  all_goals simp_all [Link.c, -Int.not_lt]
end
end Go.Ab
end
section
set_option linter.unusedSimpArgs false
set_option linter.unusedVariables false
set_option maxRecDepth 100000
set_option maxHeartbeats 4000000
namespace Go.Ab

section
variable {C : CX} {h : List AObj} {K : AV → List AObj → Prop} {a b c d e n nodes now next : Int} {u v w : AV} {z z' z1 z2 z3 : Bool} {s s' s1 s2 s3 : Nat} {x : Net}

theorem bld35n {l1 l2 l3 : List (List AV)} {K : AV → Prop} : agK (abuild T 35 [(0, .agg [.int .i64 a, .int .i64 b, .int .i64 c, .sl z1 s1 l1 .no, .sl z2 s2 l2 .no, .sl z3 s3 l3 .no])]) K = K (.agg [.int .i64 a, .int .i64 b, .int .i64 c, .sl z1 s1 l1 .no, .sl z2 s2 l2 .no, .sl z3 s3 l3 .no, .int .i64 0, .int .i64 0, .int .i64 0, .int .i64 0, .int .i64 0, .str [], .sl true 0 [] .own, .int .i64 0]) := rfl
end
end Go.Ab
end
section
set_option linter.unusedSimpArgs false
set_option linter.unusedVariables false
set_option maxRecDepth 100000
set_option maxHeartbeats 4000000
namespace Go.Ab

section
variable {C : CX} {h : List AObj} {K : AV → List AObj → Prop} {a b c d e n : Int} {z z' z1 z2 z3 z1' z2' z3' : Bool} {s s' s1 s2 s3 s1' s2' s3' : Nat} {x y : Net}

def isCut (x : Net) (a b : Int) : Prop := pairOf a b ∈ x.cuts
theorem cut62 (hk : Nk z1 s1 z2 s2 z3 s3 x) (hc : x.cuts.length < 1000000) (hK : ∀ r, (r = true ↔ isCut x a b) → K (.bool r) h) : ACall C Pg 62 [.agg [.int .i64 x.nodes, .int .i64 x.now, .int .i64 x.next, .sl z1 s1 (x.way.map Letter.c) .no, .sl z2 s2 (x.cuts.map Link.c) .no, .sl z3 s3 (x.timers.map Timer.c) .no], .int .i64 a, .int .i64 b] h K := by
  refine run62 ?_; simp -implicitDefEqProofs only [b62, r62, ru, ruc, rud, ru5, Nat.reduceLT, Nat.reduceEqDiff, reduceIte, Nat.reduceAdd, Nat.reduceLeDiff, Int.reduceEq, Int.reduceLT, Int.reduceLE, Int.reduceNeg]
  refine lp62q0 (α := Nat) 1 (fun i => [(1, .int .i64 a), (2, .int .i64 b), (3, .lptr 0 0), (7, .int .i64 i)]) (fun _ => [[.int .i64 x.nodes, .int .i64 x.now, .int .i64 x.next, .sl z1 s1 (x.way.map Letter.c) .no, .sl z2 s2 (x.cuts.map Link.c) .no, .sl z3 s3 (x.timers.map Timer.c) .no]]) (fun _ => h)
    (fun i => i ≤ x.cuts.length ∧ upTo (· ≠ pairOf a b) x.cuts i) (fun i => x.cuts.length - i) 0 ⟨Nat.zero_le _, upTo.zero⟩ (fun _ => rfl) ?_ rfl rfl rfl ?_
  · simp [allIn, lk, AV.lb, AV.lb.lbs]
  · rintro i ⟨hi, hall⟩
    simp -implicitDefEqProofs only [b62q0, r62, List.length_map, ru, ruc, rud, ru5, Nat.reduceLT, Nat.reduceEqDiff, reduceIte, Nat.reduceAdd, Nat.reduceLeDiff, Int.reduceEq, Int.reduceLT, Int.reduceLE, Int.reduceNeg]
    refine condV_split (fun g => ?_) (fun g => ?_)
    · simp -implicitDefEqProofs only [r62, ru, ruc, rud, ru5, Nat.reduceLT, Nat.reduceEqDiff, reduceIte, Nat.reduceAdd, Nat.reduceLeDiff, Int.reduceEq, Int.reduceLT, Int.reduceLE, Int.reduceNeg]
      simp only [decide_eq_true_eq] at g
      have g' : i < x.cuts.length := by omega
      refine re62q0 ?_
      simp -implicitDefEqProofs only [g62q0, r62, ru, ruc, rud, ru5, Nat.reduceLT, Nat.reduceEqDiff, reduceIte, Nat.reduceAdd, Nat.reduceLeDiff, Int.reduceEq, Int.reduceLT, Int.reduceLE, Int.reduceNeg]
      repeat' (first | (refine guardV_split (fun g => ?_) (fun g => ?_) <;> simp -implicitDefEqProofs only [Link.c, r62, ru, ruc, rud, ru5, Nat.reduceLT, Nat.reduceEqDiff, reduceIte, Nat.reduceAdd, Nat.reduceLeDiff, Int.reduceEq, Int.reduceLT, Int.reduceLE, Int.reduceNeg]) | (refine condV_split (fun g => ?_) (fun g => ?_) <;> simp -implicitDefEqProofs only [Link.c, r62, ru, ruc, rud, ru5, Nat.reduceLT, Nat.reduceEqDiff, reduceIte, Nat.reduceAdd, Nat.reduceLeDiff, Int.reduceEq, Int.reduceLT, Int.reduceLE, Int.reduceNeg]) | (refine ixC hk.c rfl g' ?_ <;> try simp -implicitDefEqProofs only [Link.c, r62, ru, ruc, rud, ru5, Nat.reduceLT, Nat.reduceEqDiff, reduceIte, Nat.reduceAdd, Nat.reduceLeDiff, Int.reduceEq, Int.reduceLT, Int.reduceLE, Int.reduceNeg]) | (refine pair63 ?_ <;> try simp -implicitDefEqProofs only [Link.c, r62, ru, ruc, rud, ru5, Nat.reduceLT, Nat.reduceEqDiff, reduceIte, Nat.reduceAdd, Nat.reduceLeDiff, Int.reduceEq, Int.reduceLT, Int.reduceLE, Int.reduceNeg]) | (refine And.intro ?_ ?_ <;> try simp -implicitDefEqProofs only [Link.c, r62, ru, ruc, rud, ru5, Nat.reduceLT, Nat.reduceEqDiff, reduceIte, Nat.reduceAdd, Nat.reduceLeDiff, Int.reduceEq, Int.reduceLT, Int.reduceLE, Int.reduceNeg]))
      all_goals (try simp only [decide_eq_true_eq, decide_eq_false_iff_not, Bool.not_eq_true', Bool.not_eq_false', if_true, Bool.false_eq_true, if_false] at *)
      all_goals first
        | (refine next_normal (i + 1) ⟨by omega, hall.succ g' ?_⟩ (by omega) rfl ?_ rfl rfl
           · assumption
           · simp [allIn, lk, AV.lb, AV.lb.lbs, wrap_i (show i < 9223372036854775807 by omega)])
        | (refine hK _ ?_
           simp only [true_iff, isCut]
           have g2 : x.cuts[i] = pairOf a b := by first | assumption | simp_all
           rw [← g2]
           exact List.getElem_mem g')
    · simp -implicitDefEqProofs only [r62, ru, ruc, rud, ru5, Nat.reduceLT, Nat.reduceEqDiff, reduceIte, Nat.reduceAdd, Nat.reduceLeDiff, Int.reduceEq, Int.reduceLT, Int.reduceLE, Int.reduceNeg]
      refine hK _ ?_
      simp only [decide_eq_false_iff_not] at g
      have := hall.all (by omega)
      simp only [Bool.false_eq_true, false_iff, isCut]
      exact fun h1 => this _ h1 rfl

end
end Go.Ab
end
section
set_option maxRecDepth 100000
namespace Go.Ab
section
variable {C : CX} {d : AV} {l : List (Nat × AV)} {bx bx' : List (List AV)} {h h' : List AObj} {s : ASt} {K : Exit → ASt → Prop}
noncomputable def b5 : List It := [.o (some 3) (.box false (.t 0)) none, .o (some 6) (.tk (.const (.bool false))) none, .o (some 13) (.ldA 6 [.int .i64, .int .i64, .int .i64, .slice 33, .slice 100, .slice 86] (.t 3)) none, .o (some 14) (.call 12 [.t 13]) none, .o (some 15) (.not (.t 14)) none, .cond (.tmp 15) [.o (some 16) (.call 13 []) none, .o (some 6) (.tk (.tmp 16)) none, .ret] [], .o (some 18) (.ldA 6 [.int .i64, .int .i64, .int .i64, .slice 33, .slice 100, .slice 86] (.t 3)) none, .o (some 19) (.mv (.t 1)) none, .o (some 20) (.mv (.t 2)) none, .o (some 21) (.call 23 [.t 18, .t 19, .t 20]) none, .o (some 17) (.mv (.t 21)) none, .o (some 22) (.ext (.t 17) 0) none, .o (some 23) (.ext (.t 17) 1) none, .o (some 7) (.alloc false [.int .i64 0, .int .i64 0, .int .i64 0, .sl true 0 [] .own, .sl true 0 [] .own, .sl true 0 [] .own]) none, .o none (.st 6 (.t 7) (.tmp 22)) none, .o (some 8) (.tk (.tmp 23)) none, .o (some 24) (.ldA 6 [.int .i64, .int .i64, .int .i64, .slice 33, .slice 100, .slice 86] (.t 3)) none, .o (some 25) (.mv (.t 1)) none, .o (some 26) (.mv (.t 2)) none, .o (some 27) (.call 24 [.t 24, .t 25, .t 26]) none, .o (some 9) (.alloc false [.int .i64 0, .int .i64 0, .int .i64 0, .sl true 0 [] .own, .sl true 0 [] .own, .sl true 0 [] .own, .int .i64 0, .int .i64 0, .int .i64 0, .int .i64 0, .int .i64 0, .str [], .sl true 0 [] .own, .int .i64 0]) none, .o none (.st 14 (.t 9) (.tmp 27)) none, .o (some 29) (.ldA 6 [.int .i64, .int .i64, .int .i64, .slice 33, .slice 100, .slice 86] (.t 3)) none, .o (some 30) (.mv (.t 1)) none, .o (some 31) (.mv (.t 2)) none, .o (some 32) (.call 25 [.t 29, .t 30, .t 31]) none, .o (some 28) (.mv (.t 32)) none, .o (some 33) (.ext (.t 28) 0) none, .o (some 34) (.ext (.t 28) 1) none, .o (some 10) (.alloc false [.int .i64 0, .int .i64 0, .int .i64 0, .sl true 0 [] .own, .sl true 0 [] .own, .sl true 0 [] .own]) none, .o none (.st 6 (.t 10) (.tmp 33)) none, .o (some 11) (.tk (.tmp 34)) none, .o (some 35) (.ldA 6 [.int .i64, .int .i64, .int .i64, .slice 33, .slice 100, .slice 86] (.t 3)) none, .o (some 36) (.mv (.t 1)) none, .o (some 37) (.mv (.t 2)) none, .o (some 38) (.call 26 [.t 35, .t 36, .t 37]) none, .o (some 12) (.alloc false [.int .i64 0, .int .i64 0, .int .i64 0, .sl true 0 [] .own, .sl true 0 [] .own, .sl true 0 [] .own, .int .i64 0, .int .i64 0, .int .i64 0, .int .i64 0, .int .i64 0, .str [], .sl true 0 [] .own, .int .i64 0]) none, .o none (.st 14 (.t 12) (.tmp 38)) none, .o (some 39) (.call 13 []) none, .o (some 40) (.mv (.t 39)) none, .o (some 41) (.mv (.t 8)) (some (some 40, true)), .o (some 42) (.fa 13 (.t 9)) (some (some 40, true)), .o (some 43) (.ld1 (.int .i64) (.t 42)) (some (some 40, true)), .o (some 44) (.eq1 (.int .i64) false (.t 41) (.t 43)) (some (some 40, true)), .o (some 45) (.pick (.t 40) (.t 44) (.c (.bool false))) none, .o (some 46) (.mv (.t 45)) none, .o (some 47) (.ldA 6 [.int .i64, .int .i64, .int .i64, .slice 33, .slice 100, .slice 86] (.t 7)) (some (some 46, true)), .o (some 48) (.fa 0 (.t 9)) (some (some 46, true)), .o (some 49) (.ldA 6 [.int .i64, .int .i64, .int .i64, .slice 33, .slice 100, .slice 86] (.t 48)) (some (some 46, true)), .o (some 50) (.call 18 [.t 47, .t 49]) (some (some 46, true)), .o (some 51) (.pick (.t 46) (.t 50) (.c (.bool false))) none, .o (some 52) (.mv (.t 51)) none, .o (some 53) (.mv (.t 11)) (some (some 52, true)), .o (some 54) (.fa 13 (.t 12)) (some (some 52, true)), .o (some 55) (.ld1 (.int .i64) (.t 54)) (some (some 52, true)), .o (some 56) (.eq1 (.int .i64) false (.t 53) (.t 55)) (some (some 52, true)), .o (some 57) (.pick (.t 52) (.t 56) (.c (.bool false))) none, .o (some 58) (.mv (.t 57)) none, .o (some 59) (.ldA 6 [.int .i64, .int .i64, .int .i64, .slice 33, .slice 100, .slice 86] (.t 10)) (some (some 58, true)), .o (some 60) (.fa 0 (.t 12)) (some (some 58, true)), .o (some 61) (.ldA 6 [.int .i64, .int .i64, .int .i64, .slice 33, .slice 100, .slice 86] (.t 60)) (some (some 58, true)), .o (some 62) (.call 18 [.t 59, .t 61]) (some (some 58, true)), .o (some 63) (.pick (.t 58) (.t 62) (.c (.bool false))) none, .o (some 6) (.tk (.tmp 63)) none, .ret]
theorem c5 : compR T {} [] (bodyOf Go.Proofs.Try.f5) = b5 := by kernel_rfl
theorem n5 : Go.Proofs.Try.f5.ntmps = 64 := by kernel_rfl
theorem r5 : Go.Proofs.Try.f5.results.toList = [.tmp 6] := by kernel_rfl
theorem f5 : Pg.funcs[5]? = some Go.Proofs.Try.f5 := by kernel_rfl
theorem run5 {args : List AV} {K : AV → List AObj → Prop} (hv : Run C Pg T {} none b5 (S (.tup []) 64 (enumL 0 args) [] h) (bodyK T Go.Proofs.Try.f5 K)) (hown : args.all (fun a => !a.owns) = true := by first | rfl | simp [AV.owns]) (hl : args.length ≤ 64 := by exact Nat.le_of_ble_eq_true rfl) : ACall C Pg 5 args h K := ACall.of_runR T_ok {} [] (c := bodyOf Go.Proofs.Try.f5) f5 (by kernel_rfl) (by kernel_rfl) c5 n5 hown hl hv
noncomputable def b24q0 : List It := [.o (some 43) (.mv (.t 10)) none, .o (some 44) (.fa 4 (.t 3)) none, .o (some 45) (.ld1 (.slice 100) (.t 44)) none, .o (some 46) (.lens (.t 45)) none, .o (some 47) (.ar .lss (.t 43) (.t 46)) none, .cond (.tmp 47) [] [.exit 1], .block 2 [.o (some 50) (.fa 4 (.t 3)) none, .o (some 51) (.ld1 (.slice 100) (.t 50)) none, .o (some 52) (.mv (.t 10)) none, .o (some 53) (.ixs 2 [.int .i64, .int .i64] (.t 51) (.t 52)) none, .o (some 54) (.ldA 2 [.int .i64, .int .i64] (.t 53)) none, .o (some 11) (.alloc false [.int .i64 0, .int .i64 0]) none, .o none (.st 2 (.t 11) (.tmp 54)) none, .o (some 55) (.mv (.t 9)) none, .o (some 56) (.not (.t 55)) none, .o (some 57) (.mv (.t 56)) none, .o (some 58) (.fa 0 (.t 11)) (some (some 57, true)), .o (some 59) (.ld1 (.int .i64) (.t 58)) (some (some 57, true)), .o (some 60) (.fa 0 (.t 7)) (some (some 57, true)), .o (some 61) (.ld1 (.int .i64) (.t 60)) (some (some 57, true)), .o (some 62) (.ar .gtr (.t 59) (.t 61)) (some (some 57, true)), .o (some 63) (.mv (.t 62)) (some (some 57, true)), .o (some 64) (.fa 0 (.t 11)) (some (some 63, false)), .o (some 65) (.ld1 (.int .i64) (.t 64)) (some (some 63, false)), .o (some 66) (.fa 0 (.t 7)) (some (some 63, false)), .o (some 67) (.ld1 (.int .i64) (.t 66)) (some (some 63, false)), .o (some 68) (.eq1 (.int .i64) false (.t 65) (.t 67)) (some (some 63, false)), .o (some 69) (.mv (.t 68)) (some (some 63, false)), .o (some 70) (.fa 1 (.t 11)) (some (some 69, true)), .o (some 71) (.ld1 (.int .i64) (.t 70)) (some (some 69, true)), .o (some 72) (.fa 1 (.t 7)) (some (some 69, true)), .o (some 73) (.ld1 (.int .i64) (.t 72)) (some (some 69, true)), .o (some 74) (.ar .gtr (.t 71) (.t 73)) (some (some 69, true)), .o (some 75) (.pick (.t 69) (.t 74) (.c (.bool false))) (some (some 63, false)), .o (some 76) (.pick (.t 63) (.c (.bool true)) (.t 75)) (some (some 57, true)), .o (some 77) (.pick (.t 57) (.t 76) (.c (.bool false))) none, .cond (.tmp 77) [.o (some 78) (.tk (.tmp 8)) none, .o (some 79) (.ldA 2 [.int .i64, .int .i64] (.t 7)) none, .o (some 80) (.bsl false 23 1 [(0, .t 79)]) none, .o (some 81) (.app false 23 23 (.tmp 78) (.tmp 80)) none, .o (some 8) (.tk (.tmp 81)) none, .o (some 9) (.tk (.const (.bool true))) none] [], .o (some 82) (.tk (.tmp 8)) none, .o (some 83) (.ldA 2 [.int .i64, .int .i64] (.t 11)) none, .o (some 84) (.bsl false 23 1 [(0, .t 83)]) none, .o (some 85) (.app false 23 23 (.tmp 82) (.tmp 84)) none, .o (some 8) (.tk (.tmp 85)) none], .o (some 48) (.mv (.t 10)) none, .o (some 49) (.ar .add (.t 48) (.c (.int .i64 1))) none, .o (some 10) (.tk (.tmp 49)) none]
noncomputable def b24 : List It := [.o (some 3) (.box false (.t 0)) none, .o (some 6) (.alloc false [.int .i64 0, .int .i64 0, .int .i64 0, .sl true 0 [] .own, .sl true 0 [] .own, .sl true 0 [] .own, .int .i64 0, .int .i64 0, .int .i64 0, .int .i64 0, .int .i64 0, .str [], .sl true 0 [] .own, .int .i64 0]) none, .block 0 [.o (some 13) (.ldA 6 [.int .i64, .int .i64, .int .i64, .slice 33, .slice 100, .slice 86] (.t 3)) none, .o (some 14) (.call 48 [.t 13]) none, .o (some 15) (.not (.t 14)) none, .o (some 12) (.tk (.tmp 15)) none, .cond (.tmp 12) [.o (some 16) (.call 44 [.c (.int .i64 2)]) none, .o none (.st 14 (.t 6) (.tmp 16)) none, .ret] [.o (some 18) (.ldA 6 [.int .i64, .int .i64, .int .i64, .slice 33, .slice 100, .slice 86] (.t 3)) none, .o (some 19) (.mv (.t 1)) none, .o (some 20) (.call 61 [.t 18, .t 19]) none, .o (some 21) (.not (.t 20)) none, .o (some 22) (.mv (.t 21)) none, .o (some 23) (.ldA 6 [.int .i64, .int .i64, .int .i64, .slice 33, .slice 100, .slice 86] (.t 3)) (some (some 22, false)), .o (some 24) (.mv (.t 2)) (some (some 22, false)), .o (some 25) (.call 61 [.t 23, .t 24]) (some (some 22, false)), .o (some 26) (.not (.t 25)) (some (some 22, false)), .o (some 27) (.pick (.t 22) (.c (.bool true)) (.t 26)) none, .o (some 28) (.mv (.t 27)) none, .o (some 29) (.mv (.t 1)) (some (some 28, false)), .o (some 30) (.mv (.t 2)) (some (some 28, false)), .o (some 31) (.eq1 (.int .i64) false (.t 29) (.t 30)) (some (some 28, false)), .o (some 32) (.pick (.t 28) (.c (.bool true)) (.t 31)) none, .o (some 17) (.tk (.tmp 32)) none, .cond (.tmp 17) [.o (some 33) (.call 44 [.c (.int .i64 1)]) none, .o none (.st 14 (.t 6) (.tmp 33)) none, .ret] [.o (some 35) (.ldA 6 [.int .i64, .int .i64, .int .i64, .slice 33, .slice 100, .slice 86] (.t 3)) none, .o (some 36) (.mv (.t 1)) none, .o (some 37) (.mv (.t 2)) none, .o (some 38) (.call 62 [.t 35, .t 36, .t 37]) none, .o (some 34) (.tk (.tmp 38)) none, .cond (.tmp 34) [.o (some 39) (.call 44 [.c (.int .i64 5)]) none, .o none (.st 14 (.t 6) (.tmp 39)) none, .ret] []]]], .o (some 40) (.mv (.t 1)) none, .o (some 41) (.mv (.t 2)) none, .o (some 42) (.call 63 [.t 40, .t 41]) none, .o (some 7) (.alloc false [.int .i64 0, .int .i64 0]) none, .o none (.st 2 (.t 7) (.tmp 42)) none, .o (some 8) (.tk (.const (.slice none 0 0))) none, .o (some 9) (.tk (.const (.bool false))) none, .o (some 10) (.tk (.const (.int .i64 0))) none, .block 1 [.loop b24q0 (lp (bodyOf Go.Proofs.Try.f24) 0)], .o (some 86) (.mv (.t 9)) none, .o (some 87) (.not (.t 86)) none, .cond (.tmp 87) [.o (some 88) (.tk (.tmp 8)) none, .o (some 89) (.ldA 2 [.int .i64, .int .i64] (.t 7)) none, .o (some 90) (.bsl false 23 1 [(0, .t 89)]) none, .o (some 91) (.app false 23 23 (.tmp 88) (.tmp 90)) none, .o (some 8) (.tk (.tmp 91)) none] [], .o (some 92) (.mv (.t 8)) none, .o (some 93) (.fa 4 (.t 3)) none, .o none (.st 1 (.t 93) (.tmp 92)) none, .o (some 94) (.ldA 6 [.int .i64, .int .i64, .int .i64, .slice 33, .slice 100, .slice 86] (.t 3)) none, .o (some 95) (.bld 35 [(0, .t 94)]) none, .o none (.st 14 (.t 6) (.tmp 95)) none, .ret]
theorem c24q0 : compR T ann24 [] (lp (bodyOf Go.Proofs.Try.f24) 0) = b24q0 := by kernel_rfl
theorem lp24q0 {α : Type} (m : Nat) (ls : α → List (Nat × AV)) (bs : α → List (List AV)) (hs : α → List AObj) (φ : α → Prop) (μ : α → Nat) (g0 : α) (h0 : φ g0) (hkeys : ∀ g, (ls g).map (·.1) = (ls g0).map (·.1)) (e1 : allIn d l m (ls g0)) (e2 : bs g0 = bx.take m) (e3 : (bs g0).all (fun cs => AV.lb.lbs m cs) = true) (e4 : h = hs g0) (round : ∀ g, φ g → Run C Pg T ann24 none b24q0 (S .undef 96 (ls g) (bs g) (hs g)) (nextR d 96 m ls bs hs φ μ g K)) : AWp C Pg none (.loop (lp (bodyOf Go.Proofs.Try.f24) 0)) (S d 96 l bx h) K := AWp.loopQ T_ok ann24 [] c24q0 m ls bs hs φ μ g0 h0 hkeys e1 e2 e3 e4 round
theorem c24 : compR T ann24 [] (bodyOf Go.Proofs.Try.f24) = b24 := by kernel_rfl
theorem n24 : Go.Proofs.Try.f24.ntmps = 96 := by kernel_rfl
theorem r24 : Go.Proofs.Try.f24.results.toList = [.cell 6 35] := by kernel_rfl
theorem f24 : Pg.funcs[24]? = some Go.Proofs.Try.f24 := by kernel_rfl
theorem run24 {args : List AV} {K : AV → List AObj → Prop} (hv : Run C Pg T ann24 none b24 (S (.tup []) 96 (enumL 0 args) [] h) (bodyK T Go.Proofs.Try.f24 K)) (hown : args.all (fun a => !a.owns) = true := by first | rfl | simp [AV.owns]) (hl : args.length ≤ 96 := by exact Nat.le_of_ble_eq_true rfl) : ACall C Pg 24 args h K := ACall.of_runR T_ok ann24 [] (c := bodyOf Go.Proofs.Try.f24) f24 (by kernel_rfl) (by kernel_rfl) c24 n24 hown hl hv
noncomputable def b25 : List It := [.o (some 3) (.box false (.t 0)) none, .o (some 4) (.box true (.t 1)) none, .o (some 5) (.box true (.t 2)) none, .o (some 6) (.alloc false [.int .i64 0, .int .i64 0, .int .i64 0, .sl true 0 [] .own, .sl true 0 [] .own, .sl true 0 [] .own]) none, .o (some 7) (.tk (.const (.int .i64 0))) none, .o (some 8) (.ldA 6 [.int .i64, .int .i64, .int .i64, .slice 33, .slice 100, .slice 86] (.t 3)) none, .o (some 9) (.mkf 64 [.t 4, .t 5]) none, .o (some 10) (.call 58 [.t 8, .t 9]) none, .o (some 11) (.ext (.t 10) 0) none, .o (some 12) (.ext (.t 10) 1) none, .o none (.st 6 (.t 6) (.tmp 11)) none, .o (some 7) (.tk (.tmp 12)) none, .ret]
theorem c25 : compR T ann25 [] (bodyOf Go.Proofs.Try.f25) = b25 := by kernel_rfl
theorem n25 : Go.Proofs.Try.f25.ntmps = 13 := by kernel_rfl
theorem r25 : Go.Proofs.Try.f25.results.toList = [.cell 6 26, .tmp 7] := by kernel_rfl
theorem f25 : Pg.funcs[25]? = some Go.Proofs.Try.f25 := by kernel_rfl
theorem run25 {args : List AV} {K : AV → List AObj → Prop} (hv : Run C Pg T ann25 none b25 (S (.tup []) 13 (enumL 0 args) [] h) (bodyK T Go.Proofs.Try.f25 K)) (hown : args.all (fun a => !a.owns) = true := by first | rfl | simp [AV.owns]) (hl : args.length ≤ 13 := by exact Nat.le_of_ble_eq_true rfl) : ACall C Pg 25 args h K := ACall.of_runR T_ok ann25 [] (c := bodyOf Go.Proofs.Try.f25) f25 (by kernel_rfl) (by kernel_rfl) c25 n25 hown hl hv
noncomputable def b26q0 : List It := [.o (some 38) (.mv (.t 8)) none, .o (some 39) (.fa 4 (.t 3)) none, .o (some 40) (.ld1 (.slice 100) (.t 39)) none, .o (some 41) (.lens (.t 40)) none, .o (some 42) (.ar .lss (.t 38) (.t 41)) none, .cond (.tmp 42) [] [.exit 1], .block 2 [.rf (rg (bodyOf Go.Proofs.Try.f26) 0), .cond (.tmp 53) [.o (some 54) (.tk (.tmp 7)) none, .o (some 55) (.fa 4 (.t 3)) none, .o (some 56) (.ld1 (.slice 100) (.t 55)) none, .o (some 57) (.mv (.t 8)) none, .o (some 58) (.ixs 2 [.int .i64, .int .i64] (.t 56) (.t 57)) none, .o (some 59) (.ldA 2 [.int .i64, .int .i64] (.t 58)) none, .o (some 60) (.bsl false 23 1 [(0, .t 59)]) none, .o (some 61) (.app false 23 23 (.tmp 54) (.tmp 60)) none, .o (some 7) (.tk (.tmp 61)) none] []], .o (some 43) (.mv (.t 8)) none, .o (some 44) (.ar .add (.t 43) (.c (.int .i64 1))) none, .o (some 8) (.tk (.tmp 44)) none]
noncomputable def b26 : List It := [.o (some 3) (.box false (.t 0)) none, .o (some 6) (.alloc false [.int .i64 0, .int .i64 0, .int .i64 0, .sl true 0 [] .own, .sl true 0 [] .own, .sl true 0 [] .own, .int .i64 0, .int .i64 0, .int .i64 0, .int .i64 0, .int .i64 0, .str [], .sl true 0 [] .own, .int .i64 0]) none, .block 0 [.o (some 10) (.ldA 6 [.int .i64, .int .i64, .int .i64, .slice 33, .slice 100, .slice 86] (.t 3)) none, .o (some 11) (.call 48 [.t 10]) none, .o (some 12) (.not (.t 11)) none, .o (some 9) (.tk (.tmp 12)) none, .cond (.tmp 9) [.o (some 13) (.call 44 [.c (.int .i64 2)]) none, .o none (.st 14 (.t 6) (.tmp 13)) none, .ret] [.o (some 15) (.ldA 6 [.int .i64, .int .i64, .int .i64, .slice 33, .slice 100, .slice 86] (.t 3)) none, .o (some 16) (.mv (.t 1)) none, .o (some 17) (.call 61 [.t 15, .t 16]) none, .o (some 18) (.not (.t 17)) none, .o (some 19) (.mv (.t 18)) none, .o (some 20) (.ldA 6 [.int .i64, .int .i64, .int .i64, .slice 33, .slice 100, .slice 86] (.t 3)) (some (some 19, false)), .o (some 21) (.mv (.t 2)) (some (some 19, false)), .o (some 22) (.call 61 [.t 20, .t 21]) (some (some 19, false)), .o (some 23) (.not (.t 22)) (some (some 19, false)), .o (some 24) (.pick (.t 19) (.c (.bool true)) (.t 23)) none, .o (some 25) (.mv (.t 24)) none, .o (some 26) (.mv (.t 1)) (some (some 25, false)), .o (some 27) (.mv (.t 2)) (some (some 25, false)), .o (some 28) (.eq1 (.int .i64) false (.t 26) (.t 27)) (some (some 25, false)), .o (some 29) (.pick (.t 25) (.c (.bool true)) (.t 28)) none, .o (some 14) (.tk (.tmp 29)) none, .cond (.tmp 14) [.o (some 30) (.call 44 [.c (.int .i64 1)]) none, .o none (.st 14 (.t 6) (.tmp 30)) none, .ret] [.o (some 32) (.ldA 6 [.int .i64, .int .i64, .int .i64, .slice 33, .slice 100, .slice 86] (.t 3)) none, .o (some 33) (.mv (.t 1)) none, .o (some 34) (.mv (.t 2)) none, .o (some 35) (.call 62 [.t 32, .t 33, .t 34]) none, .o (some 36) (.not (.t 35)) none, .o (some 31) (.tk (.tmp 36)) none, .cond (.tmp 31) [.o (some 37) (.call 44 [.c (.int .i64 4)]) none, .o none (.st 14 (.t 6) (.tmp 37)) none, .ret] []]]], .o (some 7) (.tk (.const (.slice none 0 0))) none, .o (some 8) (.tk (.const (.int .i64 0))) none, .block 1 [.loop b26q0 (lp (bodyOf Go.Proofs.Try.f26) 0)], .o (some 62) (.mv (.t 7)) none, .o (some 63) (.fa 4 (.t 3)) none, .o none (.st 1 (.t 63) (.tmp 62)) none, .o (some 64) (.ldA 6 [.int .i64, .int .i64, .int .i64, .slice 33, .slice 100, .slice 86] (.t 3)) none, .o (some 65) (.bld 35 [(0, .t 64)]) none, .o none (.st 14 (.t 6) (.tmp 65)) none, .ret]
theorem c26q0 : compR T ann26 pl26 (lp (bodyOf Go.Proofs.Try.f26) 0) = b26q0 := by kernel_rfl
theorem lp26q0 {α : Type} (m : Nat) (ls : α → List (Nat × AV)) (bs : α → List (List AV)) (hs : α → List AObj) (φ : α → Prop) (μ : α → Nat) (g0 : α) (h0 : φ g0) (hkeys : ∀ g, (ls g).map (·.1) = (ls g0).map (·.1)) (e1 : allIn d l m (ls g0)) (e2 : bs g0 = bx.take m) (e3 : (bs g0).all (fun cs => AV.lb.lbs m cs) = true) (e4 : h = hs g0) (round : ∀ g, φ g → Run C Pg T ann26 none b26q0 (S .undef 66 (ls g) (bs g) (hs g)) (nextR d 66 m ls bs hs φ μ g K)) : AWp C Pg none (.loop (lp (bodyOf Go.Proofs.Try.f26) 0)) (S d 66 l bx h) K := AWp.loopQ T_ok ann26 pl26 c26q0 m ls bs hs φ μ g0 h0 hkeys e1 e2 e3 e4 round
theorem c26 : compR T ann26 pl26 (bodyOf Go.Proofs.Try.f26) = b26 := by kernel_rfl
theorem dc26q0 : detC T ann26 (rg (bodyOf Go.Proofs.Try.f26) 0) = some ([45, 46, 47, 48, 49, 50, 51, 52, 53], [(.o (some 45) (.fa 4 (.t 3)) none, []), (.o (some 46) (.ld1 (.slice 100) (.t 45)) none, [45]), (.o (some 47) (.mv (.t 8)) none, []), (.o (some 48) (.ixs 2 [.int .i64, .int .i64] (.t 46) (.t 47)) none, [46, 47]), (.o (some 49) (.ldA 2 [.int .i64, .int .i64] (.t 48)) none, [48]), (.o (some 50) (.mv (.t 1)) none, []), (.o (some 51) (.mv (.t 2)) none, []), (.o (some 52) (.call 63 [.t 50, .t 51]) none, [50, 51]), (.o (some 53) (.eqt 100 true (.t 49) (.t 52)) none, [49, 52])]) := by kernel_rfl
theorem rd26q0 {v45 v46 v47 v48 v49 v50 v51 v52 v53 : AV} (s0 : ∀ l', lk d l' 3 = lk d l 3 → Run C Pg T ann26 none [.o (some 45) (.fa 4 (.t 3)) none] (S d 66 l' bx h) (stepR d 66 bx h (some 45) l' v45)) (s1 : ∀ l', lk d l' 45 = v45 → Run C Pg T ann26 none [.o (some 46) (.ld1 (.slice 100) (.t 45)) none] (S d 66 l' bx h) (stepR d 66 bx h (some 46) l' v46)) (s2 : ∀ l', lk d l' 8 = lk d l 8 → Run C Pg T ann26 none [.o (some 47) (.mv (.t 8)) none] (S d 66 l' bx h) (stepR d 66 bx h (some 47) l' v47)) (s3 : ∀ l', lk d l' 46 = v46 → lk d l' 47 = v47 → Run C Pg T ann26 none [.o (some 48) (.ixs 2 [.int .i64, .int .i64] (.t 46) (.t 47)) none] (S d 66 l' bx h) (stepR d 66 bx h (some 48) l' v48)) (s4 : ∀ l', lk d l' 48 = v48 → Run C Pg T ann26 none [.o (some 49) (.ldA 2 [.int .i64, .int .i64] (.t 48)) none] (S d 66 l' bx h) (stepR d 66 bx h (some 49) l' v49)) (s5 : ∀ l', lk d l' 1 = lk d l 1 → Run C Pg T ann26 none [.o (some 50) (.mv (.t 1)) none] (S d 66 l' bx h) (stepR d 66 bx h (some 50) l' v50)) (s6 : ∀ l', lk d l' 2 = lk d l 2 → Run C Pg T ann26 none [.o (some 51) (.mv (.t 2)) none] (S d 66 l' bx h) (stepR d 66 bx h (some 51) l' v51)) (s7 : ∀ l', lk d l' 50 = v50 → lk d l' 51 = v51 → Run C Pg T ann26 none [.o (some 52) (.call 63 [.t 50, .t 51]) none] (S d 66 l' bx h) (stepR d 66 bx h (some 52) l' v52)) (s8 : ∀ l', lk d l' 49 = v49 → lk d l' 52 = v52 → Run C Pg T ann26 none [.o (some 53) (.eqt 100 true (.t 49) (.t 52)) none] (S d 66 l' bx h) (stepR d 66 bx h (some 53) l' v53)) (hK : K .normal (S d 66 ((53, v53) :: (52, v52) :: (51, v51) :: (50, v50) :: (49, v49) :: (48, v48) :: (47, v47) :: (46, v46) :: (45, v45) :: l) bx h)) : AWp C Pg none (rg (bodyOf Go.Proofs.Try.f26) 0) (S d 66 l bx h) K := AWp.regT T_ok mixed dc26q0 ((53, v53) :: (52, v52) :: (51, v51) :: (50, v50) :: (49, v49) :: (48, v48) :: (47, v47) :: (46, v46) :: (45, v45) :: l) (Sk.cons rfl (Sk.cons rfl (Sk.cons rfl (Sk.cons rfl (Sk.cons rfl (Sk.cons rfl (Sk.cons rfl (Sk.cons rfl (Sk.cons rfl (Sk.refl)))))))))) ⟨fun l' ag => s0 l' (ag 3 rfl), fun l' ag => s1 l' (ag 45 rfl), fun l' ag => s2 l' (ag 8 rfl), fun l' ag => s3 l' (ag 46 rfl) (ag 47 rfl), fun l' ag => s4 l' (ag 48 rfl), fun l' ag => s5 l' (ag 1 rfl), fun l' ag => s6 l' (ag 2 rfl), fun l' ag => s7 l' (ag 50 rfl) (ag 51 rfl), fun l' ag => s8 l' (ag 49 rfl) (ag 52 rfl), trivial⟩ hK
theorem n26 : Go.Proofs.Try.f26.ntmps = 66 := by kernel_rfl
theorem r26 : Go.Proofs.Try.f26.results.toList = [.cell 6 35] := by kernel_rfl
theorem f26 : Pg.funcs[26]? = some Go.Proofs.Try.f26 := by kernel_rfl
theorem run26 {args : List AV} {K : AV → List AObj → Prop} (hv : Run C Pg T ann26 none b26 (S (.tup []) 66 (enumL 0 args) [] h) (bodyK T Go.Proofs.Try.f26 K)) (hown : args.all (fun a => !a.owns) = true := by first | rfl | simp [AV.owns]) (hl : args.length ≤ 66 := by exact Nat.le_of_ble_eq_true rfl) : ACall C Pg 26 args h K := ACall.of_runR T_ok ann26 pl26 (c := bodyOf Go.Proofs.Try.f26) f26 (by kernel_rfl) (by kernel_rfl) c26 n26 hown hl hv
noncomputable def b64 : List It := [.o (some 4) (.tk (.const (.int .i64 0))) none, .o (some 5) (.mv (.t 0)) none, .o (some 6) (.ld1 (.int .i64) (.t 1)) none, .o (some 7) (.ld1 (.int .i64) (.t 2)) none, .o (some 8) (.call 65 [.t 5, .t 6, .t 7]) none, .o (some 4) (.tk (.tmp 8)) none, .ret]
theorem c64 : compR T {} [] (bodyOf Go.Proofs.Try.f64) = b64 := by kernel_rfl
theorem n64 : Go.Proofs.Try.f64.ntmps = 9 := by kernel_rfl
theorem r64 : Go.Proofs.Try.f64.results.toList = [.tmp 4] := by kernel_rfl
theorem f64 : Pg.funcs[64]? = some Go.Proofs.Try.f64 := by kernel_rfl
theorem run64 {args : List AV} {K : AV → List AObj → Prop} (hv : Run C Pg T {} none b64 (S (.tup []) 9 (enumL 0 args) [] h) (bodyK T Go.Proofs.Try.f64 K)) (hown : args.all (fun a => !a.owns) = true := by first | rfl | simp [AV.owns]) (hl : args.length ≤ 9 := by exact Nat.le_of_ble_eq_true rfl) : ACall C Pg 64 args h K := ACall.of_runR T_ok {} [] (c := bodyOf Go.Proofs.Try.f64) f64 (by kernel_rfl) (by kernel_rfl) c64 n64 hown hl hv
end
end Go.Ab
end
section
set_option linter.unusedSimpArgs false
set_option linter.unusedVariables false
set_option maxRecDepth 100000
set_option maxHeartbeats 4000000
namespace Go.Ab

section
variable {C : CX} {h : List AObj} {K : AV → List AObj → Prop} {a b nd tg n : Int} {x : Net} {A B D : AV} {cid : Nat} {z1 z2 z3 : Bool} {s1 s2 s3 : Nat}
theorem heal25g (hk : Nk z1 s1 z2 s2 z3 s3 x) (hc : x.cuts.length < 1000000)
    (h1 : ¬ WF x → K (.tup [zeroN, .int .i64 2]) h)
    (h2 : WF x → healE x a b ≠ 0 → K (.tup [zeroN, .int .i64 (healE x a b)]) h)
    (h3 : WF x → healE x a b = 0 → ∀ z1 s1 z2 s2 z3 s3, Nk z1 s1 z2 s2 z3 s3 (healG x a b) → K (.tup [.agg [.int .i64 (healG x a b).nodes, .int .i64 (healG x a b).now, .int .i64 (healG x a b).next, .sl z1 s1 ((healG x a b).way.map Letter.c) .no, .sl z2 s2 ((healG x a b).cuts.map Link.c) .no, .sl z3 s3 ((healG x a b).timers.map Timer.c) .no], .int .i64 0]) h) :
    ACall C Pg 25 [.agg [.int .i64 x.nodes, .int .i64 x.now, .int .i64 x.next, .sl z1 s1 (x.way.map Letter.c) .no, .sl z2 s2 (x.cuts.map Link.c) .no, .sl z3 s3 (x.timers.map Timer.c) .no], .int .i64 a, .int .i64 b] h K := by
  refine ACall.closed (by simp [AV.deep.deeps, AV.deep, deep_L, deep_C, deep_T]) (ACall.weaken (ACall.freeze (ACall.freeze (ACall.freeze ?_))))
  refine run25 ?_
  simp -implicitDefEqProofs [b25, r25, rue, wrC, readC, -List.getD_eq_getElem?_getD, ru, ruc, rud, laid]
  refine changed58 hk hc rfl (fun hw => ?_) (fun hw cid A B D g hcid hge hch => ?_)
  · simp -implicitDefEqProofs [r25, zeroN, rue, wrC, readC, -List.getD_eq_getElem?_getD, ru, ruc, rud, laid]
    exact frz3 ⟨rfl, rfl, h1 hw⟩
  · have ha := hch.all
    refine run64 ?_
    simp -implicitDefEqProofs [b64, r64, ha, rue, wrC, readC, -List.getD_eq_getElem?_getD, ru, ruc, rud, laid]
    refine (heal65 hw hch hc fun h' y A' B' D' hc2 hy => ?_)
    simp -implicitDefEqProofs [r64, Letter.c, rue, wrC, readC, -List.getD_eq_getElem?_getD, ru, ruc, rud, laid]
    refine ⟨healE x a b, y, A', B', D', rfl, hc2, fun h0 => ?_, fun h0 => ?_⟩
    · simp -implicitDefEqProofs [r25, zeroN, rue, wrC, readC, -List.getD_eq_getElem?_getD, ru, ruc, rud, laid]
      exact frz3 ⟨rfl, rfl, h2 hw h0⟩
    · have e := hy h0
      subst e
      have ha2 := hc2.all
      simp -implicitDefEqProofs [r25, ha2, rue, wrC, readC, -List.getD_eq_getElem?_getD, ru, ruc, rud, laid]
      exact fin (K := fun r => K r h) hc2 (rest := [_]) rfl (fun _ _ => rfl) rfl fun z1 s1 z2 s2 z3 s3 hk2 => h3 hw h0 z1 s1 z2 s2 z3 s3 hk2
end
end Go.Ab
end
section
set_option linter.unusedSimpArgs false
set_option linter.unusedVariables false
set_option maxRecDepth 100000
set_option maxHeartbeats 4000000
namespace Go.Ab

theorem resOf.ex (x : Net) (e : Int) (g : Net) : ∃ y ee, resOf x e g y ee := by
  by_cases w : WF x
  · by_cases h : e = 0
    · exact ⟨g, 0, .inr (.inr ⟨w, h, rfl, rfl⟩)⟩
    · exact ⟨zN, e, .inr (.inl ⟨w, h, rfl, rfl⟩)⟩
  · exact ⟨zN, 2, .inl ⟨w, rfl, rfl⟩⟩
section
variable {C : CX} {h : List AObj} {K : AV → List AObj → Prop} {a b nd tg n ee : Int} {z1 z2 z3 : Bool} {s1 s2 s3 : Nat} {x y : Net}
theorem heal25u (hk : Nk z1 s1 z2 s2 z3 s3 x) (hc : x.cuts.length < 1000000) (hr : resOf x (healE x a b) (healG x a b) y ee)
    (hK : ∀ z1 s1 z2 s2 z3 s3, Nk z1 s1 z2 s2 z3 s3 y → K (.tup [.agg [.int .i64 y.nodes, .int .i64 y.now, .int .i64 y.next, .sl z1 s1 (y.way.map Letter.c) .no, .sl z2 s2 (y.cuts.map Link.c) .no, .sl z3 s3 (y.timers.map Timer.c) .no], .int .i64 ee]) h) : ACall C Pg 25 [.agg [.int .i64 x.nodes, .int .i64 x.now, .int .i64 x.next, .sl z1 s1 (x.way.map Letter.c) .no, .sl z2 s2 (x.cuts.map Link.c) .no, .sl z3 s3 (x.timers.map Timer.c) .no], .int .i64 a, .int .i64 b] h K := by
  refine heal25g hk hc (fun w => ?_) (fun w he => ?_) (fun w he z1 s1 z2 s2 z3 s3 hk2 => ?_)
  · rcases hr with ⟨_, rfl, rfl⟩ | ⟨w2, _⟩ | ⟨w2, _⟩
    · exact hK _ _ _ _ _ _ nkZ
    · exact absurd w2 w
    · exact absurd w2 w
  · rcases hr with ⟨w2, _⟩ | ⟨_, _, rfl, rfl⟩ | ⟨_, h0, _⟩
    · exact absurd w w2
    · exact hK _ _ _ _ _ _ nkZ
    · exact absurd h0 he
  · rcases hr with ⟨w2, _⟩ | ⟨_, h0, _⟩ | ⟨_, _, rfl, rfl⟩
    · exact absurd w w2
    · exact absurd he h0
    · exact hK _ _ _ _ _ _ hk2
end
end Go.Ab
end
section
/- The specification's Cut and Heal. -/
set_option linter.unusedSimpArgs false
set_option linter.unusedVariables false
set_option maxRecDepth 100000
set_option maxHeartbeats 4000000
namespace Go.Ab

theorem tw_at {α : Type} {p : α → Bool} : ∀ {l : List α} (hm : (l.takeWhile p).length < l.length), p l[(l.takeWhile p).length] = false
  | [], h => by simp at h
  | a :: l, h => by
    by_cases h1 : p a = true
    · have e : ((a :: l).takeWhile p) = a :: l.takeWhile p := by rw [List.takeWhile_cons, if_pos h1]
      have h2 : (l.takeWhile p).length < l.length := by rw [e] at h; simpa using h
      have := tw_at h2
      simp only [e, List.length_cons, List.getElem_cons_succ]
      exact this
    · have e : ((a :: l).takeWhile p) = [] := by rw [List.takeWhile_cons, if_neg h1]
      simp only [e, List.length_nil, List.getElem_cons_zero]
      simpa using h1
theorem tw_lt {α : Type} {p : α → Bool} {l : List α} {j : Nat} (hj : j < (l.takeWhile p).length) (hl : j < l.length) : p l[j] = true := by
  have h1 : (l.takeWhile p)[j] = l[j] := by
    have h2 : l = l.takeWhile p ++ l.dropWhile p := List.takeWhile_append_dropWhile.symm
    have h3 : l[j]? = (l.takeWhile p)[j]? := by
      conv => lhs; rw [h2]
      exact List.getElem?_append_left hj
    rw [List.getElem?_eq_getElem hl, List.getElem?_eq_getElem hj] at h3
    exact (Option.some.inj h3).symm
  rw [← h1]
  exact tw_mem (List.getElem_mem hj)
theorem tw_len {α : Type} {p : α → Bool} {l : List α} : (l.takeWhile p).length ≤ l.length := (List.takeWhile_sublist p).length_le
/-- A list into which an element is put on the way. -/
def insTo {α : Type} (l : List α) (m i : Nat) (y : α) : List α := if i ≤ m then l.take i else insAt (l.take i) m y
theorem insTo_zero {α : Type} {l : List α} {m : Nat} {y : α} : insTo l m 0 y = [] := by simp [insTo]
theorem insTo_lt {α : Type} {l : List α} {m i : Nat} {y : α} (h : i ≠ m) (hi : i < l.length) : insTo l m (i + 1) y = insTo l m i y ++ [l[i]] := by
  unfold insTo
  by_cases h1 : i + 1 ≤ m
  · rw [if_pos h1, if_pos (by omega), List.take_add_one, List.getElem?_eq_getElem hi]
    rfl
  · rw [if_neg h1, if_neg (by omega), List.take_add_one, List.getElem?_eq_getElem hi]
    simp only [insAt, Option.toList_some]
    rw [List.take_append_of_le_length (by simp; omega), List.drop_append_of_le_length (by simp; omega)]
    simp
theorem insTo_eq {α : Type} {l : List α} {m : Nat} {y : α} (hi : m < l.length) : insTo l m (m + 1) y = insTo l m m y ++ [y] ++ [l[m]] := by
  unfold insTo
  rw [if_neg (by omega), if_pos (Nat.le_refl _), List.take_add_one, List.getElem?_eq_getElem hi]
  simp only [insAt, Option.toList_some]
  rw [List.take_append_of_le_length (by simp; omega), List.drop_append_of_le_length (by simp; omega), List.take_take, Nat.min_self, List.drop_eq_nil_of_le (by rw [List.length_take]; omega)]
  simp
theorem insTo_end {α : Type} {l : List α} {m : Nat} {y : α} (hm : m < l.length) : insTo l m l.length y = insAt l m y := by
  unfold insTo
  rw [if_neg (by omega), List.take_length]
theorem insTo_all {α : Type} {l : List α} {y : α} : insTo l l.length l.length y ++ [y] = insAt l l.length y := by
  unfold insTo
  rw [if_pos (Nat.le_refl _), insAt_end, List.take_length]
theorem insTo_len {α : Type} {l : List α} {m i : Nat} {y : α} : (insTo l m i y).length ≤ i + 1 := by
  unfold insTo
  split
  · simp; omega
  · rw [insAt_len]; simp; omega

section
variable {C : CX} {h : List AObj} {K : AV → List AObj → Prop} {a b c d e n : Int} {z1 z2 z3 : Bool} {s1 s2 s3 : Nat} {x y : Net}
/-- What the specification returns of an error. -/
def failV (e : Int) : AV := .agg [.int .i64 0, .int .i64 0, .int .i64 0, .sl true 0 [] .no, .sl true 0 [] .no, .sl true 0 [] .no, .int .i64 0, .int .i64 0, .int .i64 0, .int .i64 0, .int .i64 0, .str [], .sl true 0 [] .no, .int .i64 e]
theorem rcut24 (hk : Nk z1 s1 z2 s2 z3 s3 x) (hc : x.cuts.length < 1000000)
    (h1 : ¬ WF x → K (failV 2) h)
    (h2 : WF x → cutE x a b ≠ 0 → K (failV (cutE x a b)) h)
    (h3 : WF x → cutE x a b = 0 → ∀ z2 s2, Nk z1 s1 z2 s2 z3 s3 (cutG x a b) → K (.agg ([.int .i64 (cutG x a b).nodes, .int .i64 (cutG x a b).now, .int .i64 (cutG x a b).next, .sl z1 s1 ((cutG x a b).way.map Letter.c) .no, .sl z2 s2 ((cutG x a b).cuts.map Link.c) .no, .sl z3 s3 ((cutG x a b).timers.map Timer.c) .no] ++ [.int .i64 0, .int .i64 0, .int .i64 0, .int .i64 0, .int .i64 0, .str [], .sl true 0 [] .no, .int .i64 0])) h) :
    ACall C Pg 24 [.agg [.int .i64 x.nodes, .int .i64 x.now, .int .i64 x.next, .sl z1 s1 (x.way.map Letter.c) .no, .sl z2 s2 (x.cuts.map Link.c) .no, .sl z3 s3 (x.timers.map Timer.c) .no], .int .i64 a, .int .i64 b] h K := by
  refine run24 ?_; simp -implicitDefEqProofs only [b24, r24, ru, ruc, rud, ru5, Nat.reduceLT, Nat.reduceEqDiff, reduceIte, Nat.reduceAdd, Nat.reduceLeDiff, Int.reduceEq, Int.reduceLT, Int.reduceLE, Int.reduceNeg]
  refine is48 hk hc fun r hr => ?_
  cases r with
  | false =>
    simp -implicitDefEqProofs only [r24, ru, ruc, rud, ru5, Nat.reduceLT, Nat.reduceEqDiff, reduceIte, Nat.reduceAdd, Nat.reduceLeDiff, Int.reduceEq, Int.reduceLT, Int.reduceLE, Int.reduceNeg]
    refine failed44 ?_
    simp -implicitDefEqProofs only [r24, ru, ruc, rud, ru5, Nat.reduceLT, Nat.reduceEqDiff, reduceIte, Nat.reduceAdd, Nat.reduceLeDiff, Int.reduceEq, Int.reduceLT, Int.reduceLE, Int.reduceNeg]
    exact h1 (fun w => by have := hr.2 w; cases this)
  | true =>
    have w := hr.1 rfl
    simp -implicitDefEqProofs only [r24, ru, ruc, rud, ru5, Nat.reduceLT, Nat.reduceEqDiff, reduceIte, Nat.reduceAdd, Nat.reduceLeDiff, Int.reduceEq, Int.reduceLT, Int.reduceLE, Int.reduceNeg]
    repeat' (first | (refine guardV_split (fun g => ?_) (fun g => ?_) <;> simp -implicitDefEqProofs only [Link.c, r24, ru, ruc, rud, ru5, Nat.reduceLT, Nat.reduceEqDiff, reduceIte, Nat.reduceAdd, Nat.reduceLeDiff, Int.reduceEq, Int.reduceLT, Int.reduceLE, Int.reduceNeg]) | (refine condV_split (fun g => ?_) (fun g => ?_) <;> simp -implicitDefEqProofs only [Link.c, r24, ru, ruc, rud, ru5, Nat.reduceLT, Nat.reduceEqDiff, reduceIte, Nat.reduceAdd, Nat.reduceLeDiff, Int.reduceEq, Int.reduceLT, Int.reduceLE, Int.reduceNeg]) | (refine isNode61 ?_ <;> try simp -implicitDefEqProofs only [Link.c, r24, ru, ruc, rud, ru5, Nat.reduceLT, Nat.reduceEqDiff, reduceIte, Nat.reduceAdd, Nat.reduceLeDiff, Int.reduceEq, Int.reduceLT, Int.reduceLE, Int.reduceNeg]) | (refine cut62 hk hc (fun r2 hr2 => ?_) <;> try simp -implicitDefEqProofs only [Link.c, r24, ru, ruc, rud, ru5, Nat.reduceLT, Nat.reduceEqDiff, reduceIte, Nat.reduceAdd, Nat.reduceLeDiff, Int.reduceEq, Int.reduceLT, Int.reduceLE, Int.reduceNeg]) | (refine failed44 ?_ <;> try simp -implicitDefEqProofs only [Link.c, r24, ru, ruc, rud, ru5, Nat.reduceLT, Nat.reduceEqDiff, reduceIte, Nat.reduceAdd, Nat.reduceLeDiff, Int.reduceEq, Int.reduceLT, Int.reduceLE, Int.reduceNeg]) | (refine pair63 ?_ <;> try simp -implicitDefEqProofs only [Link.c, r24, ru, ruc, rud, ru5, Nat.reduceLT, Nat.reduceEqDiff, reduceIte, Nat.reduceAdd, Nat.reduceLeDiff, Int.reduceEq, Int.reduceLT, Int.reduceLE, Int.reduceNeg]))
    all_goals try (
      have he : cutE x a b = 1 := if_pos (fun o => by
        simp only [pairP, nodeOk] at o
        simp only [Bool.not_eq_true', Bool.not_eq_false', Bool.and_eq_true, Bool.and_eq_false_iff, decide_eq_true_eq, decide_eq_false_iff_not] at *
        omega)
      have := h2 w (by rw [he]; decide)
      rw [he] at this
      exact this)
    all_goals (
      have hp : pairP x a b := by
        simp only [pairP, nodeOk]
        simp only [Bool.not_eq_true', Bool.not_eq_false', Bool.and_eq_true, Bool.and_eq_false_iff, decide_eq_true_eq, decide_eq_false_iff_not] at *
        omega)
    · have he : cutE x a b = 5 := by
        unfold cutE
        rw [if_neg (fun h => h hp)]
        exact if_pos (hr2.1 (by assumption))
      have := h2 w (by rw [he]; decide)
      rw [he] at this
      exact this
    · have hm : pairOf a b ∉ x.cuts := fun h => by
        have g9 : r2 = false := by assumption
        have := hr2.2 h
        rw [g9] at this
        cases this
      have he : cutE x a b = 0 := by
        unfold cutE
        rw [if_neg (fun h => h hp), if_neg hm]
      have h4 := h3 w he
      clear h1 h2 h3
      have hdef : cutG x a b = { x with cuts := insAt x.cuts (x.cuts.takeWhile fun q => decide (cmpC q (pairOf a b) < 0)).length (pairOf a b) } := rfl
      rw [hdef] at h4
      generalize pairOf a b = p at *
      have hlt0 : ∀ j (hj : j < x.cuts.length), j < (x.cuts.takeWhile fun q => decide (cmpC q p < 0)).length → cmpC x.cuts[j] p < 0 := fun j hj h => by simpa using tw_lt h hj
      have hge0 : ∀ hm9 : (x.cuts.takeWhile fun q => decide (cmpC q p < 0)).length < x.cuts.length, cmpC p (x.cuts[(x.cuts.takeWhile fun q => decide (cmpC q p < 0)).length]'hm9) < 0 := fun hm9 => by
        have h5 := tw_at hm9
        rcases cmpC_tri (by simpa using h5) with h6 | h6
        · exact absurd (h6 ▸ List.getElem_mem hm9) hm
        · exact h6
      have hml := tw_len (p := fun q => decide (cmpC q p < 0)) (l := x.cuts)
      generalize (x.cuts.takeWhile fun q => decide (cmpC q p < 0)).length = m at *
      refine lp24q0 (α := Nat) 3 (fun i => [(3, .lptr 0 0), (6, .lptr 1 0), (7, .lptr 2 0), (8, accV 2 Link.c (insTo x.cuts m i p)), (9, .bool (decide (m < i))), (10, .int .i64 i)])
        (fun _ => [[.int .i64 x.nodes, .int .i64 x.now, .int .i64 x.next, .sl z1 s1 (x.way.map Letter.c) .no, .sl z2 s2 (x.cuts.map Link.c) .no, .sl z3 s3 (x.timers.map Timer.c) .no], [.int .i64 0, .int .i64 0, .int .i64 0, .sl true 0 [] .no, .sl true 0 [] .no, .sl true 0 [] .no, .int .i64 0, .int .i64 0, .int .i64 0, .int .i64 0, .int .i64 0, .str [], .sl true 0 [] .no, .int .i64 0], Link.c p]) (fun _ => h)
        (fun i => i ≤ x.cuts.length) (fun i => x.cuts.length - i) 0 (Nat.zero_le _) (fun _ => rfl) ?_ rfl rfl rfl ?_
      · simp [allIn, lk, AV.lb, AV.lb.lbs, insTo_zero, accV]
      · intro i hi
        have ha : (accV 2 Link.c (insTo x.cuts m i p)).owns = true ∨ ¬ (accV 2 Link.c (insTo x.cuts m i p)).owns = true := Classical.em _
        have hlen : (insTo x.cuts m i p).length < 999990 := by have := insTo_len (l := x.cuts) (m := m) (i := i) (y := p); have := w.cl; omega
        simp -implicitDefEqProofs only [b24q0, r24, List.length_map, ru, ruc, rud, ru5, Nat.reduceLT, Nat.reduceEqDiff, reduceIte, Nat.reduceAdd, Nat.reduceLeDiff, Int.reduceEq, Int.reduceLT, Int.reduceLE, Int.reduceNeg]
        refine condV_split (fun g => ?_) (fun g => ?_)
        · simp -implicitDefEqProofs only [r24, ru, ruc, rud, ru5, Nat.reduceLT, Nat.reduceEqDiff, reduceIte, Nat.reduceAdd, Nat.reduceLeDiff, Int.reduceEq, Int.reduceLT, Int.reduceLE, Int.reduceNeg]
          simp only [decide_eq_true_eq] at g
          have g' : i < x.cuts.length := by omega
          refine ixC hk.c rfl g' ?_
          simp -implicitDefEqProofs only [r24, Link.c, ru, ruc, rud, ru5, Nat.reduceLT, Nat.reduceEqDiff, reduceIte, Nat.reduceAdd, Nat.reduceLeDiff, Int.reduceEq, Int.reduceLT, Int.reduceLE, Int.reduceNeg]
          have hl1 : i < m → x.cuts[i].a < p.a ∨ (x.cuts[i].a = p.a ∧ x.cuts[i].b < p.b) := fun h => cmpC_lt.1 (hlt0 i g' h)
          have hl2 : i = m → p.a < x.cuts[i].a ∨ (p.a = x.cuts[i].a ∧ p.b < x.cuts[i].b) := fun h => by subst h; exact cmpC_lt.1 (hge0 g')
          repeat' (first | (refine guardV_split (fun g => ?_) (fun g => ?_) <;> simp -implicitDefEqProofs only [r24, ru, ruc, rud, ru5, Nat.reduceLT, Nat.reduceEqDiff, reduceIte, Nat.reduceAdd, Nat.reduceLeDiff, Int.reduceEq, Int.reduceLT, Int.reduceLE, Int.reduceNeg]) | (refine condV_split (fun g => ?_) (fun g => ?_) <;> simp -implicitDefEqProofs only [r24, ru, ruc, rud, ru5, Nat.reduceLT, Nat.reduceEqDiff, reduceIte, Nat.reduceAdd, Nat.reduceLeDiff, Int.reduceEq, Int.reduceLT, Int.reduceLE, Int.reduceNeg]))
          all_goals simp only [decide_eq_true_eq, decide_eq_false_iff_not, Bool.not_eq_true', Bool.not_eq_false', if_true, Bool.false_eq_true, if_false] at *
          all_goals first
            | (exfalso; omega)
            | (have him : i ≠ m := by omega
               have hn : insTo x.cuts m (i + 1) p = insTo x.cuts m i p ++ [x.cuts[i]] := insTo_lt him g'
               have hc9 : decide (m < i + 1) = decide (m < i) := by rw [decide_eq_decide]; omega
               have ha2 : (accV 2 Link.c (insTo x.cuts m (i + 1) p)).owns = true ∨ ¬ (accV 2 Link.c (insTo x.cuts m (i + 1) p)).owns = true := Classical.em _
               rcases ha with ha | ha
               all_goals (
                 simp -implicitDefEqProofs only [r24, bsl23q1, ha, accV_un, accU_ow, ru, ruc, rud, ru5, Nat.reduceLT, Nat.reduceEqDiff, reduceIte, Nat.reduceAdd, Nat.reduceLeDiff, Int.reduceEq, Int.reduceLT, Int.reduceLE, Int.reduceNeg]
                 refine app_acc (y := x.cuts[i]) (by decide) T23 rfl T100 rfl (by decide) (by decide) (by omega) ?_
                 rw [← hn]
                 rcases ha2 with ha2 | ha2
                 all_goals (
                   simp -implicitDefEqProofs only [r24, ha, ha2, accV_un, ru, ruc, rud, ru5, Nat.reduceLT, Nat.reduceEqDiff, reduceIte, Nat.reduceAdd, Nat.reduceLeDiff, Int.reduceEq, Int.reduceLT, Int.reduceLE, Int.reduceNeg]
                   refine next_normal (i + 1) (by omega) (by omega) rfl ?_ rfl rfl
                   simp [allIn, lk, AV.lb, AV.lb.lbs, accV_lb, hc9, wrap_i (show i < 9223372036854775807 by omega)])))
            | (have him : i = m := by omega
               subst him
               have hn : insTo x.cuts i (i + 1) p = insTo x.cuts i i p ++ [p] ++ [x.cuts[i]] := insTo_eq g'
               have hll : (insTo x.cuts i i p ++ [p]).length < 1000000 := by simp only [List.length_append, List.length_singleton]; omega
               have ha1 : (accV 2 Link.c (insTo x.cuts i i p ++ [p])).owns = true ∨ ¬ (accV 2 Link.c (insTo x.cuts i i p ++ [p])).owns = true := Classical.em _
               have ha2 : (accV 2 Link.c (insTo x.cuts i (i + 1) p)).owns = true ∨ ¬ (accV 2 Link.c (insTo x.cuts i (i + 1) p)).owns = true := Classical.em _
               rcases ha with ha | ha
               all_goals (
                 simp -implicitDefEqProofs only [r24, bsl23q1, ha, accV_un, accU_ow, ru, ruc, rud, ru5, Nat.reduceLT, Nat.reduceEqDiff, reduceIte, Nat.reduceAdd, Nat.reduceLeDiff, Int.reduceEq, Int.reduceLT, Int.reduceLE, Int.reduceNeg]
                 refine app_acc (y := p) (by decide) T23 rfl T100 rfl (by decide) (by decide) (by omega) ?_
                 rcases ha1 with ha1 | ha1
                 all_goals (
                   simp -implicitDefEqProofs only [r24, bsl23q1, ha, ha1, accV_un, accU_ow, ru, ruc, rud, ru5, Nat.reduceLT, Nat.reduceEqDiff, reduceIte, Nat.reduceAdd, Nat.reduceLeDiff, Int.reduceEq, Int.reduceLT, Int.reduceLE, Int.reduceNeg]
                   refine app_acc (y := x.cuts[i]) (by decide) T23 rfl T100 rfl (by decide) (by decide) hll ?_
                   rw [← hn]
                   rcases ha2 with ha2 | ha2
                   all_goals (
                     simp -implicitDefEqProofs only [r24, ha, ha1, ha2, accV_un, ru, ruc, rud, ru5, Nat.reduceLT, Nat.reduceEqDiff, reduceIte, Nat.reduceAdd, Nat.reduceLeDiff, Int.reduceEq, Int.reduceLT, Int.reduceLE, Int.reduceNeg]
                     refine next_normal (i + 1) (by omega) (by omega) rfl ?_ rfl rfl
                     simp [allIn, lk, AV.lb, AV.lb.lbs, accV_lb, wrap_i (show i < 9223372036854775807 by omega)]))))
        · simp only [decide_eq_false_iff_not] at g
          have e9 : i = x.cuts.length := by omega
          subst e9
          by_cases hm9 : m < x.cuts.length
          · have c0 : decide (m < x.cuts.length) = true := by simpa using hm9
            rw [insTo_end hm9] at ha ⊢
            obtain ⟨z, s, e1, hz⟩ := accU_sl 2 Link.c (insAt x.cuts m p)
            rcases ha with ha | ha
            all_goals (
              simp -implicitDefEqProofs only [r24, c0, ha, accV_un, accU_un, accU_nol, accV_nol, accU_ow, e1, bld35n, ru, ruc, rud, ru5, Nat.reduceLT, Nat.reduceEqDiff, reduceIte, Nat.reduceAdd, Nat.reduceLeDiff, Int.reduceEq, Int.reduceLT, Int.reduceLE, Int.reduceNeg]
              exact h4 z s ⟨hk.w, hz, hk.t⟩)
          · have e8 : m = x.cuts.length := by omega
            subst e8
            have c0 : decide (x.cuts.length < x.cuts.length) = false := by simp
            have ha2 : (accV 2 Link.c (insAt x.cuts x.cuts.length p)).owns = true ∨ ¬ (accV 2 Link.c (insAt x.cuts x.cuts.length p)).owns = true := Classical.em _
            obtain ⟨z, s, e1, hz⟩ := accU_sl 2 Link.c (insAt x.cuts x.cuts.length p)
            rcases ha with ha | ha
            all_goals (
              simp -implicitDefEqProofs only [r24, c0, ha, Link.c, bsl23q1, accV_un, accU_ow, ru, ruc, rud, ru5, Nat.reduceLT, Nat.reduceEqDiff, reduceIte, Nat.reduceAdd, Nat.reduceLeDiff, Int.reduceEq, Int.reduceLT, Int.reduceLE, Int.reduceNeg]
              refine app_acc (y := p) (by decide) T23 rfl T100 rfl (by decide) (by decide) (by omega) ?_
              rw [insTo_all]
              rcases ha2 with ha2 | ha2
              all_goals (
                simp -implicitDefEqProofs only [r24, ha, ha2, accV_un, accU_un, accU_nol, accV_nol, accU_ow, e1, bld35n, ru, ruc, rud, ru5, Nat.reduceLT, Nat.reduceEqDiff, reduceIte, Nat.reduceAdd, Nat.reduceLeDiff, Int.reduceEq, Int.reduceLT, Int.reduceLE, Int.reduceNeg]
                exact h4 z s ⟨hk.w, hz, hk.t⟩))

theorem filter_take {α : Type} {l : List α} {q : α → Bool} {i : Nat} (hi : i < l.length) : (l.take (i + 1)).filter q = (l.take i).filter q ++ (if q l[i] then [l[i]] else []) := by
  rw [List.take_add_one, List.getElem?_eq_getElem hi, List.filter_append]
  simp only [Option.toList_some, List.filter_cons, List.filter_nil]
theorem filter_take_len {α : Type} {l : List α} {q : α → Bool} {i : Nat} : ((l.take i).filter q).length ≤ l.length := Nat.le_trans (List.length_filter_le ..) (List.length_take_le' ..)
theorem rheal26 (hk : Nk z1 s1 z2 s2 z3 s3 x) (hc : x.cuts.length < 1000000)
    (h1 : ¬ WF x → K (failV 2) h)
    (h2 : WF x → healE x a b ≠ 0 → K (failV (healE x a b)) h)
    (h3 : WF x → healE x a b = 0 → ∀ z2 s2, Nk z1 s1 z2 s2 z3 s3 (healG x a b) → K (.agg ([.int .i64 (healG x a b).nodes, .int .i64 (healG x a b).now, .int .i64 (healG x a b).next, .sl z1 s1 ((healG x a b).way.map Letter.c) .no, .sl z2 s2 ((healG x a b).cuts.map Link.c) .no, .sl z3 s3 ((healG x a b).timers.map Timer.c) .no] ++ [.int .i64 0, .int .i64 0, .int .i64 0, .int .i64 0, .int .i64 0, .str [], .sl true 0 [] .no, .int .i64 0])) h) :
    ACall C Pg 26 [.agg [.int .i64 x.nodes, .int .i64 x.now, .int .i64 x.next, .sl z1 s1 (x.way.map Letter.c) .no, .sl z2 s2 (x.cuts.map Link.c) .no, .sl z3 s3 (x.timers.map Timer.c) .no], .int .i64 a, .int .i64 b] h K := by
  refine run26 ?_; simp -implicitDefEqProofs only [b26, r26, ru, ruc, rud, ru5, Nat.reduceLT, Nat.reduceEqDiff, reduceIte, Nat.reduceAdd, Nat.reduceLeDiff, Int.reduceEq, Int.reduceLT, Int.reduceLE, Int.reduceNeg]
  refine is48 hk hc fun r hr => ?_
  cases r with
  | false =>
    simp -implicitDefEqProofs only [r26, ru, ruc, rud, ru5, Nat.reduceLT, Nat.reduceEqDiff, reduceIte, Nat.reduceAdd, Nat.reduceLeDiff, Int.reduceEq, Int.reduceLT, Int.reduceLE, Int.reduceNeg]
    refine failed44 ?_
    simp -implicitDefEqProofs only [r26, ru, ruc, rud, ru5, Nat.reduceLT, Nat.reduceEqDiff, reduceIte, Nat.reduceAdd, Nat.reduceLeDiff, Int.reduceEq, Int.reduceLT, Int.reduceLE, Int.reduceNeg]
    exact h1 (fun w => by have := hr.2 w; cases this)
  | true =>
    have w := hr.1 rfl
    simp -implicitDefEqProofs only [r26, ru, ruc, rud, ru5, Nat.reduceLT, Nat.reduceEqDiff, reduceIte, Nat.reduceAdd, Nat.reduceLeDiff, Int.reduceEq, Int.reduceLT, Int.reduceLE, Int.reduceNeg]
    repeat' (first | (refine guardV_split (fun g => ?_) (fun g => ?_) <;> simp -implicitDefEqProofs only [Link.c, r26, ru, ruc, rud, ru5, Nat.reduceLT, Nat.reduceEqDiff, reduceIte, Nat.reduceAdd, Nat.reduceLeDiff, Int.reduceEq, Int.reduceLT, Int.reduceLE, Int.reduceNeg]) | (refine condV_split (fun g => ?_) (fun g => ?_) <;> simp -implicitDefEqProofs only [Link.c, r26, ru, ruc, rud, ru5, Nat.reduceLT, Nat.reduceEqDiff, reduceIte, Nat.reduceAdd, Nat.reduceLeDiff, Int.reduceEq, Int.reduceLT, Int.reduceLE, Int.reduceNeg]) | (refine isNode61 ?_ <;> try simp -implicitDefEqProofs only [Link.c, r26, ru, ruc, rud, ru5, Nat.reduceLT, Nat.reduceEqDiff, reduceIte, Nat.reduceAdd, Nat.reduceLeDiff, Int.reduceEq, Int.reduceLT, Int.reduceLE, Int.reduceNeg]) | (refine cut62 hk hc (fun r2 hr2 => ?_) <;> try simp -implicitDefEqProofs only [Link.c, r26, ru, ruc, rud, ru5, Nat.reduceLT, Nat.reduceEqDiff, reduceIte, Nat.reduceAdd, Nat.reduceLeDiff, Int.reduceEq, Int.reduceLT, Int.reduceLE, Int.reduceNeg]) | (refine failed44 ?_ <;> try simp -implicitDefEqProofs only [Link.c, r26, ru, ruc, rud, ru5, Nat.reduceLT, Nat.reduceEqDiff, reduceIte, Nat.reduceAdd, Nat.reduceLeDiff, Int.reduceEq, Int.reduceLT, Int.reduceLE, Int.reduceNeg]))
    all_goals try (
      have he : healE x a b = 1 := if_pos (fun o => by
        simp only [pairP, nodeOk] at o
        simp only [Bool.not_eq_true', Bool.not_eq_false', Bool.and_eq_true, Bool.and_eq_false_iff, decide_eq_true_eq, decide_eq_false_iff_not] at *
        omega)
      have := h2 w (by rw [he]; decide)
      rw [he] at this
      exact this)
    all_goals (
      have hp : pairP x a b := by
        simp only [pairP, nodeOk]
        simp only [Bool.not_eq_true', Bool.not_eq_false', Bool.and_eq_true, Bool.and_eq_false_iff, decide_eq_true_eq, decide_eq_false_iff_not] at *
        omega)
    · have hm : pairOf a b ∉ x.cuts := fun h => by
        have g9 : (!r2) = true := by assumption
        have := hr2.2 h
        rw [this] at g9
        cases g9
      have he : healE x a b = 4 := by
        unfold healE
        rw [if_neg (fun h => h hp), if_neg hm]
      have := h2 w (by rw [he]; decide)
      rw [he] at this
      exact this
    · have g9 : (!r2) = false := by assumption
      have he : healE x a b = 0 := by
        unfold healE
        rw [if_neg (fun h => h hp)]
        exact if_pos (hr2.1 (by simpa using g9))
      have h4 := h3 w he
      clear h1 h2 h3
      simp only [healG] at h4
      refine lp26q0 (α := Nat) 2 (fun i => [(1, .int .i64 a), (2, .int .i64 b), (3, .lptr 0 0), (6, .lptr 1 0), (7, accV 2 Link.c ((x.cuts.take i).filter fun c => !decide (c = pairOf a b))), (8, .int .i64 i)])
        (fun _ => [[.int .i64 x.nodes, .int .i64 x.now, .int .i64 x.next, .sl z1 s1 (x.way.map Letter.c) .no, .sl z2 s2 (x.cuts.map Link.c) .no, .sl z3 s3 (x.timers.map Timer.c) .no], [.int .i64 0, .int .i64 0, .int .i64 0, .sl true 0 [] .no, .sl true 0 [] .no, .sl true 0 [] .no, .int .i64 0, .int .i64 0, .int .i64 0, .int .i64 0, .int .i64 0, .str [], .sl true 0 [] .no, .int .i64 0]]) (fun _ => h)
        (fun i => i ≤ x.cuts.length) (fun i => x.cuts.length - i) 0 (Nat.zero_le _) (fun _ => rfl) ?_ rfl rfl rfl ?_
      · simp [allIn, lk, AV.lb, AV.lb.lbs, accV]
      · intro i hi
        have ha : (accV 2 Link.c ((x.cuts.take i).filter fun c => !decide (c = pairOf a b))).owns = true ∨ ¬ (accV 2 Link.c ((x.cuts.take i).filter fun c => !decide (c = pairOf a b))).owns = true := Classical.em _
        have hlen : ((x.cuts.take i).filter fun c => !decide (c = pairOf a b)).length < 1000000 := by have := filter_take_len (l := x.cuts) (q := fun c => !decide (c = pairOf a b)) (i := i); omega
        simp -implicitDefEqProofs only [b26q0, r26, List.length_map, ru, ruc, rud, ru5, Nat.reduceLT, Nat.reduceEqDiff, reduceIte, Nat.reduceAdd, Nat.reduceLeDiff, Int.reduceEq, Int.reduceLT, Int.reduceLE, Int.reduceNeg]
        refine condV_split (fun g => ?_) (fun g => ?_)
        · simp -implicitDefEqProofs only [r26, ru, ruc, rud, ru5, Nat.reduceLT, Nat.reduceEqDiff, reduceIte, Nat.reduceAdd, Nat.reduceLeDiff, Int.reduceEq, Int.reduceLT, Int.reduceLE, Int.reduceNeg]
          simp only [decide_eq_true_eq] at g
          have g' : i < x.cuts.length := by omega
          have hn := filter_take (q := fun c => !decide (c = pairOf a b)) g'
          have ha2 : (accV 2 Link.c ((x.cuts.take (i + 1)).filter fun c => !decide (c = pairOf a b))).owns = true ∨ ¬ (accV 2 Link.c ((x.cuts.take (i + 1)).filter fun c => !decide (c = pairOf a b))).owns = true := Classical.em _
          apply rd26q0
          all_goals try (first | (intro l' e0 e1; simp -implicitDefEqProofs only [e0, e1, Link.c, ru, ruc, rud, ru5, Nat.reduceLT, Nat.reduceEqDiff, reduceIte, Nat.reduceAdd, Nat.reduceLeDiff, Int.reduceEq, Int.reduceLT, Int.reduceLE, Int.reduceNeg]; (try (first | (refine ixC hk.c rfl g' ?_ <;> try simp -implicitDefEqProofs only [e0, e1, Link.c, ru, ruc, rud, ru5, Nat.reduceLT, Nat.reduceEqDiff, reduceIte, Nat.reduceAdd, Nat.reduceLeDiff, Int.reduceEq, Int.reduceLT, Int.reduceLE, Int.reduceNeg]) | (refine pair63 ?_ <;> try simp -implicitDefEqProofs only [e0, e1, Link.c, ru, ruc, rud, ru5, Nat.reduceLT, Nat.reduceEqDiff, reduceIte, Nat.reduceAdd, Nat.reduceLeDiff, Int.reduceEq, Int.reduceLT, Int.reduceLE, Int.reduceNeg]) | (fail))); first | exact step_1 rfl | exact step_2 rfl (by assumption)) | (intro l' e0; simp -implicitDefEqProofs only [e0, Link.c, ru, ruc, rud, ru5, Nat.reduceLT, Nat.reduceEqDiff, reduceIte, Nat.reduceAdd, Nat.reduceLeDiff, Int.reduceEq, Int.reduceLT, Int.reduceLE, Int.reduceNeg]; (try (first | (refine ixC hk.c rfl g' ?_ <;> try simp -implicitDefEqProofs only [e0, Link.c, ru, ruc, rud, ru5, Nat.reduceLT, Nat.reduceEqDiff, reduceIte, Nat.reduceAdd, Nat.reduceLeDiff, Int.reduceEq, Int.reduceLT, Int.reduceLE, Int.reduceNeg]) | (refine pair63 ?_ <;> try simp -implicitDefEqProofs only [e0, Link.c, ru, ruc, rud, ru5, Nat.reduceLT, Nat.reduceEqDiff, reduceIte, Nat.reduceAdd, Nat.reduceLeDiff, Int.reduceEq, Int.reduceLT, Int.reduceLE, Int.reduceNeg]) | (fail))); first | exact step_1 rfl | exact step_2 rfl (by assumption)) | (intro l' ; simp -implicitDefEqProofs only [Link.c, ru, ruc, rud, ru5, Nat.reduceLT, Nat.reduceEqDiff, reduceIte, Nat.reduceAdd, Nat.reduceLeDiff, Int.reduceEq, Int.reduceLT, Int.reduceLE, Int.reduceNeg]; (try (first | (refine ixC hk.c rfl g' ?_ <;> try simp -implicitDefEqProofs only [Link.c, ru, ruc, rud, ru5, Nat.reduceLT, Nat.reduceEqDiff, reduceIte, Nat.reduceAdd, Nat.reduceLeDiff, Int.reduceEq, Int.reduceLT, Int.reduceLE, Int.reduceNeg]) | (refine pair63 ?_ <;> try simp -implicitDefEqProofs only [Link.c, ru, ruc, rud, ru5, Nat.reduceLT, Nat.reduceEqDiff, reduceIte, Nat.reduceAdd, Nat.reduceLeDiff, Int.reduceEq, Int.reduceLT, Int.reduceLE, Int.reduceNeg]) | (fail))); first | exact step_1 rfl | exact step_2 rfl (by assumption)))
          case hK =>
            simp -implicitDefEqProofs only [r26, ru, ruc, rud, ru5, Nat.reduceLT, Nat.reduceEqDiff, reduceIte, Nat.reduceAdd, Nat.reduceLeDiff, Int.reduceEq, Int.reduceLT, Int.reduceLE, Int.reduceNeg]
            refine condV_split (fun g2 => ?_) (fun g2 => ?_)
            · rw [g2, if_pos rfl] at hn
              rcases ha with ha | ha
              all_goals (
                simp -implicitDefEqProofs only [r26, ha, accV_un, accU_ow, ru, ruc, rud, ru5, Nat.reduceLT, Nat.reduceEqDiff, reduceIte, Nat.reduceAdd, Nat.reduceLeDiff, Int.reduceEq, Int.reduceLT, Int.reduceLE, Int.reduceNeg]
                refine ixC hk.c rfl g' ?_
                simp -implicitDefEqProofs only [r26, Link.c, ha, bsl23q1, accV_un, accU_ow, ru, ruc, rud, ru5, Nat.reduceLT, Nat.reduceEqDiff, reduceIte, Nat.reduceAdd, Nat.reduceLeDiff, Int.reduceEq, Int.reduceLT, Int.reduceLE, Int.reduceNeg]
                refine app_acc (y := x.cuts[i]) (by decide) T23 rfl T100 rfl (by decide) (by decide) hlen ?_
                rw [← hn]
                rcases ha2 with ha2 | ha2
                all_goals (
                  simp -implicitDefEqProofs only [r26, ha, ha2, accV_un, ru, ruc, rud, ru5, Nat.reduceLT, Nat.reduceEqDiff, reduceIte, Nat.reduceAdd, Nat.reduceLeDiff, Int.reduceEq, Int.reduceLT, Int.reduceLE, Int.reduceNeg]
                  refine next_normal (i + 1) g' (by omega) rfl ?_ rfl rfl
                  simp [allIn, lk, AV.lb, AV.lb.lbs, accV_lb, wrap_i (show i < 9223372036854775807 by omega)]))
            · rw [g2, if_neg (by decide), List.append_nil] at hn
              simp -implicitDefEqProofs only [r26, ru, ruc, rud, ru5, Nat.reduceLT, Nat.reduceEqDiff, reduceIte, Nat.reduceAdd, Nat.reduceLeDiff, Int.reduceEq, Int.reduceLT, Int.reduceLE, Int.reduceNeg]
              refine next_normal (i + 1) g' (by omega) rfl ?_ rfl rfl
              simp [allIn, lk, AV.lb, AV.lb.lbs, accV_lb, hn, wrap_i (show i < 9223372036854775807 by omega)]
        · simp only [decide_eq_false_iff_not] at g
          have e9 : i = x.cuts.length := by omega
          subst e9
          rw [List.take_length] at ha ⊢
          obtain ⟨z, s, e1, hz⟩ := accU_sl 2 Link.c (x.cuts.filter fun c => !decide (c = pairOf a b))
          rcases ha with ha | ha
          all_goals (
            simp -implicitDefEqProofs only [r26, ha, accV_un, accU_un, accU_nol, accV_nol, accU_ow, e1, bld35n, ru, ruc, rud, ru5, Nat.reduceLT, Nat.reduceEqDiff, reduceIte, Nat.reduceAdd, Nat.reduceLeDiff, Int.reduceEq, Int.reduceLT, Int.reduceLE, Int.reduceNeg]
            exact h4 z s ⟨hk.w, hz, hk.t⟩)
end
end Go.Ab
end
section
/- What a change returns, told in one; NetLinks. -/
set_option linter.unusedSimpArgs false
set_option linter.unusedVariables false
set_option maxRecDepth 100000
set_option maxHeartbeats 4000000
namespace Go.Ab

section
variable {C : CX} {h : List AObj} {K : AV → List AObj → Prop} {a b nd tg n ee : Int} {z1 z2 z3 : Bool} {s1 s2 s3 : Nat} {x y : Net}
theorem rcut24u (hk : Nk z1 s1 z2 s2 z3 s3 x) (hc : x.cuts.length < 1000000) (hr : resOf x (cutE x a b) (cutG x a b) y ee)
    (hK : ∀ z1 s1 z2 s2 z3 s3, Nk z1 s1 z2 s2 z3 s3 y → K (.agg ([.int .i64 y.nodes, .int .i64 y.now, .int .i64 y.next, .sl z1 s1 (y.way.map Letter.c) .no, .sl z2 s2 (y.cuts.map Link.c) .no, .sl z3 s3 (y.timers.map Timer.c) .no] ++ [.int .i64 0, .int .i64 0, .int .i64 0, .int .i64 0, .int .i64 0, .str [], .sl true 0 [] .no, .int .i64 ee])) h) : ACall C Pg 24 [.agg [.int .i64 x.nodes, .int .i64 x.now, .int .i64 x.next, .sl z1 s1 (x.way.map Letter.c) .no, .sl z2 s2 (x.cuts.map Link.c) .no, .sl z3 s3 (x.timers.map Timer.c) .no], .int .i64 a, .int .i64 b] h K := by
  refine rcut24 hk hc (fun w => ?_) (fun w he => ?_) (fun w he z2 s2 hk2 => ?_)
  · rcases hr with ⟨_, rfl, rfl⟩ | ⟨w2, _⟩ | ⟨w2, _⟩
    · exact hK _ _ _ _ _ _ nkZ
    · exact absurd w2 w
    · exact absurd w2 w
  · rcases hr with ⟨w2, _⟩ | ⟨_, _, rfl, rfl⟩ | ⟨_, h0, _⟩
    · exact absurd w w2
    · exact hK _ _ _ _ _ _ nkZ
    · exact absurd h0 he
  · rcases hr with ⟨w2, _⟩ | ⟨_, h0, _⟩ | ⟨_, _, rfl, rfl⟩
    · exact absurd w w2
    · exact absurd he h0
    · exact hK _ _ _ _ _ _ hk2
theorem rheal26u (hk : Nk z1 s1 z2 s2 z3 s3 x) (hc : x.cuts.length < 1000000) (hr : resOf x (healE x a b) (healG x a b) y ee)
    (hK : ∀ z1 s1 z2 s2 z3 s3, Nk z1 s1 z2 s2 z3 s3 y → K (.agg ([.int .i64 y.nodes, .int .i64 y.now, .int .i64 y.next, .sl z1 s1 (y.way.map Letter.c) .no, .sl z2 s2 (y.cuts.map Link.c) .no, .sl z3 s3 (y.timers.map Timer.c) .no] ++ [.int .i64 0, .int .i64 0, .int .i64 0, .int .i64 0, .int .i64 0, .str [], .sl true 0 [] .no, .int .i64 ee])) h) : ACall C Pg 26 [.agg [.int .i64 x.nodes, .int .i64 x.now, .int .i64 x.next, .sl z1 s1 (x.way.map Letter.c) .no, .sl z2 s2 (x.cuts.map Link.c) .no, .sl z3 s3 (x.timers.map Timer.c) .no], .int .i64 a, .int .i64 b] h K := by
  refine rheal26 hk hc (fun w => ?_) (fun w he => ?_) (fun w he z2 s2 hk2 => ?_)
  · rcases hr with ⟨_, rfl, rfl⟩ | ⟨w2, _⟩ | ⟨w2, _⟩
    · exact hK _ _ _ _ _ _ nkZ
    · exact absurd w2 w
    · exact absurd w2 w
  · rcases hr with ⟨w2, _⟩ | ⟨_, _, rfl, rfl⟩ | ⟨_, h0, _⟩
    · exact absurd w w2
    · exact hK _ _ _ _ _ _ nkZ
    · exact absurd h0 he
  · rcases hr with ⟨w2, _⟩ | ⟨_, h0, _⟩ | ⟨_, _, rfl, rfl⟩
    · exact absurd w w2
    · exact absurd he h0
    · exact hK _ _ _ _ _ _ hk2
theorem cutWF (w : WF x) (h : cutE x a b = 0) : WF (cutG x a b) := w.cut h
theorem healWF (w : WF x) (h : healE x a b = 0) : WF (healG x a b) := w.heal
end
end Go.Ab
end
section
/- NetLinks. -/
set_option linter.unusedSimpArgs false
set_option linter.unusedVariables false
set_option maxRecDepth 100000
set_option maxHeartbeats 4000000
namespace Go.Ab

section
variable {C : CX} {h : List AObj} {K : AV → List AObj → Prop} {a b nd tg n ee : Int} {z1 z2 z3 : Bool} {s1 s2 s3 : Nat} {x y : Net}
theorem links5 (hk : Nk z1 s1 z2 s2 z3 s3 x) (hK : K (.bool true) h) : ACall C Pg 5 [.agg [.int .i64 x.nodes, .int .i64 x.now, .int .i64 x.next, .sl z1 s1 (x.way.map Letter.c) .no, .sl z2 s2 (x.cuts.map Link.c) .no, .sl z3 s3 (x.timers.map Timer.c) .no], .int .i64 a, .int .i64 b] h K := by
  refine run5 ?_; simp -implicitDefEqProofs only [b5, r5, ru, ruc, rud, ru5, Nat.reduceLT, Nat.reduceEqDiff, reduceIte, Nat.reduceAdd, Nat.reduceLeDiff, Int.reduceEq, Int.reduceLT, Int.reduceLE, Int.reduceNeg]
  refine small12 hk (fun hs => ?_) (fun hs => ?_)
  · simp -implicitDefEqProofs only [r5, ru, ruc, rud, ru5, Nat.reduceLT, Nat.reduceEqDiff, reduceIte, Nat.reduceAdd, Nat.reduceLeDiff, Int.reduceEq, Int.reduceLT, Int.reduceLE, Int.reduceNeg]
    have hcu : x.cuts.length < 1000000 := by have := hs.2.1; omega
    obtain ⟨y1, e1, hr1⟩ := resOf.ex x (cutE x a b) (cutG x a b)
    obtain ⟨y2, e2, hr2⟩ := resOf.ex x (healE x a b) (healG x a b)
    have l1 := hr1.lens (fun w h => cutWF w h)
    have l2 := hr2.lens (fun w h => healWF w h)
    refine cut23u hk hcu hr1 fun p1 q1 p2 q2 p3 q3 hk1 => ?_
    simp -implicitDefEqProofs only [r5, ru, ruc, rud, ru5, Nat.reduceLT, Nat.reduceEqDiff, reduceIte, Nat.reduceAdd, Nat.reduceLeDiff, Int.reduceEq, Int.reduceLT, Int.reduceLE, Int.reduceNeg]
    refine rcut24u hk hcu hr1 fun u1 v1 u2 v2 u3 v3 hk2 => ?_
    simp -implicitDefEqProofs only [r5, ru, ruc, rud, ru5, Nat.reduceLT, Nat.reduceEqDiff, reduceIte, Nat.reduceAdd, Nat.reduceLeDiff, Int.reduceEq, Int.reduceLT, Int.reduceLE, Int.reduceNeg]
    refine heal25u hk hcu hr2 fun p4 q4 p5 q5 p6 q6 hk3 => ?_
    simp -implicitDefEqProofs only [r5, ru, ruc, rud, ru5, Nat.reduceLT, Nat.reduceEqDiff, reduceIte, Nat.reduceAdd, Nat.reduceLeDiff, Int.reduceEq, Int.reduceLT, Int.reduceLE, Int.reduceNeg]
    refine rheal26u hk hcu hr2 fun u4 v4 u5 v5 u6 v6 hk4 => ?_
    simp -implicitDefEqProofs only [r5, ru, ruc, rud, ru5, Nat.reduceLT, Nat.reduceEqDiff, reduceIte, Nat.reduceAdd, Nat.reduceLeDiff, Int.reduceEq, Int.reduceLT, Int.reduceLE, Int.reduceNeg]
    refine sane13 ?_
    simp -implicitDefEqProofs only [r5, ru, ruc, rud, ru5, Nat.reduceLT, Nat.reduceEqDiff, reduceIte, Nat.reduceAdd, Nat.reduceLeDiff, Int.reduceEq, Int.reduceLT, Int.reduceLE, Int.reduceNeg]
    refine same18 hk1 hk2 l1.1 l1.2.1 l1.2.2 ?_
    simp -implicitDefEqProofs only [r5, ru, ruc, rud, ru5, Nat.reduceLT, Nat.reduceEqDiff, reduceIte, Nat.reduceAdd, Nat.reduceLeDiff, Int.reduceEq, Int.reduceLT, Int.reduceLE, Int.reduceNeg]
    refine same18 hk3 hk4 l2.1 l2.2.1 l2.2.2 ?_
    simp -implicitDefEqProofs only [r5, ru, ruc, rud, ru5, Nat.reduceLT, Nat.reduceEqDiff, reduceIte, Nat.reduceAdd, Nat.reduceLeDiff, Int.reduceEq, Int.reduceLT, Int.reduceLE, Int.reduceNeg]
    exact hK
  · simp -implicitDefEqProofs only [r5, ru, ruc, rud, ru5, Nat.reduceLT, Nat.reduceEqDiff, reduceIte, Nat.reduceAdd, Nat.reduceLeDiff, Int.reduceEq, Int.reduceLT, Int.reduceLE, Int.reduceNeg]
    refine sane13 ?_
    simp -implicitDefEqProofs only [r5, ru, ruc, rud, ru5, Nat.reduceLT, Nat.reduceEqDiff, reduceIte, Nat.reduceAdd, Nat.reduceLeDiff, Int.reduceEq, Int.reduceLT, Int.reduceLE, Int.reduceNeg]
    exact hK
end
end Go.Ab
end
