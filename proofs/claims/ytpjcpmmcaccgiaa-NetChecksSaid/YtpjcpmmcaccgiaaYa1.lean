/- One text out of several: see the remark at the head of each part. -/
import Derived.Test.YtpjcpmmcaccgiaaBs7
set_option linter.all false
section
set_option maxRecDepth 100000
namespace Go.Ab
def ann49 : Ann := { take := [21] }
def pl3 : List (Nat × Plan) := [(12, .take 0 (.take 1 (.take 2 (.take 4 (.take 6 (.all [(3, .all [(5, .take 7 (.all [(8, .take 9 (.done))]))]), (5, .take 7 (.all [(3, .all [(8, .take 9 (.done))]), (8, .all [(3, .take 9 (.done))])]))])))))),
  (14, .all [(0, .take 1 (.take 2 (.take 3 (.all [(4, .take 5 (.take 6 (.take 7 (.take 9 (.all [(8, .all [(10, .all [(11, .take 12 (.take 13 (.all [(14, .all [(15, .all [(16, .all [(17, .take 18 (.take 19 (.take 20 (.take 21 (.take 22 (.all [(23, .take 24 (.take 25 (.take 26 (.done))))]))))))])]), (16, .all [(15, .all [(17, .take 18 (.take 19 (.take 20 (.take 21 (.take 22 (.all [(23, .take 24 (.take 25 (.take 26 (.done))))]))))))])])]), (16, .all [(14, .all [(15, .all [(17, .take 18 (.take 19 (.take 20 (.take 21 (.take 22 (.all [(23, .take 24 (.take 25 (.take 26 (.done))))]))))))])])])])))])]), (10, .all [(8, .all [(11, .take 12 (.take 13 (.all [(14, .all [(15, .all [(16, .all [(17, .take 18 (.take 19 (.take 20 (.take 21 (.take 22 (.all [(23, .take 24 (.take 25 (.take 26 (.done))))]))))))])]), (16, .all [(15, .all [(17, .take 18 (.take 19 (.take 20 (.take 21 (.take 22 (.all [(23, .take 24 (.take 25 (.take 26 (.done))))]))))))])])]), (16, .all [(14, .all [(15, .all [(17, .take 18 (.take 19 (.take 20 (.take 21 (.take 22 (.all [(23, .take 24 (.take 25 (.take 26 (.done))))]))))))])])])])))])])])))))]))))])]
def pl49 : List (Nat × Plan) := [(5, .take 1 (.take 3 (.all [(0, .all [(2, .take 4 (.all [(5, .all [(6, .take 7 (.done))])]))]), (2, .take 4 (.all [(0, .all [(5, .all [(6, .take 7 (.done))])]), (5, .all [(0, .all [(6, .take 7 (.done))])])]))])))]
def pl62 : List (Nat × Plan) := [(4, .take 0 (.take 2 (.take 5 (.take 6 (.all [(1, .take 3 (.all [(4, .all [(7, .take 8 (.done))]), (7, .all [(4, .take 8 (.done))])])), (7, .all [(1, .take 3 (.all [(4, .take 8 (.done))]))])])))))]
end Go.Ab
end
section
set_option maxRecDepth 100000
namespace Go.Ab
section
variable {C : CX} {d : AV} {l : List (Nat × AV)} {bx bx' : List (List AV)} {h h' : List AObj} {s : ASt} {K : Exit → ASt → Prop}
noncomputable def b15 : List It := [.o (some 2) (.alloc false [.int .i64 0, .int .i64 0, .int .i64 0, .sl true 0 [] .own, .sl true 0 [] .own, .sl true 0 [] .own, .int .i64 0, .int .i64 0, .int .i64 0, .int .i64 0, .int .i64 0, .str [], .sl true 0 [] .own, .int .i64 0]) none, .o (some 3) (.mv (.t 0)) none, .o (some 4) (.ar .lss (.t 3) (.c (.int .i64 1))) none, .o (some 5) (.mv (.t 4)) none, .o (some 6) (.mv (.t 0)) (some (some 5, false)), .o (some 7) (.ar .gtr (.t 6) (.c (.int .i64 16))) (some (some 5, false)), .o (some 8) (.pick (.t 5) (.c (.bool true)) (.t 7)) none, .cond (.tmp 8) [.o (some 9) (.call 44 [.c (.int .i64 1)]) none, .o none (.st 14 (.t 2) (.tmp 9)) none, .ret] [], .o (some 10) (.mv (.t 0)) none, .o (some 11) (.bld 26 [(0, .t 10)]) none, .o (some 12) (.bld 35 [(0, .t 11)]) none, .o none (.st 14 (.t 2) (.tmp 12)) none, .ret]
theorem c15 : compR T {} [] (bodyOf Go.Proofs.Try.f15) = b15 := by kernel_rfl
theorem n15 : Go.Proofs.Try.f15.ntmps = 13 := by kernel_rfl
theorem r15 : Go.Proofs.Try.f15.results.toList = [.cell 2 35] := by kernel_rfl
theorem f15 : Pg.funcs[15]? = some Go.Proofs.Try.f15 := by kernel_rfl
theorem run15 {args : List AV} {K : AV → List AObj → Prop} (hv : Run C Pg T {} none b15 (S (.tup []) 13 (enumL 0 args) [] h) (bodyK T Go.Proofs.Try.f15 K)) (hown : args.all (fun a => !a.owns) = true := by first | rfl | simp [AV.owns]) (hl : args.length ≤ 13 := by exact Nat.le_of_ble_eq_true rfl) : ACall C Pg 15 args h K := ACall.of_runR T_ok {} [] (c := bodyOf Go.Proofs.Try.f15) f15 (by kernel_rfl) (by kernel_rfl) c15 n15 hown hl hv
noncomputable def b17 : List It := [.o (some 1) (.box false (.t 0)) none, .o (some 2) (.alloc false [.sl true 0 [] .own, .int .i64 0]) none, .o (some 3) (.ldA 6 [.int .i64, .int .i64, .int .i64, .slice 33, .slice 100, .slice 86] (.t 1)) none, .o (some 4) (.call 48 [.t 3]) none, .o (some 5) (.not (.t 4)) none, .cond (.tmp 5) [.o (some 6) (.bld 41 [(1, .c (.int .i64 2))]) none, .o none (.st 2 (.t 2) (.tmp 6)) none, .ret] [], .o (some 7) (.ldA 6 [.int .i64, .int .i64, .int .i64, .slice 33, .slice 100, .slice 86] (.t 1)) none, .o (some 8) (.call 49 [.t 7]) none, .o (some 9) (.bld 41 [(0, .t 8)]) none, .o none (.st 2 (.t 2) (.tmp 9)) none, .ret]
theorem c17 : compR T {} [] (bodyOf Go.Proofs.Try.f17) = b17 := by kernel_rfl
theorem n17 : Go.Proofs.Try.f17.ntmps = 10 := by kernel_rfl
theorem r17 : Go.Proofs.Try.f17.results.toList = [.cell 2 41] := by kernel_rfl
theorem f17 : Pg.funcs[17]? = some Go.Proofs.Try.f17 := by kernel_rfl
theorem run17 {args : List AV} {K : AV → List AObj → Prop} (hv : Run C Pg T {} none b17 (S (.tup []) 10 (enumL 0 args) [] h) (bodyK T Go.Proofs.Try.f17 K)) (hown : args.all (fun a => !a.owns) = true := by first | rfl | simp [AV.owns]) (hl : args.length ≤ 10 := by exact Nat.le_of_ble_eq_true rfl) : ACall C Pg 17 args h K := ACall.of_runR T_ok {} [] (c := bodyOf Go.Proofs.Try.f17) f17 (by kernel_rfl) (by kernel_rfl) c17 n17 hown hl hv
noncomputable def b20 : List It := [.o (some 1) (.box false (.t 0)) none, .o (some 2) (.tk (.const (.int .i64 0))) none, .o (some 3) (.ldA 6 [.int .i64, .int .i64, .int .i64, .slice 33, .slice 100, .slice 86] (.t 1)) none, .o (some 4) (.call 48 [.t 3]) none, .o (some 5) (.not (.t 4)) none, .cond (.tmp 5) [.o (some 2) (.tk (.const (.int .i64 2))) none, .ret] [], .o (some 2) (.tk (.const (.int .i64 0))) none, .ret]
theorem c20 : compR T {} [] (bodyOf Go.Proofs.Try.f20) = b20 := by kernel_rfl
theorem n20 : Go.Proofs.Try.f20.ntmps = 6 := by kernel_rfl
theorem r20 : Go.Proofs.Try.f20.results.toList = [.tmp 2] := by kernel_rfl
theorem f20 : Pg.funcs[20]? = some Go.Proofs.Try.f20 := by kernel_rfl
theorem run20 {args : List AV} {K : AV → List AObj → Prop} (hv : Run C Pg T {} none b20 (S (.tup []) 6 (enumL 0 args) [] h) (bodyK T Go.Proofs.Try.f20 K)) (hown : args.all (fun a => !a.owns) = true := by first | rfl | simp [AV.owns]) (hl : args.length ≤ 6 := by exact Nat.le_of_ble_eq_true rfl) : ACall C Pg 20 args h K := ACall.of_runR T_ok {} [] (c := bodyOf Go.Proofs.Try.f20) f20 (by kernel_rfl) (by kernel_rfl) c20 n20 hown hl hv
noncomputable def b62q0 : List It := [.o (some 8) (.mv (.t 7)) none, .o (some 9) (.fa 4 (.t 3)) none, .o (some 10) (.ld1 (.slice 100) (.t 9)) none, .o (some 11) (.lens (.t 10)) none, .o (some 12) (.ar .lss (.t 8) (.t 11)) none, .cond (.tmp 12) [] [.exit 0], .block 1 [.rf (rg (bodyOf Go.Proofs.Try.f62) 0), .cond (.tmp 23) [.o (some 6) (.tk (.const (.bool true))) none, .ret] []], .o (some 13) (.mv (.t 7)) none, .o (some 14) (.ar .add (.t 13) (.c (.int .i64 1))) none, .o (some 7) (.tk (.tmp 14)) none]
noncomputable def b62 : List It := [.o (some 3) (.box false (.t 0)) none, .o (some 6) (.tk (.const (.bool false))) none, .o (some 7) (.tk (.const (.int .i64 0))) none, .block 0 [.loop b62q0 (lp (bodyOf Go.Proofs.Try.f62) 0)], .o (some 6) (.tk (.const (.bool false))) none, .ret]
theorem c62q0 : compR T {} pl62 (lp (bodyOf Go.Proofs.Try.f62) 0) = b62q0 := by kernel_rfl
theorem lp62q0 {α : Type} (m : Nat) (ls : α → List (Nat × AV)) (bs : α → List (List AV)) (hs : α → List AObj) (φ : α → Prop) (μ : α → Nat) (g0 : α) (h0 : φ g0) (hkeys : ∀ g, (ls g).map (·.1) = (ls g0).map (·.1)) (e1 : allIn d l m (ls g0)) (e2 : bs g0 = bx.take m) (e3 : (bs g0).all (fun cs => AV.lb.lbs m cs) = true) (e4 : h = hs g0) (round : ∀ g, φ g → Run C Pg T {} none b62q0 (S .undef 24 (ls g) (bs g) (hs g)) (nextR d 24 m ls bs hs φ μ g K)) : AWp C Pg none (.loop (lp (bodyOf Go.Proofs.Try.f62) 0)) (S d 24 l bx h) K := AWp.loopQ T_ok {} pl62 c62q0 m ls bs hs φ μ g0 h0 hkeys e1 e2 e3 e4 round
theorem c62 : compR T {} pl62 (bodyOf Go.Proofs.Try.f62) = b62 := by kernel_rfl
noncomputable def g62q0 : List It := [.o (some 15) (.fa 4 (.t 3)) none, .o (some 17) (.mv (.t 7)) none, .o (some 20) (.mv (.t 1)) none, .o (some 21) (.mv (.t 2)) none, .alts [[.o (some 16) (.ld1 (.slice 100) (.t 15)) none, .o (some 18) (.ixs 2 [.int .i64, .int .i64] (.t 16) (.t 17)) none, .alts [[.o (some 19) (.ldA 2 [.int .i64, .int .i64] (.t 18)) none, .alts [[.o (some 22) (.call 63 [.t 20, .t 21]) none, .o (some 23) (.eqt 100 false (.t 19) (.t 22)) none]]], [.o (some 22) (.call 63 [.t 20, .t 21]) none, .alts [[.o (some 19) (.ldA 2 [.int .i64, .int .i64] (.t 18)) none, .o (some 23) (.eqt 100 false (.t 19) (.t 22)) none]]]]], [.o (some 22) (.call 63 [.t 20, .t 21]) none, .alts [[.o (some 16) (.ld1 (.slice 100) (.t 15)) none, .o (some 18) (.ixs 2 [.int .i64, .int .i64] (.t 16) (.t 17)) none, .alts [[.o (some 19) (.ldA 2 [.int .i64, .int .i64] (.t 18)) none, .o (some 23) (.eqt 100 false (.t 19) (.t 22)) none]]]]]]]
theorem gc62q0 : compC T {} pl62 (rg (bodyOf Go.Proofs.Try.f62) 0) = g62q0 := by kernel_rfl
theorem go62q0 : okCode {} none pl62 (rg (bodyOf Go.Proofs.Try.f62) 0) = true := by kernel_rfl
theorem re62q0 (h1 : Run C Pg T {} none g62q0 s K) : AWp C Pg none (rg (bodyOf Go.Proofs.Try.f62) 0) s K := AWp.eachR T_ok mixed {} pl62 go62q0 gc62q0 h1
theorem n62 : Go.Proofs.Try.f62.ntmps = 24 := by kernel_rfl
theorem r62 : Go.Proofs.Try.f62.results.toList = [.tmp 6] := by kernel_rfl
theorem f62 : Pg.funcs[62]? = some Go.Proofs.Try.f62 := by kernel_rfl
theorem run62 {args : List AV} {K : AV → List AObj → Prop} (hv : Run C Pg T {} none b62 (S (.tup []) 24 (enumL 0 args) [] h) (bodyK T Go.Proofs.Try.f62 K)) (hown : args.all (fun a => !a.owns) = true := by first | rfl | simp [AV.owns]) (hl : args.length ≤ 24 := by exact Nat.le_of_ble_eq_true rfl) : ACall C Pg 62 args h K := ACall.of_runR T_ok {} pl62 (c := bodyOf Go.Proofs.Try.f62) f62 (by kernel_rfl) (by kernel_rfl) c62 n62 hown hl hv
noncomputable def b63 : List It := [.o (some 4) (.alloc false [.int .i64 0, .int .i64 0]) none, .o (some 5) (.mv (.t 0)) none, .o (some 6) (.mv (.t 1)) none, .o (some 7) (.ar .gtr (.t 5) (.t 6)) none, .cond (.tmp 7) [.o (some 8) (.mv (.t 1)) none, .o (some 9) (.mv (.t 0)) none, .o (some 10) (.bld 100 [(0, .t 8), (1, .t 9)]) none, .o none (.st 2 (.t 4) (.tmp 10)) none, .ret] [], .o (some 11) (.mv (.t 0)) none, .o (some 12) (.mv (.t 1)) none, .o (some 13) (.bld 100 [(0, .t 11), (1, .t 12)]) none, .o none (.st 2 (.t 4) (.tmp 13)) none, .ret]
theorem c63 : compR T {} [] (bodyOf Go.Proofs.Try.f63) = b63 := by kernel_rfl
theorem n63 : Go.Proofs.Try.f63.ntmps = 14 := by kernel_rfl
theorem r63 : Go.Proofs.Try.f63.results.toList = [.cell 4 100] := by kernel_rfl
theorem f63 : Pg.funcs[63]? = some Go.Proofs.Try.f63 := by kernel_rfl
theorem run63 {args : List AV} {K : AV → List AObj → Prop} (hv : Run C Pg T {} none b63 (S (.tup []) 14 (enumL 0 args) [] h) (bodyK T Go.Proofs.Try.f63 K)) (hown : args.all (fun a => !a.owns) = true := by first | rfl | simp [AV.owns]) (hl : args.length ≤ 14 := by exact Nat.le_of_ble_eq_true rfl) : ACall C Pg 63 args h K := ACall.of_runR T_ok {} [] (c := bodyOf Go.Proofs.Try.f63) f63 (by kernel_rfl) (by kernel_rfl) c63 n63 hown hl hv
noncomputable def b90 : List It := [.o (some 2) (.box false (.t 0)) none, .o (some 3) (.box false (.t 1)) none, .o (some 4) (.tk (.const (.bool false))) none, .o (some 5) (.fa 3 (.t 3)) none, .o (some 6) (.ld1 (.int .i64) (.t 5)) none, .o (some 7) (.fa 1 (.t 2)) none, .o (some 8) (.ld1 (.int .i64) (.t 7)) none, .o (some 9) (.ar .leq (.t 6) (.t 8)) none, .o (some 10) (.mv (.t 9)) none, .o (some 11) (.ldA 6 [.int .i64, .int .i64, .int .i64, .slice 33, .slice 100, .slice 86] (.t 2)) (some (some 10, true)), .o (some 12) (.fa 1 (.t 3)) (some (some 10, true)), .o (some 13) (.ld1 (.int .i64) (.t 12)) (some (some 10, true)), .o (some 14) (.fa 2 (.t 3)) (some (some 10, true)), .o (some 15) (.ld1 (.int .i64) (.t 14)) (some (some 10, true)), .o (some 16) (.call 62 [.t 11, .t 13, .t 15]) (some (some 10, true)), .o (some 17) (.not (.t 16)) (some (some 10, true)), .o (some 18) (.pick (.t 10) (.t 17) (.c (.bool false))) none, .o (some 4) (.tk (.tmp 18)) none, .ret]
theorem c90 : compR T {} [] (bodyOf Go.Proofs.Try.f90) = b90 := by kernel_rfl
theorem n90 : Go.Proofs.Try.f90.ntmps = 19 := by kernel_rfl
theorem r90 : Go.Proofs.Try.f90.results.toList = [.tmp 4] := by kernel_rfl
theorem f90 : Pg.funcs[90]? = some Go.Proofs.Try.f90 := by kernel_rfl
theorem run90 {args : List AV} {K : AV → List AObj → Prop} (hv : Run C Pg T {} none b90 (S (.tup []) 19 (enumL 0 args) [] h) (bodyK T Go.Proofs.Try.f90 K)) (hown : args.all (fun a => !a.owns) = true := by first | rfl | simp [AV.owns]) (hl : args.length ≤ 19 := by exact Nat.le_of_ble_eq_true rfl) : ACall C Pg 90 args h K := ACall.of_runR T_ok {} [] (c := bodyOf Go.Proofs.Try.f90) f90 (by kernel_rfl) (by kernel_rfl) c90 n90 hown hl hv
end
end Go.Ab
end
section
set_option linter.unusedSimpArgs false
set_option linter.unusedVariables false
set_option maxRecDepth 100000
set_option maxHeartbeats 4000000
namespace Go.Ab

section
variable {C : CX} {h : List AObj} {K : AV → List AObj → Prop} {a b c d e n nodes now next : Int} {u v w : AV} {z1 z2 z3 : Bool} {s1 s2 s3 : Nat} {l1 l2 l3 : List (List AV)}

theorem pair63 (hK : K (.agg (Link.c (pairOf a b))) h) : ACall C Pg 63 [.int .i64 a, .int .i64 b] h K := by
  refine run63 ?_; simp -implicitDefEqProofs only [b63, r63, ru, ruc, rud, ru5, Nat.reduceLT, Nat.reduceEqDiff, reduceIte, Nat.reduceAdd, Nat.reduceLeDiff, Int.reduceEq, Int.reduceLT, Int.reduceLE, Int.reduceNeg]
  repeat' (first | (refine guardV_split (fun g => ?_) (fun g => ?_) <;> simp -implicitDefEqProofs only [r63, ru, ruc, rud, ru5, Nat.reduceLT, Nat.reduceEqDiff, reduceIte, Nat.reduceAdd, Nat.reduceLeDiff, Int.reduceEq, Int.reduceLT, Int.reduceLE, Int.reduceNeg]) | (refine condV_split (fun g => ?_) (fun g => ?_) <;> simp -implicitDefEqProofs only [r63, ru, ruc, rud, ru5, Nat.reduceLT, Nat.reduceEqDiff, reduceIte, Nat.reduceAdd, Nat.reduceLeDiff, Int.reduceEq, Int.reduceLT, Int.reduceLE, Int.reduceNeg]))
  all_goals simp only [pairOf, decide_eq_true_eq, decide_eq_false_iff_not] at *
  all_goals simp_all [Link.c, -Int.not_lt]
end
end Go.Ab
end
section
set_option linter.unusedSimpArgs false
set_option linter.unusedVariables false
set_option maxRecDepth 100000
set_option maxHeartbeats 4000000
namespace Go.Ab

section
variable {C : CX} {h : List AObj} {K : AV → List AObj → Prop} {a b c d e n nodes now next : Int} {u v w : AV} {z z' z1 z2 z3 : Bool} {s s' s1 s2 s3 : Nat} {x : Net}

theorem bld35w {K : AV → Prop} : agK (abuild T 35 [(0, .agg [.int .i64 a, .int .i64 b, .int .i64 c, .sl true 0 [] .own, .sl true 0 [] .own, .sl true 0 [] .own])]) K = K (.agg [.int .i64 a, .int .i64 b, .int .i64 c, .sl true 0 [] .own, .sl true 0 [] .own, .sl true 0 [] .own, .int .i64 0, .int .i64 0, .int .i64 0, .int .i64 0, .int .i64 0, .str [], .sl true 0 [] .own, .int .i64 0]) := rfl
theorem new15 (hK : K (if n < 1 ∨ 16 < n then .agg [.int .i64 0, .int .i64 0, .int .i64 0, .sl true 0 [] .no, .sl true 0 [] .no, .sl true 0 [] .no, .int .i64 0, .int .i64 0, .int .i64 0, .int .i64 0, .int .i64 0, .str [], .sl true 0 [] .no, .int .i64 1] else .agg [.int .i64 n, .int .i64 0, .int .i64 0, .sl true 0 [] .no, .sl true 0 [] .no, .sl true 0 [] .no, .int .i64 0, .int .i64 0, .int .i64 0, .int .i64 0, .int .i64 0, .str [], .sl true 0 [] .no, .int .i64 0]) h) : ACall C Pg 15 [.int .i64 n] h K := by
  refine run15 ?_; simp -implicitDefEqProofs only [b15, r15, ru, ruc, rud, ru5, Nat.reduceLT, Nat.reduceEqDiff, reduceIte, Nat.reduceAdd, Nat.reduceLeDiff, Int.reduceEq, Int.reduceLT, Int.reduceLE, Int.reduceNeg]
  repeat' (first | (refine guardV_split (fun g => ?_) (fun g => ?_) <;> simp -implicitDefEqProofs only [bld35w, r15, ru, ruc, rud, ru5, Nat.reduceLT, Nat.reduceEqDiff, reduceIte, Nat.reduceAdd, Nat.reduceLeDiff, Int.reduceEq, Int.reduceLT, Int.reduceLE, Int.reduceNeg]) | (refine condV_split (fun g => ?_) (fun g => ?_) <;> simp -implicitDefEqProofs only [bld35w, r15, ru, ruc, rud, ru5, Nat.reduceLT, Nat.reduceEqDiff, reduceIte, Nat.reduceAdd, Nat.reduceLeDiff, Int.reduceEq, Int.reduceLT, Int.reduceLE, Int.reduceNeg]) | (refine failed44 ?_ <;> try simp -implicitDefEqProofs only [bld35w, r15, ru, ruc, rud, ru5, Nat.reduceLT, Nat.reduceEqDiff, reduceIte, Nat.reduceAdd, Nat.reduceLeDiff, Int.reduceEq, Int.reduceLT, Int.reduceLE, Int.reduceNeg]))
  all_goals simp only [decide_eq_true_eq, decide_eq_false_iff_not] at *
  all_goals simp_all [-Int.not_lt]

end
end Go.Ab
end
section
set_option maxRecDepth 100000
namespace Go.Ab
section
variable {C : CX} {d : AV} {l : List (Nat × AV)} {bx bx' : List (List AV)} {h h' : List AObj} {s : ASt} {K : Exit → ASt → Prop}
noncomputable def b3q0 : List It := [.o (some 36) (.mv (.t 11)) none, .o (some 37) (.mv (.t 8)) none, .o (some 38) (.lens (.t 37)) none, .o (some 39) (.ar .lss (.t 36) (.t 38)) none, .cond (.tmp 39) [] [.exit 0], .block 1 [.rf (rg (bodyOf Go.Proofs.Try.f3) 0), .cond (.tmp 51) [.o (some 4) (.tk (.const (.bool false))) none, .ret] []], .o (some 40) (.mv (.t 11)) none, .o (some 41) (.ar .add (.t 40) (.c (.int .i64 1))) none, .o (some 11) (.tk (.tmp 41)) none]
noncomputable def b3 : List It := [.o (some 2) (.box false (.t 0)) none, .o (some 4) (.tk (.const (.bool false))) none, .o (some 12) (.ldA 6 [.int .i64, .int .i64, .int .i64, .slice 33, .slice 100, .slice 86] (.t 2)) none, .o (some 13) (.call 12 [.t 12]) none, .o (some 14) (.not (.t 13)) none, .cond (.tmp 14) [.o (some 15) (.call 13 []) none, .o (some 4) (.tk (.tmp 15)) none, .ret] [], .o (some 17) (.mv (.t 1)) none, .o (some 18) (.call 14 [.t 17]) none, .o (some 16) (.mv (.t 18)) none, .o (some 19) (.ext (.t 16) 0) none, .o (some 20) (.ext (.t 16) 1) none, .o (some 5) (.alloc false [.int .i64 0, .int .i64 0, .int .i64 0, .sl true 0 [] .own, .sl true 0 [] .own, .sl true 0 [] .own]) none, .o none (.st 6 (.t 5) (.tmp 19)) none, .o (some 6) (.tk (.tmp 20)) none, .o (some 21) (.mv (.t 1)) none, .o (some 22) (.call 15 [.t 21]) none, .o (some 7) (.alloc false [.int .i64 0, .int .i64 0, .int .i64 0, .sl true 0 [] .own, .sl true 0 [] .own, .sl true 0 [] .own, .int .i64 0, .int .i64 0, .int .i64 0, .int .i64 0, .int .i64 0, .str [], .sl true 0 [] .own, .int .i64 0]) none, .o none (.st 14 (.t 7) (.tmp 22)) none, .o (some 24) (.ldA 6 [.int .i64, .int .i64, .int .i64, .slice 33, .slice 100, .slice 86] (.t 2)) none, .o (some 25) (.call 16 [.t 24]) none, .o (some 23) (.mv (.t 25)) none, .o (some 26) (.ext (.t 23) 0) none, .o (some 27) (.ext (.t 23) 1) none, .o (some 8) (.tk (.tmp 26)) none, .o (some 9) (.tk (.tmp 27)) none, .o (some 28) (.ldA 6 [.int .i64, .int .i64, .int .i64, .slice 33, .slice 100, .slice 86] (.t 2)) none, .o (some 29) (.call 17 [.t 28]) none, .o (some 10) (.alloc false [.sl true 0 [] .own, .int .i64 0]) none, .o none (.st 2 (.t 10) (.tmp 29)) none, .o (some 30) (.mv (.t 8)) none, .o (some 31) (.lens (.t 30)) none, .o (some 32) (.fa 0 (.t 10)) none, .o (some 33) (.ld1 (.slice 3) (.t 32)) none, .o (some 34) (.lens (.t 33)) none, .o (some 35) (.eq1 (.int .i64) true (.t 31) (.t 34)) none, .cond (.tmp 35) [.o (some 4) (.tk (.const (.bool false))) none, .ret] [], .o (some 11) (.tk (.const (.int .i64 0))) none, .block 0 [.loop b3q0 (lp (bodyOf Go.Proofs.Try.f3) 0)], .rf (rg (bodyOf Go.Proofs.Try.f3) 1), .ret]
theorem c3q0 : compR T {} pl3 (lp (bodyOf Go.Proofs.Try.f3) 0) = b3q0 := by kernel_rfl
theorem lp3q0 {α : Type} (m : Nat) (ls : α → List (Nat × AV)) (bs : α → List (List AV)) (hs : α → List AObj) (φ : α → Prop) (μ : α → Nat) (g0 : α) (h0 : φ g0) (hkeys : ∀ g, (ls g).map (·.1) = (ls g0).map (·.1)) (e1 : allIn d l m (ls g0)) (e2 : bs g0 = bx.take m) (e3 : (bs g0).all (fun cs => AV.lb.lbs m cs) = true) (e4 : h = hs g0) (round : ∀ g, φ g → Run C Pg T {} none b3q0 (S .undef 78 (ls g) (bs g) (hs g)) (nextR d 78 m ls bs hs φ μ g K)) : AWp C Pg none (.loop (lp (bodyOf Go.Proofs.Try.f3) 0)) (S d 78 l bx h) K := AWp.loopQ T_ok {} pl3 c3q0 m ls bs hs φ μ g0 h0 hkeys e1 e2 e3 e4 round
theorem c3 : compR T {} pl3 (bodyOf Go.Proofs.Try.f3) = b3 := by kernel_rfl
theorem dc3q0 : detC T {} (rg (bodyOf Go.Proofs.Try.f3) 0) = some ([42, 43, 44, 45, 46, 47, 48, 49, 50, 51], [(.o (some 42) (.mv (.t 8)) none, []), (.o (some 43) (.mv (.t 11)) none, []), (.o (some 44) (.ixs 1 [.int .i64] (.t 42) (.t 43)) none, [42, 43]), (.o (some 45) (.ld1 (.int .i64) (.t 44)) none, [44]), (.o (some 46) (.fa 0 (.t 10)) none, []), (.o (some 47) (.ld1 (.slice 3) (.t 46)) none, [46]), (.o (some 48) (.mv (.t 11)) none, []), (.o (some 49) (.ixs 1 [.int .i64] (.t 47) (.t 48)) none, [47, 48]), (.o (some 50) (.ld1 (.int .i64) (.t 49)) none, [49]), (.o (some 51) (.eq1 (.int .i64) true (.t 45) (.t 50)) none, [45, 50])]) := by kernel_rfl
theorem rd3q0 {v42 v43 v44 v45 v46 v47 v48 v49 v50 v51 : AV} (s0 : ∀ l', lk d l' 8 = lk d l 8 → Run C Pg T {} none [.o (some 42) (.mv (.t 8)) none] (S d 78 l' bx h) (stepR d 78 bx h (some 42) l' v42)) (s1 : ∀ l', lk d l' 11 = lk d l 11 → Run C Pg T {} none [.o (some 43) (.mv (.t 11)) none] (S d 78 l' bx h) (stepR d 78 bx h (some 43) l' v43)) (s2 : ∀ l', lk d l' 42 = v42 → lk d l' 43 = v43 → Run C Pg T {} none [.o (some 44) (.ixs 1 [.int .i64] (.t 42) (.t 43)) none] (S d 78 l' bx h) (stepR d 78 bx h (some 44) l' v44)) (s3 : ∀ l', lk d l' 44 = v44 → Run C Pg T {} none [.o (some 45) (.ld1 (.int .i64) (.t 44)) none] (S d 78 l' bx h) (stepR d 78 bx h (some 45) l' v45)) (s4 : ∀ l', lk d l' 10 = lk d l 10 → Run C Pg T {} none [.o (some 46) (.fa 0 (.t 10)) none] (S d 78 l' bx h) (stepR d 78 bx h (some 46) l' v46)) (s5 : ∀ l', lk d l' 46 = v46 → Run C Pg T {} none [.o (some 47) (.ld1 (.slice 3) (.t 46)) none] (S d 78 l' bx h) (stepR d 78 bx h (some 47) l' v47)) (s6 : ∀ l', lk d l' 11 = lk d l 11 → Run C Pg T {} none [.o (some 48) (.mv (.t 11)) none] (S d 78 l' bx h) (stepR d 78 bx h (some 48) l' v48)) (s7 : ∀ l', lk d l' 47 = v47 → lk d l' 48 = v48 → Run C Pg T {} none [.o (some 49) (.ixs 1 [.int .i64] (.t 47) (.t 48)) none] (S d 78 l' bx h) (stepR d 78 bx h (some 49) l' v49)) (s8 : ∀ l', lk d l' 49 = v49 → Run C Pg T {} none [.o (some 50) (.ld1 (.int .i64) (.t 49)) none] (S d 78 l' bx h) (stepR d 78 bx h (some 50) l' v50)) (s9 : ∀ l', lk d l' 45 = v45 → lk d l' 50 = v50 → Run C Pg T {} none [.o (some 51) (.eq1 (.int .i64) true (.t 45) (.t 50)) none] (S d 78 l' bx h) (stepR d 78 bx h (some 51) l' v51)) (hK : K .normal (S d 78 ((51, v51) :: (50, v50) :: (49, v49) :: (48, v48) :: (47, v47) :: (46, v46) :: (45, v45) :: (44, v44) :: (43, v43) :: (42, v42) :: l) bx h)) : AWp C Pg none (rg (bodyOf Go.Proofs.Try.f3) 0) (S d 78 l bx h) K := AWp.regT T_ok mixed dc3q0 ((51, v51) :: (50, v50) :: (49, v49) :: (48, v48) :: (47, v47) :: (46, v46) :: (45, v45) :: (44, v44) :: (43, v43) :: (42, v42) :: l) (Sk.cons rfl (Sk.cons rfl (Sk.cons rfl (Sk.cons rfl (Sk.cons rfl (Sk.cons rfl (Sk.cons rfl (Sk.cons rfl (Sk.cons rfl (Sk.cons rfl (Sk.refl))))))))))) ⟨fun l' ag => s0 l' (ag 8 rfl), fun l' ag => s1 l' (ag 11 rfl), fun l' ag => s2 l' (ag 42 rfl) (ag 43 rfl), fun l' ag => s3 l' (ag 44 rfl), fun l' ag => s4 l' (ag 10 rfl), fun l' ag => s5 l' (ag 46 rfl), fun l' ag => s6 l' (ag 11 rfl), fun l' ag => s7 l' (ag 47 rfl) (ag 48 rfl), fun l' ag => s8 l' (ag 49 rfl), fun l' ag => s9 l' (ag 45 rfl) (ag 50 rfl), trivial⟩ hK
theorem dc3q1 : detC T {} (rg (bodyOf Go.Proofs.Try.f3) 1) = some ([52, 53, 54, 55, 56, 57, 58, 59, 60, 61, 62, 63, 64, 65, 66, 67, 68, 69, 70, 71, 72, 73, 74, 75, 76, 77, 4], [(.o (some 52) (.call 13 []) none, []), (.o (some 53) (.mv (.t 52)) none, [52, 52]), (.o (some 54) (.mv (.t 6)) (some (some 53, true)), [53]), (.o (some 55) (.fa 13 (.t 7)) (some (some 53, true)), [53]), (.o (some 56) (.ld1 (.int .i64) (.t 55)) (some (some 53, true)), [55, 53]), (.o (some 57) (.eq1 (.int .i64) false (.t 54) (.t 56)) (some (some 53, true)), [54, 56, 53]), (.o (some 58) (.pick (.t 53) (.t 57) (.c (.bool false))) none, [53, 57]), (.o (some 59) (.mv (.t 58)) none, [58, 53]), (.o (some 60) (.ldA 6 [.int .i64, .int .i64, .int .i64, .slice 33, .slice 100, .slice 86] (.t 5)) (some (some 59, true)), [59]), (.o (some 61) (.fa 0 (.t 7)) (some (some 59, true)), [59]), (.o (some 62) (.ldA 6 [.int .i64, .int .i64, .int .i64, .slice 33, .slice 100, .slice 86] (.t 61)) (some (some 59, true)), [61, 59]), (.o (some 63) (.call 18 [.t 60, .t 62]) (some (some 59, true)), [60, 62, 59, 59]), (.o (some 64) (.pick (.t 59) (.t 63) (.c (.bool false))) none, [59, 63]), (.o (some 65) (.mv (.t 64)) none, [64, 63]), (.o (some 66) (.ldA 6 [.int .i64, .int .i64, .int .i64, .slice 33, .slice 100, .slice 86] (.t 2)) (some (some 65, true)), [65]), (.o (some 67) (.call 19 [.t 66]) (some (some 65, true)), [66, 65, 65]), (.o (some 68) (.ldA 6 [.int .i64, .int .i64, .int .i64, .slice 33, .slice 100, .slice 86] (.t 2)) (some (some 65, true)), [65]), (.o (some 69) (.call 20 [.t 68]) (some (some 65, true)), [68, 67, 65]), (.o (some 70) (.eq1 (.int .i64) false (.t 67) (.t 69)) (some (some 65, true)), [67, 69, 65]), (.o (some 71) (.pick (.t 65) (.t 70) (.c (.bool false))) none, [65, 70]), (.o (some 72) (.mv (.t 71)) none, [71, 69]), (.o (some 73) (.mv (.t 9)) (some (some 72, true)), [72]), (.o (some 74) (.fa 1 (.t 10)) (some (some 72, true)), [72]), (.o (some 75) (.ld1 (.int .i64) (.t 74)) (some (some 72, true)), [74, 72]), (.o (some 76) (.eq1 (.int .i64) false (.t 73) (.t 75)) (some (some 72, true)), [73, 75, 72]), (.o (some 77) (.pick (.t 72) (.t 76) (.c (.bool false))) none, [72, 76]), (.o (some 4) (.tk (.tmp 77)) none, [77, 72, 52, 53, 54, 55, 56, 57, 58, 59, 60, 61, 62, 63, 64, 65, 66, 67, 68, 69, 70, 71, 72, 73, 74, 75, 76, 77])]) := by kernel_rfl
theorem rd3q1 {v52 v53 v54 v55 v56 v57 v58 v59 v60 v61 v62 v63 v64 v65 v66 v67 v68 v69 v70 v71 v72 v73 v74 v75 v76 v77 v4 : AV} (s0 : ∀ l', Run C Pg T {} none [.o (some 52) (.call 13 []) none] (S d 78 l' bx h) (stepR d 78 bx h (some 52) l' v52)) (s1 : ∀ l', lk d l' 52 = v52 → Run C Pg T {} none [.o (some 53) (.mv (.t 52)) none] (S d 78 l' bx h) (stepR d 78 bx h (some 53) l' v53)) (s2 : ∀ l', lk d l' 6 = lk d l 6 → lk d l' 53 = v53 → Run C Pg T {} none [.o (some 54) (.mv (.t 6)) (some (some 53, true))] (S d 78 l' bx h) (stepR d 78 bx h (some 54) l' v54)) (s3 : ∀ l', lk d l' 7 = lk d l 7 → lk d l' 53 = v53 → Run C Pg T {} none [.o (some 55) (.fa 13 (.t 7)) (some (some 53, true))] (S d 78 l' bx h) (stepR d 78 bx h (some 55) l' v55)) (s4 : ∀ l', lk d l' 53 = v53 → lk d l' 55 = v55 → Run C Pg T {} none [.o (some 56) (.ld1 (.int .i64) (.t 55)) (some (some 53, true))] (S d 78 l' bx h) (stepR d 78 bx h (some 56) l' v56)) (s5 : ∀ l', lk d l' 53 = v53 → lk d l' 54 = v54 → lk d l' 56 = v56 → Run C Pg T {} none [.o (some 57) (.eq1 (.int .i64) false (.t 54) (.t 56)) (some (some 53, true))] (S d 78 l' bx h) (stepR d 78 bx h (some 57) l' v57)) (s6 : ∀ l', lk d l' 53 = v53 → lk d l' 57 = v57 → Run C Pg T {} none [.o (some 58) (.pick (.t 53) (.t 57) (.c (.bool false))) none] (S d 78 l' bx h) (stepR d 78 bx h (some 58) l' v58)) (s7 : ∀ l', lk d l' 58 = v58 → Run C Pg T {} none [.o (some 59) (.mv (.t 58)) none] (S d 78 l' bx h) (stepR d 78 bx h (some 59) l' v59)) (s8 : ∀ l', lk d l' 5 = lk d l 5 → lk d l' 59 = v59 → Run C Pg T {} none [.o (some 60) (.ldA 6 [.int .i64, .int .i64, .int .i64, .slice 33, .slice 100, .slice 86] (.t 5)) (some (some 59, true))] (S d 78 l' bx h) (stepR d 78 bx h (some 60) l' v60)) (s9 : ∀ l', lk d l' 7 = lk d l 7 → lk d l' 59 = v59 → Run C Pg T {} none [.o (some 61) (.fa 0 (.t 7)) (some (some 59, true))] (S d 78 l' bx h) (stepR d 78 bx h (some 61) l' v61)) (s10 : ∀ l', lk d l' 59 = v59 → lk d l' 61 = v61 → Run C Pg T {} none [.o (some 62) (.ldA 6 [.int .i64, .int .i64, .int .i64, .slice 33, .slice 100, .slice 86] (.t 61)) (some (some 59, true))] (S d 78 l' bx h) (stepR d 78 bx h (some 62) l' v62)) (s11 : ∀ l', lk d l' 59 = v59 → lk d l' 60 = v60 → lk d l' 62 = v62 → Run C Pg T {} none [.o (some 63) (.call 18 [.t 60, .t 62]) (some (some 59, true))] (S d 78 l' bx h) (stepR d 78 bx h (some 63) l' v63)) (s12 : ∀ l', lk d l' 59 = v59 → lk d l' 63 = v63 → Run C Pg T {} none [.o (some 64) (.pick (.t 59) (.t 63) (.c (.bool false))) none] (S d 78 l' bx h) (stepR d 78 bx h (some 64) l' v64)) (s13 : ∀ l', lk d l' 64 = v64 → Run C Pg T {} none [.o (some 65) (.mv (.t 64)) none] (S d 78 l' bx h) (stepR d 78 bx h (some 65) l' v65)) (s14 : ∀ l', lk d l' 2 = lk d l 2 → lk d l' 65 = v65 → Run C Pg T {} none [.o (some 66) (.ldA 6 [.int .i64, .int .i64, .int .i64, .slice 33, .slice 100, .slice 86] (.t 2)) (some (some 65, true))] (S d 78 l' bx h) (stepR d 78 bx h (some 66) l' v66)) (s15 : ∀ l', lk d l' 65 = v65 → lk d l' 66 = v66 → Run C Pg T {} none [.o (some 67) (.call 19 [.t 66]) (some (some 65, true))] (S d 78 l' bx h) (stepR d 78 bx h (some 67) l' v67)) (s16 : ∀ l', lk d l' 2 = lk d l 2 → lk d l' 65 = v65 → Run C Pg T {} none [.o (some 68) (.ldA 6 [.int .i64, .int .i64, .int .i64, .slice 33, .slice 100, .slice 86] (.t 2)) (some (some 65, true))] (S d 78 l' bx h) (stepR d 78 bx h (some 68) l' v68)) (s17 : ∀ l', lk d l' 65 = v65 → lk d l' 68 = v68 → Run C Pg T {} none [.o (some 69) (.call 20 [.t 68]) (some (some 65, true))] (S d 78 l' bx h) (stepR d 78 bx h (some 69) l' v69)) (s18 : ∀ l', lk d l' 65 = v65 → lk d l' 67 = v67 → lk d l' 69 = v69 → Run C Pg T {} none [.o (some 70) (.eq1 (.int .i64) false (.t 67) (.t 69)) (some (some 65, true))] (S d 78 l' bx h) (stepR d 78 bx h (some 70) l' v70)) (s19 : ∀ l', lk d l' 65 = v65 → lk d l' 70 = v70 → Run C Pg T {} none [.o (some 71) (.pick (.t 65) (.t 70) (.c (.bool false))) none] (S d 78 l' bx h) (stepR d 78 bx h (some 71) l' v71)) (s20 : ∀ l', lk d l' 71 = v71 → Run C Pg T {} none [.o (some 72) (.mv (.t 71)) none] (S d 78 l' bx h) (stepR d 78 bx h (some 72) l' v72)) (s21 : ∀ l', lk d l' 9 = lk d l 9 → lk d l' 72 = v72 → Run C Pg T {} none [.o (some 73) (.mv (.t 9)) (some (some 72, true))] (S d 78 l' bx h) (stepR d 78 bx h (some 73) l' v73)) (s22 : ∀ l', lk d l' 10 = lk d l 10 → lk d l' 72 = v72 → Run C Pg T {} none [.o (some 74) (.fa 1 (.t 10)) (some (some 72, true))] (S d 78 l' bx h) (stepR d 78 bx h (some 74) l' v74)) (s23 : ∀ l', lk d l' 72 = v72 → lk d l' 74 = v74 → Run C Pg T {} none [.o (some 75) (.ld1 (.int .i64) (.t 74)) (some (some 72, true))] (S d 78 l' bx h) (stepR d 78 bx h (some 75) l' v75)) (s24 : ∀ l', lk d l' 72 = v72 → lk d l' 73 = v73 → lk d l' 75 = v75 → Run C Pg T {} none [.o (some 76) (.eq1 (.int .i64) false (.t 73) (.t 75)) (some (some 72, true))] (S d 78 l' bx h) (stepR d 78 bx h (some 76) l' v76)) (s25 : ∀ l', lk d l' 72 = v72 → lk d l' 76 = v76 → Run C Pg T {} none [.o (some 77) (.pick (.t 72) (.t 76) (.c (.bool false))) none] (S d 78 l' bx h) (stepR d 78 bx h (some 77) l' v77)) (s26 : ∀ l', lk d l' 77 = v77 → Run C Pg T {} none [.o (some 4) (.tk (.tmp 77)) none] (S d 78 l' bx h) (stepR d 78 bx h (some 4) l' v4)) (hK : K .normal (S d 78 ((4, v4) :: (77, v77) :: (76, v76) :: (75, v75) :: (74, v74) :: (73, v73) :: (72, v72) :: (71, v71) :: (70, v70) :: (69, v69) :: (68, v68) :: (67, v67) :: (66, v66) :: (65, v65) :: (64, v64) :: (63, v63) :: (62, v62) :: (61, v61) :: (60, v60) :: (59, v59) :: (58, v58) :: (57, v57) :: (56, v56) :: (55, v55) :: (54, v54) :: (53, v53) :: (52, v52) :: l) bx h)) : AWp C Pg none (rg (bodyOf Go.Proofs.Try.f3) 1) (S d 78 l bx h) K := AWp.regT T_ok mixed dc3q1 ((4, v4) :: (77, v77) :: (76, v76) :: (75, v75) :: (74, v74) :: (73, v73) :: (72, v72) :: (71, v71) :: (70, v70) :: (69, v69) :: (68, v68) :: (67, v67) :: (66, v66) :: (65, v65) :: (64, v64) :: (63, v63) :: (62, v62) :: (61, v61) :: (60, v60) :: (59, v59) :: (58, v58) :: (57, v57) :: (56, v56) :: (55, v55) :: (54, v54) :: (53, v53) :: (52, v52) :: l) (Sk.cons rfl (Sk.cons rfl (Sk.cons rfl (Sk.cons rfl (Sk.cons rfl (Sk.cons rfl (Sk.cons rfl (Sk.cons rfl (Sk.cons rfl (Sk.cons rfl (Sk.cons rfl (Sk.cons rfl (Sk.cons rfl (Sk.cons rfl (Sk.cons rfl (Sk.cons rfl (Sk.cons rfl (Sk.cons rfl (Sk.cons rfl (Sk.cons rfl (Sk.cons rfl (Sk.cons rfl (Sk.cons rfl (Sk.cons rfl (Sk.cons rfl (Sk.cons rfl (Sk.cons rfl (Sk.refl)))))))))))))))))))))))))))) ⟨fun l' ag => s0 l', fun l' ag => s1 l' (ag 52 rfl), fun l' ag => s2 l' (ag 6 rfl) (ag 53 rfl), fun l' ag => s3 l' (ag 7 rfl) (ag 53 rfl), fun l' ag => s4 l' (ag 53 rfl) (ag 55 rfl), fun l' ag => s5 l' (ag 53 rfl) (ag 54 rfl) (ag 56 rfl), fun l' ag => s6 l' (ag 53 rfl) (ag 57 rfl), fun l' ag => s7 l' (ag 58 rfl), fun l' ag => s8 l' (ag 5 rfl) (ag 59 rfl), fun l' ag => s9 l' (ag 7 rfl) (ag 59 rfl), fun l' ag => s10 l' (ag 59 rfl) (ag 61 rfl), fun l' ag => s11 l' (ag 59 rfl) (ag 60 rfl) (ag 62 rfl), fun l' ag => s12 l' (ag 59 rfl) (ag 63 rfl), fun l' ag => s13 l' (ag 64 rfl), fun l' ag => s14 l' (ag 2 rfl) (ag 65 rfl), fun l' ag => s15 l' (ag 65 rfl) (ag 66 rfl), fun l' ag => s16 l' (ag 2 rfl) (ag 65 rfl), fun l' ag => s17 l' (ag 65 rfl) (ag 68 rfl), fun l' ag => s18 l' (ag 65 rfl) (ag 67 rfl) (ag 69 rfl), fun l' ag => s19 l' (ag 65 rfl) (ag 70 rfl), fun l' ag => s20 l' (ag 71 rfl), fun l' ag => s21 l' (ag 9 rfl) (ag 72 rfl), fun l' ag => s22 l' (ag 10 rfl) (ag 72 rfl), fun l' ag => s23 l' (ag 72 rfl) (ag 74 rfl), fun l' ag => s24 l' (ag 72 rfl) (ag 73 rfl) (ag 75 rfl), fun l' ag => s25 l' (ag 72 rfl) (ag 76 rfl), fun l' ag => s26 l' (ag 77 rfl), trivial⟩ hK
theorem n3 : Go.Proofs.Try.f3.ntmps = 78 := by kernel_rfl
theorem f3 : Pg.funcs[3]? = some Go.Proofs.Try.f3 := by kernel_rfl
theorem run3 {args : List AV} {K : AV → List AObj → Prop} (hv : Run C Pg T {} none b3 (S (.tup []) 78 (enumL 0 args) [] h) (bodyK T Go.Proofs.Try.f3 K)) (hown : args.all (fun a => !a.owns) = true := by first | rfl | simp [AV.owns]) (hl : args.length ≤ 78 := by exact Nat.le_of_ble_eq_true rfl) : ACall C Pg 3 args h K := ACall.of_runR T_ok {} pl3 (c := bodyOf Go.Proofs.Try.f3) f3 (by kernel_rfl) (by kernel_rfl) c3 n3 hown hl hv
noncomputable def b49q0 : List It := [.o (some 6) (.mv (.t 4)) none, .o (some 7) (.fa 3 (.t 1)) none, .o (some 8) (.ld1 (.slice 33) (.t 7)) none, .o (some 9) (.lens (.t 8)) none, .o (some 10) (.ar .lss (.t 6) (.t 9)) none, .cond (.tmp 10) [] [.exit 0], .block 1 [.rf (rg (bodyOf Go.Proofs.Try.f49) 0), .o (some 20) (.mv (.t 5)) none, .cond (.tmp 20) [.o (some 21) (.tk (.tmp 3)) none, .o (some 22) (.mv (.t 4)) none, .o (some 23) (.bsl false 37 1 [(0, .t 22)]) none, .o (some 24) (.app false 37 37 (.tmp 21) (.tmp 23)) none, .o (some 3) (.tk (.tmp 24)) none] []], .o (some 11) (.mv (.t 4)) none, .o (some 12) (.ar .add (.t 11) (.c (.int .i64 1))) none, .o (some 4) (.tk (.tmp 12)) none]
noncomputable def b49 : List It := [.o (some 1) (.box false (.t 0)) none, .o (some 2) (.tk (.const (.slice none 0 0))) none, .o (some 3) (.tk (.const (.slice none 0 0))) none, .o (some 4) (.tk (.const (.int .i64 0))) none, .block 0 [.loop b49q0 (lp (bodyOf Go.Proofs.Try.f49) 0)], .o (some 25) (.mv (.t 3)) none, .o (some 2) (.tk (.tmp 25)) none, .ret]
theorem c49q0 : compR T ann49 pl49 (lp (bodyOf Go.Proofs.Try.f49) 0) = b49q0 := by kernel_rfl
theorem lp49q0 {α : Type} (m : Nat) (ls : α → List (Nat × AV)) (bs : α → List (List AV)) (hs : α → List AObj) (φ : α → Prop) (μ : α → Nat) (g0 : α) (h0 : φ g0) (hkeys : ∀ g, (ls g).map (·.1) = (ls g0).map (·.1)) (e1 : allIn d l m (ls g0)) (e2 : bs g0 = bx.take m) (e3 : (bs g0).all (fun cs => AV.lb.lbs m cs) = true) (e4 : h = hs g0) (round : ∀ g, φ g → Run C Pg T ann49 none b49q0 (S .undef 26 (ls g) (bs g) (hs g)) (nextR d 26 m ls bs hs φ μ g K)) : AWp C Pg none (.loop (lp (bodyOf Go.Proofs.Try.f49) 0)) (S d 26 l bx h) K := AWp.loopQ T_ok ann49 pl49 c49q0 m ls bs hs φ μ g0 h0 hkeys e1 e2 e3 e4 round
theorem c49 : compR T ann49 pl49 (bodyOf Go.Proofs.Try.f49) = b49 := by kernel_rfl
theorem dc49q0 : detC T ann49 (rg (bodyOf Go.Proofs.Try.f49) 0) = some ([13, 14, 15, 16, 17, 18, 19, 5], [(.o (some 13) (.ldA 6 [.int .i64, .int .i64, .int .i64, .slice 33, .slice 100, .slice 86] (.t 1)) none, []), (.o (some 14) (.fa 3 (.t 1)) none, []), (.o (some 15) (.ld1 (.slice 33) (.t 14)) none, [14]), (.o (some 16) (.mv (.t 4)) none, []), (.o (some 17) (.ixs 5 [.int .i64, .int .i64, .int .i64, .int .i64, .str] (.t 15) (.t 16)) none, [15, 16]), (.o (some 18) (.ldA 5 [.int .i64, .int .i64, .int .i64, .int .i64, .str] (.t 17)) none, [17]), (.o (some 19) (.call 90 [.t 13, .t 18]) none, [13, 18]), (.o (some 5) (.tk (.tmp 19)) none, [19, 19, 13, 14, 15, 16, 17, 18, 19])]) := by kernel_rfl
theorem rd49q0 {v13 v14 v15 v16 v17 v18 v19 v5 : AV} (s0 : ∀ l', lk d l' 1 = lk d l 1 → Run C Pg T ann49 none [.o (some 13) (.ldA 6 [.int .i64, .int .i64, .int .i64, .slice 33, .slice 100, .slice 86] (.t 1)) none] (S d 26 l' bx h) (stepR d 26 bx h (some 13) l' v13)) (s1 : ∀ l', lk d l' 1 = lk d l 1 → Run C Pg T ann49 none [.o (some 14) (.fa 3 (.t 1)) none] (S d 26 l' bx h) (stepR d 26 bx h (some 14) l' v14)) (s2 : ∀ l', lk d l' 14 = v14 → Run C Pg T ann49 none [.o (some 15) (.ld1 (.slice 33) (.t 14)) none] (S d 26 l' bx h) (stepR d 26 bx h (some 15) l' v15)) (s3 : ∀ l', lk d l' 4 = lk d l 4 → Run C Pg T ann49 none [.o (some 16) (.mv (.t 4)) none] (S d 26 l' bx h) (stepR d 26 bx h (some 16) l' v16)) (s4 : ∀ l', lk d l' 15 = v15 → lk d l' 16 = v16 → Run C Pg T ann49 none [.o (some 17) (.ixs 5 [.int .i64, .int .i64, .int .i64, .int .i64, .str] (.t 15) (.t 16)) none] (S d 26 l' bx h) (stepR d 26 bx h (some 17) l' v17)) (s5 : ∀ l', lk d l' 17 = v17 → Run C Pg T ann49 none [.o (some 18) (.ldA 5 [.int .i64, .int .i64, .int .i64, .int .i64, .str] (.t 17)) none] (S d 26 l' bx h) (stepR d 26 bx h (some 18) l' v18)) (s6 : ∀ l', lk d l' 13 = v13 → lk d l' 18 = v18 → Run C Pg T ann49 none [.o (some 19) (.call 90 [.t 13, .t 18]) none] (S d 26 l' bx h) (stepR d 26 bx h (some 19) l' v19)) (s7 : ∀ l', lk d l' 19 = v19 → Run C Pg T ann49 none [.o (some 5) (.tk (.tmp 19)) none] (S d 26 l' bx h) (stepR d 26 bx h (some 5) l' v5)) (hK : K .normal (S d 26 ((5, v5) :: (19, v19) :: (18, v18) :: (17, v17) :: (16, v16) :: (15, v15) :: (14, v14) :: (13, v13) :: l) bx h)) : AWp C Pg none (rg (bodyOf Go.Proofs.Try.f49) 0) (S d 26 l bx h) K := AWp.regT T_ok mixed dc49q0 ((5, v5) :: (19, v19) :: (18, v18) :: (17, v17) :: (16, v16) :: (15, v15) :: (14, v14) :: (13, v13) :: l) (Sk.cons rfl (Sk.cons rfl (Sk.cons rfl (Sk.cons rfl (Sk.cons rfl (Sk.cons rfl (Sk.cons rfl (Sk.cons rfl (Sk.refl))))))))) ⟨fun l' ag => s0 l' (ag 1 rfl), fun l' ag => s1 l' (ag 1 rfl), fun l' ag => s2 l' (ag 14 rfl), fun l' ag => s3 l' (ag 4 rfl), fun l' ag => s4 l' (ag 15 rfl) (ag 16 rfl), fun l' ag => s5 l' (ag 17 rfl), fun l' ag => s6 l' (ag 13 rfl) (ag 18 rfl), fun l' ag => s7 l' (ag 19 rfl), trivial⟩ hK
theorem n49 : Go.Proofs.Try.f49.ntmps = 26 := by kernel_rfl
theorem r49 : Go.Proofs.Try.f49.results.toList = [.tmp 2] := by kernel_rfl
theorem f49 : Pg.funcs[49]? = some Go.Proofs.Try.f49 := by kernel_rfl
theorem run49 {args : List AV} {K : AV → List AObj → Prop} (hv : Run C Pg T ann49 none b49 (S (.tup []) 26 (enumL 0 args) [] h) (bodyK T Go.Proofs.Try.f49 K)) (hown : args.all (fun a => !a.owns) = true := by first | rfl | simp [AV.owns]) (hl : args.length ≤ 26 := by exact Nat.le_of_ble_eq_true rfl) : ACall C Pg 49 args h K := ACall.of_runR T_ok ann49 pl49 (c := bodyOf Go.Proofs.Try.f49) f49 (by kernel_rfl) (by kernel_rfl) c49 n49 hown hl hv
end
end Go.Ab
end
section
set_option linter.unusedSimpArgs false
set_option linter.unusedVariables false
set_option maxRecDepth 100000
set_option maxHeartbeats 4000000
namespace Go.Ab

section
variable {C : CX} {h : List AObj} {K : AV → List AObj → Prop} {a b c d e n : Int} {z z' z1 z2 z3 z1' z2' z3' : Bool} {s s' s1 s2 s3 s1' s2' s3' : Nat} {x y : Net}

def isCut (x : Net) (a b : Int) : Prop := pairOf a b ∈ x.cuts
theorem cut62 (hk : Nk z1 s1 z2 s2 z3 s3 x) (hc : x.cuts.length < 1000000) (hK : ∀ r, (r = true ↔ isCut x a b) → K (.bool r) h) : ACall C Pg 62 [.agg [.int .i64 x.nodes, .int .i64 x.now, .int .i64 x.next, .sl z1 s1 (x.way.map Letter.c) .no, .sl z2 s2 (x.cuts.map Link.c) .no, .sl z3 s3 (x.timers.map Timer.c) .no], .int .i64 a, .int .i64 b] h K := by
  refine run62 ?_; simp -implicitDefEqProofs only [b62, r62, ru, ruc, rud, ru5, Nat.reduceLT, Nat.reduceEqDiff, reduceIte, Nat.reduceAdd, Nat.reduceLeDiff, Int.reduceEq, Int.reduceLT, Int.reduceLE, Int.reduceNeg]
  refine lp62q0 (α := Nat) 1 (fun i => [(1, .int .i64 a), (2, .int .i64 b), (3, .lptr 0 0), (7, .int .i64 i)]) (fun _ => [[.int .i64 x.nodes, .int .i64 x.now, .int .i64 x.next, .sl z1 s1 (x.way.map Letter.c) .no, .sl z2 s2 (x.cuts.map Link.c) .no, .sl z3 s3 (x.timers.map Timer.c) .no]]) (fun _ => h)
    (fun i => i ≤ x.cuts.length ∧ upTo (· ≠ pairOf a b) x.cuts i) (fun i => x.cuts.length - i) 0 ⟨Nat.zero_le _, upTo.zero⟩ (fun _ => rfl) ?_ rfl rfl rfl ?_
  · simp [allIn, lk, AV.lb, AV.lb.lbs]
  · rintro i ⟨hi, hall⟩
    simp -implicitDefEqProofs only [b62q0, r62, List.length_map, ru, ruc, rud, ru5, Nat.reduceLT, Nat.reduceEqDiff, reduceIte, Nat.reduceAdd, Nat.reduceLeDiff, Int.reduceEq, Int.reduceLT, Int.reduceLE, Int.reduceNeg]
    refine condV_split (fun g => ?_) (fun g => ?_)
    · simp -implicitDefEqProofs only [r62, ru, ruc, rud, ru5, Nat.reduceLT, Nat.reduceEqDiff, reduceIte, Nat.reduceAdd, Nat.reduceLeDiff, Int.reduceEq, Int.reduceLT, Int.reduceLE, Int.reduceNeg]
      simp only [decide_eq_true_eq] at g
      have g' : i < x.cuts.length := by omega
      refine re62q0 ?_
      simp -implicitDefEqProofs only [g62q0, r62, ru, ruc, rud, ru5, Nat.reduceLT, Nat.reduceEqDiff, reduceIte, Nat.reduceAdd, Nat.reduceLeDiff, Int.reduceEq, Int.reduceLT, Int.reduceLE, Int.reduceNeg]
      repeat' (first | (refine guardV_split (fun g => ?_) (fun g => ?_) <;> simp -implicitDefEqProofs only [Link.c, r62, ru, ruc, rud, ru5, Nat.reduceLT, Nat.reduceEqDiff, reduceIte, Nat.reduceAdd, Nat.reduceLeDiff, Int.reduceEq, Int.reduceLT, Int.reduceLE, Int.reduceNeg]) | (refine condV_split (fun g => ?_) (fun g => ?_) <;> simp -implicitDefEqProofs only [Link.c, r62, ru, ruc, rud, ru5, Nat.reduceLT, Nat.reduceEqDiff, reduceIte, Nat.reduceAdd, Nat.reduceLeDiff, Int.reduceEq, Int.reduceLT, Int.reduceLE, Int.reduceNeg]) | (refine ixC hk.c rfl g' ?_ <;> try simp -implicitDefEqProofs only [Link.c, r62, ru, ruc, rud, ru5, Nat.reduceLT, Nat.reduceEqDiff, reduceIte, Nat.reduceAdd, Nat.reduceLeDiff, Int.reduceEq, Int.reduceLT, Int.reduceLE, Int.reduceNeg]) | (refine pair63 ?_ <;> try simp -implicitDefEqProofs only [Link.c, r62, ru, ruc, rud, ru5, Nat.reduceLT, Nat.reduceEqDiff, reduceIte, Nat.reduceAdd, Nat.reduceLeDiff, Int.reduceEq, Int.reduceLT, Int.reduceLE, Int.reduceNeg]) | (refine And.intro ?_ ?_ <;> try simp -implicitDefEqProofs only [Link.c, r62, ru, ruc, rud, ru5, Nat.reduceLT, Nat.reduceEqDiff, reduceIte, Nat.reduceAdd, Nat.reduceLeDiff, Int.reduceEq, Int.reduceLT, Int.reduceLE, Int.reduceNeg]))
      all_goals (try simp only [decide_eq_true_eq, decide_eq_false_iff_not, Bool.not_eq_true', Bool.not_eq_false', if_true, Bool.false_eq_true, if_false] at *)
      all_goals first
        | (refine next_normal (i + 1) ⟨by omega, hall.succ g' ?_⟩ (by omega) rfl ?_ rfl rfl
           · assumption
           · simp [allIn, lk, AV.lb, AV.lb.lbs, wrap_i (show i < 9223372036854775807 by omega)])
        | (refine hK _ ?_
           simp only [true_iff, isCut]
           have g2 : x.cuts[i] = pairOf a b := by first | assumption | simp_all
           rw [← g2]
           exact List.getElem_mem g')
    · simp -implicitDefEqProofs only [r62, ru, ruc, rud, ru5, Nat.reduceLT, Nat.reduceEqDiff, reduceIte, Nat.reduceAdd, Nat.reduceLeDiff, Int.reduceEq, Int.reduceLT, Int.reduceLE, Int.reduceNeg]
      refine hK _ ?_
      simp only [decide_eq_false_iff_not] at g
      have := hall.all (by omega)
      simp only [Bool.false_eq_true, false_iff, isCut]
      exact fun h1 => this _ h1 rfl

def canP (x : Net) (l : Letter) : Prop := l.rdy ≤ x.now ∧ ¬ isCut x l.fr l.to
theorem can90 {l : Letter} (hk : Nk z1 s1 z2 s2 z3 s3 x) (hc : x.cuts.length < 1000000) (hK : ∀ r, (r = true ↔ canP x l) → K (.bool r) h) : ACall C Pg 90 [.agg [.int .i64 x.nodes, .int .i64 x.now, .int .i64 x.next, .sl z1 s1 (x.way.map Letter.c) .no, .sl z2 s2 (x.cuts.map Link.c) .no, .sl z3 s3 (x.timers.map Timer.c) .no], .agg (Letter.c l)] h K := by
  refine run90 ?_; simp -implicitDefEqProofs only [b90, r90, Letter.c, ru, ruc, rud, ru5, Nat.reduceLT, Nat.reduceEqDiff, reduceIte, Nat.reduceAdd, Nat.reduceLeDiff, Int.reduceEq, Int.reduceLT, Int.reduceLE, Int.reduceNeg]
  repeat' (first | (refine guardV_split (fun g => ?_) (fun g => ?_) <;> simp -implicitDefEqProofs only [r90, ru, ruc, rud, ru5, Nat.reduceLT, Nat.reduceEqDiff, reduceIte, Nat.reduceAdd, Nat.reduceLeDiff, Int.reduceEq, Int.reduceLT, Int.reduceLE, Int.reduceNeg]) | (refine condV_split (fun g => ?_) (fun g => ?_) <;> simp -implicitDefEqProofs only [r90, ru, ruc, rud, ru5, Nat.reduceLT, Nat.reduceEqDiff, reduceIte, Nat.reduceAdd, Nat.reduceLeDiff, Int.reduceEq, Int.reduceLT, Int.reduceLE, Int.reduceNeg]) | (refine cut62 hk hc (fun r hr => ?_) <;> try simp -implicitDefEqProofs only [r90, ru, ruc, rud, ru5, Nat.reduceLT, Nat.reduceEqDiff, reduceIte, Nat.reduceAdd, Nat.reduceLeDiff, Int.reduceEq, Int.reduceLT, Int.reduceLE, Int.reduceNeg]))
  all_goals refine hK _ ?_
  all_goals simp only [decide_eq_true_eq, decide_eq_false_iff_not, Bool.not_eq_true', Bool.not_eq_false', if_true, Bool.false_eq_true, if_false] at *
  all_goals first
    | (simp [canP, ← hr, g]; done)
    | (simp only [canP]; simp_all; done)
    | (simp only [canP]; simp_all; omega)

theorem can90x {l : Letter} (hk : Nk z1 s1 z2 s2 z3 s3 x) (hc : x.cuts.length < 1000000) (hK : K (.bool (canX x l)) h) : ACall C Pg 90 [.agg [.int .i64 x.nodes, .int .i64 x.now, .int .i64 x.next, .sl z1 s1 (x.way.map Letter.c) .no, .sl z2 s2 (x.cuts.map Link.c) .no, .sl z3 s3 (x.timers.map Timer.c) .no], .agg (Letter.c l)] h K :=
  can90 hk hc fun r hr => by
    have : r = canX x l := by
      rw [Bool.eq_iff_iff, hr]
      simp [canX, canP, isCut]
    rw [this]
    exact hK
theorem ready49 (hk : Nk z1 s1 z2 s2 z3 s3 x) (hc : x.cuts.length < 1000000) (hw : x.way.length < 1000000) (hK : K (accU 1 intc (readyTo x x.way.length)) h) : ACall C Pg 49 [.agg [.int .i64 x.nodes, .int .i64 x.now, .int .i64 x.next, .sl z1 s1 (x.way.map Letter.c) .no, .sl z2 s2 (x.cuts.map Link.c) .no, .sl z3 s3 (x.timers.map Timer.c) .no]] h K := by
  refine run49 ?_; simp -implicitDefEqProofs only [b49, r49, ru, ruc, rud, ru5, Nat.reduceLT, Nat.reduceEqDiff, reduceIte, Nat.reduceAdd, Nat.reduceLeDiff, Int.reduceEq, Int.reduceLT, Int.reduceLE, Int.reduceNeg]
  refine lp49q0 (α := Nat) 1 (fun i => [(1, .lptr 0 0), (3, accV 1 intc (readyTo x i)), (4, .int .i64 i)]) (fun _ => [[.int .i64 x.nodes, .int .i64 x.now, .int .i64 x.next, .sl z1 s1 (x.way.map Letter.c) .no, .sl z2 s2 (x.cuts.map Link.c) .no, .sl z3 s3 (x.timers.map Timer.c) .no]]) (fun _ => h)
    (fun i => i ≤ x.way.length) (fun i => x.way.length - i) 0 (Nat.zero_le _) (fun _ => rfl) ?_ rfl rfl rfl ?_
  · simp [allIn, lk, AV.lb, AV.lb.lbs, readyTo, accV]
  · intro i hi
    have ha : (accV 1 intc (readyTo x i)).owns = true ∨ ¬ (accV 1 intc (readyTo x i)).owns = true := Classical.em _
    simp -implicitDefEqProofs only [b49q0, r49, List.length_map, ru, ruc, rud, ru5, Nat.reduceLT, Nat.reduceEqDiff, reduceIte, Nat.reduceAdd, Nat.reduceLeDiff, Int.reduceEq, Int.reduceLT, Int.reduceLE, Int.reduceNeg]
    refine condV_split (fun g => ?_) (fun g => ?_)
    · simp -implicitDefEqProofs only [r49, ru, ruc, rud, ru5, Nat.reduceLT, Nat.reduceEqDiff, reduceIte, Nat.reduceAdd, Nat.reduceLeDiff, Int.reduceEq, Int.reduceLT, Int.reduceLE, Int.reduceNeg]
      simp only [decide_eq_true_eq] at g
      have g' : i < x.way.length := by omega
      have hlen : (readyTo x i).length < 1000000 := by have := readyTo_len (x := x) (k := i); omega
      apply rd49q0
      all_goals try (first | (intro l' e0 e1; simp -implicitDefEqProofs only [e0, e1, Letter.c, ru, ruc, rud, ru5, Nat.reduceLT, Nat.reduceEqDiff, reduceIte, Nat.reduceAdd, Nat.reduceLeDiff, Int.reduceEq, Int.reduceLT, Int.reduceLE, Int.reduceNeg]; (try (first | (refine ixL hk.w rfl g' ?_ <;> try simp -implicitDefEqProofs only [e0, e1, Letter.c, ru, ruc, rud, ru5, Nat.reduceLT, Nat.reduceEqDiff, reduceIte, Nat.reduceAdd, Nat.reduceLeDiff, Int.reduceEq, Int.reduceLT, Int.reduceLE, Int.reduceNeg]) | (refine can90x (l := x.way[i]) hk hc ?_ <;> try simp -implicitDefEqProofs only [e0, e1, Letter.c, ru, ruc, rud, ru5, Nat.reduceLT, Nat.reduceEqDiff, reduceIte, Nat.reduceAdd, Nat.reduceLeDiff, Int.reduceEq, Int.reduceLT, Int.reduceLE, Int.reduceNeg]) | (fail))); first | exact step_1 rfl | exact step_2 rfl (by assumption)) | (intro l' e0; simp -implicitDefEqProofs only [e0, Letter.c, ru, ruc, rud, ru5, Nat.reduceLT, Nat.reduceEqDiff, reduceIte, Nat.reduceAdd, Nat.reduceLeDiff, Int.reduceEq, Int.reduceLT, Int.reduceLE, Int.reduceNeg]; (try (first | (refine ixL hk.w rfl g' ?_ <;> try simp -implicitDefEqProofs only [e0, Letter.c, ru, ruc, rud, ru5, Nat.reduceLT, Nat.reduceEqDiff, reduceIte, Nat.reduceAdd, Nat.reduceLeDiff, Int.reduceEq, Int.reduceLT, Int.reduceLE, Int.reduceNeg]) | (refine can90x (l := x.way[i]) hk hc ?_ <;> try simp -implicitDefEqProofs only [e0, Letter.c, ru, ruc, rud, ru5, Nat.reduceLT, Nat.reduceEqDiff, reduceIte, Nat.reduceAdd, Nat.reduceLeDiff, Int.reduceEq, Int.reduceLT, Int.reduceLE, Int.reduceNeg]) | (fail))); first | exact step_1 rfl | exact step_2 rfl (by assumption)) | (intro l' ; simp -implicitDefEqProofs only [Letter.c, ru, ruc, rud, ru5, Nat.reduceLT, Nat.reduceEqDiff, reduceIte, Nat.reduceAdd, Nat.reduceLeDiff, Int.reduceEq, Int.reduceLT, Int.reduceLE, Int.reduceNeg]; (try (first | (refine ixL hk.w rfl g' ?_ <;> try simp -implicitDefEqProofs only [Letter.c, ru, ruc, rud, ru5, Nat.reduceLT, Nat.reduceEqDiff, reduceIte, Nat.reduceAdd, Nat.reduceLeDiff, Int.reduceEq, Int.reduceLT, Int.reduceLE, Int.reduceNeg]) | (refine can90x (l := x.way[i]) hk hc ?_ <;> try simp -implicitDefEqProofs only [Letter.c, ru, ruc, rud, ru5, Nat.reduceLT, Nat.reduceEqDiff, reduceIte, Nat.reduceAdd, Nat.reduceLeDiff, Int.reduceEq, Int.reduceLT, Int.reduceLE, Int.reduceNeg]) | (fail))); first | exact step_1 rfl | exact step_2 rfl (by assumption)))
      case hK =>
        simp -implicitDefEqProofs only [r49, ru, ruc, rud, ru5, Nat.reduceLT, Nat.reduceEqDiff, reduceIte, Nat.reduceAdd, Nat.reduceLeDiff, Int.reduceEq, Int.reduceLT, Int.reduceLE, Int.reduceNeg]
        refine condV_split (fun g2 => ?_) (fun g2 => ?_)
        · have htake : readyTo x (i + 1) = readyTo x i ++ [(i : Int)] := by rw [readyTo_succ g', if_pos g2]
          have ha2 : (accV 1 intc (readyTo x (i + 1))).owns = true ∨ ¬ (accV 1 intc (readyTo x (i + 1))).owns = true := Classical.em _
          rcases ha with ha | ha
          all_goals (
            simp -implicitDefEqProofs only [r49, bsl37q1, ha, accV_un, accU_ow, ru, ruc, rud, ru5, Nat.reduceLT, Nat.reduceEqDiff, reduceIte, Nat.reduceAdd, Nat.reduceLeDiff, Int.reduceEq, Int.reduceLT, Int.reduceLE, Int.reduceNeg]
            refine app_acc (y := (i : Int)) (by decide) T37 rfl T3 rfl (by decide) (by decide) hlen ?_
            rw [← htake]
            rcases ha2 with ha2 | ha2
            all_goals (
              simp -implicitDefEqProofs only [r49, ha, ha2, accV_un, ru, ruc, rud, ru5, Nat.reduceLT, Nat.reduceEqDiff, reduceIte, Nat.reduceAdd, Nat.reduceLeDiff, Int.reduceEq, Int.reduceLT, Int.reduceLE, Int.reduceNeg]
              refine next_normal (i + 1) g' (by omega) rfl ?_ rfl rfl
              simp [allIn, lk, AV.lb, AV.lb.lbs, accV_lb, wrap_i (show i < 9223372036854775807 by omega)]))
        · have htake : readyTo x (i + 1) = readyTo x i := by rw [readyTo_succ g', if_neg (by simp [g2])]
          simp -implicitDefEqProofs only [r49, ru, ruc, rud, ru5, Nat.reduceLT, Nat.reduceEqDiff, reduceIte, Nat.reduceAdd, Nat.reduceLeDiff, Int.reduceEq, Int.reduceLT, Int.reduceLE, Int.reduceNeg]
          refine next_normal (i + 1) g' (by omega) rfl ?_ rfl rfl
          simp [allIn, lk, AV.lb, AV.lb.lbs, accV_lb, wrap_i (show i < 9223372036854775807 by omega), htake]
    · simp only [decide_eq_false_iff_not] at g
      have e : i = x.way.length := by omega
      subst e
      rcases ha with ha | ha
      all_goals (
        simp -implicitDefEqProofs only [r49, ha, accV_un, accU_un, accU_nol, accV_nol, accU_ow, ru, ruc, rud, ru5, Nat.reduceLT, Nat.reduceEqDiff, reduceIte, Nat.reduceAdd, Nat.reduceLeDiff, Int.reduceEq, Int.reduceLT, Int.reduceLE, Int.reduceNeg]
        exact hK)
end
end Go.Ab
end
section
set_option linter.unusedSimpArgs false
set_option linter.unusedVariables false
set_option maxRecDepth 100000
set_option maxHeartbeats 4000000
namespace Go.Ab

section
variable {C : CX} {h : List AObj} {K : AV → List AObj → Prop} {a b c d e n : Int} {z1 z2 z3 z1' z2' z3' : Bool} {s1 s2 s3 s1' s2' s3' : Nat} {x y : Net}

theorem check20 (hk : Nk z1 s1 z2 s2 z3 s3 x) (hc : x.cuts.length < 1000000) (hK : ∀ r, (r = true ↔ WF x) → K (.int .i64 (if r = true then 0 else 2)) h) : ACall C Pg 20 [.agg [.int .i64 x.nodes, .int .i64 x.now, .int .i64 x.next, .sl z1 s1 (x.way.map Letter.c) .no, .sl z2 s2 (x.cuts.map Link.c) .no, .sl z3 s3 (x.timers.map Timer.c) .no]] h K := by
  refine run20 ?_; simp -implicitDefEqProofs only [b20, r20, ru, ruc, rud, ru5, Nat.reduceLT, Nat.reduceEqDiff, reduceIte, Nat.reduceAdd, Nat.reduceLeDiff, Int.reduceEq, Int.reduceLT, Int.reduceLE, Int.reduceNeg]
  refine is48 hk hc fun r hr => ?_
  have := hK r hr
  cases r <;> simp -implicitDefEqProofs only [r20, ru, ruc, rud, ru5, Nat.reduceLT, Nat.reduceEqDiff, reduceIte, Nat.reduceAdd, Nat.reduceLeDiff, Int.reduceEq, Int.reduceLT, Int.reduceLE, Int.reduceNeg] <;> exact this

theorem bld41a {A : AV} {K : AV → Prop} (h1 : A.one = true) (h2 : A.cells = [A]) : agK (abuild T 41 [(0, A)]) K = K (.agg [A, .int .i64 0]) := by
  have e : T.get 41 = some (TI.mk (.struct [(0, 37), (1, 29)]) 2 32 [.sl true 0 [] .own, .int .i64 0] []) := rfl
  have e2 : T.get 37 = some (TI.mk (.slice 3) 1 24 [.sl true 0 [] .own] []) := rfl
  have e3 : T.get 29 = some (TI.mk (.int .i64) 1 8 [.int .i64 0] []) := rfl
  simp [abuild, e, e2, e3, places, fillA, jo, h2, h1, agK]
theorem ready17 (hk : Nk z1 s1 z2 s2 z3 s3 x) (hc : x.cuts.length < 1000000)
    (h1 : ¬ WF x → K (.agg [.sl true 0 [] .no, .int .i64 2]) h)
    (h2 : WF x → K (.agg [accU 1 intc (readyTo x x.way.length), .int .i64 0]) h) : ACall C Pg 17 [.agg [.int .i64 x.nodes, .int .i64 x.now, .int .i64 x.next, .sl z1 s1 (x.way.map Letter.c) .no, .sl z2 s2 (x.cuts.map Link.c) .no, .sl z3 s3 (x.timers.map Timer.c) .no]] h K := by
  refine run17 ?_; simp -implicitDefEqProofs only [b17, r17, ru, ruc, rud, ru5, Nat.reduceLT, Nat.reduceEqDiff, reduceIte, Nat.reduceAdd, Nat.reduceLeDiff, Int.reduceEq, Int.reduceLT, Int.reduceLE, Int.reduceNeg]
  refine is48 hk hc fun r hr => ?_
  cases r with
  | false =>
    simp -implicitDefEqProofs only [r17, ru, ruc, rud, ru5, Nat.reduceLT, Nat.reduceEqDiff, reduceIte, Nat.reduceAdd, Nat.reduceLeDiff, Int.reduceEq, Int.reduceLT, Int.reduceLE, Int.reduceNeg]
    exact h1 (fun w => by have := hr.2 w; cases this)
  | true =>
    have w := hr.1 rfl
    have ht := accU_all (sz := 1) (c := intc) (l := readyTo x x.way.length)
    simp -implicitDefEqProofs only [r17, ru, ruc, rud, ru5, Nat.reduceLT, Nat.reduceEqDiff, reduceIte, Nat.reduceAdd, Nat.reduceLeDiff, Int.reduceEq, Int.reduceLT, Int.reduceLE, Int.reduceNeg]
    refine ready49 hk hc (by have := w.fl; omega) ?_
    simp -implicitDefEqProofs only [r17, ht, ru, ruc, rud, ru5, Nat.reduceLT, Nat.reduceEqDiff, reduceIte, Nat.reduceAdd, Nat.reduceLeDiff, Int.reduceEq, Int.reduceLT, Int.reduceLE, Int.reduceNeg]
    rw [bld41a ht.2.2.1 ht.2.2.2.2.1]
    simp -implicitDefEqProofs only [r17, ht, ru, ruc, rud, ru5, Nat.reduceLT, Nat.reduceEqDiff, reduceIte, Nat.reduceAdd, Nat.reduceLeDiff, Int.reduceEq, Int.reduceLT, Int.reduceLE, Int.reduceNeg]
    exact h2 w

end
end Go.Ab
end
section
set_option linter.unusedSimpArgs false
set_option linter.unusedVariables false
set_option maxRecDepth 100000
set_option maxHeartbeats 4000000
namespace Go.Ab

section
variable {C : CX} {h : List AObj} {K : AV → List AObj → Prop} {a b c d e n : Int} {z1 z2 z3 z1' z2' z3' : Bool} {s1 s2 s3 s1' s2' s3' : Nat} {x y : Net}
theorem check19e (hk : Nk z1 s1 z2 s2 z3 s3 x) (hc : x.cuts.length < 1000000) (he : (WF x ∧ e = 0) ∨ (¬ WF x ∧ e = 2)) (hK : K (.int .i64 e) h) : ACall C Pg 19 [.agg [.int .i64 x.nodes, .int .i64 x.now, .int .i64 x.next, .sl z1 s1 (x.way.map Letter.c) .no, .sl z2 s2 (x.cuts.map Link.c) .no, .sl z3 s3 (x.timers.map Timer.c) .no]] h K :=
  check19c hk hc fun r hr => by
    have : (if r = true then (0 : Int) else 2) = e := by
      rcases he with ⟨w, rfl⟩ | ⟨w, rfl⟩
      · rw [if_pos (hr.2 w)]
      · rw [if_neg (fun h => w (hr.1 h))]
    rw [this]
    exact hK
theorem check20e (hk : Nk z1 s1 z2 s2 z3 s3 x) (hc : x.cuts.length < 1000000) (he : (WF x ∧ e = 0) ∨ (¬ WF x ∧ e = 2)) (hK : K (.int .i64 e) h) : ACall C Pg 20 [.agg [.int .i64 x.nodes, .int .i64 x.now, .int .i64 x.next, .sl z1 s1 (x.way.map Letter.c) .no, .sl z2 s2 (x.cuts.map Link.c) .no, .sl z3 s3 (x.timers.map Timer.c) .no]] h K :=
  check20 hk hc fun r hr => by
    have : (if r = true then (0 : Int) else 2) = e := by
      rcases he with ⟨w, rfl⟩ | ⟨w, rfl⟩
      · rw [if_pos (hr.2 w)]
      · rw [if_neg (fun h => w (hr.1 h))]
    rw [this]
    exact hK
theorem ready16e (hk : Nk z1 s1 z2 s2 z3 s3 x) (hc : x.cuts.length < 1000000) {L : List Int} (hL : readyIs x L e)
    (hK : ∀ z s, Slk z s 1 L.length → K (.tup [.sl z s (L.map intc) .no, .int .i64 e]) h) : ACall C Pg 16 [.agg [.int .i64 x.nodes, .int .i64 x.now, .int .i64 x.next, .sl z1 s1 (x.way.map Letter.c) .no, .sl z2 s2 (x.cuts.map Link.c) .no, .sl z3 s3 (x.timers.map Timer.c) .no]] h K := by
  refine ready16 hk hc (fun hw => ?_) (fun hw z s hz => ?_)
  · rcases hL with ⟨w, _⟩ | ⟨_, rfl, rfl⟩
    · exact absurd w hw
    · exact hK true 0 ⟨fun _ => rfl, by simp⟩
  · rcases hL with ⟨_, rfl, rfl⟩ | ⟨w, _⟩
    · exact hK z s hz
    · exact absurd hw w
theorem ready17e (hk : Nk z1 s1 z2 s2 z3 s3 x) (hc : x.cuts.length < 1000000) {L : List Int} (hL : readyIs x L e)
    (hK : ∀ z s, Slk z s 1 L.length → K (.agg [.sl z s (L.map intc) .no, .int .i64 e]) h) : ACall C Pg 17 [.agg [.int .i64 x.nodes, .int .i64 x.now, .int .i64 x.next, .sl z1 s1 (x.way.map Letter.c) .no, .sl z2 s2 (x.cuts.map Link.c) .no, .sl z3 s3 (x.timers.map Timer.c) .no]] h K := by
  refine ready17 hk hc (fun hw => ?_) (fun hw => ?_)
  · rcases hL with ⟨w, _⟩ | ⟨_, rfl, rfl⟩
    · exact absurd w hw
    · exact hK true 0 ⟨fun _ => rfl, by simp⟩
  · rcases hL with ⟨_, rfl, rfl⟩ | ⟨w, _⟩
    · obtain ⟨z, s, e1, hz⟩ := accU_sl 1 intc (readyTo x x.way.length)
      rw [e1]
      exact hK z s hz
    · exact absurd hw w
theorem new_forms (n : Int) : ∃ nn e : Int, ((if n < 1 ∨ 16 < n then AV.tup [.agg [.int .i64 0, .int .i64 0, .int .i64 0, .sl true 0 [] .no, .sl true 0 [] .no, .sl true 0 [] .no], .int .i64 1] else .tup [.agg [.int .i64 n, .int .i64 0, .int .i64 0, .sl true 0 [] .no, .sl true 0 [] .no, .sl true 0 [] .no], .int .i64 0]) = .tup [.agg [.int .i64 nn, .int .i64 0, .int .i64 0, .sl true 0 [] .no, .sl true 0 [] .no, .sl true 0 [] .no], .int .i64 e]) ∧
    ((if n < 1 ∨ 16 < n then AV.agg [.int .i64 0, .int .i64 0, .int .i64 0, .sl true 0 [] .no, .sl true 0 [] .no, .sl true 0 [] .no, .int .i64 0, .int .i64 0, .int .i64 0, .int .i64 0, .int .i64 0, .str [], .sl true 0 [] .no, .int .i64 1] else .agg [.int .i64 n, .int .i64 0, .int .i64 0, .sl true 0 [] .no, .sl true 0 [] .no, .sl true 0 [] .no, .int .i64 0, .int .i64 0, .int .i64 0, .int .i64 0, .int .i64 0, .str [], .sl true 0 [] .no, .int .i64 0]) = .agg [.int .i64 nn, .int .i64 0, .int .i64 0, .sl true 0 [] .no, .sl true 0 [] .no, .sl true 0 [] .no, .int .i64 0, .int .i64 0, .int .i64 0, .int .i64 0, .int .i64 0, .str [], .sl true 0 [] .no, .int .i64 e]) := by
  by_cases h : n < 1 ∨ 16 < n
  · exact ⟨0, 1, by rw [if_pos h], by rw [if_pos h]⟩
  · exact ⟨n, 0, by rw [if_neg h], by rw [if_neg h]⟩
theorem readyIs_ex (x : Net) : ∃ L e, readyIs x L e ∧ ((WF x ∧ e = 0) ∨ (¬ WF x ∧ e = 2)) := by
  by_cases w : WF x
  · exact ⟨_, 0, .inl ⟨w, rfl, rfl⟩, .inl ⟨w, rfl⟩⟩
  · exact ⟨[], 2, .inr ⟨w, rfl, rfl⟩, .inr ⟨w, rfl⟩⟩

end
end Go.Ab
end
section
/- NetChecks. -/
set_option linter.unusedSimpArgs false
set_option linter.unusedVariables false
set_option maxRecDepth 100000
set_option maxHeartbeats 4000000
namespace Go.Ab

section
variable {C : CX} {h : List AObj} {K : AV → List AObj → Prop} {a b c d e n : Int} {z1 z2 z3 z1' z2' z3' : Bool} {s1 s2 s3 s1' s2' s3' : Nat} {x y : Net}
theorem checks3 (hk : Nk z1 s1 z2 s2 z3 s3 x) (hK : K (.bool true) h) : ACall C Pg 3 [.agg [.int .i64 x.nodes, .int .i64 x.now, .int .i64 x.next, .sl z1 s1 (x.way.map Letter.c) .no, .sl z2 s2 (x.cuts.map Link.c) .no, .sl z3 s3 (x.timers.map Timer.c) .no], .int .i64 n] h K := by
  refine run3 ?_; simp -implicitDefEqProofs only [b3, r3, ru, ruc, rud, ru5, Nat.reduceLT, Nat.reduceEqDiff, reduceIte, Nat.reduceAdd, Nat.reduceLeDiff, Int.reduceEq, Int.reduceLT, Int.reduceLE, Int.reduceNeg]
  refine small12 hk (fun hs => ?_) (fun hs => ?_)
  · simp -implicitDefEqProofs only [r3, ru, ruc, rud, ru5, Nat.reduceLT, Nat.reduceEqDiff, reduceIte, Nat.reduceAdd, Nat.reduceLeDiff, Int.reduceEq, Int.reduceLT, Int.reduceLE, Int.reduceNeg]
    have hcu : x.cuts.length < 1000000 := by have := hs.2.1; omega
    have hwl := hs.1
    obtain ⟨nn, e0, h14, h15⟩ := new_forms n
    obtain ⟨L, e, hL, he⟩ := readyIs_ex x
    have hLl := hL.len
    refine new14 ?_
    rw [h14]
    simp -implicitDefEqProofs only [r3, ru, ruc, rud, ru5, Nat.reduceLT, Nat.reduceEqDiff, reduceIte, Nat.reduceAdd, Nat.reduceLeDiff, Int.reduceEq, Int.reduceLT, Int.reduceLE, Int.reduceNeg]
    refine new15 ?_
    rw [h15]
    simp -implicitDefEqProofs only [r3, ru, ruc, rud, ru5, Nat.reduceLT, Nat.reduceEqDiff, reduceIte, Nat.reduceAdd, Nat.reduceLeDiff, Int.reduceEq, Int.reduceLT, Int.reduceLE, Int.reduceNeg]
    refine ready16e hk hcu hL fun z s hz => ?_
    simp -implicitDefEqProofs only [r3, ru, ruc, rud, ru5, Nat.reduceLT, Nat.reduceEqDiff, reduceIte, Nat.reduceAdd, Nat.reduceLeDiff, Int.reduceEq, Int.reduceLT, Int.reduceLE, Int.reduceNeg]
    refine ready17e hk hcu hL fun z' s' hz' => ?_
    simp -implicitDefEqProofs only [r3, ru, ruc, rud, ru5, Nat.reduceLT, Nat.reduceEqDiff, reduceIte, Nat.reduceAdd, Nat.reduceLeDiff, Int.reduceEq, Int.reduceLT, Int.reduceLE, Int.reduceNeg]
    refine lp3q0 (α := Nat) 4 (fun i => [(2, .lptr 0 0), (5, .lptr 1 0), (6, .int .i64 e0), (7, .lptr 2 0), (8, .sl z s (L.map intc) .no), (9, .int .i64 e), (10, .lptr 3 0), (11, .int .i64 i)])
      (fun _ => [[.int .i64 x.nodes, .int .i64 x.now, .int .i64 x.next, .sl z1 s1 (x.way.map Letter.c) .no, .sl z2 s2 (x.cuts.map Link.c) .no, .sl z3 s3 (x.timers.map Timer.c) .no], [.int .i64 nn, .int .i64 0, .int .i64 0, .sl true 0 [] .no, .sl true 0 [] .no, .sl true 0 [] .no], [.int .i64 nn, .int .i64 0, .int .i64 0, .sl true 0 [] .no, .sl true 0 [] .no, .sl true 0 [] .no, .int .i64 0, .int .i64 0, .int .i64 0, .int .i64 0, .int .i64 0, .str [], .sl true 0 [] .no, .int .i64 e0], [.sl z' s' (L.map intc) .no, .int .i64 e]]) (fun _ => h)
      (fun i => i ≤ L.length) (fun i => L.length - i) 0 (Nat.zero_le _) (fun _ => rfl) ?_ rfl rfl rfl ?_
    · simp [allIn, lk, AV.lb, AV.lb.lbs]
    · intro i hi
      simp -implicitDefEqProofs only [b3q0, r3, List.length_map, ru, ruc, rud, ru5, Nat.reduceLT, Nat.reduceEqDiff, reduceIte, Nat.reduceAdd, Nat.reduceLeDiff, Int.reduceEq, Int.reduceLT, Int.reduceLE, Int.reduceNeg]
      refine condV_split (fun g => ?_) (fun g => ?_)
      · simp -implicitDefEqProofs only [r3, ru, ruc, rud, ru5, Nat.reduceLT, Nat.reduceEqDiff, reduceIte, Nat.reduceAdd, Nat.reduceLeDiff, Int.reduceEq, Int.reduceLT, Int.reduceLE, Int.reduceNeg]
        simp only [decide_eq_true_eq] at g
        have g' : i < L.length := by omega
        apply rd3q0
        all_goals try (first | (intro l' e0 e1; simp -implicitDefEqProofs only [e0, e1, intc, ru, ruc, rud, ru5, Nat.reduceLT, Nat.reduceEqDiff, reduceIte, Nat.reduceAdd, Nat.reduceLeDiff, Int.reduceEq, Int.reduceLT, Int.reduceLE, Int.reduceNeg]; (try (first | (refine ixI hz rfl g' ?_ <;> try simp -implicitDefEqProofs only [e0, e1, intc, ru, ruc, rud, ru5, Nat.reduceLT, Nat.reduceEqDiff, reduceIte, Nat.reduceAdd, Nat.reduceLeDiff, Int.reduceEq, Int.reduceLT, Int.reduceLE, Int.reduceNeg]) | (refine ixI hz' rfl g' ?_ <;> try simp -implicitDefEqProofs only [e0, e1, intc, ru, ruc, rud, ru5, Nat.reduceLT, Nat.reduceEqDiff, reduceIte, Nat.reduceAdd, Nat.reduceLeDiff, Int.reduceEq, Int.reduceLT, Int.reduceLE, Int.reduceNeg]) | (fail))); first | exact step_1 rfl | exact step_2 rfl (by assumption)) | (intro l' e0; simp -implicitDefEqProofs only [e0, intc, ru, ruc, rud, ru5, Nat.reduceLT, Nat.reduceEqDiff, reduceIte, Nat.reduceAdd, Nat.reduceLeDiff, Int.reduceEq, Int.reduceLT, Int.reduceLE, Int.reduceNeg]; (try (first | (refine ixI hz rfl g' ?_ <;> try simp -implicitDefEqProofs only [e0, intc, ru, ruc, rud, ru5, Nat.reduceLT, Nat.reduceEqDiff, reduceIte, Nat.reduceAdd, Nat.reduceLeDiff, Int.reduceEq, Int.reduceLT, Int.reduceLE, Int.reduceNeg]) | (refine ixI hz' rfl g' ?_ <;> try simp -implicitDefEqProofs only [e0, intc, ru, ruc, rud, ru5, Nat.reduceLT, Nat.reduceEqDiff, reduceIte, Nat.reduceAdd, Nat.reduceLeDiff, Int.reduceEq, Int.reduceLT, Int.reduceLE, Int.reduceNeg]) | (fail))); first | exact step_1 rfl | exact step_2 rfl (by assumption)) | (intro l' ; simp -implicitDefEqProofs only [intc, ru, ruc, rud, ru5, Nat.reduceLT, Nat.reduceEqDiff, reduceIte, Nat.reduceAdd, Nat.reduceLeDiff, Int.reduceEq, Int.reduceLT, Int.reduceLE, Int.reduceNeg]; (try (first | (refine ixI hz rfl g' ?_ <;> try simp -implicitDefEqProofs only [intc, ru, ruc, rud, ru5, Nat.reduceLT, Nat.reduceEqDiff, reduceIte, Nat.reduceAdd, Nat.reduceLeDiff, Int.reduceEq, Int.reduceLT, Int.reduceLE, Int.reduceNeg]) | (refine ixI hz' rfl g' ?_ <;> try simp -implicitDefEqProofs only [intc, ru, ruc, rud, ru5, Nat.reduceLT, Nat.reduceEqDiff, reduceIte, Nat.reduceAdd, Nat.reduceLeDiff, Int.reduceEq, Int.reduceLT, Int.reduceLE, Int.reduceNeg]) | (fail))); first | exact step_1 rfl | exact step_2 rfl (by assumption)))
        case hK =>
          simp -implicitDefEqProofs only [r3, ru, ruc, rud, ru5, Nat.reduceLT, Nat.reduceEqDiff, reduceIte, Nat.reduceAdd, Nat.reduceLeDiff, Int.reduceEq, Int.reduceLT, Int.reduceLE, Int.reduceNeg]
          refine next_normal (i + 1) (by omega) (by omega) rfl ?_ rfl rfl
          simp [allIn, lk, AV.lb, AV.lb.lbs, wrap_i (show i < 9223372036854775807 by omega)]
      · simp -implicitDefEqProofs only [r3, ru, ruc, rud, ru5, Nat.reduceLT, Nat.reduceEqDiff, reduceIte, Nat.reduceAdd, Nat.reduceLeDiff, Int.reduceEq, Int.reduceLT, Int.reduceLE, Int.reduceNeg]
        apply rd3q1
        all_goals try (first | (intro l' e0 e1 e2; simp -implicitDefEqProofs only [e0, e1, e2, ru, ruc, rud, ru5, Nat.reduceLT, Nat.reduceEqDiff, reduceIte, Nat.reduceAdd, Nat.reduceLeDiff, Int.reduceEq, Int.reduceLT, Int.reduceLE, Int.reduceNeg]; (try (first | (refine sane13 ?_ <;> try simp -implicitDefEqProofs only [e0, e1, e2, ru, ruc, rud, ru5, Nat.reduceLT, Nat.reduceEqDiff, reduceIte, Nat.reduceAdd, Nat.reduceLeDiff, Int.reduceEq, Int.reduceLT, Int.reduceLE, Int.reduceNeg]) | (refine same18 (x := ⟨nn, 0, 0, [], [], []⟩) (y := ⟨nn, 0, 0, [], [], []⟩) (Nk.of (by simp)) (Nk.of (by simp)) (by simp) (by simp) (by simp) ?_ <;> try simp -implicitDefEqProofs only [e0, e1, e2, ru, ruc, rud, ru5, Nat.reduceLT, Nat.reduceEqDiff, reduceIte, Nat.reduceAdd, Nat.reduceLeDiff, Int.reduceEq, Int.reduceLT, Int.reduceLE, Int.reduceNeg]) | (refine check19e hk hcu he ?_ <;> try simp -implicitDefEqProofs only [e0, e1, e2, ru, ruc, rud, ru5, Nat.reduceLT, Nat.reduceEqDiff, reduceIte, Nat.reduceAdd, Nat.reduceLeDiff, Int.reduceEq, Int.reduceLT, Int.reduceLE, Int.reduceNeg]) | (refine check20e hk hcu he ?_ <;> try simp -implicitDefEqProofs only [e0, e1, e2, ru, ruc, rud, ru5, Nat.reduceLT, Nat.reduceEqDiff, reduceIte, Nat.reduceAdd, Nat.reduceLeDiff, Int.reduceEq, Int.reduceLT, Int.reduceLE, Int.reduceNeg]) | (fail))); first | exact step_1 rfl | exact step_2 rfl (by assumption)) | (intro l' e0 e1; simp -implicitDefEqProofs only [e0, e1, ru, ruc, rud, ru5, Nat.reduceLT, Nat.reduceEqDiff, reduceIte, Nat.reduceAdd, Nat.reduceLeDiff, Int.reduceEq, Int.reduceLT, Int.reduceLE, Int.reduceNeg]; (try (first | (refine sane13 ?_ <;> try simp -implicitDefEqProofs only [e0, e1, ru, ruc, rud, ru5, Nat.reduceLT, Nat.reduceEqDiff, reduceIte, Nat.reduceAdd, Nat.reduceLeDiff, Int.reduceEq, Int.reduceLT, Int.reduceLE, Int.reduceNeg]) | (refine same18 (x := ⟨nn, 0, 0, [], [], []⟩) (y := ⟨nn, 0, 0, [], [], []⟩) (Nk.of (by simp)) (Nk.of (by simp)) (by simp) (by simp) (by simp) ?_ <;> try simp -implicitDefEqProofs only [e0, e1, ru, ruc, rud, ru5, Nat.reduceLT, Nat.reduceEqDiff, reduceIte, Nat.reduceAdd, Nat.reduceLeDiff, Int.reduceEq, Int.reduceLT, Int.reduceLE, Int.reduceNeg]) | (refine check19e hk hcu he ?_ <;> try simp -implicitDefEqProofs only [e0, e1, ru, ruc, rud, ru5, Nat.reduceLT, Nat.reduceEqDiff, reduceIte, Nat.reduceAdd, Nat.reduceLeDiff, Int.reduceEq, Int.reduceLT, Int.reduceLE, Int.reduceNeg]) | (refine check20e hk hcu he ?_ <;> try simp -implicitDefEqProofs only [e0, e1, ru, ruc, rud, ru5, Nat.reduceLT, Nat.reduceEqDiff, reduceIte, Nat.reduceAdd, Nat.reduceLeDiff, Int.reduceEq, Int.reduceLT, Int.reduceLE, Int.reduceNeg]) | (fail))); first | exact step_1 rfl | exact step_2 rfl (by assumption)) | (intro l' e0; simp -implicitDefEqProofs only [e0, ru, ruc, rud, ru5, Nat.reduceLT, Nat.reduceEqDiff, reduceIte, Nat.reduceAdd, Nat.reduceLeDiff, Int.reduceEq, Int.reduceLT, Int.reduceLE, Int.reduceNeg]; (try (first | (refine sane13 ?_ <;> try simp -implicitDefEqProofs only [e0, ru, ruc, rud, ru5, Nat.reduceLT, Nat.reduceEqDiff, reduceIte, Nat.reduceAdd, Nat.reduceLeDiff, Int.reduceEq, Int.reduceLT, Int.reduceLE, Int.reduceNeg]) | (refine same18 (x := ⟨nn, 0, 0, [], [], []⟩) (y := ⟨nn, 0, 0, [], [], []⟩) (Nk.of (by simp)) (Nk.of (by simp)) (by simp) (by simp) (by simp) ?_ <;> try simp -implicitDefEqProofs only [e0, ru, ruc, rud, ru5, Nat.reduceLT, Nat.reduceEqDiff, reduceIte, Nat.reduceAdd, Nat.reduceLeDiff, Int.reduceEq, Int.reduceLT, Int.reduceLE, Int.reduceNeg]) | (refine check19e hk hcu he ?_ <;> try simp -implicitDefEqProofs only [e0, ru, ruc, rud, ru5, Nat.reduceLT, Nat.reduceEqDiff, reduceIte, Nat.reduceAdd, Nat.reduceLeDiff, Int.reduceEq, Int.reduceLT, Int.reduceLE, Int.reduceNeg]) | (refine check20e hk hcu he ?_ <;> try simp -implicitDefEqProofs only [e0, ru, ruc, rud, ru5, Nat.reduceLT, Nat.reduceEqDiff, reduceIte, Nat.reduceAdd, Nat.reduceLeDiff, Int.reduceEq, Int.reduceLT, Int.reduceLE, Int.reduceNeg]) | (fail))); first | exact step_1 rfl | exact step_2 rfl (by assumption)) | (intro l' ; simp -implicitDefEqProofs only [ru, ruc, rud, ru5, Nat.reduceLT, Nat.reduceEqDiff, reduceIte, Nat.reduceAdd, Nat.reduceLeDiff, Int.reduceEq, Int.reduceLT, Int.reduceLE, Int.reduceNeg]; (try (first | (refine sane13 ?_ <;> try simp -implicitDefEqProofs only [ru, ruc, rud, ru5, Nat.reduceLT, Nat.reduceEqDiff, reduceIte, Nat.reduceAdd, Nat.reduceLeDiff, Int.reduceEq, Int.reduceLT, Int.reduceLE, Int.reduceNeg]) | (refine same18 (x := ⟨nn, 0, 0, [], [], []⟩) (y := ⟨nn, 0, 0, [], [], []⟩) (Nk.of (by simp)) (Nk.of (by simp)) (by simp) (by simp) (by simp) ?_ <;> try simp -implicitDefEqProofs only [ru, ruc, rud, ru5, Nat.reduceLT, Nat.reduceEqDiff, reduceIte, Nat.reduceAdd, Nat.reduceLeDiff, Int.reduceEq, Int.reduceLT, Int.reduceLE, Int.reduceNeg]) | (refine check19e hk hcu he ?_ <;> try simp -implicitDefEqProofs only [ru, ruc, rud, ru5, Nat.reduceLT, Nat.reduceEqDiff, reduceIte, Nat.reduceAdd, Nat.reduceLeDiff, Int.reduceEq, Int.reduceLT, Int.reduceLE, Int.reduceNeg]) | (refine check20e hk hcu he ?_ <;> try simp -implicitDefEqProofs only [ru, ruc, rud, ru5, Nat.reduceLT, Nat.reduceEqDiff, reduceIte, Nat.reduceAdd, Nat.reduceLeDiff, Int.reduceEq, Int.reduceLT, Int.reduceLE, Int.reduceNeg]) | (fail))); first | exact step_1 rfl | exact step_2 rfl (by assumption)))
        case hK =>
          simp -implicitDefEqProofs only [r3, ru, ruc, rud, ru5, Nat.reduceLT, Nat.reduceEqDiff, reduceIte, Nat.reduceAdd, Nat.reduceLeDiff, Int.reduceEq, Int.reduceLT, Int.reduceLE, Int.reduceNeg]
          exact hK
  · simp -implicitDefEqProofs only [r3, ru, ruc, rud, ru5, Nat.reduceLT, Nat.reduceEqDiff, reduceIte, Nat.reduceAdd, Nat.reduceLeDiff, Int.reduceEq, Int.reduceLT, Int.reduceLE, Int.reduceNeg]
    refine sane13 ?_
    simp -implicitDefEqProofs only [r3, ru, ruc, rud, ru5, Nat.reduceLT, Nat.reduceEqDiff, reduceIte, Nat.reduceAdd, Nat.reduceLeDiff, Int.reduceEq, Int.reduceLT, Int.reduceLE, Int.reduceNeg]
    exact hK
end
end Go.Ab
end
