/- One text out of several: see the remark at the head of each part. -/
import Derived.Test.YtpjcpmmcaccgiaaBs7
set_option linter.all false
section
set_option maxRecDepth 100000
namespace Go.Ab
def ann28 : Ann := { take := [71, 75, 84] }
def ann32 : Ann := { take := [34, 42] }
def ann68 : Ann := { take := [31] }
def ann29 : Ann := { heap := [4, 5] }
def pl28 : List (Nat × Plan) := [(14, .take 0 (.take 1 (.take 2 (.take 4 (.take 5 (.take 6 (.all [(3, .all [(7, .all [(8, .take 9 (.done))])]), (7, .all [(3, .all [(8, .take 9 (.done))])])])))))))]
def pl32 : List (Nat × Plan) := [(11, .take 0 (.take 2 (.take 6 (.all [(1, .take 3 (.take 4 (.all [(5, .all [(7, .take 8 (.done))]), (7, .all [(5, .take 8 (.done))])]))), (7, .all [(1, .take 3 (.take 4 (.all [(5, .take 8 (.done))])))])]))))]
end Go.Ab
end
section
set_option linter.unusedSimpArgs false
set_option linter.unusedVariables false
set_option maxRecDepth 100000
set_option maxHeartbeats 4000000
namespace Go.Ab

section
variable {C : CX} {h : List AObj} {K : AV → List AObj → Prop} {a b c d e n nodes now next : Int} {u v w : AV} {z z' z1 z2 z3 : Bool} {s s' s1 s2 s3 : Nat} {x : Net}

theorem bld35n {l1 l2 l3 : List (List AV)} {K : AV → Prop} : agK (abuild T 35 [(0, .agg [.int .i64 a, .int .i64 b, .int .i64 c, .sl z1 s1 l1 .no, .sl z2 s2 l2 .no, .sl z3 s3 l3 .no])]) K = K (.agg [.int .i64 a, .int .i64 b, .int .i64 c, .sl z1 s1 l1 .no, .sl z2 s2 l2 .no, .sl z3 s3 l3 .no, .int .i64 0, .int .i64 0, .int .i64 0, .int .i64 0, .int .i64 0, .str [], .sl true 0 [] .own, .int .i64 0]) := rfl
end
end Go.Ab
end
section
set_option maxRecDepth 100000
namespace Go.Ab
section
variable {C : CX} {d : AV} {l : List (Nat × AV)} {bx bx' : List (List AV)} {h h' : List AObj} {s : ASt} {K : Exit → ASt → Prop}
noncomputable def b6 : List It := [.o (some 4) (.box false (.t 0)) none, .o (some 8) (.tk (.const (.bool false))) none, .o (some 19) (.ldA 6 [.int .i64, .int .i64, .int .i64, .slice 33, .slice 100, .slice 86] (.t 4)) none, .o (some 20) (.call 12 [.t 19]) none, .o (some 21) (.not (.t 20)) none, .cond (.tmp 21) [.o (some 22) (.call 13 []) none, .o (some 8) (.tk (.tmp 22)) none, .ret] [], .o (some 24) (.ldA 6 [.int .i64, .int .i64, .int .i64, .slice 33, .slice 100, .slice 86] (.t 4)) none, .o (some 25) (.mv (.t 1)) none, .o (some 26) (.mv (.t 2)) none, .o (some 27) (.mv (.t 3)) none, .o (some 28) (.call 27 [.t 24, .t 25, .t 26, .t 27]) none, .o (some 23) (.mv (.t 28)) none, .o (some 29) (.ext (.t 23) 0) none, .o (some 30) (.ext (.t 23) 1) none, .o (some 9) (.alloc false [.int .i64 0, .int .i64 0, .int .i64 0, .sl true 0 [] .own, .sl true 0 [] .own, .sl true 0 [] .own]) none, .o none (.st 6 (.t 9) (.tmp 29)) none, .o (some 10) (.tk (.tmp 30)) none, .o (some 31) (.ldA 6 [.int .i64, .int .i64, .int .i64, .slice 33, .slice 100, .slice 86] (.t 4)) none, .o (some 32) (.mv (.t 1)) none, .o (some 33) (.mv (.t 2)) none, .o (some 34) (.mv (.t 3)) none, .o (some 35) (.call 28 [.t 31, .t 32, .t 33, .t 34]) none, .o (some 11) (.alloc false [.int .i64 0, .int .i64 0, .int .i64 0, .sl true 0 [] .own, .sl true 0 [] .own, .sl true 0 [] .own, .int .i64 0, .int .i64 0, .int .i64 0, .int .i64 0, .int .i64 0, .str [], .sl true 0 [] .own, .int .i64 0]) none, .o none (.st 14 (.t 11) (.tmp 35)) none, .o (some 37) (.ldA 6 [.int .i64, .int .i64, .int .i64, .slice 33, .slice 100, .slice 86] (.t 4)) none, .o (some 38) (.mv (.t 1)) none, .o (some 39) (.mv (.t 2)) none, .o (some 40) (.call 29 [.t 37, .t 38, .t 39]) none, .o (some 36) (.mv (.t 40)) none, .o (some 41) (.ext (.t 36) 0) none, .o (some 42) (.ext (.t 36) 1) none, .o (some 12) (.alloc false [.int .i64 0, .int .i64 0, .int .i64 0, .sl true 0 [] .own, .sl true 0 [] .own, .sl true 0 [] .own]) none, .o none (.st 6 (.t 12) (.tmp 41)) none, .o (some 13) (.tk (.tmp 42)) none, .o (some 43) (.ldA 6 [.int .i64, .int .i64, .int .i64, .slice 33, .slice 100, .slice 86] (.t 4)) none, .o (some 44) (.mv (.t 1)) none, .o (some 45) (.mv (.t 2)) none, .o (some 46) (.call 30 [.t 43, .t 44, .t 45]) none, .o (some 14) (.alloc false [.int .i64 0, .int .i64 0, .int .i64 0, .sl true 0 [] .own, .sl true 0 [] .own, .sl true 0 [] .own, .int .i64 0, .int .i64 0, .int .i64 0, .int .i64 0, .int .i64 0, .str [], .sl true 0 [] .own, .int .i64 0]) none, .o none (.st 14 (.t 14) (.tmp 46)) none, .o (some 48) (.ldA 6 [.int .i64, .int .i64, .int .i64, .slice 33, .slice 100, .slice 86] (.t 4)) none, .o (some 49) (.call 31 [.t 48]) none, .o (some 47) (.mv (.t 49)) none, .o (some 50) (.ext (.t 47) 0) none, .o (some 51) (.ext (.t 47) 1) none, .o (some 52) (.ext (.t 47) 2) none, .o (some 15) (.alloc false [.int .i64 0, .int .i64 0, .int .i64 0, .sl true 0 [] .own, .sl true 0 [] .own, .sl true 0 [] .own]) none, .o none (.st 6 (.t 15) (.tmp 50)) none, .o (some 16) (.tk (.tmp 51)) none, .o (some 17) (.tk (.tmp 52)) none, .o (some 53) (.ldA 6 [.int .i64, .int .i64, .int .i64, .slice 33, .slice 100, .slice 86] (.t 4)) none, .o (some 54) (.call 32 [.t 53]) none, .o (some 18) (.alloc false [.int .i64 0, .int .i64 0, .int .i64 0, .sl true 0 [] .own, .sl true 0 [] .own, .sl true 0 [] .own, .int .i64 0, .int .i64 0, .int .i64 0, .int .i64 0, .int .i64 0, .str [], .sl true 0 [] .own, .int .i64 0]) none, .o none (.st 14 (.t 18) (.tmp 54)) none, .o (some 55) (.call 13 []) none, .o (some 56) (.mv (.t 55)) none, .o (some 57) (.mv (.t 10)) (some (some 56, true)), .o (some 58) (.fa 13 (.t 11)) (some (some 56, true)), .o (some 59) (.ld1 (.int .i64) (.t 58)) (some (some 56, true)), .o (some 60) (.eq1 (.int .i64) false (.t 57) (.t 59)) (some (some 56, true)), .o (some 61) (.pick (.t 56) (.t 60) (.c (.bool false))) none, .o (some 62) (.mv (.t 61)) none, .o (some 63) (.ldA 6 [.int .i64, .int .i64, .int .i64, .slice 33, .slice 100, .slice 86] (.t 9)) (some (some 62, true)), .o (some 64) (.fa 0 (.t 11)) (some (some 62, true)), .o (some 65) (.ldA 6 [.int .i64, .int .i64, .int .i64, .slice 33, .slice 100, .slice 86] (.t 64)) (some (some 62, true)), .o (some 66) (.call 18 [.t 63, .t 65]) (some (some 62, true)), .o (some 67) (.pick (.t 62) (.t 66) (.c (.bool false))) none, .o (some 68) (.mv (.t 67)) none, .o (some 69) (.mv (.t 13)) (some (some 68, true)), .o (some 70) (.fa 13 (.t 14)) (some (some 68, true)), .o (some 71) (.ld1 (.int .i64) (.t 70)) (some (some 68, true)), .o (some 72) (.eq1 (.int .i64) false (.t 69) (.t 71)) (some (some 68, true)), .o (some 73) (.pick (.t 68) (.t 72) (.c (.bool false))) none, .o (some 74) (.mv (.t 73)) none, .o (some 75) (.ldA 6 [.int .i64, .int .i64, .int .i64, .slice 33, .slice 100, .slice 86] (.t 12)) (some (some 74, true)), .o (some 76) (.fa 0 (.t 14)) (some (some 74, true)), .o (some 77) (.ldA 6 [.int .i64, .int .i64, .int .i64, .slice 33, .slice 100, .slice 86] (.t 76)) (some (some 74, true)), .o (some 78) (.call 18 [.t 75, .t 77]) (some (some 74, true)), .o (some 79) (.pick (.t 74) (.t 78) (.c (.bool false))) none, .o (some 80) (.mv (.t 79)) none, .o (some 81) (.mv (.t 17)) (some (some 80, true)), .o (some 82) (.fa 13 (.t 18)) (some (some 80, true)), .o (some 83) (.ld1 (.int .i64) (.t 82)) (some (some 80, true)), .o (some 84) (.eq1 (.int .i64) false (.t 81) (.t 83)) (some (some 80, true)), .o (some 85) (.pick (.t 80) (.t 84) (.c (.bool false))) none, .o (some 86) (.mv (.t 85)) none, .o (some 87) (.ldA 6 [.int .i64, .int .i64, .int .i64, .slice 33, .slice 100, .slice 86] (.t 15)) (some (some 86, true)), .o (some 88) (.fa 0 (.t 18)) (some (some 86, true)), .o (some 89) (.ldA 6 [.int .i64, .int .i64, .int .i64, .slice 33, .slice 100, .slice 86] (.t 88)) (some (some 86, true)), .o (some 90) (.call 18 [.t 87, .t 89]) (some (some 86, true)), .o (some 91) (.pick (.t 86) (.t 90) (.c (.bool false))) none, .o (some 92) (.mv (.t 91)) none, .o (some 93) (.mv (.t 16)) (some (some 92, true)), .o (some 94) (.fa 12 (.t 18)) (some (some 92, true)), .o (some 95) (.ld1 (.slice 86) (.t 94)) (some (some 92, true)), .o (some 96) (.call 33 [.t 93, .t 95]) (some (some 92, true)), .o (some 97) (.pick (.t 92) (.t 96) (.c (.bool false))) none, .o (some 8) (.tk (.tmp 97)) none, .ret]
theorem c6 : compR T {} [] (bodyOf Go.Proofs.Try.f6) = b6 := by kernel_rfl
theorem n6 : Go.Proofs.Try.f6.ntmps = 98 := by kernel_rfl
theorem r6 : Go.Proofs.Try.f6.results.toList = [.tmp 8] := by kernel_rfl
theorem f6 : Pg.funcs[6]? = some Go.Proofs.Try.f6 := by kernel_rfl
theorem run6 {args : List AV} {K : AV → List AObj → Prop} (hv : Run C Pg T {} none b6 (S (.tup []) 98 (enumL 0 args) [] h) (bodyK T Go.Proofs.Try.f6 K)) (hown : args.all (fun a => !a.owns) = true := by first | rfl | simp [AV.owns]) (hl : args.length ≤ 98 := by exact Nat.le_of_ble_eq_true rfl) : ACall C Pg 6 args h K := ACall.of_runR T_ok {} [] (c := bodyOf Go.Proofs.Try.f6) f6 (by kernel_rfl) (by kernel_rfl) c6 n6 hown hl hv
noncomputable def b28q0 : List It := [.o (some 55) (.mv (.t 13)) none, .o (some 56) (.mv (.t 9)) none, .o (some 57) (.lens (.t 56)) none, .o (some 58) (.ar .lss (.t 55) (.t 57)) none, .cond (.tmp 58) [] [.exit 0], .block 1 [.rf (rg (bodyOf Go.Proofs.Try.f28) 0), .cond (.tmp 70) [.o (some 71) (.tk (.tmp 11)) none, .o (some 72) (.ldA 3 [.int .i64, .int .i64, .int .i64] (.t 10)) none, .o (some 73) (.bsl false 24 1 [(0, .t 72)]) none, .o (some 74) (.app false 24 24 (.tmp 71) (.tmp 73)) none, .o (some 11) (.tk (.tmp 74)) none, .o (some 12) (.tk (.const (.bool true))) none] [], .o (some 75) (.tk (.tmp 11)) none, .o (some 76) (.mv (.t 9)) none, .o (some 77) (.mv (.t 13)) none, .o (some 78) (.ixs 3 [.int .i64, .int .i64, .int .i64] (.t 76) (.t 77)) none, .o (some 79) (.ldA 3 [.int .i64, .int .i64, .int .i64] (.t 78)) none, .o (some 80) (.bsl false 24 1 [(0, .t 79)]) none, .o (some 81) (.app false 24 24 (.tmp 75) (.tmp 80)) none, .o (some 11) (.tk (.tmp 81)) none], .o (some 59) (.mv (.t 13)) none, .o (some 60) (.ar .add (.t 59) (.c (.int .i64 1))) none, .o (some 13) (.tk (.tmp 60)) none]
noncomputable def b28 : List It := [.o (some 4) (.box false (.t 0)) none, .o (some 8) (.alloc false [.int .i64 0, .int .i64 0, .int .i64 0, .sl true 0 [] .own, .sl true 0 [] .own, .sl true 0 [] .own, .int .i64 0, .int .i64 0, .int .i64 0, .int .i64 0, .int .i64 0, .str [], .sl true 0 [] .own, .int .i64 0]) none, .o (some 14) (.ldA 6 [.int .i64, .int .i64, .int .i64, .slice 33, .slice 100, .slice 86] (.t 4)) none, .o (some 15) (.call 48 [.t 14]) none, .o (some 16) (.not (.t 15)) none, .cond (.tmp 16) [.o (some 17) (.call 44 [.c (.int .i64 2)]) none, .o none (.st 14 (.t 8) (.tmp 17)) none, .ret] [], .o (some 18) (.ldA 6 [.int .i64, .int .i64, .int .i64, .slice 33, .slice 100, .slice 86] (.t 4)) none, .o (some 19) (.mv (.t 1)) none, .o (some 20) (.call 61 [.t 18, .t 19]) none, .o (some 21) (.not (.t 20)) none, .o (some 22) (.mv (.t 21)) none, .o (some 23) (.mv (.t 2)) (some (some 22, false)), .o (some 24) (.ar .lss (.t 23) (.c (.int .i64 0))) (some (some 22, false)), .o (some 25) (.pick (.t 22) (.c (.bool true)) (.t 24)) none, .o (some 26) (.mv (.t 25)) none, .o (some 27) (.mv (.t 2)) (some (some 26, false)), .o (some 28) (.ar .gtr (.t 27) (.c (.int .i64 2147483647))) (some (some 26, false)), .o (some 29) (.pick (.t 26) (.c (.bool true)) (.t 28)) none, .o (some 30) (.mv (.t 29)) none, .o (some 31) (.mv (.t 3)) (some (some 30, false)), .o (some 32) (.ar .lss (.t 31) (.c (.int .i64 1))) (some (some 30, false)), .o (some 33) (.pick (.t 30) (.c (.bool true)) (.t 32)) none, .o (some 34) (.mv (.t 33)) none, .o (some 35) (.mv (.t 3)) (some (some 34, false)), .o (some 36) (.ar .gtr (.t 35) (.c (.int .i64 1000))) (some (some 34, false)), .o (some 37) (.pick (.t 34) (.c (.bool true)) (.t 36)) none, .cond (.tmp 37) [.o (some 38) (.call 44 [.c (.int .i64 1)]) none, .o none (.st 14 (.t 8) (.tmp 38)) none, .ret] [], .o (some 39) (.fa 5 (.t 4)) none, .o (some 40) (.ld1 (.slice 86) (.t 39)) none, .o (some 41) (.mv (.t 1)) none, .o (some 42) (.mv (.t 2)) none, .o (some 43) (.call 68 [.t 40, .t 41, .t 42]) none, .o (some 9) (.tk (.tmp 43)) none, .o (some 44) (.mv (.t 9)) none, .o (some 45) (.lens (.t 44)) none, .o (some 46) (.eq1 (.int .i64) false (.t 45) (.c (.int .i64 64))) none, .cond (.tmp 46) [.o (some 47) (.call 44 [.c (.int .i64 7)]) none, .o none (.st 14 (.t 8) (.tmp 47)) none, .ret] [], .o (some 48) (.fa 1 (.t 4)) none, .o (some 49) (.ld1 (.int .i64) (.t 48)) none, .o (some 50) (.mv (.t 3)) none, .o (some 51) (.ar .add (.t 49) (.t 50)) none, .o (some 52) (.mv (.t 1)) none, .o (some 53) (.mv (.t 2)) none, .o (some 54) (.bld 86 [(0, .t 51), (1, .t 52), (2, .t 53)]) none, .o (some 10) (.alloc false [.int .i64 0, .int .i64 0, .int .i64 0]) none, .o none (.st 3 (.t 10) (.tmp 54)) none, .o (some 11) (.tk (.const (.slice none 0 0))) none, .o (some 12) (.tk (.const (.bool false))) none, .o (some 13) (.tk (.const (.int .i64 0))) none, .block 0 [.loop b28q0 (lp (bodyOf Go.Proofs.Try.f28) 0)], .o (some 82) (.mv (.t 12)) none, .o (some 83) (.not (.t 82)) none, .cond (.tmp 83) [.o (some 84) (.tk (.tmp 11)) none, .o (some 85) (.ldA 3 [.int .i64, .int .i64, .int .i64] (.t 10)) none, .o (some 86) (.bsl false 24 1 [(0, .t 85)]) none, .o (some 87) (.app false 24 24 (.tmp 84) (.tmp 86)) none, .o (some 11) (.tk (.tmp 87)) none] [], .o (some 88) (.mv (.t 11)) none, .o (some 89) (.fa 5 (.t 4)) none, .o none (.st 1 (.t 89) (.tmp 88)) none, .o (some 90) (.ldA 6 [.int .i64, .int .i64, .int .i64, .slice 33, .slice 100, .slice 86] (.t 4)) none, .o (some 91) (.bld 35 [(0, .t 90)]) none, .o none (.st 14 (.t 8) (.tmp 91)) none, .ret]
theorem c28q0 : compR T ann28 pl28 (lp (bodyOf Go.Proofs.Try.f28) 0) = b28q0 := by kernel_rfl
theorem lp28q0 {α : Type} (m : Nat) (ls : α → List (Nat × AV)) (bs : α → List (List AV)) (hs : α → List AObj) (φ : α → Prop) (μ : α → Nat) (g0 : α) (h0 : φ g0) (hkeys : ∀ g, (ls g).map (·.1) = (ls g0).map (·.1)) (e1 : allIn d l m (ls g0)) (e2 : bs g0 = bx.take m) (e3 : (bs g0).all (fun cs => AV.lb.lbs m cs) = true) (e4 : h = hs g0) (round : ∀ g, φ g → Run C Pg T ann28 none b28q0 (S .undef 92 (ls g) (bs g) (hs g)) (nextR d 92 m ls bs hs φ μ g K)) : AWp C Pg none (.loop (lp (bodyOf Go.Proofs.Try.f28) 0)) (S d 92 l bx h) K := AWp.loopQ T_ok ann28 pl28 c28q0 m ls bs hs φ μ g0 h0 hkeys e1 e2 e3 e4 round
theorem c28 : compR T ann28 pl28 (bodyOf Go.Proofs.Try.f28) = b28 := by kernel_rfl
theorem dc28q0 : detC T ann28 (rg (bodyOf Go.Proofs.Try.f28) 0) = some ([61, 62, 63, 64, 65, 66, 67, 68, 69, 70], [(.o (some 61) (.mv (.t 12)) none, []), (.o (some 62) (.not (.t 61)) none, [61]), (.o (some 63) (.mv (.t 62)) none, [62]), (.o (some 64) (.ldA 3 [.int .i64, .int .i64, .int .i64] (.t 10)) (some (some 63, true)), [63]), (.o (some 65) (.mv (.t 9)) (some (some 63, true)), [63]), (.o (some 66) (.mv (.t 13)) (some (some 63, true)), [63]), (.o (some 67) (.ixs 3 [.int .i64, .int .i64, .int .i64] (.t 65) (.t 66)) (some (some 63, true)), [65, 66, 63]), (.o (some 68) (.ldA 3 [.int .i64, .int .i64, .int .i64] (.t 67)) (some (some 63, true)), [67, 63]), (.o (some 69) (.call 69 [.t 64, .t 68]) (some (some 63, true)), [64, 68, 63, 63]), (.o (some 70) (.pick (.t 63) (.t 69) (.c (.bool false))) none, [63, 69])]) := by kernel_rfl
theorem rd28q0 {v61 v62 v63 v64 v65 v66 v67 v68 v69 v70 : AV} (s0 : ∀ l', lk d l' 12 = lk d l 12 → Run C Pg T ann28 none [.o (some 61) (.mv (.t 12)) none] (S d 92 l' bx h) (stepR d 92 bx h (some 61) l' v61)) (s1 : ∀ l', lk d l' 61 = v61 → Run C Pg T ann28 none [.o (some 62) (.not (.t 61)) none] (S d 92 l' bx h) (stepR d 92 bx h (some 62) l' v62)) (s2 : ∀ l', lk d l' 62 = v62 → Run C Pg T ann28 none [.o (some 63) (.mv (.t 62)) none] (S d 92 l' bx h) (stepR d 92 bx h (some 63) l' v63)) (s3 : ∀ l', lk d l' 10 = lk d l 10 → lk d l' 63 = v63 → Run C Pg T ann28 none [.o (some 64) (.ldA 3 [.int .i64, .int .i64, .int .i64] (.t 10)) (some (some 63, true))] (S d 92 l' bx h) (stepR d 92 bx h (some 64) l' v64)) (s4 : ∀ l', lk d l' 9 = lk d l 9 → lk d l' 63 = v63 → Run C Pg T ann28 none [.o (some 65) (.mv (.t 9)) (some (some 63, true))] (S d 92 l' bx h) (stepR d 92 bx h (some 65) l' v65)) (s5 : ∀ l', lk d l' 13 = lk d l 13 → lk d l' 63 = v63 → Run C Pg T ann28 none [.o (some 66) (.mv (.t 13)) (some (some 63, true))] (S d 92 l' bx h) (stepR d 92 bx h (some 66) l' v66)) (s6 : ∀ l', lk d l' 63 = v63 → lk d l' 65 = v65 → lk d l' 66 = v66 → Run C Pg T ann28 none [.o (some 67) (.ixs 3 [.int .i64, .int .i64, .int .i64] (.t 65) (.t 66)) (some (some 63, true))] (S d 92 l' bx h) (stepR d 92 bx h (some 67) l' v67)) (s7 : ∀ l', lk d l' 63 = v63 → lk d l' 67 = v67 → Run C Pg T ann28 none [.o (some 68) (.ldA 3 [.int .i64, .int .i64, .int .i64] (.t 67)) (some (some 63, true))] (S d 92 l' bx h) (stepR d 92 bx h (some 68) l' v68)) (s8 : ∀ l', lk d l' 63 = v63 → lk d l' 64 = v64 → lk d l' 68 = v68 → Run C Pg T ann28 none [.o (some 69) (.call 69 [.t 64, .t 68]) (some (some 63, true))] (S d 92 l' bx h) (stepR d 92 bx h (some 69) l' v69)) (s9 : ∀ l', lk d l' 63 = v63 → lk d l' 69 = v69 → Run C Pg T ann28 none [.o (some 70) (.pick (.t 63) (.t 69) (.c (.bool false))) none] (S d 92 l' bx h) (stepR d 92 bx h (some 70) l' v70)) (hK : K .normal (S d 92 ((70, v70) :: (69, v69) :: (68, v68) :: (67, v67) :: (66, v66) :: (65, v65) :: (64, v64) :: (63, v63) :: (62, v62) :: (61, v61) :: l) bx h)) : AWp C Pg none (rg (bodyOf Go.Proofs.Try.f28) 0) (S d 92 l bx h) K := AWp.regT T_ok mixed dc28q0 ((70, v70) :: (69, v69) :: (68, v68) :: (67, v67) :: (66, v66) :: (65, v65) :: (64, v64) :: (63, v63) :: (62, v62) :: (61, v61) :: l) (Sk.cons rfl (Sk.cons rfl (Sk.cons rfl (Sk.cons rfl (Sk.cons rfl (Sk.cons rfl (Sk.cons rfl (Sk.cons rfl (Sk.cons rfl (Sk.cons rfl (Sk.refl))))))))))) ⟨fun l' ag => s0 l' (ag 12 rfl), fun l' ag => s1 l' (ag 61 rfl), fun l' ag => s2 l' (ag 62 rfl), fun l' ag => s3 l' (ag 10 rfl) (ag 63 rfl), fun l' ag => s4 l' (ag 9 rfl) (ag 63 rfl), fun l' ag => s5 l' (ag 13 rfl) (ag 63 rfl), fun l' ag => s6 l' (ag 63 rfl) (ag 65 rfl) (ag 66 rfl), fun l' ag => s7 l' (ag 63 rfl) (ag 67 rfl), fun l' ag => s8 l' (ag 63 rfl) (ag 64 rfl) (ag 68 rfl), fun l' ag => s9 l' (ag 63 rfl) (ag 69 rfl), trivial⟩ hK
theorem n28 : Go.Proofs.Try.f28.ntmps = 92 := by kernel_rfl
theorem r28 : Go.Proofs.Try.f28.results.toList = [.cell 8 35] := by kernel_rfl
theorem f28 : Pg.funcs[28]? = some Go.Proofs.Try.f28 := by kernel_rfl
theorem run28 {args : List AV} {K : AV → List AObj → Prop} (hv : Run C Pg T ann28 none b28 (S (.tup []) 92 (enumL 0 args) [] h) (bodyK T Go.Proofs.Try.f28 K)) (hown : args.all (fun a => !a.owns) = true := by first | rfl | simp [AV.owns]) (hl : args.length ≤ 92 := by exact Nat.le_of_ble_eq_true rfl) : ACall C Pg 28 args h K := ACall.of_runR T_ok ann28 pl28 (c := bodyOf Go.Proofs.Try.f28) f28 (by kernel_rfl) (by kernel_rfl) c28 n28 hown hl hv
noncomputable def b29 : List It := [.o (some 3) (.box false (.t 0)) none, .o (some 4) (.box true (.t 1)) none, .o (some 5) (.box true (.t 2)) none, .o (some 6) (.alloc false [.int .i64 0, .int .i64 0, .int .i64 0, .sl true 0 [] .own, .sl true 0 [] .own, .sl true 0 [] .own]) none, .o (some 7) (.tk (.const (.int .i64 0))) none, .o (some 8) (.ldA 6 [.int .i64, .int .i64, .int .i64, .slice 33, .slice 100, .slice 86] (.t 3)) none, .o (some 9) (.mkf 70 [.t 4, .t 5]) none, .o (some 10) (.call 58 [.t 8, .t 9]) none, .o (some 11) (.ext (.t 10) 0) none, .o (some 12) (.ext (.t 10) 1) none, .o none (.st 6 (.t 6) (.tmp 11)) none, .o (some 7) (.tk (.tmp 12)) none, .ret]
theorem c29 : compR T ann29 [] (bodyOf Go.Proofs.Try.f29) = b29 := by kernel_rfl
theorem n29 : Go.Proofs.Try.f29.ntmps = 13 := by kernel_rfl
theorem r29 : Go.Proofs.Try.f29.results.toList = [.cell 6 26, .tmp 7] := by kernel_rfl
theorem f29 : Pg.funcs[29]? = some Go.Proofs.Try.f29 := by kernel_rfl
theorem run29 {args : List AV} {K : AV → List AObj → Prop} (hv : Run C Pg T ann29 none b29 (S (.tup []) 13 (enumL 0 args) [] h) (bodyK T Go.Proofs.Try.f29 K)) (hown : args.all (fun a => !a.owns) = true := by first | rfl | simp [AV.owns]) (hl : args.length ≤ 13 := by exact Nat.le_of_ble_eq_true rfl) : ACall C Pg 29 args h K := ACall.of_runR T_ok ann29 [] (c := bodyOf Go.Proofs.Try.f29) f29 (by kernel_rfl) (by kernel_rfl) c29 n29 hown hl hv
noncomputable def b30 : List It := [.o (some 3) (.box false (.t 0)) none, .o (some 6) (.alloc false [.int .i64 0, .int .i64 0, .int .i64 0, .sl true 0 [] .own, .sl true 0 [] .own, .sl true 0 [] .own, .int .i64 0, .int .i64 0, .int .i64 0, .int .i64 0, .int .i64 0, .str [], .sl true 0 [] .own, .int .i64 0]) none, .o (some 8) (.ldA 6 [.int .i64, .int .i64, .int .i64, .slice 33, .slice 100, .slice 86] (.t 3)) none, .o (some 9) (.call 48 [.t 8]) none, .o (some 10) (.not (.t 9)) none, .cond (.tmp 10) [.o (some 11) (.call 44 [.c (.int .i64 2)]) none, .o none (.st 14 (.t 6) (.tmp 11)) none, .ret] [], .o (some 12) (.ldA 6 [.int .i64, .int .i64, .int .i64, .slice 33, .slice 100, .slice 86] (.t 3)) none, .o (some 13) (.mv (.t 1)) none, .o (some 14) (.call 61 [.t 12, .t 13]) none, .o (some 15) (.not (.t 14)) none, .o (some 16) (.mv (.t 15)) none, .o (some 17) (.mv (.t 2)) (some (some 16, false)), .o (some 18) (.ar .lss (.t 17) (.c (.int .i64 0))) (some (some 16, false)), .o (some 19) (.pick (.t 16) (.c (.bool true)) (.t 18)) none, .o (some 20) (.mv (.t 19)) none, .o (some 21) (.mv (.t 2)) (some (some 20, false)), .o (some 22) (.ar .gtr (.t 21) (.c (.int .i64 2147483647))) (some (some 20, false)), .o (some 23) (.pick (.t 20) (.c (.bool true)) (.t 22)) none, .cond (.tmp 23) [.o (some 24) (.call 44 [.c (.int .i64 1)]) none, .o none (.st 14 (.t 6) (.tmp 24)) none, .ret] [], .o (some 25) (.fa 5 (.t 3)) none, .o (some 26) (.ld1 (.slice 86) (.t 25)) none, .o (some 27) (.mv (.t 1)) none, .o (some 28) (.mv (.t 2)) none, .o (some 29) (.call 68 [.t 26, .t 27, .t 28]) none, .o (some 7) (.tk (.tmp 29)) none, .o (some 30) (.mv (.t 7)) none, .o (some 31) (.lens (.t 30)) none, .o (some 32) (.fa 5 (.t 3)) none, .o (some 33) (.ld1 (.slice 86) (.t 32)) none, .o (some 34) (.lens (.t 33)) none, .o (some 35) (.eq1 (.int .i64) false (.t 31) (.t 34)) none, .cond (.tmp 35) [.o (some 36) (.call 44 [.c (.int .i64 4)]) none, .o none (.st 14 (.t 6) (.tmp 36)) none, .ret] [], .o (some 37) (.mv (.t 7)) none, .o (some 38) (.fa 5 (.t 3)) none, .o none (.st 1 (.t 38) (.tmp 37)) none, .o (some 39) (.ldA 6 [.int .i64, .int .i64, .int .i64, .slice 33, .slice 100, .slice 86] (.t 3)) none, .o (some 40) (.bld 35 [(0, .t 39)]) none, .o none (.st 14 (.t 6) (.tmp 40)) none, .ret]
theorem c30 : compR T {} [] (bodyOf Go.Proofs.Try.f30) = b30 := by kernel_rfl
theorem n30 : Go.Proofs.Try.f30.ntmps = 41 := by kernel_rfl
theorem r30 : Go.Proofs.Try.f30.results.toList = [.cell 6 35] := by kernel_rfl
theorem f30 : Pg.funcs[30]? = some Go.Proofs.Try.f30 := by kernel_rfl
theorem run30 {args : List AV} {K : AV → List AObj → Prop} (hv : Run C Pg T {} none b30 (S (.tup []) 41 (enumL 0 args) [] h) (bodyK T Go.Proofs.Try.f30 K)) (hown : args.all (fun a => !a.owns) = true := by first | rfl | simp [AV.owns]) (hl : args.length ≤ 41 := by exact Nat.le_of_ble_eq_true rfl) : ACall C Pg 30 args h K := ACall.of_runR T_ok {} [] (c := bodyOf Go.Proofs.Try.f30) f30 (by kernel_rfl) (by kernel_rfl) c30 n30 hown hl hv
noncomputable def b32q0 : List It := [.o (some 18) (.mv (.t 5)) none, .o (some 19) (.fa 5 (.t 1)) none, .o (some 20) (.ld1 (.slice 86) (.t 19)) none, .o (some 21) (.lens (.t 20)) none, .o (some 22) (.ar .lss (.t 18) (.t 21)) none, .cond (.tmp 22) [] [.exit 0], .block 1 [.rf (rg (bodyOf Go.Proofs.Try.f32) 0), .cond (.tmp 33) [.o (some 34) (.tk (.tmp 3)) none, .o (some 35) (.fa 5 (.t 1)) none, .o (some 36) (.ld1 (.slice 86) (.t 35)) none, .o (some 37) (.mv (.t 5)) none, .o (some 38) (.ixs 3 [.int .i64, .int .i64, .int .i64] (.t 36) (.t 37)) none, .o (some 39) (.ldA 3 [.int .i64, .int .i64, .int .i64] (.t 38)) none, .o (some 40) (.bsl false 24 1 [(0, .t 39)]) none, .o (some 41) (.app false 24 24 (.tmp 34) (.tmp 40)) none, .o (some 3) (.tk (.tmp 41)) none] [.o (some 42) (.tk (.tmp 4)) none, .o (some 43) (.fa 5 (.t 1)) none, .o (some 44) (.ld1 (.slice 86) (.t 43)) none, .o (some 45) (.mv (.t 5)) none, .o (some 46) (.ixs 3 [.int .i64, .int .i64, .int .i64] (.t 44) (.t 45)) none, .o (some 47) (.ldA 3 [.int .i64, .int .i64, .int .i64] (.t 46)) none, .o (some 48) (.bsl false 24 1 [(0, .t 47)]) none, .o (some 49) (.app false 24 24 (.tmp 42) (.tmp 48)) none, .o (some 4) (.tk (.tmp 49)) none]], .o (some 23) (.mv (.t 5)) none, .o (some 24) (.ar .add (.t 23) (.c (.int .i64 1))) none, .o (some 5) (.tk (.tmp 24)) none]
noncomputable def b32 : List It := [.o (some 1) (.box false (.t 0)) none, .o (some 2) (.alloc false [.int .i64 0, .int .i64 0, .int .i64 0, .sl true 0 [] .own, .sl true 0 [] .own, .sl true 0 [] .own, .int .i64 0, .int .i64 0, .int .i64 0, .int .i64 0, .int .i64 0, .str [], .sl true 0 [] .own, .int .i64 0]) none, .o (some 6) (.ldA 6 [.int .i64, .int .i64, .int .i64, .slice 33, .slice 100, .slice 86] (.t 1)) none, .o (some 7) (.call 48 [.t 6]) none, .o (some 8) (.not (.t 7)) none, .cond (.tmp 8) [.o (some 9) (.call 44 [.c (.int .i64 2)]) none, .o none (.st 14 (.t 2) (.tmp 9)) none, .ret] [], .o (some 10) (.fa 1 (.t 1)) none, .o (some 11) (.ld1 (.int .i64) (.t 10)) none, .o (some 12) (.eq1 (.int .i64) false (.t 11) (.c (.int .i64 1099511627776))) none, .cond (.tmp 12) [.o (some 13) (.call 44 [.c (.int .i64 3)]) none, .o none (.st 14 (.t 2) (.tmp 13)) none, .ret] [], .o (some 14) (.fa 1 (.t 1)) none, .o (some 15) (.ld1 (.int .i64) (.t 14)) none, .o (some 16) (.ar .add (.t 15) (.c (.int .i64 1))) none, .o (some 17) (.fa 1 (.t 1)) none, .o none (.st 1 (.t 17) (.tmp 16)) none, .o (some 3) (.tk (.const (.slice none 0 0))) none, .o (some 4) (.tk (.const (.slice none 0 0))) none, .o (some 5) (.tk (.const (.int .i64 0))) none, .block 0 [.loop b32q0 (lp (bodyOf Go.Proofs.Try.f32) 0)], .o (some 50) (.mv (.t 4)) none, .o (some 51) (.fa 5 (.t 1)) none, .o none (.st 1 (.t 51) (.tmp 50)) none, .o (some 52) (.ldA 6 [.int .i64, .int .i64, .int .i64, .slice 33, .slice 100, .slice 86] (.t 1)) none, .o (some 53) (.mv (.t 3)) none, .o (some 54) (.bld 35 [(0, .t 52), (3, .t 53)]) none, .o none (.st 14 (.t 2) (.tmp 54)) none, .ret]
theorem c32q0 : compR T ann32 pl32 (lp (bodyOf Go.Proofs.Try.f32) 0) = b32q0 := by kernel_rfl
theorem lp32q0 {α : Type} (m : Nat) (ls : α → List (Nat × AV)) (bs : α → List (List AV)) (hs : α → List AObj) (φ : α → Prop) (μ : α → Nat) (g0 : α) (h0 : φ g0) (hkeys : ∀ g, (ls g).map (·.1) = (ls g0).map (·.1)) (e1 : allIn d l m (ls g0)) (e2 : bs g0 = bx.take m) (e3 : (bs g0).all (fun cs => AV.lb.lbs m cs) = true) (e4 : h = hs g0) (round : ∀ g, φ g → Run C Pg T ann32 none b32q0 (S .undef 55 (ls g) (bs g) (hs g)) (nextR d 55 m ls bs hs φ μ g K)) : AWp C Pg none (.loop (lp (bodyOf Go.Proofs.Try.f32) 0)) (S d 55 l bx h) K := AWp.loopQ T_ok ann32 pl32 c32q0 m ls bs hs φ μ g0 h0 hkeys e1 e2 e3 e4 round
theorem c32 : compR T ann32 pl32 (bodyOf Go.Proofs.Try.f32) = b32 := by kernel_rfl
theorem dc32q0 : detC T ann32 (rg (bodyOf Go.Proofs.Try.f32) 0) = some ([25, 26, 27, 28, 29, 30, 31, 32, 33], [(.o (some 25) (.fa 5 (.t 1)) none, []), (.o (some 26) (.ld1 (.slice 86) (.t 25)) none, [25]), (.o (some 27) (.mv (.t 5)) none, []), (.o (some 28) (.ixs 3 [.int .i64, .int .i64, .int .i64] (.t 26) (.t 27)) none, [26, 27]), (.o (some 29) (.fa 0 (.t 28)) none, [28]), (.o (some 30) (.ld1 (.int .i64) (.t 29)) none, [29]), (.o (some 31) (.fa 1 (.t 1)) none, []), (.o (some 32) (.ld1 (.int .i64) (.t 31)) none, [31]), (.o (some 33) (.eq1 (.int .i64) false (.t 30) (.t 32)) none, [30, 32])]) := by kernel_rfl
theorem rd32q0 {v25 v26 v27 v28 v29 v30 v31 v32 v33 : AV} (s0 : ∀ l', lk d l' 1 = lk d l 1 → Run C Pg T ann32 none [.o (some 25) (.fa 5 (.t 1)) none] (S d 55 l' bx h) (stepR d 55 bx h (some 25) l' v25)) (s1 : ∀ l', lk d l' 25 = v25 → Run C Pg T ann32 none [.o (some 26) (.ld1 (.slice 86) (.t 25)) none] (S d 55 l' bx h) (stepR d 55 bx h (some 26) l' v26)) (s2 : ∀ l', lk d l' 5 = lk d l 5 → Run C Pg T ann32 none [.o (some 27) (.mv (.t 5)) none] (S d 55 l' bx h) (stepR d 55 bx h (some 27) l' v27)) (s3 : ∀ l', lk d l' 26 = v26 → lk d l' 27 = v27 → Run C Pg T ann32 none [.o (some 28) (.ixs 3 [.int .i64, .int .i64, .int .i64] (.t 26) (.t 27)) none] (S d 55 l' bx h) (stepR d 55 bx h (some 28) l' v28)) (s4 : ∀ l', lk d l' 28 = v28 → Run C Pg T ann32 none [.o (some 29) (.fa 0 (.t 28)) none] (S d 55 l' bx h) (stepR d 55 bx h (some 29) l' v29)) (s5 : ∀ l', lk d l' 29 = v29 → Run C Pg T ann32 none [.o (some 30) (.ld1 (.int .i64) (.t 29)) none] (S d 55 l' bx h) (stepR d 55 bx h (some 30) l' v30)) (s6 : ∀ l', lk d l' 1 = lk d l 1 → Run C Pg T ann32 none [.o (some 31) (.fa 1 (.t 1)) none] (S d 55 l' bx h) (stepR d 55 bx h (some 31) l' v31)) (s7 : ∀ l', lk d l' 31 = v31 → Run C Pg T ann32 none [.o (some 32) (.ld1 (.int .i64) (.t 31)) none] (S d 55 l' bx h) (stepR d 55 bx h (some 32) l' v32)) (s8 : ∀ l', lk d l' 30 = v30 → lk d l' 32 = v32 → Run C Pg T ann32 none [.o (some 33) (.eq1 (.int .i64) false (.t 30) (.t 32)) none] (S d 55 l' bx h) (stepR d 55 bx h (some 33) l' v33)) (hK : K .normal (S d 55 ((33, v33) :: (32, v32) :: (31, v31) :: (30, v30) :: (29, v29) :: (28, v28) :: (27, v27) :: (26, v26) :: (25, v25) :: l) bx h)) : AWp C Pg none (rg (bodyOf Go.Proofs.Try.f32) 0) (S d 55 l bx h) K := AWp.regT T_ok mixed dc32q0 ((33, v33) :: (32, v32) :: (31, v31) :: (30, v30) :: (29, v29) :: (28, v28) :: (27, v27) :: (26, v26) :: (25, v25) :: l) (Sk.cons rfl (Sk.cons rfl (Sk.cons rfl (Sk.cons rfl (Sk.cons rfl (Sk.cons rfl (Sk.cons rfl (Sk.cons rfl (Sk.cons rfl (Sk.refl)))))))))) ⟨fun l' ag => s0 l' (ag 1 rfl), fun l' ag => s1 l' (ag 25 rfl), fun l' ag => s2 l' (ag 5 rfl), fun l' ag => s3 l' (ag 26 rfl) (ag 27 rfl), fun l' ag => s4 l' (ag 28 rfl), fun l' ag => s5 l' (ag 29 rfl), fun l' ag => s6 l' (ag 1 rfl), fun l' ag => s7 l' (ag 31 rfl), fun l' ag => s8 l' (ag 30 rfl) (ag 32 rfl), trivial⟩ hK
theorem n32 : Go.Proofs.Try.f32.ntmps = 55 := by kernel_rfl
theorem r32 : Go.Proofs.Try.f32.results.toList = [.cell 2 35] := by kernel_rfl
theorem f32 : Pg.funcs[32]? = some Go.Proofs.Try.f32 := by kernel_rfl
theorem run32 {args : List AV} {K : AV → List AObj → Prop} (hv : Run C Pg T ann32 none b32 (S (.tup []) 55 (enumL 0 args) [] h) (bodyK T Go.Proofs.Try.f32 K)) (hown : args.all (fun a => !a.owns) = true := by first | rfl | simp [AV.owns]) (hl : args.length ≤ 55 := by exact Nat.le_of_ble_eq_true rfl) : ACall C Pg 32 args h K := ACall.of_runR T_ok ann32 pl32 (c := bodyOf Go.Proofs.Try.f32) f32 (by kernel_rfl) (by kernel_rfl) c32 n32 hown hl hv
noncomputable def b68q0 : List It := [.o (some 9) (.mv (.t 8)) none, .o (some 10) (.mv (.t 0)) none, .o (some 11) (.lens (.t 10)) none, .o (some 12) (.ar .lss (.t 9) (.t 11)) none, .cond (.tmp 12) [] [.exit 0], .block 1 [.o (some 15) (.mv (.t 0)) none, .o (some 16) (.mv (.t 8)) none, .o (some 17) (.ixs 3 [.int .i64, .int .i64, .int .i64] (.t 15) (.t 16)) none, .o (some 18) (.fa 1 (.t 17)) none, .o (some 19) (.ld1 (.int .i64) (.t 18)) none, .o (some 20) (.mv (.t 1)) none, .o (some 21) (.eq1 (.int .i64) true (.t 19) (.t 20)) none, .o (some 22) (.mv (.t 21)) none, .o (some 23) (.mv (.t 0)) (some (some 22, false)), .o (some 24) (.mv (.t 8)) (some (some 22, false)), .o (some 25) (.ixs 3 [.int .i64, .int .i64, .int .i64] (.t 23) (.t 24)) (some (some 22, false)), .o (some 26) (.fa 2 (.t 25)) (some (some 22, false)), .o (some 27) (.ld1 (.int .i64) (.t 26)) (some (some 22, false)), .o (some 28) (.mv (.t 2)) (some (some 22, false)), .o (some 29) (.eq1 (.int .i64) true (.t 27) (.t 28)) (some (some 22, false)), .o (some 30) (.pick (.t 22) (.c (.bool true)) (.t 29)) none, .cond (.tmp 30) [.o (some 31) (.tk (.tmp 7)) none, .o (some 32) (.mv (.t 0)) none, .o (some 33) (.mv (.t 8)) none, .o (some 34) (.ixs 3 [.int .i64, .int .i64, .int .i64] (.t 32) (.t 33)) none, .o (some 35) (.ldA 3 [.int .i64, .int .i64, .int .i64] (.t 34)) none, .o (some 36) (.bsl false 24 1 [(0, .t 35)]) none, .o (some 37) (.app false 24 24 (.tmp 31) (.tmp 36)) none, .o (some 7) (.tk (.tmp 37)) none] []], .o (some 13) (.mv (.t 8)) none, .o (some 14) (.ar .add (.t 13) (.c (.int .i64 1))) none, .o (some 8) (.tk (.tmp 14)) none]
noncomputable def b68 : List It := [.o (some 6) (.tk (.const (.slice none 0 0))) none, .o (some 7) (.tk (.const (.slice none 0 0))) none, .o (some 8) (.tk (.const (.int .i64 0))) none, .block 0 [.loop b68q0 (lp (bodyOf Go.Proofs.Try.f68) 0)], .o (some 38) (.mv (.t 7)) none, .o (some 6) (.tk (.tmp 38)) none, .ret]
theorem c68q0 : compR T ann68 [] (lp (bodyOf Go.Proofs.Try.f68) 0) = b68q0 := by kernel_rfl
theorem lp68q0 {α : Type} (m : Nat) (ls : α → List (Nat × AV)) (bs : α → List (List AV)) (hs : α → List AObj) (φ : α → Prop) (μ : α → Nat) (g0 : α) (h0 : φ g0) (hkeys : ∀ g, (ls g).map (·.1) = (ls g0).map (·.1)) (e1 : allIn d l m (ls g0)) (e2 : bs g0 = bx.take m) (e3 : (bs g0).all (fun cs => AV.lb.lbs m cs) = true) (e4 : h = hs g0) (round : ∀ g, φ g → Run C Pg T ann68 none b68q0 (S .undef 39 (ls g) (bs g) (hs g)) (nextR d 39 m ls bs hs φ μ g K)) : AWp C Pg none (.loop (lp (bodyOf Go.Proofs.Try.f68) 0)) (S d 39 l bx h) K := AWp.loopQ T_ok ann68 [] c68q0 m ls bs hs φ μ g0 h0 hkeys e1 e2 e3 e4 round
theorem c68 : compR T ann68 [] (bodyOf Go.Proofs.Try.f68) = b68 := by kernel_rfl
theorem n68 : Go.Proofs.Try.f68.ntmps = 39 := by kernel_rfl
theorem r68 : Go.Proofs.Try.f68.results.toList = [.tmp 6] := by kernel_rfl
theorem f68 : Pg.funcs[68]? = some Go.Proofs.Try.f68 := by kernel_rfl
theorem run68 {args : List AV} {K : AV → List AObj → Prop} (hv : Run C Pg T ann68 none b68 (S (.tup []) 39 (enumL 0 args) [] h) (bodyK T Go.Proofs.Try.f68 K)) (hown : args.all (fun a => !a.owns) = true := by first | rfl | simp [AV.owns]) (hl : args.length ≤ 39 := by exact Nat.le_of_ble_eq_true rfl) : ACall C Pg 68 args h K := ACall.of_runR T_ok ann68 [] (c := bodyOf Go.Proofs.Try.f68) f68 (by kernel_rfl) (by kernel_rfl) c68 n68 hown hl hv
noncomputable def b70 : List It := [.o (some 4) (.tk (.const (.int .i64 0))) none, .o (some 5) (.mv (.t 0)) none, .o (some 6) (.ld1 (.int .i64) (.t 1)) none, .o (some 7) (.ld1 (.int .i64) (.t 2)) none, .o (some 8) (.call 71 [.t 5, .t 6, .t 7]) none, .o (some 4) (.tk (.tmp 8)) none, .ret]
theorem c70 : compR T {} [] (bodyOf Go.Proofs.Try.f70) = b70 := by kernel_rfl
theorem n70 : Go.Proofs.Try.f70.ntmps = 9 := by kernel_rfl
theorem r70 : Go.Proofs.Try.f70.results.toList = [.tmp 4] := by kernel_rfl
theorem f70 : Pg.funcs[70]? = some Go.Proofs.Try.f70 := by kernel_rfl
theorem run70 {args : List AV} {K : AV → List AObj → Prop} (hv : Run C Pg T {} none b70 (S (.tup []) 9 (enumL 0 args) [] h) (bodyK T Go.Proofs.Try.f70 K)) (hown : args.all (fun a => !a.owns) = true := by first | rfl | simp [AV.owns]) (hl : args.length ≤ 9 := by exact Nat.le_of_ble_eq_true rfl) : ACall C Pg 70 args h K := ACall.of_runR T_ok {} [] (c := bodyOf Go.Proofs.Try.f70) f70 (by kernel_rfl) (by kernel_rfl) c70 n70 hown hl hv
end
end Go.Ab
end
section
set_option linter.unusedSimpArgs false
set_option linter.unusedVariables false
set_option maxRecDepth 100000
set_option maxHeartbeats 4000000
namespace Go.Ab

section
variable {C : CX} {h : List AObj} {K : AV → List AObj → Prop} {a b nd tg n : Int} {x : Net} {A B D : AV} {cid : Nat} {z1 z2 z3 : Bool} {s1 s2 s3 : Nat}
theorem stop29g (hk : Nk z1 s1 z2 s2 z3 s3 x) (hc : x.cuts.length < 1000000)
    (h1 : ¬ WF x → K (.tup [zeroN, .int .i64 2]) h)
    (h2 : WF x → stopE x nd tg ≠ 0 → K (.tup [zeroN, .int .i64 (stopE x nd tg)]) h)
    (h3 : WF x → stopE x nd tg = 0 → ∀ z1 s1 z2 s2 z3 s3, Nk z1 s1 z2 s2 z3 s3 (stopG x nd tg) → K (.tup [.agg [.int .i64 (stopG x nd tg).nodes, .int .i64 (stopG x nd tg).now, .int .i64 (stopG x nd tg).next, .sl z1 s1 ((stopG x nd tg).way.map Letter.c) .no, .sl z2 s2 ((stopG x nd tg).cuts.map Link.c) .no, .sl z3 s3 ((stopG x nd tg).timers.map Timer.c) .no], .int .i64 0]) h) :
    ACall C Pg 29 [.agg [.int .i64 x.nodes, .int .i64 x.now, .int .i64 x.next, .sl z1 s1 (x.way.map Letter.c) .no, .sl z2 s2 (x.cuts.map Link.c) .no, .sl z3 s3 (x.timers.map Timer.c) .no], .int .i64 nd, .int .i64 tg] h K := by
  refine ACall.closed (by simp [AV.deep.deeps, AV.deep, deep_L, deep_C, deep_T]) (ACall.weaken (ACall.freeze (ACall.freeze (ACall.freeze ?_))))
  refine run29 ?_
  simp -implicitDefEqProofs [b29, r29, rue, wrC, readC, -List.getD_eq_getElem?_getD, ru, ruc, rud, laid]
  refine changed58 hk hc rfl (fun hw => ?_) (fun hw cid A B D g hcid hge hch => ?_)
  · simp -implicitDefEqProofs [r29, zeroN, rue, wrC, readC, -List.getD_eq_getElem?_getD, ru, ruc, rud, laid]
    exact frz3 ⟨rfl, rfl, h1 hw⟩
  · have ha := hch.all
    refine run70 ?_
    simp -implicitDefEqProofs [b70, r70, ha, rue, wrC, readC, -List.getD_eq_getElem?_getD, ru, ruc, rud, laid]
    refine (stop71 hw hch fun h' y A' B' D' hc2 hy => ?_)
    simp -implicitDefEqProofs [r70, Letter.c, rue, wrC, readC, -List.getD_eq_getElem?_getD, ru, ruc, rud, laid]
    refine ⟨stopE x nd tg, y, A', B', D', rfl, hc2, fun h0 => ?_, fun h0 => ?_⟩
    · simp -implicitDefEqProofs [r29, zeroN, rue, wrC, readC, -List.getD_eq_getElem?_getD, ru, ruc, rud, laid]
      exact frz3 ⟨rfl, rfl, h2 hw h0⟩
    · have e := hy h0
      subst e
      have ha2 := hc2.all
      simp -implicitDefEqProofs [r29, ha2, rue, wrC, readC, -List.getD_eq_getElem?_getD, ru, ruc, rud, laid]
      exact fin (K := fun r => K r h) hc2 (rest := [_]) rfl (fun _ _ => rfl) rfl fun z1 s1 z2 s2 z3 s3 hk2 => h3 hw h0 z1 s1 z2 s2 z3 s3 hk2
theorem tick31g (hk : Nk z1 s1 z2 s2 z3 s3 x) (hc : x.cuts.length < 1000000)
    (h1 : ¬ WF x → K (.tup [zeroN, .sl true 0 [] .no, .int .i64 2]) h)
    (h2 : WF x → tickE x ≠ 0 → K (.tup [zeroN, .sl true 0 [] .no, .int .i64 (tickE x)]) h)
    (h3 : WF x → tickE x = 0 → ∀ z1 s1 z2 s2 z3 s3, Nk z1 s1 z2 s2 z3 s3 (tickG x) → K (.tup [.agg [.int .i64 (tickG x).nodes, .int .i64 (tickG x).now, .int .i64 (tickG x).next, .sl z1 s1 ((tickG x).way.map Letter.c) .no, .sl z2 s2 ((tickG x).cuts.map Link.c) .no, .sl z3 s3 ((tickG x).timers.map Timer.c) .no], accU 3 Timer.c (tickF x), .int .i64 0]) h) :
    ACall C Pg 31 [.agg [.int .i64 x.nodes, .int .i64 x.now, .int .i64 x.next, .sl z1 s1 (x.way.map Letter.c) .no, .sl z2 s2 (x.cuts.map Link.c) .no, .sl z3 s3 (x.timers.map Timer.c) .no]] h K := by
  refine tick31 hk hc h1 (fun w h0 => ?_) (fun w h0 k hk1 g1 g2 => ?_)
  · have he : tickE x = 3 := if_pos h0
    have := h2 w (by rw [he]; decide)
    rwa [he] at this
  · obtain ⟨f1, f2⟩ := fired_take w hk1 g1 g2
    rw [f1, f2]
    exact h3 w (if_neg h0)

end
end Go.Ab
end
section
/- The specification's Cut and Heal. -/
set_option linter.unusedSimpArgs false
set_option linter.unusedVariables false
set_option maxRecDepth 100000
set_option maxHeartbeats 4000000
namespace Go.Ab

theorem tw_at {α : Type} {p : α → Bool} : ∀ {l : List α} (hm : (l.takeWhile p).length < l.length), p l[(l.takeWhile p).length] = false
  | [], h => by simp at h
  | a :: l, h => by
    by_cases h1 : p a = true
    · have e : ((a :: l).takeWhile p) = a :: l.takeWhile p := by rw [List.takeWhile_cons, if_pos h1]
      have h2 : (l.takeWhile p).length < l.length := by rw [e] at h; simpa using h
      have := tw_at h2
      simp only [e, List.length_cons, List.getElem_cons_succ]
      exact this
    · have e : ((a :: l).takeWhile p) = [] := by rw [List.takeWhile_cons, if_neg h1]
      simp only [e, List.length_nil, List.getElem_cons_zero]
      simpa using h1
theorem tw_lt {α : Type} {p : α → Bool} {l : List α} {j : Nat} (hj : j < (l.takeWhile p).length) (hl : j < l.length) : p l[j] = true := by
  have h1 : (l.takeWhile p)[j] = l[j] := by
    have h2 : l = l.takeWhile p ++ l.dropWhile p := List.takeWhile_append_dropWhile.symm
    have h3 : l[j]? = (l.takeWhile p)[j]? := by
      conv => lhs; rw [h2]
      exact List.getElem?_append_left hj
    rw [List.getElem?_eq_getElem hl, List.getElem?_eq_getElem hj] at h3
    exact (Option.some.inj h3).symm
  rw [← h1]
  exact tw_mem (List.getElem_mem hj)
theorem tw_len {α : Type} {p : α → Bool} {l : List α} : (l.takeWhile p).length ≤ l.length := (List.takeWhile_sublist p).length_le
/-- A list into which an element is put on the way. -/
def insTo {α : Type} (l : List α) (m i : Nat) (y : α) : List α := if i ≤ m then l.take i else insAt (l.take i) m y
theorem insTo_zero {α : Type} {l : List α} {m : Nat} {y : α} : insTo l m 0 y = [] := by simp [insTo]
theorem insTo_lt {α : Type} {l : List α} {m i : Nat} {y : α} (h : i ≠ m) (hi : i < l.length) : insTo l m (i + 1) y = insTo l m i y ++ [l[i]] := by
  unfold insTo
  by_cases h1 : i + 1 ≤ m
  · rw [if_pos h1, if_pos (by omega), List.take_add_one, List.getElem?_eq_getElem hi]
    rfl
  · rw [if_neg h1, if_neg (by omega), List.take_add_one, List.getElem?_eq_getElem hi]
    simp only [insAt, Option.toList_some]
    rw [List.take_append_of_le_length (by simp; omega), List.drop_append_of_le_length (by simp; omega)]
    simp
theorem insTo_eq {α : Type} {l : List α} {m : Nat} {y : α} (hi : m < l.length) : insTo l m (m + 1) y = insTo l m m y ++ [y] ++ [l[m]] := by
  unfold insTo
  rw [if_neg (by omega), if_pos (Nat.le_refl _), List.take_add_one, List.getElem?_eq_getElem hi]
  simp only [insAt, Option.toList_some]
  rw [List.take_append_of_le_length (by simp; omega), List.drop_append_of_le_length (by simp; omega), List.take_take, Nat.min_self, List.drop_eq_nil_of_le (by rw [List.length_take]; omega)]
  simp
theorem insTo_end {α : Type} {l : List α} {m : Nat} {y : α} (hm : m < l.length) : insTo l m l.length y = insAt l m y := by
  unfold insTo
  rw [if_neg (by omega), List.take_length]
theorem insTo_all {α : Type} {l : List α} {y : α} : insTo l l.length l.length y ++ [y] = insAt l l.length y := by
  unfold insTo
  rw [if_pos (Nat.le_refl _), insAt_end, List.take_length]
theorem insTo_len {α : Type} {l : List α} {m i : Nat} {y : α} : (insTo l m i y).length ≤ i + 1 := by
  unfold insTo
  split
  · simp; omega
  · rw [insAt_len]; simp; omega

section
variable {C : CX} {h : List AObj} {K : AV → List AObj → Prop} {a b c d e n : Int} {z1 z2 z3 : Bool} {s1 s2 s3 : Nat} {x y : Net}
/-- What the specification returns of an error. -/
def failV (e : Int) : AV := .agg [.int .i64 0, .int .i64 0, .int .i64 0, .sl true 0 [] .no, .sl true 0 [] .no, .sl true 0 [] .no, .int .i64 0, .int .i64 0, .int .i64 0, .int .i64 0, .int .i64 0, .str [], .sl true 0 [] .no, .int .i64 e]
theorem filter_take {α : Type} {l : List α} {q : α → Bool} {i : Nat} (hi : i < l.length) : (l.take (i + 1)).filter q = (l.take i).filter q ++ (if q l[i] then [l[i]] else []) := by
  rw [List.take_add_one, List.getElem?_eq_getElem hi, List.filter_append]
  simp only [Option.toList_some, List.filter_cons, List.filter_nil]
theorem filter_take_len {α : Type} {l : List α} {q : α → Bool} {i : Nat} : ((l.take i).filter q).length ≤ l.length := Nat.le_trans (List.length_filter_le ..) (List.length_take_le' ..)
end
end Go.Ab
end
section
set_option linter.unusedSimpArgs false
set_option linter.unusedVariables false
set_option maxRecDepth 100000
set_option maxHeartbeats 4000000
namespace Go.Ab

theorem resOf.ex (x : Net) (e : Int) (g : Net) : ∃ y ee, resOf x e g y ee := by
  by_cases w : WF x
  · by_cases h : e = 0
    · exact ⟨g, 0, .inr (.inr ⟨w, h, rfl, rfl⟩)⟩
    · exact ⟨zN, e, .inr (.inl ⟨w, h, rfl, rfl⟩)⟩
  · exact ⟨zN, 2, .inl ⟨w, rfl, rfl⟩⟩
section
variable {C : CX} {h : List AObj} {K : AV → List AObj → Prop} {a b nd tg n ee : Int} {z1 z2 z3 : Bool} {s1 s2 s3 : Nat} {x y : Net}
end
end Go.Ab
end
section
/- What a change returns, told in one; NetLinks. -/
set_option linter.unusedSimpArgs false
set_option linter.unusedVariables false
set_option maxRecDepth 100000
set_option maxHeartbeats 4000000
namespace Go.Ab

section
variable {C : CX} {h : List AObj} {K : AV → List AObj → Prop} {a b nd tg n ee : Int} {z1 z2 z3 : Bool} {s1 s2 s3 : Nat} {x y : Net}
end
end Go.Ab
end
section
/- The specification's Set, Stop and Tick. -/
set_option linter.unusedSimpArgs false
set_option linter.unusedVariables false
set_option maxRecDepth 100000
set_option maxHeartbeats 4000000
namespace Go.Ab

section
variable {C : CX} {h : List AObj} {K : AV → List AObj → Prop} {a b c d e n nd tg : Int} {z z1 z2 z3 : Bool} {s s1 s2 s3 : Nat} {x y : Net}
theorem others68 {l : List Timer} (hz : Slk z s 3 l.length) (hl : l.length < 1000000) (hK : K (accU 3 Timer.c (dropT l nd tg)) h) : ACall C Pg 68 [.sl z s (l.map Timer.c) .no, .int .i64 nd, .int .i64 tg] h K := by
  refine run68 ?_; simp -implicitDefEqProofs only [b68, r68, ru, ruc, rud, ru5, Nat.reduceLT, Nat.reduceEqDiff, reduceIte, Nat.reduceAdd, Nat.reduceLeDiff, Int.reduceEq, Int.reduceLT, Int.reduceLE, Int.reduceNeg]
  refine lp68q0 (α := Nat) 0 (fun i => [(0, .sl z s (l.map Timer.c) .no), (1, .int .i64 nd), (2, .int .i64 tg), (7, accV 3 Timer.c ((l.take i).filter fun t => !isTm nd tg t)), (8, .int .i64 i)]) (fun _ => []) (fun _ => h)
    (fun i => i ≤ l.length) (fun i => l.length - i) 0 (Nat.zero_le _) (fun _ => rfl) ?_ rfl rfl rfl ?_
  · simp [allIn, lk, AV.lb, AV.lb.lbs, accV]
  · intro i hi
    have ha : (accV 3 Timer.c ((l.take i).filter fun t => !isTm nd tg t)).owns = true ∨ ¬ (accV 3 Timer.c ((l.take i).filter fun t => !isTm nd tg t)).owns = true := Classical.em _
    have hlen : ((l.take i).filter fun t => !isTm nd tg t).length < 1000000 := by have := filter_take_len (l := l) (q := fun t => !isTm nd tg t) (i := i); omega
    simp -implicitDefEqProofs only [b68q0, r68, List.length_map, ru, ruc, rud, ru5, Nat.reduceLT, Nat.reduceEqDiff, reduceIte, Nat.reduceAdd, Nat.reduceLeDiff, Int.reduceEq, Int.reduceLT, Int.reduceLE, Int.reduceNeg]
    refine condV_split (fun g => ?_) (fun g => ?_)
    · simp -implicitDefEqProofs only [r68, ru, ruc, rud, ru5, Nat.reduceLT, Nat.reduceEqDiff, reduceIte, Nat.reduceAdd, Nat.reduceLeDiff, Int.reduceEq, Int.reduceLT, Int.reduceLE, Int.reduceNeg]
      simp only [decide_eq_true_eq] at g
      have g' : i < l.length := by omega
      have ha2 : (accV 3 Timer.c ((l.take (i + 1)).filter fun t => !isTm nd tg t)).owns = true ∨ ¬ (accV 3 Timer.c ((l.take (i + 1)).filter fun t => !isTm nd tg t)).owns = true := Classical.em _
      refine ixT hz rfl g' ?_
      simp -implicitDefEqProofs only [r68, Timer.c, ru, ruc, rud, ru5, Nat.reduceLT, Nat.reduceEqDiff, reduceIte, Nat.reduceAdd, Nat.reduceLeDiff, Int.reduceEq, Int.reduceLT, Int.reduceLE, Int.reduceNeg]
      repeat' (first | (refine guardV_split (fun g => ?_) (fun g => ?_) <;> simp -implicitDefEqProofs only [Timer.c, r68, ru, ruc, rud, ru5, Nat.reduceLT, Nat.reduceEqDiff, reduceIte, Nat.reduceAdd, Nat.reduceLeDiff, Int.reduceEq, Int.reduceLT, Int.reduceLE, Int.reduceNeg]) | (refine condV_split (fun g => ?_) (fun g => ?_) <;> simp -implicitDefEqProofs only [Timer.c, r68, ru, ruc, rud, ru5, Nat.reduceLT, Nat.reduceEqDiff, reduceIte, Nat.reduceAdd, Nat.reduceLeDiff, Int.reduceEq, Int.reduceLT, Int.reduceLE, Int.reduceNeg]) | (refine ixT hz rfl g' ?_ <;> try simp -implicitDefEqProofs only [Timer.c, r68, ru, ruc, rud, ru5, Nat.reduceLT, Nat.reduceEqDiff, reduceIte, Nat.reduceAdd, Nat.reduceLeDiff, Int.reduceEq, Int.reduceLT, Int.reduceLE, Int.reduceNeg]))
      all_goals simp only [decide_eq_true_eq, decide_eq_false_iff_not, Bool.not_eq_true', Bool.not_eq_false', if_true, Bool.false_eq_true, if_false] at *
      all_goals first
        | (have hq : isTm nd tg l[i] = true := by simp only [isTm, Bool.and_eq_true, decide_eq_true_eq]; omega
           have hn := filter_take (q := fun t => !isTm nd tg t) g'
           rw [hq, Bool.not_true, if_neg (by decide), List.append_nil] at hn
           refine next_normal (i + 1) g' (by omega) rfl ?_ rfl rfl
           simp [allIn, lk, AV.lb, AV.lb.lbs, accV_lb, hn, wrap_i (show i < 9223372036854775807 by omega)])
        | (have hq : isTm nd tg l[i] = false := by
             rw [← Bool.not_eq_true]
             simp only [isTm, Bool.and_eq_true, decide_eq_true_eq]
             omega
           have hn := filter_take (q := fun t => !isTm nd tg t) g'
           rw [hq, Bool.not_false, if_pos rfl] at hn
           rcases ha with ha | ha
           all_goals (
             simp -implicitDefEqProofs only [r68, ha, accV_un, accU_ow, ru, ruc, rud, ru5, Nat.reduceLT, Nat.reduceEqDiff, reduceIte, Nat.reduceAdd, Nat.reduceLeDiff, Int.reduceEq, Int.reduceLT, Int.reduceLE, Int.reduceNeg]
             refine ixT hz rfl g' ?_
             simp -implicitDefEqProofs only [r68, Timer.c, ha, bsl24q1, accV_un, accU_ow, ru, ruc, rud, ru5, Nat.reduceLT, Nat.reduceEqDiff, reduceIte, Nat.reduceAdd, Nat.reduceLeDiff, Int.reduceEq, Int.reduceLT, Int.reduceLE, Int.reduceNeg]
             refine app_acc (y := l[i]) (by decide) T24 rfl T86 rfl (by decide) (by decide) hlen ?_
             rw [← hn]
             rcases ha2 with ha2 | ha2
             all_goals (
               simp -implicitDefEqProofs only [r68, ha, ha2, accV_un, ru, ruc, rud, ru5, Nat.reduceLT, Nat.reduceEqDiff, reduceIte, Nat.reduceAdd, Nat.reduceLeDiff, Int.reduceEq, Int.reduceLT, Int.reduceLE, Int.reduceNeg]
               refine next_normal (i + 1) g' (by omega) rfl ?_ rfl rfl
               simp [allIn, lk, AV.lb, AV.lb.lbs, accV_lb, wrap_i (show i < 9223372036854775807 by omega)])))
    · simp only [decide_eq_false_iff_not] at g
      have e9 : i = l.length := by omega
      subst e9
      rw [List.take_length] at ha ⊢
      rcases ha with ha | ha
      all_goals (
        simp -implicitDefEqProofs only [r68, ha, accV_un, accU_un, accU_nol, accV_nol, accU_ow, ru, ruc, rud, ru5, Nat.reduceLT, Nat.reduceEqDiff, reduceIte, Nat.reduceAdd, Nat.reduceLeDiff, Int.reduceEq, Int.reduceLT, Int.reduceLE, Int.reduceNeg]
        exact hK)

theorem rstop30 (hk : Nk z1 s1 z2 s2 z3 s3 x) (hc : x.cuts.length < 1000000)
    (h1 : ¬ WF x → K (failV 2) h)
    (h2 : WF x → stopE x nd tg ≠ 0 → K (failV (stopE x nd tg)) h)
    (h3 : WF x → stopE x nd tg = 0 → ∀ z3 s3, Nk z1 s1 z2 s2 z3 s3 (stopG x nd tg) → K (.agg ([.int .i64 (stopG x nd tg).nodes, .int .i64 (stopG x nd tg).now, .int .i64 (stopG x nd tg).next, .sl z1 s1 ((stopG x nd tg).way.map Letter.c) .no, .sl z2 s2 ((stopG x nd tg).cuts.map Link.c) .no, .sl z3 s3 ((stopG x nd tg).timers.map Timer.c) .no] ++ [.int .i64 0, .int .i64 0, .int .i64 0, .int .i64 0, .int .i64 0, .str [], .sl true 0 [] .no, .int .i64 0])) h) :
    ACall C Pg 30 [.agg [.int .i64 x.nodes, .int .i64 x.now, .int .i64 x.next, .sl z1 s1 (x.way.map Letter.c) .no, .sl z2 s2 (x.cuts.map Link.c) .no, .sl z3 s3 (x.timers.map Timer.c) .no], .int .i64 nd, .int .i64 tg] h K := by
  refine run30 ?_; simp -implicitDefEqProofs only [b30, r30, ru, ruc, rud, ru5, Nat.reduceLT, Nat.reduceEqDiff, reduceIte, Nat.reduceAdd, Nat.reduceLeDiff, Int.reduceEq, Int.reduceLT, Int.reduceLE, Int.reduceNeg]
  refine is48 hk hc fun r hr => ?_
  cases r with
  | false =>
    simp -implicitDefEqProofs only [r30, ru, ruc, rud, ru5, Nat.reduceLT, Nat.reduceEqDiff, reduceIte, Nat.reduceAdd, Nat.reduceLeDiff, Int.reduceEq, Int.reduceLT, Int.reduceLE, Int.reduceNeg]
    refine failed44 ?_
    simp -implicitDefEqProofs only [r30, ru, ruc, rud, ru5, Nat.reduceLT, Nat.reduceEqDiff, reduceIte, Nat.reduceAdd, Nat.reduceLeDiff, Int.reduceEq, Int.reduceLT, Int.reduceLE, Int.reduceNeg]
    exact h1 (fun w => by have := hr.2 w; cases this)
  | true =>
    have w := hr.1 rfl
    have htl := w.tl
    obtain ⟨z, s, e1, hz⟩ := accU_sl 3 Timer.c (dropT x.timers nd tg)
    simp -implicitDefEqProofs only [r30, ru, ruc, rud, ru5, Nat.reduceLT, Nat.reduceEqDiff, reduceIte, Nat.reduceAdd, Nat.reduceLeDiff, Int.reduceEq, Int.reduceLT, Int.reduceLE, Int.reduceNeg]
    repeat' (first | (refine guardV_split (fun g => ?_) (fun g => ?_) <;> simp -implicitDefEqProofs only [e1, List.length_map, r30, ru, ruc, rud, ru5, Nat.reduceLT, Nat.reduceEqDiff, reduceIte, Nat.reduceAdd, Nat.reduceLeDiff, Int.reduceEq, Int.reduceLT, Int.reduceLE, Int.reduceNeg]) | (refine condV_split (fun g => ?_) (fun g => ?_) <;> simp -implicitDefEqProofs only [e1, List.length_map, r30, ru, ruc, rud, ru5, Nat.reduceLT, Nat.reduceEqDiff, reduceIte, Nat.reduceAdd, Nat.reduceLeDiff, Int.reduceEq, Int.reduceLT, Int.reduceLE, Int.reduceNeg]) | (refine isNode61 ?_ <;> try simp -implicitDefEqProofs only [e1, List.length_map, r30, ru, ruc, rud, ru5, Nat.reduceLT, Nat.reduceEqDiff, reduceIte, Nat.reduceAdd, Nat.reduceLeDiff, Int.reduceEq, Int.reduceLT, Int.reduceLE, Int.reduceNeg]) | (refine failed44 ?_ <;> try simp -implicitDefEqProofs only [e1, List.length_map, r30, ru, ruc, rud, ru5, Nat.reduceLT, Nat.reduceEqDiff, reduceIte, Nat.reduceAdd, Nat.reduceLeDiff, Int.reduceEq, Int.reduceLT, Int.reduceLE, Int.reduceNeg]) | (refine others68 hk.t (by omega) ?_ <;> try simp -implicitDefEqProofs only [e1, List.length_map, r30, ru, ruc, rud, ru5, Nat.reduceLT, Nat.reduceEqDiff, reduceIte, Nat.reduceAdd, Nat.reduceLeDiff, Int.reduceEq, Int.reduceLT, Int.reduceLE, Int.reduceNeg]))
    all_goals try (
      have he : stopE x nd tg = 1 := if_pos (fun o => by
        simp only [tagOk, nodeOk] at o
        simp only [Bool.not_eq_true', Bool.not_eq_false', Bool.and_eq_true, Bool.and_eq_false_iff, decide_eq_true_eq, decide_eq_false_iff_not] at *
        omega)
      have := h2 w (by rw [he]; decide)
      rw [he] at this
      exact this)
    all_goals (
      have hp : tagOk x nd tg := by
        simp only [tagOk, nodeOk]
        simp only [Bool.not_eq_true', Bool.not_eq_false', Bool.and_eq_true, Bool.and_eq_false_iff, decide_eq_true_eq, decide_eq_false_iff_not] at *
        omega
      have hfl : (dropT x.timers nd tg).length = x.timers.length ↔ ¬ x.timers.any (isTm nd tg) = true := by
        unfold dropT
        rw [List.length_filter_eq_length_iff]
        simp)
    · have g9 : decide (((dropT x.timers nd tg).length : Int) = (x.timers.length : Int)) = true := by assumption
      have he : stopE x nd tg = 4 := by
        unfold stopE
        rw [if_neg (fun h => h hp), if_neg (hfl.1 (by simp at g9; omega))]
      have := h2 w (by rw [he]; decide)
      rw [he] at this
      exact this
    · have g9 : decide (((dropT x.timers nd tg).length : Int) = (x.timers.length : Int)) = false := by assumption
      have he : stopE x nd tg = 0 := by
        unfold stopE
        rw [if_neg (fun h => h hp)]
        refine if_pos (Classical.byContradiction fun h => ?_)
        have := hfl.2 h
        simp at g9
        omega
      have h4 := h3 w he z s ⟨hk.w, hk.c, hz⟩
      simp -implicitDefEqProofs only [r30, bld35n, ru, ruc, rud, ru5, Nat.reduceLT, Nat.reduceEqDiff, reduceIte, Nat.reduceAdd, Nat.reduceLeDiff, Int.reduceEq, Int.reduceLT, Int.reduceLE, Int.reduceNeg]
      exact h4


theorem bld35t {a b c : Int} {l1 l2 l3 l4 : List (List AV)} {z4 : Bool} {s4 : Nat} {K : AV → Prop} : agK (abuild T 35 [(0, .agg [.int .i64 a, .int .i64 b, .int .i64 c, .sl z1 s1 l1 .no, .sl z2 s2 l2 .no, .sl z3 s3 l3 .no]), (3, .sl z4 s4 l4 .no)]) K = K (.agg [.int .i64 a, .int .i64 b, .int .i64 c, .sl z1 s1 l1 .no, .sl z2 s2 l2 .no, .sl z3 s3 l3 .no, .int .i64 0, .int .i64 0, .int .i64 0, .int .i64 0, .int .i64 0, .str [], .sl z4 s4 l4 .no, .int .i64 0]) := rfl
theorem rtick32 (hk : Nk z1 s1 z2 s2 z3 s3 x) (hc : x.cuts.length < 1000000)
    (h1 : ¬ WF x → K (failV 2) h)
    (h2 : WF x → tickE x ≠ 0 → K (failV (tickE x)) h)
    (h3 : WF x → tickE x = 0 → ∀ z3 s3 z4 s4, Nk z1 s1 z2 s2 z3 s3 (tickG x) → Slk z4 s4 3 (tickF x).length → K (.agg ([.int .i64 (tickG x).nodes, .int .i64 (tickG x).now, .int .i64 (tickG x).next, .sl z1 s1 ((tickG x).way.map Letter.c) .no, .sl z2 s2 ((tickG x).cuts.map Link.c) .no, .sl z3 s3 ((tickG x).timers.map Timer.c) .no] ++ [.int .i64 0, .int .i64 0, .int .i64 0, .int .i64 0, .int .i64 0, .str [], .sl z4 s4 ((tickF x).map Timer.c) .no, .int .i64 0])) h) :
    ACall C Pg 32 [.agg [.int .i64 x.nodes, .int .i64 x.now, .int .i64 x.next, .sl z1 s1 (x.way.map Letter.c) .no, .sl z2 s2 (x.cuts.map Link.c) .no, .sl z3 s3 (x.timers.map Timer.c) .no]] h K := by
  refine run32 ?_; simp -implicitDefEqProofs only [b32, r32, ru, ruc, rud, ru5, Nat.reduceLT, Nat.reduceEqDiff, reduceIte, Nat.reduceAdd, Nat.reduceLeDiff, Int.reduceEq, Int.reduceLT, Int.reduceLE, Int.reduceNeg]
  refine is48 hk hc fun r hr => ?_
  cases r with
  | false =>
    simp -implicitDefEqProofs only [r32, ru, ruc, rud, ru5, Nat.reduceLT, Nat.reduceEqDiff, reduceIte, Nat.reduceAdd, Nat.reduceLeDiff, Int.reduceEq, Int.reduceLT, Int.reduceLE, Int.reduceNeg]
    refine failed44 ?_
    simp -implicitDefEqProofs only [r32, ru, ruc, rud, ru5, Nat.reduceLT, Nat.reduceEqDiff, reduceIte, Nat.reduceAdd, Nat.reduceLeDiff, Int.reduceEq, Int.reduceLT, Int.reduceLE, Int.reduceNeg]
    exact h1 (fun w => by have := hr.2 w; cases this)
  | true =>
    have w := hr.1 rfl
    have htl := w.tl
    have w1 := w.w1
    have w2 := w.w2
    have hw := wrap_id (n := x.now + 1) (by omega) (by omega)
    simp -implicitDefEqProofs only [r32, ru, ruc, rud, ru5, Nat.reduceLT, Nat.reduceEqDiff, reduceIte, Nat.reduceAdd, Nat.reduceLeDiff, Int.reduceEq, Int.reduceLT, Int.reduceLE, Int.reduceNeg]
    refine condV_split (fun g => ?_) (fun g => ?_)
    · have he : tickE x = 3 := if_pos (by simpa using g)
      simp -implicitDefEqProofs only [r32, ru, ruc, rud, ru5, Nat.reduceLT, Nat.reduceEqDiff, reduceIte, Nat.reduceAdd, Nat.reduceLeDiff, Int.reduceEq, Int.reduceLT, Int.reduceLE, Int.reduceNeg]
      refine failed44 ?_
      simp -implicitDefEqProofs only [r32, ru, ruc, rud, ru5, Nat.reduceLT, Nat.reduceEqDiff, reduceIte, Nat.reduceAdd, Nat.reduceLeDiff, Int.reduceEq, Int.reduceLT, Int.reduceLE, Int.reduceNeg]
      have := h2 w (by rw [he]; decide)
      rw [he] at this
      exact this
    · have he : tickE x = 0 := if_neg (by simpa using g)
      have h4 := h3 w he
      clear h1 h2 h3 g
      simp -implicitDefEqProofs only [r32, hw, ru, ruc, rud, ru5, Nat.reduceLT, Nat.reduceEqDiff, reduceIte, Nat.reduceAdd, Nat.reduceLeDiff, Int.reduceEq, Int.reduceLT, Int.reduceLE, Int.reduceNeg]
      refine lp32q0 (α := Nat) 2 (fun i => [(1, .lptr 0 0), (2, .lptr 1 0), (3, accV 3 Timer.c ((x.timers.take i).filter fun t => decide (t.tm = x.now + 1))), (4, accV 3 Timer.c ((x.timers.take i).filter fun t => !decide (t.tm = x.now + 1))), (5, .int .i64 i)])
        (fun _ => [[.int .i64 x.nodes, .int .i64 (x.now + 1), .int .i64 x.next, .sl z1 s1 (x.way.map Letter.c) .no, .sl z2 s2 (x.cuts.map Link.c) .no, .sl z3 s3 (x.timers.map Timer.c) .no], [.int .i64 0, .int .i64 0, .int .i64 0, .sl true 0 [] .no, .sl true 0 [] .no, .sl true 0 [] .no, .int .i64 0, .int .i64 0, .int .i64 0, .int .i64 0, .int .i64 0, .str [], .sl true 0 [] .no, .int .i64 0]]) (fun _ => h)
        (fun i => i ≤ x.timers.length) (fun i => x.timers.length - i) 0 (Nat.zero_le _) (fun _ => rfl) ?_ rfl rfl rfl ?_
      · simp [allIn, lk, AV.lb, AV.lb.lbs, accV]
      · intro i hi
        have ha : (accV 3 Timer.c ((x.timers.take i).filter fun t => decide (t.tm = x.now + 1))).owns = true ∨ ¬ (accV 3 Timer.c ((x.timers.take i).filter fun t => decide (t.tm = x.now + 1))).owns = true := Classical.em _
        have hb : (accV 3 Timer.c ((x.timers.take i).filter fun t => !decide (t.tm = x.now + 1))).owns = true ∨ ¬ (accV 3 Timer.c ((x.timers.take i).filter fun t => !decide (t.tm = x.now + 1))).owns = true := Classical.em _
        have hlen : ((x.timers.take i).filter fun t => decide (t.tm = x.now + 1)).length < 1000000 := by have := filter_take_len (l := x.timers) (q := fun t => decide (t.tm = x.now + 1)) (i := i); omega
        have hlen2 : ((x.timers.take i).filter fun t => !decide (t.tm = x.now + 1)).length < 1000000 := by have := filter_take_len (l := x.timers) (q := fun t => !decide (t.tm = x.now + 1)) (i := i); omega
        simp -implicitDefEqProofs only [b32q0, r32, List.length_map, ru, ruc, rud, ru5, Nat.reduceLT, Nat.reduceEqDiff, reduceIte, Nat.reduceAdd, Nat.reduceLeDiff, Int.reduceEq, Int.reduceLT, Int.reduceLE, Int.reduceNeg]
        refine condV_split (fun g => ?_) (fun g => ?_)
        · simp -implicitDefEqProofs only [r32, ru, ruc, rud, ru5, Nat.reduceLT, Nat.reduceEqDiff, reduceIte, Nat.reduceAdd, Nat.reduceLeDiff, Int.reduceEq, Int.reduceLT, Int.reduceLE, Int.reduceNeg]
          simp only [decide_eq_true_eq] at g
          have g' : i < x.timers.length := by omega
          have hn := filter_take (q := fun t => decide (t.tm = x.now + 1)) g'
          have hn2 := filter_take (q := fun t => !decide (t.tm = x.now + 1)) g'
          have ha2 : (accV 3 Timer.c ((x.timers.take (i + 1)).filter fun t => decide (t.tm = x.now + 1))).owns = true ∨ ¬ (accV 3 Timer.c ((x.timers.take (i + 1)).filter fun t => decide (t.tm = x.now + 1))).owns = true := Classical.em _
          have hb2 : (accV 3 Timer.c ((x.timers.take (i + 1)).filter fun t => !decide (t.tm = x.now + 1))).owns = true ∨ ¬ (accV 3 Timer.c ((x.timers.take (i + 1)).filter fun t => !decide (t.tm = x.now + 1))).owns = true := Classical.em _
          apply rd32q0
          all_goals try (first | (intro l' e0 e1; simp -implicitDefEqProofs only [e0, e1, Timer.c, ru, ruc, rud, ru5, Nat.reduceLT, Nat.reduceEqDiff, reduceIte, Nat.reduceAdd, Nat.reduceLeDiff, Int.reduceEq, Int.reduceLT, Int.reduceLE, Int.reduceNeg]; (try (first | (refine ixT hk.t rfl g' ?_ <;> try simp -implicitDefEqProofs only [e0, e1, Timer.c, ru, ruc, rud, ru5, Nat.reduceLT, Nat.reduceEqDiff, reduceIte, Nat.reduceAdd, Nat.reduceLeDiff, Int.reduceEq, Int.reduceLT, Int.reduceLE, Int.reduceNeg]) | (fail))); first | exact step_1 rfl | exact step_2 rfl (by assumption)) | (intro l' e0; simp -implicitDefEqProofs only [e0, Timer.c, ru, ruc, rud, ru5, Nat.reduceLT, Nat.reduceEqDiff, reduceIte, Nat.reduceAdd, Nat.reduceLeDiff, Int.reduceEq, Int.reduceLT, Int.reduceLE, Int.reduceNeg]; (try (first | (refine ixT hk.t rfl g' ?_ <;> try simp -implicitDefEqProofs only [e0, Timer.c, ru, ruc, rud, ru5, Nat.reduceLT, Nat.reduceEqDiff, reduceIte, Nat.reduceAdd, Nat.reduceLeDiff, Int.reduceEq, Int.reduceLT, Int.reduceLE, Int.reduceNeg]) | (fail))); first | exact step_1 rfl | exact step_2 rfl (by assumption)) | (intro l' ; simp -implicitDefEqProofs only [Timer.c, ru, ruc, rud, ru5, Nat.reduceLT, Nat.reduceEqDiff, reduceIte, Nat.reduceAdd, Nat.reduceLeDiff, Int.reduceEq, Int.reduceLT, Int.reduceLE, Int.reduceNeg]; (try (first | (refine ixT hk.t rfl g' ?_ <;> try simp -implicitDefEqProofs only [Timer.c, ru, ruc, rud, ru5, Nat.reduceLT, Nat.reduceEqDiff, reduceIte, Nat.reduceAdd, Nat.reduceLeDiff, Int.reduceEq, Int.reduceLT, Int.reduceLE, Int.reduceNeg]) | (fail))); first | exact step_1 rfl | exact step_2 rfl (by assumption)))
          case hK =>
            simp -implicitDefEqProofs only [r32, ru, ruc, rud, ru5, Nat.reduceLT, Nat.reduceEqDiff, reduceIte, Nat.reduceAdd, Nat.reduceLeDiff, Int.reduceEq, Int.reduceLT, Int.reduceLE, Int.reduceNeg]
            refine condV_split (fun g2 => ?_) (fun g2 => ?_)
            · rw [g2, if_pos rfl] at hn
              rw [g2, Bool.not_true, if_neg (by decide), List.append_nil] at hn2
              rcases ha with ha | ha
              all_goals (
                simp -implicitDefEqProofs only [r32, ha, accV_un, accU_ow, ru, ruc, rud, ru5, Nat.reduceLT, Nat.reduceEqDiff, reduceIte, Nat.reduceAdd, Nat.reduceLeDiff, Int.reduceEq, Int.reduceLT, Int.reduceLE, Int.reduceNeg]
                refine ixT hk.t rfl g' ?_
                simp -implicitDefEqProofs only [r32, Timer.c, ha, bsl24q1, accV_un, accU_ow, ru, ruc, rud, ru5, Nat.reduceLT, Nat.reduceEqDiff, reduceIte, Nat.reduceAdd, Nat.reduceLeDiff, Int.reduceEq, Int.reduceLT, Int.reduceLE, Int.reduceNeg]
                refine app_acc (y := x.timers[i]) (by decide) T24 rfl T86 rfl (by decide) (by decide) hlen ?_
                rw [← hn]
                rcases ha2 with ha2 | ha2
                all_goals (
                  simp -implicitDefEqProofs only [r32, ha, ha2, accV_un, ru, ruc, rud, ru5, Nat.reduceLT, Nat.reduceEqDiff, reduceIte, Nat.reduceAdd, Nat.reduceLeDiff, Int.reduceEq, Int.reduceLT, Int.reduceLE, Int.reduceNeg]
                  refine next_normal (i + 1) g' (by omega) rfl ?_ rfl rfl
                  simp [allIn, lk, AV.lb, AV.lb.lbs, accV_lb, hn2, wrap_i (show i < 9223372036854775807 by omega)]))
            · rw [g2, if_neg (by decide), List.append_nil] at hn
              rw [g2, Bool.not_false, if_pos rfl] at hn2
              rcases hb with hb | hb
              all_goals (
                simp -implicitDefEqProofs only [r32, hb, accV_un, accU_ow, ru, ruc, rud, ru5, Nat.reduceLT, Nat.reduceEqDiff, reduceIte, Nat.reduceAdd, Nat.reduceLeDiff, Int.reduceEq, Int.reduceLT, Int.reduceLE, Int.reduceNeg]
                refine ixT hk.t rfl g' ?_
                simp -implicitDefEqProofs only [r32, Timer.c, hb, bsl24q1, accV_un, accU_ow, ru, ruc, rud, ru5, Nat.reduceLT, Nat.reduceEqDiff, reduceIte, Nat.reduceAdd, Nat.reduceLeDiff, Int.reduceEq, Int.reduceLT, Int.reduceLE, Int.reduceNeg]
                refine app_acc (y := x.timers[i]) (by decide) T24 rfl T86 rfl (by decide) (by decide) hlen2 ?_
                rw [← hn2]
                rcases hb2 with hb2 | hb2
                all_goals (
                  simp -implicitDefEqProofs only [r32, hb, hb2, accV_un, ru, ruc, rud, ru5, Nat.reduceLT, Nat.reduceEqDiff, reduceIte, Nat.reduceAdd, Nat.reduceLeDiff, Int.reduceEq, Int.reduceLT, Int.reduceLE, Int.reduceNeg]
                  refine next_normal (i + 1) g' (by omega) rfl ?_ rfl rfl
                  simp [allIn, lk, AV.lb, AV.lb.lbs, accV_lb, hn, wrap_i (show i < 9223372036854775807 by omega)]))
        · simp only [decide_eq_false_iff_not] at g
          have e9 : i = x.timers.length := by omega
          subst e9
          rw [List.take_length] at ha hb ⊢
          obtain ⟨z, s, e1, hz⟩ := accU_sl 3 Timer.c (x.timers.filter fun t => decide (t.tm = x.now + 1))
          obtain ⟨z', s', e2, hz'⟩ := accU_sl 3 Timer.c (x.timers.filter fun t => !decide (t.tm = x.now + 1))
          rcases ha with ha | ha
          all_goals (
            rcases hb with hb | hb
            all_goals (
              simp -implicitDefEqProofs only [r32, ha, hb, accV_un, accU_un, accU_nol, accV_nol, accU_ow, e1, e2, bld35t, ru, ruc, rud, ru5, Nat.reduceLT, Nat.reduceEqDiff, reduceIte, Nat.reduceAdd, Nat.reduceLeDiff, Int.reduceEq, Int.reduceLT, Int.reduceLE, Int.reduceNeg]
              exact h4 z' s' z s ⟨hk.w, hk.c, hz'⟩ hz))
end
end Go.Ab
end
section
/- The specification's Set. -/
set_option linter.unusedSimpArgs false
set_option linter.unusedVariables false
set_option maxRecDepth 100000
set_option maxHeartbeats 4000000
namespace Go.Ab

section
variable {C : CX} {h : List AObj} {K : AV → List AObj → Prop} {a b c d e n nd tg : Int} {z z1 z2 z3 : Bool} {s s1 s2 s3 : Nat} {x y : Net}
theorem rset28 (hk : Nk z1 s1 z2 s2 z3 s3 x) (hc : x.cuts.length < 1000000)
    (h1 : ¬ WF x → K (failV 2) h)
    (h2 : WF x → setE x nd tg n ≠ 0 → K (failV (setE x nd tg n)) h)
    (h3 : WF x → setE x nd tg n = 0 → ∀ z3 s3, Nk z1 s1 z2 s2 z3 s3 (setG x nd tg n) → K (.agg ([.int .i64 (setG x nd tg n).nodes, .int .i64 (setG x nd tg n).now, .int .i64 (setG x nd tg n).next, .sl z1 s1 ((setG x nd tg n).way.map Letter.c) .no, .sl z2 s2 ((setG x nd tg n).cuts.map Link.c) .no, .sl z3 s3 ((setG x nd tg n).timers.map Timer.c) .no] ++ [.int .i64 0, .int .i64 0, .int .i64 0, .int .i64 0, .int .i64 0, .str [], .sl true 0 [] .no, .int .i64 0])) h) :
    ACall C Pg 28 [.agg [.int .i64 x.nodes, .int .i64 x.now, .int .i64 x.next, .sl z1 s1 (x.way.map Letter.c) .no, .sl z2 s2 (x.cuts.map Link.c) .no, .sl z3 s3 (x.timers.map Timer.c) .no], .int .i64 nd, .int .i64 tg, .int .i64 n] h K := by
  refine run28 ?_; simp -implicitDefEqProofs only [b28, r28, ru, ruc, rud, ru5, Nat.reduceLT, Nat.reduceEqDiff, reduceIte, Nat.reduceAdd, Nat.reduceLeDiff, Int.reduceEq, Int.reduceLT, Int.reduceLE, Int.reduceNeg]
  refine is48 hk hc fun r hr => ?_
  cases r with
  | false =>
    simp -implicitDefEqProofs only [r28, ru, ruc, rud, ru5, Nat.reduceLT, Nat.reduceEqDiff, reduceIte, Nat.reduceAdd, Nat.reduceLeDiff, Int.reduceEq, Int.reduceLT, Int.reduceLE, Int.reduceNeg]
    refine failed44 ?_
    simp -implicitDefEqProofs only [r28, ru, ruc, rud, ru5, Nat.reduceLT, Nat.reduceEqDiff, reduceIte, Nat.reduceAdd, Nat.reduceLeDiff, Int.reduceEq, Int.reduceLT, Int.reduceLE, Int.reduceNeg]
    exact h1 (fun w => by have := hr.2 w; cases this)
  | true =>
    have w := hr.1 rfl
    have htl := w.tl
    have w1 := w.w1
    have w2 := w.w2
    obtain ⟨z, s, e1, hz⟩ := accU_sl 3 Timer.c (dropT x.timers nd tg)
    have hdl : (dropT x.timers nd tg).length ≤ x.timers.length := List.length_filter_le ..
    simp -implicitDefEqProofs only [r28, ru, ruc, rud, ru5, Nat.reduceLT, Nat.reduceEqDiff, reduceIte, Nat.reduceAdd, Nat.reduceLeDiff, Int.reduceEq, Int.reduceLT, Int.reduceLE, Int.reduceNeg]
    repeat' (first | (refine guardV_split (fun g => ?_) (fun g => ?_) <;> simp -implicitDefEqProofs only [e1, List.length_map, Timer.c, r28, ru, ruc, rud, ru5, Nat.reduceLT, Nat.reduceEqDiff, reduceIte, Nat.reduceAdd, Nat.reduceLeDiff, Int.reduceEq, Int.reduceLT, Int.reduceLE, Int.reduceNeg]) | (refine condV_split (fun g => ?_) (fun g => ?_) <;> simp -implicitDefEqProofs only [e1, List.length_map, Timer.c, r28, ru, ruc, rud, ru5, Nat.reduceLT, Nat.reduceEqDiff, reduceIte, Nat.reduceAdd, Nat.reduceLeDiff, Int.reduceEq, Int.reduceLT, Int.reduceLE, Int.reduceNeg]) | (refine isNode61 ?_ <;> try simp -implicitDefEqProofs only [e1, List.length_map, Timer.c, r28, ru, ruc, rud, ru5, Nat.reduceLT, Nat.reduceEqDiff, reduceIte, Nat.reduceAdd, Nat.reduceLeDiff, Int.reduceEq, Int.reduceLT, Int.reduceLE, Int.reduceNeg]) | (refine failed44 ?_ <;> try simp -implicitDefEqProofs only [e1, List.length_map, Timer.c, r28, ru, ruc, rud, ru5, Nat.reduceLT, Nat.reduceEqDiff, reduceIte, Nat.reduceAdd, Nat.reduceLeDiff, Int.reduceEq, Int.reduceLT, Int.reduceLE, Int.reduceNeg]) | (refine others68 hk.t (by omega) ?_ <;> try simp -implicitDefEqProofs only [e1, List.length_map, Timer.c, r28, ru, ruc, rud, ru5, Nat.reduceLT, Nat.reduceEqDiff, reduceIte, Nat.reduceAdd, Nat.reduceLeDiff, Int.reduceEq, Int.reduceLT, Int.reduceLE, Int.reduceNeg]))
    all_goals try (
      have he : setE x nd tg n = 1 := if_pos (fun o => by
        simp only [setOk, nodeOk] at o
        simp only [Bool.not_eq_true', Bool.not_eq_false', Bool.and_eq_true, Bool.and_eq_false_iff, decide_eq_true_eq, decide_eq_false_iff_not] at *
        omega)
      have := h2 w (by rw [he]; decide)
      rw [he] at this
      exact this)
    all_goals (
      have hp : setOk x nd tg n := by
        simp only [setOk, nodeOk]
        simp only [Bool.not_eq_true', Bool.not_eq_false', Bool.and_eq_true, Bool.and_eq_false_iff, decide_eq_true_eq, decide_eq_false_iff_not] at *
        omega)
    · have g9 : decide (((dropT x.timers nd tg).length : Int) = 64) = true := by assumption
      have he : setE x nd tg n = 7 := by
        unfold setE
        rw [if_neg (fun h => h hp), if_pos (by simp at g9; omega)]
      have := h2 w (by rw [he]; decide)
      rw [he] at this
      exact this
    · have g9 : decide (((dropT x.timers nd tg).length : Int) = 64) = false := by assumption
      have he : setE x nd tg n = 0 := by
        unfold setE
        rw [if_neg (fun h => h hp), if_neg (by simp at g9; omega)]
      have hb : 1 ≤ n ∧ n ≤ 1000 := ⟨hp.2.2.2.1, hp.2.2.2.2⟩
      have hw := wrap_id (n := x.now + n) (by omega) (by omega)
      have hnew : (⟨x.now + n, nd, tg⟩ : Timer) ∉ dropT x.timers nd tg := fun hm => by
        have := (List.mem_filter.1 hm).2
        simp [isTm] at this
      have h4 := h3 w he
      clear h1 h2 h3
      have hdef : setG x nd tg n = { x with timers := insAt (dropT x.timers nd tg) ((dropT x.timers nd tg).takeWhile fun q => decide (cmpT q ⟨x.now + n, nd, tg⟩ < 0)).length ⟨x.now + n, nd, tg⟩ } := rfl
      rw [hdef] at h4
      clear hdef
      simp -implicitDefEqProofs only [r28, hw, ru, ruc, rud, ru5, Nat.reduceLT, Nat.reduceEqDiff, reduceIte, Nat.reduceAdd, Nat.reduceLeDiff, Int.reduceEq, Int.reduceLT, Int.reduceLE, Int.reduceNeg]
      have hp0 : ∃ p : Timer, p = ⟨x.now + n, nd, tg⟩ := ⟨_, rfl⟩
      obtain ⟨p, hpe⟩ := hp0
      rw [← hpe] at h4 hnew
      have q1 : x.now + n = p.tm := by rw [hpe]
      have q2 : nd = p.nd := by rw [hpe]
      have q3 : tg = p.tg := by rw [hpe]
      generalize dropT x.timers nd tg = L at *
      have hlt0 : ∀ j (hj : j < L.length), j < (L.takeWhile fun q => decide (cmpT q p < 0)).length → cmpT L[j] p < 0 := fun j hj h => by simpa using tw_lt h hj
      have hge0 : ∀ hm9 : (L.takeWhile fun q => decide (cmpT q p < 0)).length < L.length, cmpT p (L[(L.takeWhile fun q => decide (cmpT q p < 0)).length]'hm9) < 0 := fun hm9 => by
        have h5 := tw_at hm9
        rcases cmpT_tri (by simpa using h5) with h6 | h6
        · exact absurd (h6 ▸ List.getElem_mem hm9) hnew
        · exact h6
      have hml := tw_len (p := fun q => decide (cmpT q p < 0)) (l := L)
      generalize (L.takeWhile fun q => decide (cmpT q p < 0)).length = m at *
      refine lp28q0 (α := Nat) 3 (fun i => [(4, .lptr 0 0), (8, .lptr 1 0), (10, .lptr 2 0), (9, .sl z s (L.map Timer.c) .no), (11, accV 3 Timer.c (insTo L m i p)), (12, .bool (decide (m < i))), (13, .int .i64 i)])
        (fun _ => [[.int .i64 x.nodes, .int .i64 x.now, .int .i64 x.next, .sl z1 s1 (x.way.map Letter.c) .no, .sl z2 s2 (x.cuts.map Link.c) .no, .sl z3 s3 (x.timers.map Timer.c) .no], [.int .i64 0, .int .i64 0, .int .i64 0, .sl true 0 [] .no, .sl true 0 [] .no, .sl true 0 [] .no, .int .i64 0, .int .i64 0, .int .i64 0, .int .i64 0, .int .i64 0, .str [], .sl true 0 [] .no, .int .i64 0], [.int .i64 p.tm, .int .i64 p.nd, .int .i64 p.tg]]) (fun _ => h)
        (fun i => i ≤ L.length) (fun i => L.length - i) 0 (Nat.zero_le _) (fun _ => rfl) ?_ (by rw [← q1, ← q2, ← q3]; rfl) rfl rfl ?_
      · simp [allIn, lk, AV.lb, AV.lb.lbs, insTo_zero, accV]
      · intro i hi
        have ha : (accV 3 Timer.c (insTo L m i p)).owns = true ∨ ¬ (accV 3 Timer.c (insTo L m i p)).owns = true := Classical.em _
        have hlen : (insTo L m i p).length < 999990 := by have := insTo_len (l := L) (m := m) (i := i) (y := p); omega
        simp -implicitDefEqProofs only [b28q0, r28, List.length_map, ru, ruc, rud, ru5, Nat.reduceLT, Nat.reduceEqDiff, reduceIte, Nat.reduceAdd, Nat.reduceLeDiff, Int.reduceEq, Int.reduceLT, Int.reduceLE, Int.reduceNeg]
        refine condV_split (fun g => ?_) (fun g => ?_)
        · simp -implicitDefEqProofs only [r28, ru, ruc, rud, ru5, Nat.reduceLT, Nat.reduceEqDiff, reduceIte, Nat.reduceAdd, Nat.reduceLeDiff, Int.reduceEq, Int.reduceLT, Int.reduceLE, Int.reduceNeg]
          simp only [decide_eq_true_eq] at g
          have g' : i < L.length := by omega
          have hl1 : i < m → lessT p L[i] = false := fun h => by
            have h5 := cmpT_lt.1 (hlt0 i g' h)
            rw [← Bool.not_eq_true, lessT_iff, cmpT_lt]
            omega
          have hl2 : i = m → lessT p L[i] = true := fun h => by subst h; exact lessT_iff.2 (hge0 g')
          have U := un_nilp
          have ha2 : (accV 3 Timer.c (insTo L m (i + 1) p)).owns = true ∨ ¬ (accV 3 Timer.c (insTo L m (i + 1) p)).owns = true := Classical.em _
          rcases Nat.lt_trichotomy i m with him | him | him
          case' inl =>
            have c0 : decide (m < i) = false := by simp; omega
            have c1 := hl1 him
          case' inr.inl =>
            have c0 : decide (m < i) = false := by simp; omega
            have c1 := hl2 him
          case' inr.inr =>
            have c0 : decide (m < i) = true := by simp; omega
            have c1 := U
          all_goals (
            apply rd28q0
            all_goals try (first | (intro l' e0 e1 e2; simp -implicitDefEqProofs only [e0, e1, e2, Timer.c, c0, c1, ru, ruc, rud, ru5, Nat.reduceLT, Nat.reduceEqDiff, reduceIte, Nat.reduceAdd, Nat.reduceLeDiff, Int.reduceEq, Int.reduceLT, Int.reduceLE, Int.reduceNeg]; (try (first | (refine ixT hz rfl g' ?_ <;> try simp -implicitDefEqProofs only [e0, e1, e2, Timer.c, c0, c1, ru, ruc, rud, ru5, Nat.reduceLT, Nat.reduceEqDiff, reduceIte, Nat.reduceAdd, Nat.reduceLeDiff, Int.reduceEq, Int.reduceLT, Int.reduceLE, Int.reduceNeg]) | (refine lesser69 (x := p) (y := L[i]) ?_ <;> try simp -implicitDefEqProofs only [e0, e1, e2, Timer.c, c0, c1, ru, ruc, rud, ru5, Nat.reduceLT, Nat.reduceEqDiff, reduceIte, Nat.reduceAdd, Nat.reduceLeDiff, Int.reduceEq, Int.reduceLT, Int.reduceLE, Int.reduceNeg]) | (fail))); first | exact step_1 rfl | exact step_2 rfl (by assumption)) | (intro l' e0 e1; simp -implicitDefEqProofs only [e0, e1, Timer.c, c0, c1, ru, ruc, rud, ru5, Nat.reduceLT, Nat.reduceEqDiff, reduceIte, Nat.reduceAdd, Nat.reduceLeDiff, Int.reduceEq, Int.reduceLT, Int.reduceLE, Int.reduceNeg]; (try (first | (refine ixT hz rfl g' ?_ <;> try simp -implicitDefEqProofs only [e0, e1, Timer.c, c0, c1, ru, ruc, rud, ru5, Nat.reduceLT, Nat.reduceEqDiff, reduceIte, Nat.reduceAdd, Nat.reduceLeDiff, Int.reduceEq, Int.reduceLT, Int.reduceLE, Int.reduceNeg]) | (refine lesser69 (x := p) (y := L[i]) ?_ <;> try simp -implicitDefEqProofs only [e0, e1, Timer.c, c0, c1, ru, ruc, rud, ru5, Nat.reduceLT, Nat.reduceEqDiff, reduceIte, Nat.reduceAdd, Nat.reduceLeDiff, Int.reduceEq, Int.reduceLT, Int.reduceLE, Int.reduceNeg]) | (fail))); first | exact step_1 rfl | exact step_2 rfl (by assumption)) | (intro l' e0; simp -implicitDefEqProofs only [e0, Timer.c, c0, c1, ru, ruc, rud, ru5, Nat.reduceLT, Nat.reduceEqDiff, reduceIte, Nat.reduceAdd, Nat.reduceLeDiff, Int.reduceEq, Int.reduceLT, Int.reduceLE, Int.reduceNeg]; (try (first | (refine ixT hz rfl g' ?_ <;> try simp -implicitDefEqProofs only [e0, Timer.c, c0, c1, ru, ruc, rud, ru5, Nat.reduceLT, Nat.reduceEqDiff, reduceIte, Nat.reduceAdd, Nat.reduceLeDiff, Int.reduceEq, Int.reduceLT, Int.reduceLE, Int.reduceNeg]) | (refine lesser69 (x := p) (y := L[i]) ?_ <;> try simp -implicitDefEqProofs only [e0, Timer.c, c0, c1, ru, ruc, rud, ru5, Nat.reduceLT, Nat.reduceEqDiff, reduceIte, Nat.reduceAdd, Nat.reduceLeDiff, Int.reduceEq, Int.reduceLT, Int.reduceLE, Int.reduceNeg]) | (fail))); first | exact step_1 rfl | exact step_2 rfl (by assumption)) | (intro l' ; simp -implicitDefEqProofs only [Timer.c, c0, c1, ru, ruc, rud, ru5, Nat.reduceLT, Nat.reduceEqDiff, reduceIte, Nat.reduceAdd, Nat.reduceLeDiff, Int.reduceEq, Int.reduceLT, Int.reduceLE, Int.reduceNeg]; (try (first | (refine ixT hz rfl g' ?_ <;> try simp -implicitDefEqProofs only [Timer.c, c0, c1, ru, ruc, rud, ru5, Nat.reduceLT, Nat.reduceEqDiff, reduceIte, Nat.reduceAdd, Nat.reduceLeDiff, Int.reduceEq, Int.reduceLT, Int.reduceLE, Int.reduceNeg]) | (refine lesser69 (x := p) (y := L[i]) ?_ <;> try simp -implicitDefEqProofs only [Timer.c, c0, c1, ru, ruc, rud, ru5, Nat.reduceLT, Nat.reduceEqDiff, reduceIte, Nat.reduceAdd, Nat.reduceLeDiff, Int.reduceEq, Int.reduceLT, Int.reduceLE, Int.reduceNeg]) | (fail))); first | exact step_1 rfl | exact step_2 rfl (by assumption)))
            case' hK => simp -implicitDefEqProofs only [r28, c0, c1, ru, ruc, rud, ru5, Nat.reduceLT, Nat.reduceEqDiff, reduceIte, Nat.reduceAdd, Nat.reduceLeDiff, Int.reduceEq, Int.reduceLT, Int.reduceLE, Int.reduceNeg])
          all_goals first
            | (have him9 : i = m := by omega
               subst him9
               have hn : insTo L i (i + 1) p = insTo L i i p ++ [p] ++ [L[i]] := insTo_eq g'
               have hll : (insTo L i i p ++ [p]).length < 1000000 := by simp only [List.length_append, List.length_singleton]; omega
               have ha1 : (accV 3 Timer.c (insTo L i i p ++ [p])).owns = true ∨ ¬ (accV 3 Timer.c (insTo L i i p ++ [p])).owns = true := Classical.em _
               rcases ha with ha | ha
               all_goals (
                 simp -implicitDefEqProofs only [r28, Timer.c, bsl24q1, ha, accV_un, accU_ow, ru, ruc, rud, ru5, Nat.reduceLT, Nat.reduceEqDiff, reduceIte, Nat.reduceAdd, Nat.reduceLeDiff, Int.reduceEq, Int.reduceLT, Int.reduceLE, Int.reduceNeg]
                 refine app_acc (y := p) (by decide) T24 rfl T86 rfl (by decide) (by decide) (by omega) ?_
                 rcases ha1 with ha1 | ha1
                 all_goals (
                   simp -implicitDefEqProofs only [r28, ha, ha1, accV_un, accU_ow, ru, ruc, rud, ru5, Nat.reduceLT, Nat.reduceEqDiff, reduceIte, Nat.reduceAdd, Nat.reduceLeDiff, Int.reduceEq, Int.reduceLT, Int.reduceLE, Int.reduceNeg]
                   refine ixT hz rfl g' ?_
                   simp -implicitDefEqProofs only [r28, Timer.c, bsl24q1, ha, ha1, accV_un, accU_ow, ru, ruc, rud, ru5, Nat.reduceLT, Nat.reduceEqDiff, reduceIte, Nat.reduceAdd, Nat.reduceLeDiff, Int.reduceEq, Int.reduceLT, Int.reduceLE, Int.reduceNeg]
                   refine app_acc (y := L[i]) (by decide) T24 rfl T86 rfl (by decide) (by decide) hll ?_
                   rw [← hn]
                   rcases ha2 with ha2 | ha2
                   all_goals (
                     simp -implicitDefEqProofs only [r28, ha, ha1, ha2, accV_un, ru, ruc, rud, ru5, Nat.reduceLT, Nat.reduceEqDiff, reduceIte, Nat.reduceAdd, Nat.reduceLeDiff, Int.reduceEq, Int.reduceLT, Int.reduceLE, Int.reduceNeg]
                     refine next_normal (i + 1) (by omega) (by omega) rfl ?_ rfl rfl
                     simp [allIn, lk, AV.lb, AV.lb.lbs, accV_lb, wrap_i (show i < 9223372036854775807 by omega)]))))
            | (have him2 : i ≠ m := by omega
               have hn : insTo L m (i + 1) p = insTo L m i p ++ [L[i]] := insTo_lt him2 g'
               have hc9 : decide (m < i + 1) = decide (m < i) := by rw [decide_eq_decide]; omega
               rcases ha with ha | ha
               all_goals (
                 simp -implicitDefEqProofs only [r28, ha, accV_un, accU_ow, ru, ruc, rud, ru5, Nat.reduceLT, Nat.reduceEqDiff, reduceIte, Nat.reduceAdd, Nat.reduceLeDiff, Int.reduceEq, Int.reduceLT, Int.reduceLE, Int.reduceNeg]
                 refine ixT hz rfl g' ?_
                 simp -implicitDefEqProofs only [r28, Timer.c, bsl24q1, ha, accV_un, accU_ow, ru, ruc, rud, ru5, Nat.reduceLT, Nat.reduceEqDiff, reduceIte, Nat.reduceAdd, Nat.reduceLeDiff, Int.reduceEq, Int.reduceLT, Int.reduceLE, Int.reduceNeg]
                 refine app_acc (y := L[i]) (by decide) T24 rfl T86 rfl (by decide) (by decide) (by omega) ?_
                 rw [← hn]
                 rcases ha2 with ha2 | ha2
                 all_goals (
                   simp -implicitDefEqProofs only [r28, ha, ha2, accV_un, ru, ruc, rud, ru5, Nat.reduceLT, Nat.reduceEqDiff, reduceIte, Nat.reduceAdd, Nat.reduceLeDiff, Int.reduceEq, Int.reduceLT, Int.reduceLE, Int.reduceNeg]
                   refine next_normal (i + 1) (by omega) (by omega) rfl ?_ rfl rfl
                   simp [allIn, lk, AV.lb, AV.lb.lbs, accV_lb, hc9, c0, wrap_i (show i < 9223372036854775807 by omega)])))
        · simp only [decide_eq_false_iff_not] at g
          have e9 : i = L.length := by omega
          subst e9
          by_cases hm9 : m < L.length
          · have c0 : decide (m < L.length) = true := by simpa using hm9
            rw [insTo_end hm9] at ha ⊢
            obtain ⟨z', s', e1', hz'⟩ := accU_sl 3 Timer.c (insAt L m p)
            rcases ha with ha | ha
            all_goals (
              simp -implicitDefEqProofs only [r28, c0, ha, accV_un, accU_un, accU_nol, accV_nol, accU_ow, e1', bld35n, ru, ruc, rud, ru5, Nat.reduceLT, Nat.reduceEqDiff, reduceIte, Nat.reduceAdd, Nat.reduceLeDiff, Int.reduceEq, Int.reduceLT, Int.reduceLE, Int.reduceNeg]
              exact h4 z' s' ⟨hk.w, hk.c, hz'⟩)
          · have e8 : m = L.length := by omega
            subst e8
            have c0 : decide (L.length < L.length) = false := by simp
            have ha2 : (accV 3 Timer.c (insAt L L.length p)).owns = true ∨ ¬ (accV 3 Timer.c (insAt L L.length p)).owns = true := Classical.em _
            obtain ⟨z', s', e1', hz'⟩ := accU_sl 3 Timer.c (insAt L L.length p)
            rcases ha with ha | ha
            all_goals (
              simp -implicitDefEqProofs only [r28, c0, ha, Timer.c, bsl24q1, accV_un, accU_ow, ru, ruc, rud, ru5, Nat.reduceLT, Nat.reduceEqDiff, reduceIte, Nat.reduceAdd, Nat.reduceLeDiff, Int.reduceEq, Int.reduceLT, Int.reduceLE, Int.reduceNeg]
              refine app_acc (y := p) (by decide) T24 rfl T86 rfl (by decide) (by decide) (by omega) ?_
              rw [insTo_all]
              rcases ha2 with ha2 | ha2
              all_goals (
                simp -implicitDefEqProofs only [r28, ha, ha2, accV_un, accU_un, accU_nol, accV_nol, accU_ow, e1', bld35n, ru, ruc, rud, ru5, Nat.reduceLT, Nat.reduceEqDiff, reduceIte, Nat.reduceAdd, Nat.reduceLeDiff, Int.reduceEq, Int.reduceLT, Int.reduceLE, Int.reduceNeg]
                exact h4 z' s' ⟨hk.w, hk.c, hz'⟩))
end
end Go.Ab
end
section
/- Set, Stop and Tick, told in one; NetTimers. -/
set_option linter.unusedSimpArgs false
set_option linter.unusedVariables false
set_option maxRecDepth 100000
set_option maxHeartbeats 4000000
namespace Go.Ab

section
variable {C : CX} {h : List AObj} {K : AV → List AObj → Prop} {a b nd tg n ee : Int} {z1 z2 z3 : Bool} {s1 s2 s3 : Nat} {x y : Net}
theorem set27u (hk : Nk z1 s1 z2 s2 z3 s3 x) (hc : x.cuts.length < 1000000) (hr : resOf x (setE x nd tg n) (setG x nd tg n) y ee)
    (hK : ∀ z1 s1 z2 s2 z3 s3, Nk z1 s1 z2 s2 z3 s3 y → K (.tup [.agg [.int .i64 y.nodes, .int .i64 y.now, .int .i64 y.next, .sl z1 s1 (y.way.map Letter.c) .no, .sl z2 s2 (y.cuts.map Link.c) .no, .sl z3 s3 (y.timers.map Timer.c) .no], .int .i64 ee]) h) : ACall C Pg 27 [.agg [.int .i64 x.nodes, .int .i64 x.now, .int .i64 x.next, .sl z1 s1 (x.way.map Letter.c) .no, .sl z2 s2 (x.cuts.map Link.c) .no, .sl z3 s3 (x.timers.map Timer.c) .no], .int .i64 nd, .int .i64 tg, .int .i64 n] h K := by
  refine set27g hk hc (fun w => ?_) (fun w he => ?_) (fun w he z1 s1 z2 s2 z3 s3 hk2 => ?_)
  · rcases hr with ⟨_, rfl, rfl⟩ | ⟨w2, _⟩ | ⟨w2, _⟩
    · exact hK _ _ _ _ _ _ nkZ
    · exact absurd w2 w
    · exact absurd w2 w
  · rcases hr with ⟨w2, _⟩ | ⟨_, _, rfl, rfl⟩ | ⟨_, h0, _⟩
    · exact absurd w w2
    · exact hK _ _ _ _ _ _ nkZ
    · exact absurd h0 he
  · rcases hr with ⟨w2, _⟩ | ⟨_, h0, _⟩ | ⟨_, _, rfl, rfl⟩
    · exact absurd w w2
    · exact absurd he h0
    · exact hK _ _ _ _ _ _ hk2
theorem rset28u (hk : Nk z1 s1 z2 s2 z3 s3 x) (hc : x.cuts.length < 1000000) (hr : resOf x (setE x nd tg n) (setG x nd tg n) y ee)
    (hK : ∀ z1 s1 z2 s2 z3 s3, Nk z1 s1 z2 s2 z3 s3 y → K (.agg ([.int .i64 y.nodes, .int .i64 y.now, .int .i64 y.next, .sl z1 s1 (y.way.map Letter.c) .no, .sl z2 s2 (y.cuts.map Link.c) .no, .sl z3 s3 (y.timers.map Timer.c) .no] ++ [.int .i64 0, .int .i64 0, .int .i64 0, .int .i64 0, .int .i64 0, .str [], .sl true 0 [] .no, .int .i64 ee])) h) : ACall C Pg 28 [.agg [.int .i64 x.nodes, .int .i64 x.now, .int .i64 x.next, .sl z1 s1 (x.way.map Letter.c) .no, .sl z2 s2 (x.cuts.map Link.c) .no, .sl z3 s3 (x.timers.map Timer.c) .no], .int .i64 nd, .int .i64 tg, .int .i64 n] h K := by
  refine rset28 hk hc (fun w => ?_) (fun w he => ?_) (fun w he z3 s3 hk2 => ?_)
  · rcases hr with ⟨_, rfl, rfl⟩ | ⟨w2, _⟩ | ⟨w2, _⟩
    · exact hK _ _ _ _ _ _ nkZ
    · exact absurd w2 w
    · exact absurd w2 w
  · rcases hr with ⟨w2, _⟩ | ⟨_, _, rfl, rfl⟩ | ⟨_, h0, _⟩
    · exact absurd w w2
    · exact hK _ _ _ _ _ _ nkZ
    · exact absurd h0 he
  · rcases hr with ⟨w2, _⟩ | ⟨_, h0, _⟩ | ⟨_, _, rfl, rfl⟩
    · exact absurd w w2
    · exact absurd he h0
    · exact hK _ _ _ _ _ _ hk2
theorem stop29u (hk : Nk z1 s1 z2 s2 z3 s3 x) (hc : x.cuts.length < 1000000) (hr : resOf x (stopE x nd tg) (stopG x nd tg) y ee)
    (hK : ∀ z1 s1 z2 s2 z3 s3, Nk z1 s1 z2 s2 z3 s3 y → K (.tup [.agg [.int .i64 y.nodes, .int .i64 y.now, .int .i64 y.next, .sl z1 s1 (y.way.map Letter.c) .no, .sl z2 s2 (y.cuts.map Link.c) .no, .sl z3 s3 (y.timers.map Timer.c) .no], .int .i64 ee]) h) : ACall C Pg 29 [.agg [.int .i64 x.nodes, .int .i64 x.now, .int .i64 x.next, .sl z1 s1 (x.way.map Letter.c) .no, .sl z2 s2 (x.cuts.map Link.c) .no, .sl z3 s3 (x.timers.map Timer.c) .no], .int .i64 nd, .int .i64 tg] h K := by
  refine stop29g hk hc (fun w => ?_) (fun w he => ?_) (fun w he z1 s1 z2 s2 z3 s3 hk2 => ?_)
  · rcases hr with ⟨_, rfl, rfl⟩ | ⟨w2, _⟩ | ⟨w2, _⟩
    · exact hK _ _ _ _ _ _ nkZ
    · exact absurd w2 w
    · exact absurd w2 w
  · rcases hr with ⟨w2, _⟩ | ⟨_, _, rfl, rfl⟩ | ⟨_, h0, _⟩
    · exact absurd w w2
    · exact hK _ _ _ _ _ _ nkZ
    · exact absurd h0 he
  · rcases hr with ⟨w2, _⟩ | ⟨_, h0, _⟩ | ⟨_, _, rfl, rfl⟩
    · exact absurd w w2
    · exact absurd he h0
    · exact hK _ _ _ _ _ _ hk2
theorem rstop30u (hk : Nk z1 s1 z2 s2 z3 s3 x) (hc : x.cuts.length < 1000000) (hr : resOf x (stopE x nd tg) (stopG x nd tg) y ee)
    (hK : ∀ z1 s1 z2 s2 z3 s3, Nk z1 s1 z2 s2 z3 s3 y → K (.agg ([.int .i64 y.nodes, .int .i64 y.now, .int .i64 y.next, .sl z1 s1 (y.way.map Letter.c) .no, .sl z2 s2 (y.cuts.map Link.c) .no, .sl z3 s3 (y.timers.map Timer.c) .no] ++ [.int .i64 0, .int .i64 0, .int .i64 0, .int .i64 0, .int .i64 0, .str [], .sl true 0 [] .no, .int .i64 ee])) h) : ACall C Pg 30 [.agg [.int .i64 x.nodes, .int .i64 x.now, .int .i64 x.next, .sl z1 s1 (x.way.map Letter.c) .no, .sl z2 s2 (x.cuts.map Link.c) .no, .sl z3 s3 (x.timers.map Timer.c) .no], .int .i64 nd, .int .i64 tg] h K := by
  refine rstop30 hk hc (fun w => ?_) (fun w he => ?_) (fun w he z3 s3 hk2 => ?_)
  · rcases hr with ⟨_, rfl, rfl⟩ | ⟨w2, _⟩ | ⟨w2, _⟩
    · exact hK _ _ _ _ _ _ nkZ
    · exact absurd w2 w
    · exact absurd w2 w
  · rcases hr with ⟨w2, _⟩ | ⟨_, _, rfl, rfl⟩ | ⟨_, h0, _⟩
    · exact absurd w w2
    · exact hK _ _ _ _ _ _ nkZ
    · exact absurd h0 he
  · rcases hr with ⟨w2, _⟩ | ⟨_, h0, _⟩ | ⟨_, _, rfl, rfl⟩
    · exact absurd w w2
    · exact absurd he h0
    · exact hK _ _ _ _ _ _ hk2

def firedOf (x : Net) (ee : Int) : List Timer := if ee = 0 then tickF x else []
theorem tick31u (hk : Nk z1 s1 z2 s2 z3 s3 x) (hc : x.cuts.length < 1000000) (hr : resOf x (tickE x) (tickG x) y ee)
    (hK : ∀ z1 s1 z2 s2 z3 s3 z4 s4, Nk z1 s1 z2 s2 z3 s3 y → Slk z4 s4 3 (firedOf x ee).length → K (.tup [.agg [.int .i64 y.nodes, .int .i64 y.now, .int .i64 y.next, .sl z1 s1 (y.way.map Letter.c) .no, .sl z2 s2 (y.cuts.map Link.c) .no, .sl z3 s3 (y.timers.map Timer.c) .no], .sl z4 s4 ((firedOf x ee).map Timer.c) .no, .int .i64 ee]) h) : ACall C Pg 31 [.agg [.int .i64 x.nodes, .int .i64 x.now, .int .i64 x.next, .sl z1 s1 (x.way.map Letter.c) .no, .sl z2 s2 (x.cuts.map Link.c) .no, .sl z3 s3 (x.timers.map Timer.c) .no]] h K := by
  refine tick31g hk hc (fun w => ?_) (fun w he => ?_) (fun w he z1 s1 z2 s2 z3 s3 hk2 => ?_)
  · rcases hr with ⟨_, rfl, rfl⟩ | ⟨w2, _⟩ | ⟨w2, _⟩
    · exact hK _ _ _ _ _ _ true 0 nkZ ⟨by simp [firedOf], by simp⟩
    · exact absurd w2 w
    · exact absurd w2 w
  · rcases hr with ⟨w2, _⟩ | ⟨_, h1, rfl, rfl⟩ | ⟨_, h0, _⟩
    · exact absurd w w2
    · have e : firedOf x (tickE x) = [] := if_neg h1
      have := hK _ _ _ _ _ _ true 0 nkZ ⟨by simp [e], by simp⟩
      rw [e] at this
      exact this
    · exact absurd h0 he
  · rcases hr with ⟨w2, _⟩ | ⟨_, h0, _⟩ | ⟨_, _, rfl, rfl⟩
    · exact absurd w w2
    · exact absurd he h0
    · obtain ⟨z4, s4, e4, hz⟩ := accU_sl 3 Timer.c (tickF x)
      rw [e4]
      exact hK _ _ _ _ _ _ z4 s4 hk2 hz
theorem rtick32u (hk : Nk z1 s1 z2 s2 z3 s3 x) (hc : x.cuts.length < 1000000) (hr : resOf x (tickE x) (tickG x) y ee)
    (hK : ∀ z1 s1 z2 s2 z3 s3 z4 s4, Nk z1 s1 z2 s2 z3 s3 y → Slk z4 s4 3 (firedOf x ee).length → K (.agg ([.int .i64 y.nodes, .int .i64 y.now, .int .i64 y.next, .sl z1 s1 (y.way.map Letter.c) .no, .sl z2 s2 (y.cuts.map Link.c) .no, .sl z3 s3 (y.timers.map Timer.c) .no] ++ [.int .i64 0, .int .i64 0, .int .i64 0, .int .i64 0, .int .i64 0, .str [], .sl z4 s4 ((firedOf x ee).map Timer.c) .no, .int .i64 ee])) h) : ACall C Pg 32 [.agg [.int .i64 x.nodes, .int .i64 x.now, .int .i64 x.next, .sl z1 s1 (x.way.map Letter.c) .no, .sl z2 s2 (x.cuts.map Link.c) .no, .sl z3 s3 (x.timers.map Timer.c) .no]] h K := by
  refine rtick32 hk hc (fun w => ?_) (fun w he => ?_) (fun w he z3 s3 z4 s4 hk2 hz => ?_)
  · rcases hr with ⟨_, rfl, rfl⟩ | ⟨w2, _⟩ | ⟨w2, _⟩
    · exact hK _ _ _ _ _ _ true 0 nkZ ⟨by simp [firedOf], by simp⟩
    · exact absurd w2 w
    · exact absurd w2 w
  · rcases hr with ⟨w2, _⟩ | ⟨_, h1, rfl, rfl⟩ | ⟨_, h0, _⟩
    · exact absurd w w2
    · have e : firedOf x (tickE x) = [] := if_neg h1
      have := hK _ _ _ _ _ _ true 0 nkZ ⟨by simp [e], by simp⟩
      rw [e] at this
      exact this
    · exact absurd h0 he
  · rcases hr with ⟨w2, _⟩ | ⟨_, h0, _⟩ | ⟨_, _, rfl, rfl⟩
    · exact absurd w w2
    · exact absurd he h0
    · exact hK _ _ _ _ _ _ z4 s4 hk2 hz
theorem firedOf_len (x : Net) (ee : Int) : (firedOf x ee).length ≤ x.timers.length := by
  unfold firedOf tickF
  split
  · exact List.length_filter_le ..
  · simp
theorem timers6 (hk : Nk z1 s1 z2 s2 z3 s3 x) (hK : K (.bool true) h) : ACall C Pg 6 [.agg [.int .i64 x.nodes, .int .i64 x.now, .int .i64 x.next, .sl z1 s1 (x.way.map Letter.c) .no, .sl z2 s2 (x.cuts.map Link.c) .no, .sl z3 s3 (x.timers.map Timer.c) .no], .int .i64 nd, .int .i64 tg, .int .i64 n] h K := by
  refine run6 ?_; simp -implicitDefEqProofs only [b6, r6, ru, ruc, rud, ru5, Nat.reduceLT, Nat.reduceEqDiff, reduceIte, Nat.reduceAdd, Nat.reduceLeDiff, Int.reduceEq, Int.reduceLT, Int.reduceLE, Int.reduceNeg]
  refine small12 hk (fun hs => ?_) (fun hs => ?_)
  · simp -implicitDefEqProofs only [r6, ru, ruc, rud, ru5, Nat.reduceLT, Nat.reduceEqDiff, reduceIte, Nat.reduceAdd, Nat.reduceLeDiff, Int.reduceEq, Int.reduceLT, Int.reduceLE, Int.reduceNeg]
    have hcu : x.cuts.length < 1000000 := by have := hs.2.1; omega
    have htm := hs.2.2.1
    obtain ⟨y1, e1, hr1⟩ := resOf.ex x (setE x nd tg n) (setG x nd tg n)
    obtain ⟨y2, e2, hr2⟩ := resOf.ex x (stopE x nd tg) (stopG x nd tg)
    obtain ⟨y3, e3, hr3⟩ := resOf.ex x (tickE x) (tickG x)
    have l1 := hr1.lens (fun w h => w.set h)
    have l2 := hr2.lens (fun w h => w.stop)
    have l3 := hr3.lens (fun w h => w.tick h)
    have lf := firedOf_len x e3
    refine set27u hk hcu hr1 fun p1 q1 p2 q2 p3 q3 hk1 => ?_
    simp -implicitDefEqProofs only [r6, ru, ruc, rud, ru5, Nat.reduceLT, Nat.reduceEqDiff, reduceIte, Nat.reduceAdd, Nat.reduceLeDiff, Int.reduceEq, Int.reduceLT, Int.reduceLE, Int.reduceNeg]
    refine rset28u hk hcu hr1 fun u1 v1 u2 v2 u3 v3 hk2 => ?_
    simp -implicitDefEqProofs only [r6, ru, ruc, rud, ru5, Nat.reduceLT, Nat.reduceEqDiff, reduceIte, Nat.reduceAdd, Nat.reduceLeDiff, Int.reduceEq, Int.reduceLT, Int.reduceLE, Int.reduceNeg]
    refine stop29u hk hcu hr2 fun p4 q4 p5 q5 p6 q6 hk3 => ?_
    simp -implicitDefEqProofs only [r6, ru, ruc, rud, ru5, Nat.reduceLT, Nat.reduceEqDiff, reduceIte, Nat.reduceAdd, Nat.reduceLeDiff, Int.reduceEq, Int.reduceLT, Int.reduceLE, Int.reduceNeg]
    refine rstop30u hk hcu hr2 fun u4 v4 u5 v5 u6 v6 hk4 => ?_
    simp -implicitDefEqProofs only [r6, ru, ruc, rud, ru5, Nat.reduceLT, Nat.reduceEqDiff, reduceIte, Nat.reduceAdd, Nat.reduceLeDiff, Int.reduceEq, Int.reduceLT, Int.reduceLE, Int.reduceNeg]
    refine tick31u hk hcu hr3 fun p7 q7 p8 q8 p9 q9 pa qa hk5 hz5 => ?_
    simp -implicitDefEqProofs only [r6, ru, ruc, rud, ru5, Nat.reduceLT, Nat.reduceEqDiff, reduceIte, Nat.reduceAdd, Nat.reduceLeDiff, Int.reduceEq, Int.reduceLT, Int.reduceLE, Int.reduceNeg]
    refine rtick32u hk hcu hr3 fun u7 v7 u8 v8 u9 v9 ua va hk6 hz6 => ?_
    simp -implicitDefEqProofs only [r6, ru, ruc, rud, ru5, Nat.reduceLT, Nat.reduceEqDiff, reduceIte, Nat.reduceAdd, Nat.reduceLeDiff, Int.reduceEq, Int.reduceLT, Int.reduceLE, Int.reduceNeg]
    refine sane13 ?_
    simp -implicitDefEqProofs only [r6, ru, ruc, rud, ru5, Nat.reduceLT, Nat.reduceEqDiff, reduceIte, Nat.reduceAdd, Nat.reduceLeDiff, Int.reduceEq, Int.reduceLT, Int.reduceLE, Int.reduceNeg]
    refine same18 hk1 hk2 l1.1 l1.2.1 l1.2.2 ?_
    simp -implicitDefEqProofs only [r6, ru, ruc, rud, ru5, Nat.reduceLT, Nat.reduceEqDiff, reduceIte, Nat.reduceAdd, Nat.reduceLeDiff, Int.reduceEq, Int.reduceLT, Int.reduceLE, Int.reduceNeg]
    refine same18 hk3 hk4 l2.1 l2.2.1 l2.2.2 ?_
    simp -implicitDefEqProofs only [r6, ru, ruc, rud, ru5, Nat.reduceLT, Nat.reduceEqDiff, reduceIte, Nat.reduceAdd, Nat.reduceLeDiff, Int.reduceEq, Int.reduceLT, Int.reduceLE, Int.reduceNeg]
    refine same18 hk5 hk6 l3.1 l3.2.1 l3.2.2 ?_
    simp -implicitDefEqProofs only [r6, ru, ruc, rud, ru5, Nat.reduceLT, Nat.reduceEqDiff, reduceIte, Nat.reduceAdd, Nat.reduceLeDiff, Int.reduceEq, Int.reduceLT, Int.reduceLE, Int.reduceNeg]
    refine same33 hz5 hz6 (by omega) ?_
    simp -implicitDefEqProofs only [r6, ru, ruc, rud, ru5, Nat.reduceLT, Nat.reduceEqDiff, reduceIte, Nat.reduceAdd, Nat.reduceLeDiff, Int.reduceEq, Int.reduceLT, Int.reduceLE, Int.reduceNeg]
    exact hK
  · simp -implicitDefEqProofs only [r6, ru, ruc, rud, ru5, Nat.reduceLT, Nat.reduceEqDiff, reduceIte, Nat.reduceAdd, Nat.reduceLeDiff, Int.reduceEq, Int.reduceLT, Int.reduceLE, Int.reduceNeg]
    refine sane13 ?_
    simp -implicitDefEqProofs only [r6, ru, ruc, rud, ru5, Nat.reduceLT, Nat.reduceEqDiff, reduceIte, Nat.reduceAdd, Nat.reduceLeDiff, Int.reduceEq, Int.reduceLT, Int.reduceLE, Int.reduceNeg]
    exact hK
end
end Go.Ab
end
