/- One text out of several: see the remark at the head of each part. -/
import Derived.Test.YtpjcpmmcaccgiaaBs4
set_option linter.all false
section
/- The program's functions as lists of items. -/
set_option maxRecDepth 100000
namespace Go.Ab
section
variable {C : CX} {d : AV} {l : List (Nat × AV)} {bx bx' : List (List AV)} {h h' : List AObj} {s : ASt} {K : Exit → ASt → Prop}
theorem r3 : Go.Proofs.Try.f3.results.toList = [.tmp 4] := by kernel_rfl
noncomputable def b13 : List It := [.o (some 0) (.tk (.const (.bool false))) none, .o (some 26) (.call 14 [.c (.int .i64 3)]) none, .o (some 25) (.mv (.t 26)) none, .o (some 27) (.ext (.t 25) 0) none, .o (some 28) (.ext (.t 25) 1) none, .o (some 1) (.alloc false [.int .i64 0, .int .i64 0, .int .i64 0, .sl true 0 [] .own, .sl true 0 [] .own, .sl true 0 [] .own]) none, .o none (.st 6 (.t 1) (.tmp 27)) none, .o (some 2) (.tk (.tmp 28)) none, .o (some 30) (.call 14 [.c (.int .i64 0)]) none, .o (some 29) (.mv (.t 30)) none, .o (some 31) (.ext (.t 29) 0) none, .o (some 32) (.ext (.t 29) 1) none, .o (some 3) (.alloc false [.int .i64 0, .int .i64 0, .int .i64 0, .sl true 0 [] .own, .sl true 0 [] .own, .sl true 0 [] .own]) none, .o none (.st 6 (.t 3) (.tmp 31)) none, .o (some 4) (.tk (.tmp 32)) none, .o (some 33) (.mv (.t 2)) none, .o (some 34) (.eq1 (.int .i64) true (.t 33) (.c (.int .i64 0))) none, .o (some 35) (.mv (.t 34)) none, .o (some 36) (.mv (.t 4)) (some (some 35, false)), .o (some 37) (.eq1 (.int .i64) true (.t 36) (.c (.int .i64 1))) (some (some 35, false)), .o (some 38) (.pick (.t 35) (.c (.bool true)) (.t 37)) none, .o (some 39) (.mv (.t 38)) none, .o (some 40) (.fa 0 (.t 1)) (some (some 39, false)), .o (some 41) (.ld1 (.int .i64) (.t 40)) (some (some 39, false)), .o (some 42) (.eq1 (.int .i64) true (.t 41) (.c (.int .i64 3))) (some (some 39, false)), .o (some 43) (.pick (.t 39) (.c (.bool true)) (.t 42)) none, .cond (.tmp 43) [.o (some 0) (.tk (.const (.bool false))) none, .ret] [], .o (some 45) (.ldA 6 [.int .i64, .int .i64, .int .i64, .slice 33, .slice 100, .slice 86] (.t 1)) none, .o (some 46) (.call 42 [.t 45, .c (.int .i64 0), .c (.int .i64 2), .c (.str [(97 : UInt8)])]) none, .o (some 44) (.mv (.t 46)) none, .o (some 47) (.ext (.t 44) 0) none, .o (some 48) (.ext (.t 44) 1) none, .o (some 49) (.ext (.t 44) 2) none, .o (some 5) (.alloc false [.int .i64 0, .int .i64 0, .int .i64 0, .sl true 0 [] .own, .sl true 0 [] .own, .sl true 0 [] .own]) none, .o none (.st 6 (.t 5) (.tmp 47)) none, .o (some 6) (.tk (.tmp 48)) none, .o (some 2) (.tk (.tmp 49)) none, .o (some 51) (.ldA 6 [.int .i64, .int .i64, .int .i64, .slice 33, .slice 100, .slice 86] (.t 5)) none, .o (some 52) (.call 35 [.t 51, .c (.int .i64 0)]) none, .o (some 50) (.mv (.t 52)) none, .o (some 53) (.ext (.t 50) 0) none, .o (some 54) (.ext (.t 50) 1) none, .o (some 55) (.ext (.t 50) 2) none, .o (some 7) (.alloc false [.int .i64 0, .int .i64 0, .int .i64 0, .sl true 0 [] .own, .sl true 0 [] .own, .sl true 0 [] .own]) none, .o (some 8) (.alloc false [.int .i64 0, .int .i64 0, .int .i64 0, .int .i64 0, .str []]) none, .o none (.st 6 (.t 7) (.tmp 53)) none, .o none (.st 5 (.t 8) (.tmp 54)) none, .o (some 9) (.tk (.tmp 55)) none, .o (some 57) (.ldA 6 [.int .i64, .int .i64, .int .i64, .slice 33, .slice 100, .slice 86] (.t 7)) none, .o (some 58) (.call 35 [.t 57, .c (.int .i64 0)]) none, .o (some 56) (.mv (.t 58)) none, .o (some 59) (.ext (.t 56) 0) none, .o (some 60) (.ext (.t 56) 1) none, .o (some 61) (.ext (.t 56) 2) none, .o (some 10) (.alloc false [.int .i64 0, .int .i64 0, .int .i64 0, .sl true 0 [] .own, .sl true 0 [] .own, .sl true 0 [] .own]) none, .o (some 11) (.alloc false [.int .i64 0, .int .i64 0, .int .i64 0, .int .i64 0, .str []]) none, .o none (.st 6 (.t 10) (.tmp 59)) none, .o none (.st 5 (.t 11) (.tmp 60)) none, .o (some 12) (.tk (.tmp 61)) none, .o (some 62) (.mv (.t 2)) none, .o (some 63) (.eq1 (.int .i64) true (.t 62) (.c (.int .i64 0))) none, .o (some 64) (.mv (.t 63)) none, .o (some 65) (.mv (.t 6)) (some (some 64, false)), .o (some 66) (.eq1 (.int .i64) true (.t 65) (.c (.int .i64 0))) (some (some 64, false)), .o (some 67) (.pick (.t 64) (.c (.bool true)) (.t 66)) none, .o (some 68) (.mv (.t 67)) none, .o (some 69) (.mv (.t 9)) (some (some 68, false)), .o (some 70) (.eq1 (.int .i64) true (.t 69) (.c (.int .i64 0))) (some (some 68, false)), .o (some 71) (.pick (.t 68) (.c (.bool true)) (.t 70)) none, .o (some 72) (.mv (.t 71)) none, .o (some 73) (.mv (.t 12)) (some (some 72, false)), .o (some 74) (.eq1 (.int .i64) true (.t 73) (.c (.int .i64 4))) (some (some 72, false)), .o (some 75) (.pick (.t 72) (.c (.bool true)) (.t 74)) none, .o (some 76) (.mv (.t 75)) none, .o (some 77) (.fa 4 (.t 8)) (some (some 76, false)), .o (some 78) (.ld1 .str (.t 77)) (some (some 76, false)), .o (some 79) (.eq1 .str true (.t 78) (.c (.str [(97 : UInt8)]))) (some (some 76, false)), .o (some 80) (.pick (.t 76) (.c (.bool true)) (.t 79)) none, .o (some 81) (.mv (.t 80)) none, .o (some 82) (.fa 2 (.t 8)) (some (some 81, false)), .o (some 83) (.ld1 (.int .i64) (.t 82)) (some (some 81, false)), .o (some 84) (.eq1 (.int .i64) true (.t 83) (.c (.int .i64 2))) (some (some 81, false)), .o (some 85) (.pick (.t 81) (.c (.bool true)) (.t 84)) none, .o (some 86) (.mv (.t 85)) none, .o (some 87) (.fa 3 (.t 5)) (some (some 86, false)), .o (some 88) (.ld1 (.slice 33) (.t 87)) (some (some 86, false)), .o (some 89) (.lens (.t 88)) (some (some 86, false)), .o (some 90) (.eq1 (.int .i64) true (.t 89) (.c (.int .i64 1))) (some (some 86, false)), .o (some 91) (.pick (.t 86) (.c (.bool true)) (.t 90)) none, .o (some 92) (.mv (.t 91)) none, .o (some 93) (.fa 3 (.t 7)) (some (some 92, false)), .o (some 94) (.ld1 (.slice 33) (.t 93)) (some (some 92, false)), .o (some 95) (.lens (.t 94)) (some (some 92, false)), .o (some 96) (.eq1 (.int .i64) true (.t 95) (.c (.int .i64 0))) (some (some 92, false)), .o (some 97) (.pick (.t 92) (.c (.bool true)) (.t 96)) none, .o (some 98) (.mv (.t 97)) none, .o (some 99) (.fa 2 (.t 7)) (some (some 98, false)), .o (some 100) (.ld1 (.int .i64) (.t 99)) (some (some 98, false)), .o (some 101) (.eq1 (.int .i64) true (.t 100) (.c (.int .i64 1))) (some (some 98, false)), .o (some 102) (.pick (.t 98) (.c (.bool true)) (.t 101)) none, .cond (.tmp 102) [.o (some 0) (.tk (.const (.bool false))) none, .ret] [], .o (some 104) (.ldA 6 [.int .i64, .int .i64, .int .i64, .slice 33, .slice 100, .slice 86] (.t 5)) none, .o (some 105) (.call 43 [.t 104, .c (.int .i64 0), .c (.int .i64 2)]) none, .o (some 103) (.mv (.t 105)) none, .o (some 106) (.ext (.t 103) 0) none, .o (some 107) (.ext (.t 103) 1) none, .o (some 13) (.alloc false [.int .i64 0, .int .i64 0, .int .i64 0, .sl true 0 [] .own, .sl true 0 [] .own, .sl true 0 [] .own]) none, .o none (.st 6 (.t 13) (.tmp 106)) none, .o (some 2) (.tk (.tmp 107)) none, .o (some 109) (.ldA 6 [.int .i64, .int .i64, .int .i64, .slice 33, .slice 100, .slice 86] (.t 13)) none, .o (some 110) (.call 35 [.t 109, .c (.int .i64 0)]) none, .o (some 108) (.mv (.t 110)) none, .o (some 111) (.ext (.t 108) 0) none, .o (some 112) (.ext (.t 108) 1) none, .o (some 113) (.ext (.t 108) 2) none, .o (some 9) (.tk (.tmp 113)) none, .o (some 115) (.ldA 6 [.int .i64, .int .i64, .int .i64, .slice 33, .slice 100, .slice 86] (.t 5)) none, .o (some 116) (.call 23 [.t 115, .c (.int .i64 2), .c (.int .i64 0)]) none, .o (some 114) (.mv (.t 116)) none, .o (some 117) (.ext (.t 114) 0) none, .o (some 118) (.ext (.t 114) 1) none, .o (some 14) (.alloc false [.int .i64 0, .int .i64 0, .int .i64 0, .sl true 0 [] .own, .sl true 0 [] .own, .sl true 0 [] .own]) none, .o none (.st 6 (.t 14) (.tmp 117)) none, .o (some 12) (.tk (.tmp 118)) none, .o (some 120) (.ldA 6 [.int .i64, .int .i64, .int .i64, .slice 33, .slice 100, .slice 86] (.t 14)) none, .o (some 121) (.call 23 [.t 120, .c (.int .i64 0), .c (.int .i64 2)]) none, .o (some 119) (.mv (.t 121)) none, .o (some 122) (.ext (.t 119) 0) none, .o (some 123) (.ext (.t 119) 1) none, .o (some 15) (.alloc false [.int .i64 0, .int .i64 0, .int .i64 0, .sl true 0 [] .own, .sl true 0 [] .own, .sl true 0 [] .own]) none, .o none (.st 6 (.t 15) (.tmp 122)) none, .o (some 16) (.tk (.tmp 123)) none, .o (some 125) (.ldA 6 [.int .i64, .int .i64, .int .i64, .slice 33, .slice 100, .slice 86] (.t 14)) none, .o (some 126) (.call 16 [.t 125]) none, .o (some 124) (.mv (.t 126)) none, .o (some 127) (.ext (.t 124) 0) none, .o (some 128) (.ext (.t 124) 1) none, .o (some 17) (.tk (.tmp 127)) none, .o (some 18) (.tk (.tmp 128)) none, .o (some 129) (.mv (.t 2)) none, .o (some 130) (.eq1 (.int .i64) true (.t 129) (.c (.int .i64 0))) none, .o (some 131) (.mv (.t 130)) none, .o (some 132) (.mv (.t 9)) (some (some 131, false)), .o (some 133) (.eq1 (.int .i64) true (.t 132) (.c (.int .i64 6))) (some (some 131, false)), .o (some 134) (.pick (.t 131) (.c (.bool true)) (.t 133)) none, .o (some 135) (.mv (.t 134)) none, .o (some 136) (.mv (.t 12)) (some (some 135, false)), .o (some 137) (.eq1 (.int .i64) true (.t 136) (.c (.int .i64 0))) (some (some 135, false)), .o (some 138) (.pick (.t 135) (.c (.bool true)) (.t 137)) none, .o (some 139) (.mv (.t 138)) none, .o (some 140) (.mv (.t 16)) (some (some 139, false)), .o (some 141) (.eq1 (.int .i64) true (.t 140) (.c (.int .i64 5))) (some (some 139, false)), .o (some 142) (.pick (.t 139) (.c (.bool true)) (.t 141)) none, .o (some 143) (.mv (.t 142)) none, .o (some 144) (.mv (.t 18)) (some (some 143, false)), .o (some 145) (.eq1 (.int .i64) true (.t 144) (.c (.int .i64 0))) (some (some 143, false)), .o (some 146) (.pick (.t 143) (.c (.bool true)) (.t 145)) none, .o (some 147) (.mv (.t 146)) none, .o (some 148) (.mv (.t 17)) (some (some 147, false)), .o (some 149) (.lens (.t 148)) (some (some 147, false)), .o (some 150) (.eq1 (.int .i64) true (.t 149) (.c (.int .i64 0))) (some (some 147, false)), .o (some 151) (.pick (.t 147) (.c (.bool true)) (.t 150)) none, .cond (.tmp 151) [.o (some 0) (.tk (.const (.bool false))) none, .ret] [], .o (some 153) (.ldA 6 [.int .i64, .int .i64, .int .i64, .slice 33, .slice 100, .slice 86] (.t 1)) none, .o (some 154) (.call 27 [.t 153, .c (.int .i64 1), .c (.int .i64 7), .c (.int .i64 2)]) none, .o (some 152) (.mv (.t 154)) none, .o (some 155) (.ext (.t 152) 0) none, .o (some 156) (.ext (.t 152) 1) none, .o (some 19) (.alloc false [.int .i64 0, .int .i64 0, .int .i64 0, .sl true 0 [] .own, .sl true 0 [] .own, .sl true 0 [] .own]) none, .o none (.st 6 (.t 19) (.tmp 155)) none, .o (some 2) (.tk (.tmp 156)) none, .o (some 158) (.ldA 6 [.int .i64, .int .i64, .int .i64, .slice 33, .slice 100, .slice 86] (.t 19)) none, .o (some 159) (.call 31 [.t 158]) none, .o (some 157) (.mv (.t 159)) none, .o (some 160) (.ext (.t 157) 0) none, .o (some 161) (.ext (.t 157) 1) none, .o (some 162) (.ext (.t 157) 2) none, .o none (.st 6 (.t 19) (.tmp 160)) none, .o (some 20) (.tk (.tmp 161)) none, .o (some 9) (.tk (.tmp 162)) none, .o (some 164) (.ldA 6 [.int .i64, .int .i64, .int .i64, .slice 33, .slice 100, .slice 86] (.t 19)) none, .o (some 165) (.call 31 [.t 164]) none, .o (some 163) (.mv (.t 165)) none, .o (some 166) (.ext (.t 163) 0) none, .o (some 167) (.ext (.t 163) 1) none, .o (some 168) (.ext (.t 163) 2) none, .o (some 21) (.alloc false [.int .i64 0, .int .i64 0, .int .i64 0, .sl true 0 [] .own, .sl true 0 [] .own, .sl true 0 [] .own]) none, .o none (.st 6 (.t 21) (.tmp 166)) none, .o (some 22) (.tk (.tmp 167)) none, .o (some 12) (.tk (.tmp 168)) none, .o (some 170) (.ldA 6 [.int .i64, .int .i64, .int .i64, .slice 33, .slice 100, .slice 86] (.t 1)) none, .o (some 171) (.call 42 [.t 170, .c (.int .i64 1), .c (.int .i64 1), .c (.str [])]) none, .o (some 169) (.mv (.t 171)) none, .o (some 172) (.ext (.t 169) 0) none, .o (some 173) (.ext (.t 169) 1) none, .o (some 174) (.ext (.t 169) 2) none, .o (some 16) (.tk (.tmp 174)) none, .o (some 176) (.bld 53 [(0, .c (.int .i64 1)), (2, .c (.int .i64 1))]) none, .o (some 177) (.bld 53 [(0, .c (.int .i64 4))]) none, .o (some 178) (.bld 53 [(0, .c (.int .i64 2)), (3, .c (.int .i64 1))]) none, .o (some 179) (.bsl false 46 3 [(0, .t 176), (1, .t 177), (2, .t 178)]) none, .o (some 180) (.call 22 [.c (.int .i64 2), .t 179]) none, .o (some 175) (.mv (.t 180)) none, .o (some 181) (.ext (.t 175) 0) none, .o (some 182) (.ext (.t 175) 1) none, .o (some 183) (.ext (.t 175) 2) none, .o (some 23) (.alloc false [.int .i64 0, .int .i64 0, .int .i64 0, .sl true 0 [] .own, .sl true 0 [] .own, .sl true 0 [] .own]) none, .o none (.st 6 (.t 23) (.tmp 181)) none, .o (some 24) (.tk (.tmp 182)) none, .o (some 18) (.tk (.tmp 183)) none, .o (some 184) (.mv (.t 2)) none, .o (some 185) (.eq1 (.int .i64) false (.t 184) (.c (.int .i64 0))) none, .o (some 186) (.mv (.t 185)) none, .o (some 187) (.mv (.t 9)) (some (some 186, true)), .o (some 188) (.eq1 (.int .i64) false (.t 187) (.c (.int .i64 0))) (some (some 186, true)), .o (some 189) (.pick (.t 186) (.t 188) (.c (.bool false))) none, .o (some 190) (.mv (.t 189)) none, .o (some 191) (.mv (.t 12)) (some (some 190, true)), .o (some 192) (.eq1 (.int .i64) false (.t 191) (.c (.int .i64 0))) (some (some 190, true)), .o (some 193) (.pick (.t 190) (.t 192) (.c (.bool false))) none, .o (some 194) (.mv (.t 193)) none, .o (some 195) (.mv (.t 20)) (some (some 194, true)), .o (some 196) (.lens (.t 195)) (some (some 194, true)), .o (some 197) (.eq1 (.int .i64) false (.t 196) (.c (.int .i64 0))) (some (some 194, true)), .o (some 198) (.pick (.t 194) (.t 197) (.c (.bool false))) none, .o (some 199) (.mv (.t 198)) none, .o (some 200) (.mv (.t 22)) (some (some 199, true)), .o (some 201) (.lens (.t 200)) (some (some 199, true)), .o (some 202) (.eq1 (.int .i64) false (.t 201) (.c (.int .i64 1))) (some (some 199, true)), .o (some 203) (.pick (.t 199) (.t 202) (.c (.bool false))) none, .o (some 204) (.mv (.t 203)) none, .o (some 205) (.mv (.t 22)) (some (some 204, true)), .o (some 206) (.ixs 3 [.int .i64, .int .i64, .int .i64] (.t 205) (.c (.int .i64 0))) (some (some 204, true)), .o (some 207) (.ldA 3 [.int .i64, .int .i64, .int .i64] (.t 206)) (some (some 204, true)), .o (some 208) (.bld 86 [(0, .c (.int .i64 2)), (1, .c (.int .i64 1)), (2, .c (.int .i64 7))]) (some (some 204, true)), .o (some 209) (.eqt 86 false (.t 207) (.t 208)) (some (some 204, true)), .o (some 210) (.pick (.t 204) (.t 209) (.c (.bool false))) none, .o (some 211) (.mv (.t 210)) none, .o (some 212) (.mv (.t 16)) (some (some 211, true)), .o (some 213) (.eq1 (.int .i64) false (.t 212) (.c (.int .i64 1))) (some (some 211, true)), .o (some 214) (.pick (.t 211) (.t 213) (.c (.bool false))) none, .o (some 215) (.mv (.t 214)) none, .o (some 216) (.mv (.t 18)) (some (some 215, true)), .o (some 217) (.eq1 (.int .i64) false (.t 216) (.c (.int .i64 0))) (some (some 215, true)), .o (some 218) (.pick (.t 215) (.t 217) (.c (.bool false))) none, .o (some 219) (.mv (.t 218)) none, .o (some 220) (.fa 3 (.t 23)) (some (some 219, true)), .o (some 221) (.ld1 (.slice 33) (.t 220)) (some (some 219, true)), .o (some 222) (.lens (.t 221)) (some (some 219, true)), .o (some 223) (.eq1 (.int .i64) false (.t 222) (.c (.int .i64 1))) (some (some 219, true)), .o (some 224) (.pick (.t 219) (.t 223) (.c (.bool false))) none, .o (some 225) (.mv (.t 224)) none, .o (some 226) (.mv (.t 24)) (some (some 225, true)), .o (some 227) (.lens (.t 226)) (some (some 225, true)), .o (some 228) (.eq1 (.int .i64) false (.t 227) (.c (.int .i64 3))) (some (some 225, true)), .o (some 229) (.pick (.t 225) (.t 228) (.c (.bool false))) none, .o (some 0) (.tk (.tmp 229)) none, .ret]
theorem c13 : compR T {} [] (bodyOf Go.Proofs.Try.f13) = b13 := by kernel_rfl
theorem n13 : Go.Proofs.Try.f13.ntmps = 230 := by kernel_rfl
theorem r13 : Go.Proofs.Try.f13.results.toList = [.tmp 0] := by kernel_rfl
theorem f13 : Pg.funcs[13]? = some Go.Proofs.Try.f13 := by kernel_rfl
theorem run13 {args : List AV} {K : AV → List AObj → Prop} (hv : Run C Pg T {} none b13 (S (.tup []) 230 (enumL 0 args) [] h) (bodyK T Go.Proofs.Try.f13 K)) (hown : args.all (fun a => !a.owns) = true := by first | rfl | simp [AV.owns]) (hl : args.length ≤ 230 := by exact Nat.le_of_ble_eq_true rfl) : ACall C Pg 13 args h K := ACall.of_runR T_ok {} [] (c := bodyOf Go.Proofs.Try.f13) f13 (by kernel_rfl) (by kernel_rfl) c13 n13 hown hl hv
noncomputable def b16 : List It := [.o (some 1) (.box false (.t 0)) none, .o (some 2) (.tk (.const (.slice none 0 0))) none, .o (some 3) (.tk (.const (.int .i64 0))) none, .o (some 7) (.ldA 6 [.int .i64, .int .i64, .int .i64, .slice 33, .slice 100, .slice 86] (.t 1)) none, .o (some 8) (.call 45 [.t 7]) none, .o (some 6) (.mv (.t 8)) none, .o (some 9) (.ext (.t 6) 0) none, .o (some 10) (.ext (.t 6) 1) none, .o (some 4) (.tk (.tmp 9)) none, .o (some 5) (.tk (.tmp 10)) none, .o (some 11) (.mv (.t 5)) none, .o (some 12) (.eq1 (.int .i64) true (.t 11) (.c (.int .i64 0))) none, .cond (.tmp 12) [.o (some 13) (.mv (.t 5)) none, .o (some 2) (.tk (.const (.slice none 0 0))) none, .o (some 3) (.tk (.tmp 13)) none, .ret] [], .o (some 14) (.mv (.t 4)) none, .o (some 15) (.call 47 [.t 14]) none, .o (some 16) (.call 46 [.t 15]) none, .o (some 2) (.tk (.tmp 16)) none, .o (some 3) (.tk (.const (.int .i64 0))) none, .ret]
theorem c16 : compR T {} [] (bodyOf Go.Proofs.Try.f16) = b16 := by kernel_rfl
theorem n16 : Go.Proofs.Try.f16.ntmps = 17 := by kernel_rfl
theorem r16 : Go.Proofs.Try.f16.results.toList = [.tmp 2, .tmp 3] := by kernel_rfl
theorem f16 : Pg.funcs[16]? = some Go.Proofs.Try.f16 := by kernel_rfl
theorem run16 {args : List AV} {K : AV → List AObj → Prop} (hv : Run C Pg T {} none b16 (S (.tup []) 17 (enumL 0 args) [] h) (bodyK T Go.Proofs.Try.f16 K)) (hown : args.all (fun a => !a.owns) = true := by first | rfl | simp [AV.owns]) (hl : args.length ≤ 17 := by exact Nat.le_of_ble_eq_true rfl) : ACall C Pg 16 args h K := ACall.of_runR T_ok {} [] (c := bodyOf Go.Proofs.Try.f16) f16 (by kernel_rfl) (by kernel_rfl) c16 n16 hown hl hv
noncomputable def b22q0 : List It := [.o (some 25) (.ar .lss (.t 24) (.t 23)) none, .cond (.tmp 25) [] [.exit 0], .block 1 [.o (some 26) (.ixs 5 [.int .i64, .int .i64, .int .i64, .int .i64, .str] (.t 22) (.t 24)) none, .o (some 27) (.ldA 5 [.int .i64, .int .i64, .int .i64, .int .i64, .str] (.t 26)) none, .o (some 11) (.alloc false [.int .i64 0, .int .i64 0, .int .i64 0, .int .i64 0, .str []]) none, .o none (.st 5 (.t 11) (.tmp 27)) none, .o (some 12) (.alloc false [.int .i64 0, .int .i64 0, .int .i64 0, .int .i64 0, .str [], .int .i64 0, .int .i64 0, .int .i64 0, .int .i64 0, .int .i64 0, .int .i64 0, .str [], .sl true 0 [] .own]) none, .o (some 29) (.ldA 6 [.int .i64, .int .i64, .int .i64, .slice 33, .slice 100, .slice 86] (.t 7)) none, .o (some 30) (.ldA 5 [.int .i64, .int .i64, .int .i64, .int .i64, .str] (.t 11)) none, .o (some 31) (.call 34 [.t 29, .t 30]) none, .o (some 28) (.mv (.t 31)) none, .o (some 32) (.ext (.t 28) 0) none, .o (some 33) (.ext (.t 28) 1) none, .o (some 34) (.ext (.t 28) 2) none, .o none (.st 6 (.t 7) (.tmp 32)) none, .o none (.st 13 (.t 12) (.tmp 33)) none, .o (some 35) (.tk (.tmp 9)) none, .o (some 36) (.ldA 13 [.other, .other, .other, .other, .other, .int .i64, .int .i64, .other, .other, .other, .other, .other, .slice 86] (.t 12)) none, .o (some 37) (.bsl false 48 1 [(0, .t 36)]) none, .o (some 38) (.app false 48 48 (.tmp 35) (.tmp 37)) none, .o (some 9) (.tk (.tmp 38)) none], .o (some 39) (.ar .add (.t 24) (.c (.int .i64 1))) none, .o (some 24) (.mv (.t 39)) none]
noncomputable def b22 : List It := [.o (some 4) (.alloc false [.int .i64 0, .int .i64 0, .int .i64 0, .sl true 0 [] .own, .sl true 0 [] .own, .sl true 0 [] .own]) none, .o (some 5) (.tk (.const (.slice none 0 0))) none, .o (some 6) (.tk (.const (.int .i64 0))) none, .o (some 14) (.mv (.t 0)) none, .o (some 15) (.call 14 [.t 14]) none, .o (some 13) (.mv (.t 15)) none, .o (some 16) (.ext (.t 13) 0) none, .o (some 17) (.ext (.t 13) 1) none, .o (some 7) (.alloc false [.int .i64 0, .int .i64 0, .int .i64 0, .sl true 0 [] .own, .sl true 0 [] .own, .sl true 0 [] .own]) none, .o none (.st 6 (.t 7) (.tmp 16)) none, .o (some 8) (.tk (.tmp 17)) none, .o (some 18) (.mv (.t 8)) none, .o (some 19) (.eq1 (.int .i64) true (.t 18) (.c (.int .i64 0))) none, .cond (.tmp 19) [.o (some 20) (.bld 26 []) none, .o (some 21) (.mv (.t 8)) none, .o none (.st 6 (.t 4) (.tmp 20)) none, .o (some 5) (.tk (.const (.slice none 0 0))) none, .o (some 6) (.tk (.tmp 21)) none, .ret] [], .o (some 9) (.tk (.const (.slice none 0 0))) none, .o (some 22) (.mv (.t 1)) none, .o (some 23) (.lens (.t 22)) none, .o (some 24) (.mv (.c (.int .i64 0))) none, .block 0 [.loop b22q0 (lp (bodyOf Go.Proofs.Try.f22) 0)], .o (some 40) (.ldA 6 [.int .i64, .int .i64, .int .i64, .slice 33, .slice 100, .slice 86] (.t 7)) none, .o (some 41) (.tk (.tmp 9)) none, .o none (.st 6 (.t 4) (.tmp 40)) none, .o (some 5) (.tk (.tmp 41)) none, .o (some 6) (.tk (.const (.int .i64 0))) none, .ret]
theorem c22q0 : compR T ann22 [] (lp (bodyOf Go.Proofs.Try.f22) 0) = b22q0 := by kernel_rfl
theorem lp22q0 {α : Type} (m : Nat) (ls : α → List (Nat × AV)) (bs : α → List (List AV)) (hs : α → List AObj) (φ : α → Prop) (μ : α → Nat) (g0 : α) (h0 : φ g0) (hkeys : ∀ g, (ls g).map (·.1) = (ls g0).map (·.1)) (e1 : allIn d l m (ls g0)) (e2 : bs g0 = bx.take m) (e3 : (bs g0).all (fun cs => AV.lb.lbs m cs) = true) (e4 : h = hs g0) (round : ∀ g, φ g → Run C Pg T ann22 none b22q0 (S .undef 42 (ls g) (bs g) (hs g)) (nextR d 42 m ls bs hs φ μ g K)) : AWp C Pg none (.loop (lp (bodyOf Go.Proofs.Try.f22) 0)) (S d 42 l bx h) K := AWp.loopQ T_ok ann22 [] c22q0 m ls bs hs φ μ g0 h0 hkeys e1 e2 e3 e4 round
theorem c22 : compR T ann22 [] (bodyOf Go.Proofs.Try.f22) = b22 := by kernel_rfl
theorem n22 : Go.Proofs.Try.f22.ntmps = 42 := by kernel_rfl
theorem r22 : Go.Proofs.Try.f22.results.toList = [.cell 4 26, .tmp 5, .tmp 6] := by kernel_rfl
theorem f22 : Pg.funcs[22]? = some Go.Proofs.Try.f22 := by kernel_rfl
theorem run22 {args : List AV} {K : AV → List AObj → Prop} (hv : Run C Pg T ann22 none b22 (S (.tup []) 42 (enumL 0 args) [] h) (bodyK T Go.Proofs.Try.f22 K)) (hown : args.all (fun a => !a.owns) = true := by first | rfl | simp [AV.owns]) (hl : args.length ≤ 42 := by exact Nat.le_of_ble_eq_true rfl) : ACall C Pg 22 args h K := ACall.of_runR T_ok ann22 [] (c := bodyOf Go.Proofs.Try.f22) f22 (by kernel_rfl) (by kernel_rfl) c22 n22 hown hl hv
noncomputable def b23 : List It := [.o (some 3) (.box false (.t 0)) none, .o (some 4) (.box true (.t 1)) none, .o (some 5) (.box true (.t 2)) none, .o (some 6) (.alloc false [.int .i64 0, .int .i64 0, .int .i64 0, .sl true 0 [] .own, .sl true 0 [] .own, .sl true 0 [] .own]) none, .o (some 7) (.tk (.const (.int .i64 0))) none, .o (some 8) (.ldA 6 [.int .i64, .int .i64, .int .i64, .slice 33, .slice 100, .slice 86] (.t 3)) none, .o (some 9) (.mkf 59 [.t 4, .t 5]) none, .o (some 10) (.call 58 [.t 8, .t 9]) none, .o (some 11) (.ext (.t 10) 0) none, .o (some 12) (.ext (.t 10) 1) none, .o none (.st 6 (.t 6) (.tmp 11)) none, .o (some 7) (.tk (.tmp 12)) none, .ret]
theorem c23 : compR T ann23 [] (bodyOf Go.Proofs.Try.f23) = b23 := by kernel_rfl
theorem n23 : Go.Proofs.Try.f23.ntmps = 13 := by kernel_rfl
theorem r23 : Go.Proofs.Try.f23.results.toList = [.cell 6 26, .tmp 7] := by kernel_rfl
theorem f23 : Pg.funcs[23]? = some Go.Proofs.Try.f23 := by kernel_rfl
theorem run23 {args : List AV} {K : AV → List AObj → Prop} (hv : Run C Pg T ann23 none b23 (S (.tup []) 13 (enumL 0 args) [] h) (bodyK T Go.Proofs.Try.f23 K)) (hown : args.all (fun a => !a.owns) = true := by first | rfl | simp [AV.owns]) (hl : args.length ≤ 13 := by exact Nat.le_of_ble_eq_true rfl) : ACall C Pg 23 args h K := ACall.of_runR T_ok ann23 [] (c := bodyOf Go.Proofs.Try.f23) f23 (by kernel_rfl) (by kernel_rfl) c23 n23 hown hl hv
noncomputable def b27 : List It := [.o (some 4) (.box false (.t 0)) none, .o (some 5) (.box true (.t 1)) none, .o (some 6) (.box true (.t 2)) none, .o (some 7) (.box true (.t 3)) none, .o (some 8) (.alloc false [.int .i64 0, .int .i64 0, .int .i64 0, .sl true 0 [] .own, .sl true 0 [] .own, .sl true 0 [] .own]) none, .o (some 9) (.tk (.const (.int .i64 0))) none, .o (some 10) (.ldA 6 [.int .i64, .int .i64, .int .i64, .slice 33, .slice 100, .slice 86] (.t 4)) none, .o (some 11) (.mkf 66 [.t 5, .t 6, .t 7]) none, .o (some 12) (.call 58 [.t 10, .t 11]) none, .o (some 13) (.ext (.t 12) 0) none, .o (some 14) (.ext (.t 12) 1) none, .o none (.st 6 (.t 8) (.tmp 13)) none, .o (some 9) (.tk (.tmp 14)) none, .ret]
theorem c27 : compR T ann27 [] (bodyOf Go.Proofs.Try.f27) = b27 := by kernel_rfl
theorem n27 : Go.Proofs.Try.f27.ntmps = 15 := by kernel_rfl
theorem r27 : Go.Proofs.Try.f27.results.toList = [.cell 8 26, .tmp 9] := by kernel_rfl
theorem f27 : Pg.funcs[27]? = some Go.Proofs.Try.f27 := by kernel_rfl
theorem run27 {args : List AV} {K : AV → List AObj → Prop} (hv : Run C Pg T ann27 none b27 (S (.tup []) 15 (enumL 0 args) [] h) (bodyK T Go.Proofs.Try.f27 K)) (hown : args.all (fun a => !a.owns) = true := by first | rfl | simp [AV.owns]) (hl : args.length ≤ 15 := by exact Nat.le_of_ble_eq_true rfl) : ACall C Pg 27 args h K := ACall.of_runR T_ok ann27 [] (c := bodyOf Go.Proofs.Try.f27) f27 (by kernel_rfl) (by kernel_rfl) c27 n27 hown hl hv
noncomputable def b31 : List It := [.o (some 1) (.box false (.t 0)) none, .o (some 2) (.alloc false [.int .i64 0, .int .i64 0, .int .i64 0, .sl true 0 [] .own, .sl true 0 [] .own, .sl true 0 [] .own]) none, .o (some 3) (.tk (.const (.slice none 0 0))) none, .o (some 4) (.tk (.const (.int .i64 0))) none, .o (some 10) (.ldA 6 [.int .i64, .int .i64, .int .i64, .slice 33, .slice 100, .slice 86] (.t 1)) none, .o (some 11) (.call 45 [.t 10]) none, .o (some 9) (.mv (.t 11)) none, .o (some 12) (.ext (.t 9) 0) none, .o (some 13) (.ext (.t 9) 1) none, .o (some 5) (.tk (.tmp 12)) none, .o (some 6) (.tk (.tmp 13)) none, .o (some 14) (.mv (.t 6)) none, .o (some 15) (.eq1 (.int .i64) true (.t 14) (.c (.int .i64 0))) none, .cond (.tmp 15) [.o (some 16) (.bld 26 []) none, .o (some 17) (.mv (.t 6)) none, .o none (.st 6 (.t 2) (.tmp 16)) none, .o (some 3) (.tk (.const (.slice none 0 0))) none, .o (some 4) (.tk (.tmp 17)) none, .ret] [], .o (some 19) (.mv (.t 5)) none, .o (some 20) (.call 72 [.t 19]) none, .o (some 18) (.mv (.t 20)) none, .o (some 21) (.ext (.t 18) 0) none, .o (some 22) (.ext (.t 18) 1) none, .o (some 7) (.tk (.tmp 21)) none, .o (some 6) (.tk (.tmp 22)) none, .o (some 24) (.mv (.t 5)) none, .o (some 25) (.mv (.t 6)) none, .o (some 26) (.call 73 [.t 24, .t 25]) none, .o (some 23) (.mv (.t 26)) none, .o (some 27) (.ext (.t 23) 0) none, .o (some 28) (.ext (.t 23) 1) none, .o (some 8) (.alloc false [.int .i64 0, .int .i64 0, .int .i64 0, .sl true 0 [] .own, .sl true 0 [] .own, .sl true 0 [] .own]) none, .o none (.st 6 (.t 8) (.tmp 27)) none, .o (some 6) (.tk (.tmp 28)) none, .o (some 29) (.ldA 6 [.int .i64, .int .i64, .int .i64, .slice 33, .slice 100, .slice 86] (.t 8)) none, .o (some 30) (.mv (.t 7)) none, .o (some 31) (.mv (.t 6)) none, .o none (.st 6 (.t 2) (.tmp 29)) none, .o (some 3) (.tk (.tmp 30)) none, .o (some 4) (.tk (.tmp 31)) none, .ret]
theorem c31 : compR T {} [] (bodyOf Go.Proofs.Try.f31) = b31 := by kernel_rfl
theorem n31 : Go.Proofs.Try.f31.ntmps = 32 := by kernel_rfl
theorem r31 : Go.Proofs.Try.f31.results.toList = [.cell 2 26, .tmp 3, .tmp 4] := by kernel_rfl
theorem f31 : Pg.funcs[31]? = some Go.Proofs.Try.f31 := by kernel_rfl
theorem run31 {args : List AV} {K : AV → List AObj → Prop} (hv : Run C Pg T {} none b31 (S (.tup []) 32 (enumL 0 args) [] h) (bodyK T Go.Proofs.Try.f31 K)) (hown : args.all (fun a => !a.owns) = true := by first | rfl | simp [AV.owns]) (hl : args.length ≤ 32 := by exact Nat.le_of_ble_eq_true rfl) : ACall C Pg 31 args h K := ACall.of_runR T_ok {} [] (c := bodyOf Go.Proofs.Try.f31) f31 (by kernel_rfl) (by kernel_rfl) c31 n31 hown hl hv
noncomputable def b34 : List It := [.o (some 2) (.box false (.t 0)) none, .o (some 3) (.box false (.t 1)) none, .o (some 4) (.alloc false [.int .i64 0, .int .i64 0, .int .i64 0, .sl true 0 [] .own, .sl true 0 [] .own, .sl true 0 [] .own]) none, .o (some 5) (.alloc false [.int .i64 0, .int .i64 0, .int .i64 0, .int .i64 0, .str [], .int .i64 0, .int .i64 0, .int .i64 0, .int .i64 0, .int .i64 0, .int .i64 0, .str [], .sl true 0 [] .own]) none, .o (some 6) (.tk (.const (.int .i64 0))) none, .o (some 12) (.ldA 6 [.int .i64, .int .i64, .int .i64, .slice 33, .slice 100, .slice 86] (.t 2)) none, .o (some 13) (.call 45 [.t 12]) none, .o (some 11) (.mv (.t 13)) none, .o (some 14) (.ext (.t 11) 0) none, .o (some 15) (.ext (.t 11) 1) none, .o (some 7) (.tk (.tmp 14)) none, .o (some 8) (.tk (.tmp 15)) none, .o (some 16) (.mv (.t 8)) none, .o (some 17) (.eq1 (.int .i64) true (.t 16) (.c (.int .i64 0))) none, .cond (.tmp 17) [.o (some 18) (.bld 26 []) none, .o (some 19) (.bld 55 []) none, .o (some 20) (.mv (.t 8)) none, .o none (.st 6 (.t 4) (.tmp 18)) none, .o none (.st 13 (.t 5) (.tmp 19)) none, .o (some 6) (.tk (.tmp 20)) none, .ret] [], .o (some 21) (.ldA 5 [.int .i64, .int .i64, .int .i64, .int .i64, .str] (.t 3)) none, .o (some 22) (.call 74 [.t 21]) none, .o (some 9) (.tk (.tmp 22)) none, .o (some 23) (.mv (.t 9)) none, .o (some 24) (.mv (.t 7)) none, .o (some 25) (.inv (.t 23) "understory/net.does" [.t 24]) none, .o (some 10) (.alloc false [.int .i64 0, .int .i64 0, .int .i64 0, .int .i64 0, .str [], .int .i64 0, .int .i64 0, .int .i64 0, .int .i64 0, .int .i64 0, .int .i64 0, .str [], .sl true 0 [] .own]) none, .o none (.st 13 (.t 10) (.tmp 25)) none, .o (some 26) (.fa 5 (.t 10)) none, .o (some 27) (.ld1 (.int .i64) (.t 26)) none, .o (some 28) (.eq1 (.int .i64) true (.t 27) (.c (.int .i64 0))) none, .cond (.tmp 28) [.o (some 30) (.ldA 6 [.int .i64, .int .i64, .int .i64, .slice 33, .slice 100, .slice 86] (.t 2)) none, .o (some 31) (.call 45 [.t 30]) none, .o (some 29) (.mv (.t 31)) none, .o (some 32) (.ext (.t 29) 0) none, .o (some 33) (.ext (.t 29) 1) none, .o (some 7) (.tk (.tmp 32)) none] [], .o (some 34) (.fa 5 (.t 10)) none, .o (some 35) (.ld1 (.int .i64) (.t 34)) none, .o (some 36) (.eq1 (.int .i64) true (.t 35) (.c (.int .i64 0))) none, .o (some 37) (.mv (.t 36)) none, .o (some 38) (.mv (.t 9)) (some (some 37, false)), .o (some 39) (.call 75 [.t 38]) (some (some 37, false)), .o (some 40) (.not (.t 39)) (some (some 37, false)), .o (some 41) (.pick (.t 37) (.c (.bool true)) (.t 40)) none, .cond (.tmp 41) [.o (some 42) (.fa 5 (.t 10)) none, .o (some 43) (.ld1 (.int .i64) (.t 42)) none, .o (some 44) (.bld 55 [(1, .t 43)]) none, .o none (.st 13 (.t 10) (.tmp 44)) none] [], .rf (rg (bodyOf Go.Proofs.Try.f34) 0), .rf (rg (bodyOf Go.Proofs.Try.f34) 1), .ret]
theorem c34 : compR T {} pl34 (bodyOf Go.Proofs.Try.f34) = b34 := by kernel_rfl
noncomputable def g34q0 : List It := [.o (some 46) (.mv (.t 7)) none, .o (some 47) (.nilck (.t 46)) none, .o (some 48) (.fa 0 (.t 47)) none, .o (some 49) (.fa 1 (.t 48)) none, .alts [[.o (some 45) (.ldA 5 [.int .i64, .int .i64, .int .i64, .int .i64, .str] (.t 3)) none, .o (some 51) (.fa 0 (.t 10)) none, .alts [[.o (some 50) (.ld1 (.int .i64) (.t 49)) none, .alts [[.o none (.st 5 (.t 51) (.tmp 45)) none, .o (some 52) (.fa 6 (.t 10)) none, .alts [[.o none (.st 1 (.t 52) (.tmp 50)) none]]]]], [.o none (.st 5 (.t 51) (.tmp 45)) none, .alts [[.o (some 50) (.ld1 (.int .i64) (.t 49)) none, .o (some 52) (.fa 6 (.t 10)) none, .alts [[.o none (.st 1 (.t 52) (.tmp 50)) none]]]]]]], [.o (some 50) (.ld1 (.int .i64) (.t 49)) none, .alts [[.o (some 45) (.ldA 5 [.int .i64, .int .i64, .int .i64, .int .i64, .str] (.t 3)) none, .o (some 51) (.fa 0 (.t 10)) none, .alts [[.o none (.st 5 (.t 51) (.tmp 45)) none, .o (some 52) (.fa 6 (.t 10)) none, .alts [[.o none (.st 1 (.t 52) (.tmp 50)) none]]]]]]]]]
theorem gc34q0 : compC T {} pl34 (rg (bodyOf Go.Proofs.Try.f34) 0) = g34q0 := by kernel_rfl
theorem go34q0 : okCode {} none pl34 (rg (bodyOf Go.Proofs.Try.f34) 0) = true := by kernel_rfl
theorem re34q0 (h1 : Run C Pg T {} none g34q0 s K) : AWp C Pg none (rg (bodyOf Go.Proofs.Try.f34) 0) s K := AWp.eachR T_ok mixed {} pl34 go34q0 gc34q0 h1
noncomputable def g34q1 : List It := [.o (some 53) (.mv (.t 7)) none, .o (some 54) (.nilck (.t 53)) none, .o (some 55) (.fa 0 (.t 54)) none, .alts [[.o (some 56) (.ldA 6 [.int .i64, .int .i64, .int .i64, .slice 33, .slice 100, .slice 86] (.t 55)) none, .alts [[.o (some 57) (.ldA 13 [.other, .other, .other, .other, .other, .int .i64, .int .i64, .other, .other, .other, .other, .other, .slice 86] (.t 10)) none, .alts [[.o none (.st 6 (.t 4) (.tmp 56)) none, .alts [[.o none (.st 13 (.t 5) (.tmp 57)) none, .o (some 6) (.tk (.const (.int .i64 0))) none]]]]], [.o none (.st 6 (.t 4) (.tmp 56)) none, .alts [[.o (some 57) (.ldA 13 [.other, .other, .other, .other, .other, .int .i64, .int .i64, .other, .other, .other, .other, .other, .slice 86] (.t 10)) none, .alts [[.o none (.st 13 (.t 5) (.tmp 57)) none, .o (some 6) (.tk (.const (.int .i64 0))) none]]]]]]], [.o (some 57) (.ldA 13 [.other, .other, .other, .other, .other, .int .i64, .int .i64, .other, .other, .other, .other, .other, .slice 86] (.t 10)) none, .alts [[.o (some 56) (.ldA 6 [.int .i64, .int .i64, .int .i64, .slice 33, .slice 100, .slice 86] (.t 55)) none, .alts [[.o none (.st 6 (.t 4) (.tmp 56)) none, .alts [[.o none (.st 13 (.t 5) (.tmp 57)) none, .o (some 6) (.tk (.const (.int .i64 0))) none]]]]]]]]]
theorem gc34q1 : compC T {} pl34 (rg (bodyOf Go.Proofs.Try.f34) 1) = g34q1 := by kernel_rfl
theorem go34q1 : okCode {} none pl34 (rg (bodyOf Go.Proofs.Try.f34) 1) = true := by kernel_rfl
theorem re34q1 (h1 : Run C Pg T {} none g34q1 s K) : AWp C Pg none (rg (bodyOf Go.Proofs.Try.f34) 1) s K := AWp.eachR T_ok mixed {} pl34 go34q1 gc34q1 h1
theorem n34 : Go.Proofs.Try.f34.ntmps = 58 := by kernel_rfl
theorem r34 : Go.Proofs.Try.f34.results.toList = [.cell 4 26, .cell 5 55, .tmp 6] := by kernel_rfl
theorem f34 : Pg.funcs[34]? = some Go.Proofs.Try.f34 := by kernel_rfl
theorem run34 {args : List AV} {K : AV → List AObj → Prop} (hv : Run C Pg T {} none b34 (S (.tup []) 58 (enumL 0 args) [] h) (bodyK T Go.Proofs.Try.f34 K)) (hown : args.all (fun a => !a.owns) = true := by first | rfl | simp [AV.owns]) (hl : args.length ≤ 58 := by exact Nat.le_of_ble_eq_true rfl) : ACall C Pg 34 args h K := ACall.of_runR T_ok {} pl34 (c := bodyOf Go.Proofs.Try.f34) f34 (by kernel_rfl) (by kernel_rfl) c34 n34 hown hl hv
noncomputable def b35 : List It := [.o (some 2) (.box false (.t 0)) none, .o (some 4) (.alloc false [.int .i64 0, .int .i64 0, .int .i64 0, .sl true 0 [] .own, .sl true 0 [] .own, .sl true 0 [] .own]) none, .o (some 5) (.alloc false [.int .i64 0, .int .i64 0, .int .i64 0, .int .i64 0, .str []]) none, .o (some 6) (.tk (.const (.int .i64 0))) none, .o (some 12) (.ldA 6 [.int .i64, .int .i64, .int .i64, .slice 33, .slice 100, .slice 86] (.t 2)) none, .o (some 13) (.call 45 [.t 12]) none, .o (some 11) (.mv (.t 13)) none, .o (some 14) (.ext (.t 11) 0) none, .o (some 15) (.ext (.t 11) 1) none, .o (some 7) (.tk (.tmp 14)) none, .o (some 8) (.tk (.tmp 15)) none, .o (some 16) (.mv (.t 8)) none, .o (some 17) (.eq1 (.int .i64) true (.t 16) (.c (.int .i64 0))) none, .cond (.tmp 17) [.o (some 18) (.bld 26 []) none, .o (some 19) (.bld 33 []) none, .o (some 20) (.mv (.t 8)) none, .o none (.st 6 (.t 4) (.tmp 18)) none, .o none (.st 5 (.t 5) (.tmp 19)) none, .o (some 6) (.tk (.tmp 20)) none, .ret] [], .o (some 22) (.mv (.t 7)) none, .o (some 23) (.mv (.t 1)) none, .o (some 24) (.call 76 [.t 22, .t 23]) none, .o (some 21) (.mv (.t 24)) none, .o (some 25) (.ext (.t 21) 0) none, .o (some 26) (.ext (.t 21) 1) none, .o (some 9) (.alloc false [.int .i64 0, .int .i64 0, .int .i64 0, .int .i64 0, .str []]) none, .o none (.st 5 (.t 9) (.tmp 25)) none, .o (some 8) (.tk (.tmp 26)) none, .o (some 28) (.mv (.t 7)) none, .o (some 29) (.mv (.t 8)) none, .o (some 30) (.call 73 [.t 28, .t 29]) none, .o (some 27) (.mv (.t 30)) none, .o (some 31) (.ext (.t 27) 0) none, .o (some 32) (.ext (.t 27) 1) none, .o (some 10) (.alloc false [.int .i64 0, .int .i64 0, .int .i64 0, .sl true 0 [] .own, .sl true 0 [] .own, .sl true 0 [] .own]) none, .o none (.st 6 (.t 10) (.tmp 31)) none, .o (some 8) (.tk (.tmp 32)) none, .rf (rg (bodyOf Go.Proofs.Try.f35) 0), .ret]
theorem c35 : compR T {} pl35 (bodyOf Go.Proofs.Try.f35) = b35 := by kernel_rfl
noncomputable def g35q0 : List It := [.o (some 35) (.mv (.t 8)) none, .alts [[.o (some 33) (.ldA 6 [.int .i64, .int .i64, .int .i64, .slice 33, .slice 100, .slice 86] (.t 10)) none, .alts [[.o (some 34) (.ldA 5 [.int .i64, .int .i64, .int .i64, .int .i64, .str] (.t 9)) none, .alts [[.o none (.st 6 (.t 4) (.tmp 33)) none, .alts [[.o none (.st 5 (.t 5) (.tmp 34)) none, .o (some 6) (.tk (.tmp 35)) none]]]]], [.o none (.st 6 (.t 4) (.tmp 33)) none, .alts [[.o (some 34) (.ldA 5 [.int .i64, .int .i64, .int .i64, .int .i64, .str] (.t 9)) none, .alts [[.o none (.st 5 (.t 5) (.tmp 34)) none, .o (some 6) (.tk (.tmp 35)) none]]]]]]], [.o (some 34) (.ldA 5 [.int .i64, .int .i64, .int .i64, .int .i64, .str] (.t 9)) none, .alts [[.o (some 33) (.ldA 6 [.int .i64, .int .i64, .int .i64, .slice 33, .slice 100, .slice 86] (.t 10)) none, .alts [[.o none (.st 6 (.t 4) (.tmp 33)) none, .alts [[.o none (.st 5 (.t 5) (.tmp 34)) none, .o (some 6) (.tk (.tmp 35)) none]]]]]]]]]
theorem gc35q0 : compC T {} pl35 (rg (bodyOf Go.Proofs.Try.f35) 0) = g35q0 := by kernel_rfl
theorem go35q0 : okCode {} none pl35 (rg (bodyOf Go.Proofs.Try.f35) 0) = true := by kernel_rfl
theorem re35q0 (h1 : Run C Pg T {} none g35q0 s K) : AWp C Pg none (rg (bodyOf Go.Proofs.Try.f35) 0) s K := AWp.eachR T_ok mixed {} pl35 go35q0 gc35q0 h1
theorem n35 : Go.Proofs.Try.f35.ntmps = 36 := by kernel_rfl
theorem r35 : Go.Proofs.Try.f35.results.toList = [.cell 4 26, .cell 5 33, .tmp 6] := by kernel_rfl
theorem f35 : Pg.funcs[35]? = some Go.Proofs.Try.f35 := by kernel_rfl
theorem run35 {args : List AV} {K : AV → List AObj → Prop} (hv : Run C Pg T {} none b35 (S (.tup []) 36 (enumL 0 args) [] h) (bodyK T Go.Proofs.Try.f35 K)) (hown : args.all (fun a => !a.owns) = true := by first | rfl | simp [AV.owns]) (hl : args.length ≤ 36 := by exact Nat.le_of_ble_eq_true rfl) : ACall C Pg 35 args h K := ACall.of_runR T_ok {} pl35 (c := bodyOf Go.Proofs.Try.f35) f35 (by kernel_rfl) (by kernel_rfl) c35 n35 hown hl hv
noncomputable def b42 : List It := [.o (some 4) (.box false (.t 0)) none, .o (some 8) (.alloc false [.int .i64 0, .int .i64 0, .int .i64 0, .sl true 0 [] .own, .sl true 0 [] .own, .sl true 0 [] .own]) none, .o (some 9) (.tk (.const (.int .i64 0))) none, .o (some 10) (.tk (.const (.int .i64 0))) none, .o (some 16) (.ldA 6 [.int .i64, .int .i64, .int .i64, .slice 33, .slice 100, .slice 86] (.t 4)) none, .o (some 17) (.call 45 [.t 16]) none, .o (some 15) (.mv (.t 17)) none, .o (some 18) (.ext (.t 15) 0) none, .o (some 19) (.ext (.t 15) 1) none, .o (some 11) (.tk (.tmp 18)) none, .o (some 12) (.tk (.tmp 19)) none, .o (some 20) (.mv (.t 12)) none, .o (some 21) (.eq1 (.int .i64) true (.t 20) (.c (.int .i64 0))) none, .cond (.tmp 21) [.o (some 22) (.bld 26 []) none, .o (some 23) (.mv (.t 12)) none, .o none (.st 6 (.t 8) (.tmp 22)) none, .o (some 9) (.tk (.const (.int .i64 0))) none, .o (some 10) (.tk (.tmp 23)) none, .ret] [], .o (some 25) (.mv (.t 11)) none, .o (some 26) (.mv (.t 1)) none, .o (some 27) (.mv (.t 2)) none, .o (some 28) (.mv (.t 3)) none, .o (some 29) (.call 80 [.t 25, .t 26, .t 27, .t 28]) none, .o (some 24) (.mv (.t 29)) none, .o (some 30) (.ext (.t 24) 0) none, .o (some 31) (.ext (.t 24) 1) none, .o (some 13) (.alloc false [.int .i64 0, .int .i64 0, .int .i64 0, .int .i64 0, .str []]) none, .o none (.st 5 (.t 13) (.tmp 30)) none, .o (some 12) (.tk (.tmp 31)) none, .o (some 33) (.mv (.t 11)) none, .o (some 34) (.mv (.t 12)) none, .o (some 35) (.call 73 [.t 33, .t 34]) none, .o (some 32) (.mv (.t 35)) none, .o (some 36) (.ext (.t 32) 0) none, .o (some 37) (.ext (.t 32) 1) none, .o (some 14) (.alloc false [.int .i64 0, .int .i64 0, .int .i64 0, .sl true 0 [] .own, .sl true 0 [] .own, .sl true 0 [] .own]) none, .o none (.st 6 (.t 14) (.tmp 36)) none, .o (some 12) (.tk (.tmp 37)) none, .rf (rg (bodyOf Go.Proofs.Try.f42) 0), .ret]
theorem c42 : compR T {} pl42 (bodyOf Go.Proofs.Try.f42) = b42 := by kernel_rfl
noncomputable def g42q0 : List It := [.o (some 39) (.fa 0 (.t 13)) none, .o (some 41) (.mv (.t 12)) none, .alts [[.o (some 38) (.ldA 6 [.int .i64, .int .i64, .int .i64, .slice 33, .slice 100, .slice 86] (.t 14)) none, .alts [[.o (some 40) (.ld1 (.int .i64) (.t 39)) none, .alts [[.o none (.st 6 (.t 8) (.tmp 38)) none, .o (some 9) (.tk (.tmp 40)) none, .o (some 10) (.tk (.tmp 41)) none]]], [.o none (.st 6 (.t 8) (.tmp 38)) none, .alts [[.o (some 40) (.ld1 (.int .i64) (.t 39)) none, .o (some 9) (.tk (.tmp 40)) none, .o (some 10) (.tk (.tmp 41)) none]]]]], [.o (some 40) (.ld1 (.int .i64) (.t 39)) none, .alts [[.o (some 38) (.ldA 6 [.int .i64, .int .i64, .int .i64, .slice 33, .slice 100, .slice 86] (.t 14)) none, .alts [[.o none (.st 6 (.t 8) (.tmp 38)) none, .o (some 9) (.tk (.tmp 40)) none, .o (some 10) (.tk (.tmp 41)) none]]]]]]]
theorem gc42q0 : compC T {} pl42 (rg (bodyOf Go.Proofs.Try.f42) 0) = g42q0 := by kernel_rfl
theorem go42q0 : okCode {} none pl42 (rg (bodyOf Go.Proofs.Try.f42) 0) = true := by kernel_rfl
theorem re42q0 (h1 : Run C Pg T {} none g42q0 s K) : AWp C Pg none (rg (bodyOf Go.Proofs.Try.f42) 0) s K := AWp.eachR T_ok mixed {} pl42 go42q0 gc42q0 h1
theorem n42 : Go.Proofs.Try.f42.ntmps = 42 := by kernel_rfl
theorem r42 : Go.Proofs.Try.f42.results.toList = [.cell 8 26, .tmp 9, .tmp 10] := by kernel_rfl
theorem f42 : Pg.funcs[42]? = some Go.Proofs.Try.f42 := by kernel_rfl
theorem run42 {args : List AV} {K : AV → List AObj → Prop} (hv : Run C Pg T {} none b42 (S (.tup []) 42 (enumL 0 args) [] h) (bodyK T Go.Proofs.Try.f42 K)) (hown : args.all (fun a => !a.owns) = true := by first | rfl | simp [AV.owns]) (hl : args.length ≤ 42 := by exact Nat.le_of_ble_eq_true rfl) : ACall C Pg 42 args h K := ACall.of_runR T_ok {} pl42 (c := bodyOf Go.Proofs.Try.f42) f42 (by kernel_rfl) (by kernel_rfl) c42 n42 hown hl hv
noncomputable def b43 : List It := [.o (some 3) (.box false (.t 0)) none, .o (some 4) (.box true (.t 1)) none, .o (some 5) (.box true (.t 2)) none, .o (some 6) (.alloc false [.int .i64 0, .int .i64 0, .int .i64 0, .sl true 0 [] .own, .sl true 0 [] .own, .sl true 0 [] .own]) none, .o (some 7) (.tk (.const (.int .i64 0))) none, .o (some 8) (.ldA 6 [.int .i64, .int .i64, .int .i64, .slice 33, .slice 100, .slice 86] (.t 3)) none, .o (some 9) (.mkf 81 [.t 4, .t 5]) none, .o (some 10) (.call 58 [.t 8, .t 9]) none, .o (some 11) (.ext (.t 10) 0) none, .o (some 12) (.ext (.t 10) 1) none, .o none (.st 6 (.t 6) (.tmp 11)) none, .o (some 7) (.tk (.tmp 12)) none, .ret]
theorem c43 : compR T ann43 [] (bodyOf Go.Proofs.Try.f43) = b43 := by kernel_rfl
theorem n43 : Go.Proofs.Try.f43.ntmps = 13 := by kernel_rfl
theorem r43 : Go.Proofs.Try.f43.results.toList = [.cell 6 26, .tmp 7] := by kernel_rfl
theorem f43 : Pg.funcs[43]? = some Go.Proofs.Try.f43 := by kernel_rfl
theorem run43 {args : List AV} {K : AV → List AObj → Prop} (hv : Run C Pg T ann43 none b43 (S (.tup []) 13 (enumL 0 args) [] h) (bodyK T Go.Proofs.Try.f43 K)) (hown : args.all (fun a => !a.owns) = true := by first | rfl | simp [AV.owns]) (hl : args.length ≤ 13 := by exact Nat.le_of_ble_eq_true rfl) : ACall C Pg 43 args h K := ACall.of_runR T_ok ann43 [] (c := bodyOf Go.Proofs.Try.f43) f43 (by kernel_rfl) (by kernel_rfl) c43 n43 hown hl hv
noncomputable def b45 : List It := [.o (some 1) (.box false (.t 0)) none, .o (some 2) (.tk (.const (.pointer none))) none, .o (some 3) (.tk (.const (.int .i64 0))) none, .o (some 4) (.ldA 6 [.int .i64, .int .i64, .int .i64, .slice 33, .slice 100, .slice 86] (.t 1)) none, .o (some 5) (.call 19 [.t 4]) none, .o (some 6) (.eq1 (.int .i64) true (.t 5) (.c (.int .i64 0))) none, .cond (.tmp 6) [.o (some 2) (.tk (.const (.pointer none))) none, .o (some 3) (.tk (.const (.int .i64 2))) none, .ret] [], .rf (rg (bodyOf Go.Proofs.Try.f45) 0), .o (some 19) (.ldA 6 [.int .i64, .int .i64, .int .i64, .slice 33, .slice 100, .slice 86] (.t 1)) none, .o (some 20) (.bld 125 [(0, .t 19)]) none, .o (some 21) (.box true (.t 20)) none, .o (some 2) (.tk (.tmp 21)) none, .o (some 3) (.tk (.const (.int .i64 0))) none, .ret]
theorem c45 : compR T ann45 pl45 (bodyOf Go.Proofs.Try.f45) = b45 := by kernel_rfl
noncomputable def g45q0 : List It := [.o (some 7) (.fa 3 (.t 1)) none, .o (some 10) (.fa 4 (.t 1)) none, .o (some 13) (.fa 5 (.t 1)) none, .alts [[.o (some 8) (.ld1 (.slice 33) (.t 7)) none, .alts [[.o (some 9) (.call 83 [.t 8]) none, .alts [[.o (some 11) (.ld1 (.slice 100) (.t 10)) none, .alts [[.o (some 12) (.call 84 [.t 11]) none, .alts [[.o (some 14) (.ld1 (.slice 86) (.t 13)) none, .o (some 16) (.fa 3 (.t 1)) none, .alts [[.o (some 15) (.call 85 [.t 14]) none, .alts [[.o none (.st 1 (.t 16) (.tmp 9)) none, .o (some 17) (.fa 4 (.t 1)) none, .alts [[.o none (.st 1 (.t 17) (.tmp 12)) none, .o (some 18) (.fa 5 (.t 1)) none, .alts [[.o none (.st 1 (.t 18) (.tmp 15)) none]]]]]]]]]]], [.o (some 14) (.ld1 (.slice 86) (.t 13)) none, .o (some 16) (.fa 3 (.t 1)) none, .alts [[.o (some 12) (.call 84 [.t 11]) none, .alts [[.o (some 15) (.call 85 [.t 14]) none, .alts [[.o none (.st 1 (.t 16) (.tmp 9)) none, .o (some 17) (.fa 4 (.t 1)) none, .alts [[.o none (.st 1 (.t 17) (.tmp 12)) none, .o (some 18) (.fa 5 (.t 1)) none, .alts [[.o none (.st 1 (.t 18) (.tmp 15)) none]]]]]]]]]]]]], [.o (some 14) (.ld1 (.slice 86) (.t 13)) none, .alts [[.o (some 11) (.ld1 (.slice 100) (.t 10)) none, .o (some 16) (.fa 3 (.t 1)) none, .alts [[.o (some 12) (.call 84 [.t 11]) none, .alts [[.o (some 15) (.call 85 [.t 14]) none, .alts [[.o none (.st 1 (.t 16) (.tmp 9)) none, .o (some 17) (.fa 4 (.t 1)) none, .alts [[.o none (.st 1 (.t 17) (.tmp 12)) none, .o (some 18) (.fa 5 (.t 1)) none, .alts [[.o none (.st 1 (.t 18) (.tmp 15)) none]]]]]]]]]]]]]]], [.o (some 11) (.ld1 (.slice 100) (.t 10)) none, .alts [[.o (some 9) (.call 83 [.t 8]) none, .alts [[.o (some 12) (.call 84 [.t 11]) none, .alts [[.o (some 14) (.ld1 (.slice 86) (.t 13)) none, .o (some 16) (.fa 3 (.t 1)) none, .alts [[.o (some 15) (.call 85 [.t 14]) none, .alts [[.o none (.st 1 (.t 16) (.tmp 9)) none, .o (some 17) (.fa 4 (.t 1)) none, .alts [[.o none (.st 1 (.t 17) (.tmp 12)) none, .o (some 18) (.fa 5 (.t 1)) none, .alts [[.o none (.st 1 (.t 18) (.tmp 15)) none]]]]]]]]]]], [.o (some 14) (.ld1 (.slice 86) (.t 13)) none, .o (some 16) (.fa 3 (.t 1)) none, .alts [[.o (some 12) (.call 84 [.t 11]) none, .alts [[.o (some 15) (.call 85 [.t 14]) none, .alts [[.o none (.st 1 (.t 16) (.tmp 9)) none, .o (some 17) (.fa 4 (.t 1)) none, .alts [[.o none (.st 1 (.t 17) (.tmp 12)) none, .o (some 18) (.fa 5 (.t 1)) none, .alts [[.o none (.st 1 (.t 18) (.tmp 15)) none]]]]]]]]]]]]], [.o (some 14) (.ld1 (.slice 86) (.t 13)) none, .alts [[.o (some 9) (.call 83 [.t 8]) none, .o (some 16) (.fa 3 (.t 1)) none, .alts [[.o (some 12) (.call 84 [.t 11]) none, .alts [[.o (some 15) (.call 85 [.t 14]) none, .alts [[.o none (.st 1 (.t 16) (.tmp 9)) none, .o (some 17) (.fa 4 (.t 1)) none, .alts [[.o none (.st 1 (.t 17) (.tmp 12)) none, .o (some 18) (.fa 5 (.t 1)) none, .alts [[.o none (.st 1 (.t 18) (.tmp 15)) none]]]]]]]]]]]]]]], [.o (some 14) (.ld1 (.slice 86) (.t 13)) none, .alts [[.o (some 9) (.call 83 [.t 8]) none, .alts [[.o (some 11) (.ld1 (.slice 100) (.t 10)) none, .o (some 16) (.fa 3 (.t 1)) none, .alts [[.o (some 12) (.call 84 [.t 11]) none, .alts [[.o (some 15) (.call 85 [.t 14]) none, .alts [[.o none (.st 1 (.t 16) (.tmp 9)) none, .o (some 17) (.fa 4 (.t 1)) none, .alts [[.o none (.st 1 (.t 17) (.tmp 12)) none, .o (some 18) (.fa 5 (.t 1)) none, .alts [[.o none (.st 1 (.t 18) (.tmp 15)) none]]]]]]]]]]]]], [.o (some 11) (.ld1 (.slice 100) (.t 10)) none, .alts [[.o (some 9) (.call 83 [.t 8]) none, .o (some 16) (.fa 3 (.t 1)) none, .alts [[.o (some 12) (.call 84 [.t 11]) none, .alts [[.o (some 15) (.call 85 [.t 14]) none, .alts [[.o none (.st 1 (.t 16) (.tmp 9)) none, .o (some 17) (.fa 4 (.t 1)) none, .alts [[.o none (.st 1 (.t 17) (.tmp 12)) none, .o (some 18) (.fa 5 (.t 1)) none, .alts [[.o none (.st 1 (.t 18) (.tmp 15)) none]]]]]]]]]]]]]]]]], [.o (some 11) (.ld1 (.slice 100) (.t 10)) none, .alts [[.o (some 8) (.ld1 (.slice 33) (.t 7)) none, .alts [[.o (some 9) (.call 83 [.t 8]) none, .alts [[.o (some 12) (.call 84 [.t 11]) none, .alts [[.o (some 14) (.ld1 (.slice 86) (.t 13)) none, .o (some 16) (.fa 3 (.t 1)) none, .alts [[.o (some 15) (.call 85 [.t 14]) none, .alts [[.o none (.st 1 (.t 16) (.tmp 9)) none, .o (some 17) (.fa 4 (.t 1)) none, .alts [[.o none (.st 1 (.t 17) (.tmp 12)) none, .o (some 18) (.fa 5 (.t 1)) none, .alts [[.o none (.st 1 (.t 18) (.tmp 15)) none]]]]]]]]]]], [.o (some 14) (.ld1 (.slice 86) (.t 13)) none, .o (some 16) (.fa 3 (.t 1)) none, .alts [[.o (some 12) (.call 84 [.t 11]) none, .alts [[.o (some 15) (.call 85 [.t 14]) none, .alts [[.o none (.st 1 (.t 16) (.tmp 9)) none, .o (some 17) (.fa 4 (.t 1)) none, .alts [[.o none (.st 1 (.t 17) (.tmp 12)) none, .o (some 18) (.fa 5 (.t 1)) none, .alts [[.o none (.st 1 (.t 18) (.tmp 15)) none]]]]]]]]]]]]], [.o (some 14) (.ld1 (.slice 86) (.t 13)) none, .alts [[.o (some 9) (.call 83 [.t 8]) none, .o (some 16) (.fa 3 (.t 1)) none, .alts [[.o (some 12) (.call 84 [.t 11]) none, .alts [[.o (some 15) (.call 85 [.t 14]) none, .alts [[.o none (.st 1 (.t 16) (.tmp 9)) none, .o (some 17) (.fa 4 (.t 1)) none, .alts [[.o none (.st 1 (.t 17) (.tmp 12)) none, .o (some 18) (.fa 5 (.t 1)) none, .alts [[.o none (.st 1 (.t 18) (.tmp 15)) none]]]]]]]]]]]]]]], [.o (some 14) (.ld1 (.slice 86) (.t 13)) none, .alts [[.o (some 8) (.ld1 (.slice 33) (.t 7)) none, .alts [[.o (some 9) (.call 83 [.t 8]) none, .o (some 16) (.fa 3 (.t 1)) none, .alts [[.o (some 12) (.call 84 [.t 11]) none, .alts [[.o (some 15) (.call 85 [.t 14]) none, .alts [[.o none (.st 1 (.t 16) (.tmp 9)) none, .o (some 17) (.fa 4 (.t 1)) none, .alts [[.o none (.st 1 (.t 17) (.tmp 12)) none, .o (some 18) (.fa 5 (.t 1)) none, .alts [[.o none (.st 1 (.t 18) (.tmp 15)) none]]]]]]]]]]]]]]]]], [.o (some 14) (.ld1 (.slice 86) (.t 13)) none, .alts [[.o (some 8) (.ld1 (.slice 33) (.t 7)) none, .alts [[.o (some 9) (.call 83 [.t 8]) none, .alts [[.o (some 11) (.ld1 (.slice 100) (.t 10)) none, .o (some 16) (.fa 3 (.t 1)) none, .alts [[.o (some 12) (.call 84 [.t 11]) none, .alts [[.o (some 15) (.call 85 [.t 14]) none, .alts [[.o none (.st 1 (.t 16) (.tmp 9)) none, .o (some 17) (.fa 4 (.t 1)) none, .alts [[.o none (.st 1 (.t 17) (.tmp 12)) none, .o (some 18) (.fa 5 (.t 1)) none, .alts [[.o none (.st 1 (.t 18) (.tmp 15)) none]]]]]]]]]]]]], [.o (some 11) (.ld1 (.slice 100) (.t 10)) none, .alts [[.o (some 9) (.call 83 [.t 8]) none, .o (some 16) (.fa 3 (.t 1)) none, .alts [[.o (some 12) (.call 84 [.t 11]) none, .alts [[.o (some 15) (.call 85 [.t 14]) none, .alts [[.o none (.st 1 (.t 16) (.tmp 9)) none, .o (some 17) (.fa 4 (.t 1)) none, .alts [[.o none (.st 1 (.t 17) (.tmp 12)) none, .o (some 18) (.fa 5 (.t 1)) none, .alts [[.o none (.st 1 (.t 18) (.tmp 15)) none]]]]]]]]]]]]]]], [.o (some 11) (.ld1 (.slice 100) (.t 10)) none, .alts [[.o (some 8) (.ld1 (.slice 33) (.t 7)) none, .alts [[.o (some 9) (.call 83 [.t 8]) none, .o (some 16) (.fa 3 (.t 1)) none, .alts [[.o (some 12) (.call 84 [.t 11]) none, .alts [[.o (some 15) (.call 85 [.t 14]) none, .alts [[.o none (.st 1 (.t 16) (.tmp 9)) none, .o (some 17) (.fa 4 (.t 1)) none, .alts [[.o none (.st 1 (.t 17) (.tmp 12)) none, .o (some 18) (.fa 5 (.t 1)) none, .alts [[.o none (.st 1 (.t 18) (.tmp 15)) none]]]]]]]]]]]]]]]]]]]
theorem gc45q0 : compC T ann45 pl45 (rg (bodyOf Go.Proofs.Try.f45) 0) = g45q0 := by kernel_rfl
theorem go45q0 : okCode ann45 none pl45 (rg (bodyOf Go.Proofs.Try.f45) 0) = true := by kernel_rfl
theorem rg45q0 (F : List (Nat × AV) → List (List AV) → List AObj → Prop) (h1 : Run C Pg T ann45 none g45q0 (S d 22 l bx h) (joinK d 22 l [7, 8, 9, 10, 11, 12, 13, 14, 15, 16, 17, 18] F)) (h2 : ∀ l' bx' h', (∀ t, ([7, 8, 9, 10, 11, 12, 13, 14, 15, 16, 17, 18] : List Nat).contains t = false → lk d l' t = lk d l t) → F l' bx' h' → K .normal (S d 22 l' bx' h')) : AWp C Pg none (rg (bodyOf Go.Proofs.Try.f45) 0) (S d 22 l bx h) K := AWp.joinR T_ok mixed ann45 pl45 go45q0 gc45q0 _ F h1 h2
theorem n45 : Go.Proofs.Try.f45.ntmps = 22 := by kernel_rfl
theorem r45 : Go.Proofs.Try.f45.results.toList = [.tmp 2, .tmp 3] := by kernel_rfl
theorem f45 : Pg.funcs[45]? = some Go.Proofs.Try.f45 := by kernel_rfl
theorem run45 {args : List AV} {K : AV → List AObj → Prop} (hv : Run C Pg T ann45 none b45 (S (.tup []) 22 (enumL 0 args) [] h) (bodyK T Go.Proofs.Try.f45 K)) (hown : args.all (fun a => !a.owns) = true := by first | rfl | simp [AV.owns]) (hl : args.length ≤ 22 := by exact Nat.le_of_ble_eq_true rfl) : ACall C Pg 45 args h K := ACall.of_runR T_ok ann45 pl45 (c := bodyOf Go.Proofs.Try.f45) f45 (by kernel_rfl) (by kernel_rfl) c45 n45 hown hl hv
noncomputable def b46 : List It := [.o (some 2) (.tk (.const (.slice none 0 0))) none, .o (some 3) (.mv (.t 0)) none, .o (some 4) (.call 86 [.c (.sl true 0 [] .own), .t 3]) none, .o (some 2) (.tk (.tmp 4)) none, .ret]
theorem c46 : compR T {} [] (bodyOf Go.Proofs.Try.f46) = b46 := by kernel_rfl
theorem n46 : Go.Proofs.Try.f46.ntmps = 5 := by kernel_rfl
theorem r46 : Go.Proofs.Try.f46.results.toList = [.tmp 2] := by kernel_rfl
theorem f46 : Pg.funcs[46]? = some Go.Proofs.Try.f46 := by kernel_rfl
theorem run46 {args : List AV} {K : AV → List AObj → Prop} (hv : Run C Pg T {} none b46 (S (.tup []) 5 (enumL 0 args) [] h) (bodyK T Go.Proofs.Try.f46 K)) (hown : args.all (fun a => !a.owns) = true := by first | rfl | simp [AV.owns]) (hl : args.length ≤ 5 := by exact Nat.le_of_ble_eq_true rfl) : ACall C Pg 46 args h K := ACall.of_runR T_ok {} [] (c := bodyOf Go.Proofs.Try.f46) f46 (by kernel_rfl) (by kernel_rfl) c46 n46 hown hl hv
noncomputable def b47 : List It := [.o (some 1) (.box true (.t 0)) none, .o (some 2) (.tk (.const .nilFunc)) none, .o (some 3) (.mkf 87 [.t 1]) none, .o (some 2) (.tk (.tmp 3)) none, .ret]
theorem c47 : compR T ann47 [] (bodyOf Go.Proofs.Try.f47) = b47 := by kernel_rfl
theorem n47 : Go.Proofs.Try.f47.ntmps = 4 := by kernel_rfl
theorem r47 : Go.Proofs.Try.f47.results.toList = [.tmp 2] := by kernel_rfl
theorem f47 : Pg.funcs[47]? = some Go.Proofs.Try.f47 := by kernel_rfl
theorem run47 {args : List AV} {K : AV → List AObj → Prop} (hv : Run C Pg T ann47 none b47 (S (.tup []) 4 (enumL 0 args) [] h) (bodyK T Go.Proofs.Try.f47 K)) (hown : args.all (fun a => !a.owns) = true := by first | rfl | simp [AV.owns]) (hl : args.length ≤ 4 := by exact Nat.le_of_ble_eq_true rfl) : ACall C Pg 47 args h K := ACall.of_runR T_ok ann47 [] (c := bodyOf Go.Proofs.Try.f47) f47 (by kernel_rfl) (by kernel_rfl) c47 n47 hown hl hv
noncomputable def b58 : List It := [.o (some 2) (.box false (.t 0)) none, .o (some 4) (.alloc false [.int .i64 0, .int .i64 0, .int .i64 0, .sl true 0 [] .own, .sl true 0 [] .own, .sl true 0 [] .own]) none, .o (some 5) (.tk (.const (.int .i64 0))) none, .o (some 9) (.ldA 6 [.int .i64, .int .i64, .int .i64, .slice 33, .slice 100, .slice 86] (.t 2)) none, .o (some 10) (.call 45 [.t 9]) none, .o (some 8) (.mv (.t 10)) none, .o (some 11) (.ext (.t 8) 0) none, .o (some 12) (.ext (.t 8) 1) none, .o (some 6) (.tk (.tmp 11)) none, .o (some 7) (.tk (.tmp 12)) none, .o (some 13) (.mv (.t 7)) none, .o (some 14) (.eq1 (.int .i64) true (.t 13) (.c (.int .i64 0))) none, .cond (.tmp 14) [.o (some 15) (.bld 26 []) none, .o (some 16) (.mv (.t 7)) none, .o none (.st 6 (.t 4) (.tmp 15)) none, .o (some 5) (.tk (.tmp 16)) none, .ret] [], .o (some 17) (.mv (.t 6)) none, .o (some 18) (.mv (.t 1)) none, .o (some 19) (.mv (.t 6)) none, .o (some 20) (.callv (.t 18) [.t 19]) none, .o (some 21) (.call 73 [.t 17, .t 20]) none, .o (some 22) (.ext (.t 21) 0) none, .o (some 23) (.ext (.t 21) 1) none, .o none (.st 6 (.t 4) (.tmp 22)) none, .o (some 5) (.tk (.tmp 23)) none, .ret]
theorem c58 : compR T {} [] (bodyOf Go.Proofs.Try.f58) = b58 := by kernel_rfl
theorem n58 : Go.Proofs.Try.f58.ntmps = 24 := by kernel_rfl
theorem r58 : Go.Proofs.Try.f58.results.toList = [.cell 4 26, .tmp 5] := by kernel_rfl
theorem f58 : Pg.funcs[58]? = some Go.Proofs.Try.f58 := by kernel_rfl
theorem run58 {args : List AV} {K : AV → List AObj → Prop} (hv : Run C Pg T {} none b58 (S (.tup []) 24 (enumL 0 args) [] h) (bodyK T Go.Proofs.Try.f58 K)) (hown : args.all (fun a => !a.owns) = true := by first | rfl | simp [AV.owns]) (hl : args.length ≤ 24 := by exact Nat.le_of_ble_eq_true rfl) : ACall C Pg 58 args h K := ACall.of_runR T_ok {} [] (c := bodyOf Go.Proofs.Try.f58) f58 (by kernel_rfl) (by kernel_rfl) c58 n58 hown hl hv
noncomputable def b59 : List It := [.o (some 4) (.tk (.const (.int .i64 0))) none, .o (some 5) (.mv (.t 0)) none, .o (some 6) (.ld1 (.int .i64) (.t 1)) none, .o (some 7) (.ld1 (.int .i64) (.t 2)) none, .o (some 8) (.call 60 [.t 5, .t 6, .t 7]) none, .o (some 4) (.tk (.tmp 8)) none, .ret]
theorem c59 : compR T {} [] (bodyOf Go.Proofs.Try.f59) = b59 := by kernel_rfl
theorem n59 : Go.Proofs.Try.f59.ntmps = 9 := by kernel_rfl
theorem r59 : Go.Proofs.Try.f59.results.toList = [.tmp 4] := by kernel_rfl
theorem f59 : Pg.funcs[59]? = some Go.Proofs.Try.f59 := by kernel_rfl
theorem run59 {args : List AV} {K : AV → List AObj → Prop} (hv : Run C Pg T {} none b59 (S (.tup []) 9 (enumL 0 args) [] h) (bodyK T Go.Proofs.Try.f59 K)) (hown : args.all (fun a => !a.owns) = true := by first | rfl | simp [AV.owns]) (hl : args.length ≤ 9 := by exact Nat.le_of_ble_eq_true rfl) : ACall C Pg 59 args h K := ACall.of_runR T_ok {} [] (c := bodyOf Go.Proofs.Try.f59) f59 (by kernel_rfl) (by kernel_rfl) c59 n59 hown hl hv
noncomputable def b60 : List It := [.o (some 6) (.tk (.const (.int .i64 0))) none, .o (some 9) (.mv (.t 0)) none, .o (some 10) (.mv (.t 1)) none, .o (some 11) (.mv (.t 2)) none, .o (some 12) (.call 93 [.t 9, .t 10, .t 11]) none, .o (some 13) (.not (.t 12)) none, .cond (.tmp 13) [.o (some 6) (.tk (.const (.int .i64 1))) none, .ret] [], .rf (rg (bodyOf Go.Proofs.Try.f60) 0), .o (some 26) (.mv (.t 8)) none, .cond (.tmp 26) [.o (some 6) (.tk (.const (.int .i64 5))) none, .ret] [], .rf (rg (bodyOf Go.Proofs.Try.f60) 1), .o (some 6) (.tk (.const (.int .i64 0))) none, .ret]
theorem c60 : compR T {} pl60 (bodyOf Go.Proofs.Try.f60) = b60 := by kernel_rfl
noncomputable def g60q0 : List It := [.o (some 15) (.mv (.t 0)) none, .o (some 16) (.nilck (.t 15)) none, .o (some 17) (.fa 0 (.t 16)) none, .o (some 18) (.fa 4 (.t 17)) none, .o (some 20) (.mv (.t 1)) none, .o (some 21) (.mv (.t 2)) none, .alts [[.o (some 19) (.ld1 (.slice 100) (.t 18)) none, .alts [[.o (some 22) (.call 88 [.t 20, .t 21]) none, .alts [[.o (some 23) (.call 94 [.t 19, .t 22, .c (.fn 52 [])]) none, .o (some 14) (.mv (.t 23)) none, .o (some 24) (.ext (.t 14) 0) none, .o (some 25) (.ext (.t 14) 1) none, .o (some 7) (.tk (.tmp 24)) none, .o (some 8) (.tk (.tmp 25)) none]]]]], [.o (some 22) (.call 88 [.t 20, .t 21]) none, .alts [[.o (some 19) (.ld1 (.slice 100) (.t 18)) none, .alts [[.o (some 23) (.call 94 [.t 19, .t 22, .c (.fn 52 [])]) none, .o (some 14) (.mv (.t 23)) none, .o (some 24) (.ext (.t 14) 0) none, .o (some 25) (.ext (.t 14) 1) none, .o (some 7) (.tk (.tmp 24)) none, .o (some 8) (.tk (.tmp 25)) none]]]]]]]
theorem gc60q0 : compC T {} pl60 (rg (bodyOf Go.Proofs.Try.f60) 0) = g60q0 := by kernel_rfl
theorem go60q0 : okCode {} none pl60 (rg (bodyOf Go.Proofs.Try.f60) 0) = true := by kernel_rfl
theorem re60q0 (h1 : Run C Pg T {} none g60q0 s K) : AWp C Pg none (rg (bodyOf Go.Proofs.Try.f60) 0) s K := AWp.eachR T_ok mixed {} pl60 go60q0 gc60q0 h1
noncomputable def g60q1 : List It := [.o (some 27) (.mv (.t 0)) none, .o (some 28) (.mv (.t 0)) none, .o (some 29) (.nilck (.t 28)) none, .o (some 30) (.fa 0 (.t 29)) none, .o (some 31) (.fa 4 (.t 30)) none, .o (some 33) (.mv (.t 7)) none, .o (some 34) (.mv (.t 1)) none, .o (some 35) (.mv (.t 2)) none, .alts [[.o (some 32) (.ld1 (.slice 100) (.t 31)) none, .alts [[.o (some 36) (.call 88 [.t 34, .t 35]) none, .alts [[.o (some 37) (.bsl false 23 1 [(0, .t 36)]) none, .alts [[.o (some 38) (.call 95 [.t 32, .t 33, .t 37]) none, .o (some 39) (.nilck (.t 27)) none, .o (some 40) (.fa 0 (.t 39)) none, .o (some 41) (.fa 4 (.t 40)) none, .alts [[.o none (.st 1 (.t 41) (.tmp 38)) none]]]]]]]]], [.o (some 36) (.call 88 [.t 34, .t 35]) none, .alts [[.o (some 32) (.ld1 (.slice 100) (.t 31)) none, .alts [[.o (some 37) (.bsl false 23 1 [(0, .t 36)]) none, .alts [[.o (some 38) (.call 95 [.t 32, .t 33, .t 37]) none, .o (some 39) (.nilck (.t 27)) none, .o (some 40) (.fa 0 (.t 39)) none, .o (some 41) (.fa 4 (.t 40)) none, .alts [[.o none (.st 1 (.t 41) (.tmp 38)) none]]]]]]], [.o (some 37) (.bsl false 23 1 [(0, .t 36)]) none, .alts [[.o (some 32) (.ld1 (.slice 100) (.t 31)) none, .alts [[.o (some 38) (.call 95 [.t 32, .t 33, .t 37]) none, .o (some 39) (.nilck (.t 27)) none, .o (some 40) (.fa 0 (.t 39)) none, .o (some 41) (.fa 4 (.t 40)) none, .alts [[.o none (.st 1 (.t 41) (.tmp 38)) none]]]]]]]]]]]
theorem gc60q1 : compC T {} pl60 (rg (bodyOf Go.Proofs.Try.f60) 1) = g60q1 := by kernel_rfl
theorem go60q1 : okCode {} none pl60 (rg (bodyOf Go.Proofs.Try.f60) 1) = true := by kernel_rfl
theorem re60q1 (h1 : Run C Pg T {} none g60q1 s K) : AWp C Pg none (rg (bodyOf Go.Proofs.Try.f60) 1) s K := AWp.eachR T_ok mixed {} pl60 go60q1 gc60q1 h1
theorem n60 : Go.Proofs.Try.f60.ntmps = 42 := by kernel_rfl
theorem r60 : Go.Proofs.Try.f60.results.toList = [.tmp 6] := by kernel_rfl
theorem f60 : Pg.funcs[60]? = some Go.Proofs.Try.f60 := by kernel_rfl
theorem run60 {args : List AV} {K : AV → List AObj → Prop} (hv : Run C Pg T {} none b60 (S (.tup []) 42 (enumL 0 args) [] h) (bodyK T Go.Proofs.Try.f60 K)) (hown : args.all (fun a => !a.owns) = true := by first | rfl | simp [AV.owns]) (hl : args.length ≤ 42 := by exact Nat.le_of_ble_eq_true rfl) : ACall C Pg 60 args h K := ACall.of_runR T_ok {} pl60 (c := bodyOf Go.Proofs.Try.f60) f60 (by kernel_rfl) (by kernel_rfl) c60 n60 hown hl hv
noncomputable def b66 : List It := [.o (some 5) (.tk (.const (.int .i64 0))) none, .o (some 6) (.mv (.t 0)) none, .o (some 7) (.ld1 (.int .i64) (.t 1)) none, .o (some 8) (.ld1 (.int .i64) (.t 2)) none, .o (some 9) (.ld1 (.int .i64) (.t 3)) none, .o (some 10) (.call 67 [.t 6, .t 7, .t 8, .t 9]) none, .o (some 5) (.tk (.tmp 10)) none, .ret]
theorem c66 : compR T {} [] (bodyOf Go.Proofs.Try.f66) = b66 := by kernel_rfl
theorem n66 : Go.Proofs.Try.f66.ntmps = 11 := by kernel_rfl
theorem r66 : Go.Proofs.Try.f66.results.toList = [.tmp 5] := by kernel_rfl
theorem f66 : Pg.funcs[66]? = some Go.Proofs.Try.f66 := by kernel_rfl
theorem run66 {args : List AV} {K : AV → List AObj → Prop} (hv : Run C Pg T {} none b66 (S (.tup []) 11 (enumL 0 args) [] h) (bodyK T Go.Proofs.Try.f66 K)) (hown : args.all (fun a => !a.owns) = true := by first | rfl | simp [AV.owns]) (hl : args.length ≤ 11 := by exact Nat.le_of_ble_eq_true rfl) : ACall C Pg 66 args h K := ACall.of_runR T_ok {} [] (c := bodyOf Go.Proofs.Try.f66) f66 (by kernel_rfl) (by kernel_rfl) c66 n66 hown hl hv
noncomputable def b67 : List It := [.o (some 8) (.tk (.const (.int .i64 0))) none, .o (some 13) (.mv (.t 0)) none, .o (some 14) (.nilck (.t 13)) none, .o (some 15) (.fa 0 (.t 14)) none, .o (some 16) (.ldA 6 [.int .i64, .int .i64, .int .i64, .slice 33, .slice 100, .slice 86] (.t 15)) none, .o (some 17) (.mv (.t 1)) none, .o (some 18) (.call 56 [.t 16, .t 17]) none, .o (some 19) (.not (.t 18)) none, .o (some 20) (.mv (.t 19)) none, .o (some 21) (.mv (.t 2)) (some (some 20, false)), .o (some 22) (.ar .lss (.t 21) (.c (.int .i64 0))) (some (some 20, false)), .o (some 23) (.pick (.t 20) (.c (.bool true)) (.t 22)) none, .o (some 24) (.mv (.t 23)) none, .o (some 25) (.mv (.t 2)) (some (some 24, false)), .o (some 26) (.ar .gtr (.t 25) (.c (.int .i64 2147483647))) (some (some 24, false)), .o (some 27) (.pick (.t 24) (.c (.bool true)) (.t 26)) none, .o (some 28) (.mv (.t 27)) none, .o (some 29) (.mv (.t 3)) (some (some 28, false)), .o (some 30) (.ar .lss (.t 29) (.c (.int .i64 1))) (some (some 28, false)), .o (some 31) (.pick (.t 28) (.c (.bool true)) (.t 30)) none, .o (some 32) (.mv (.t 31)) none, .o (some 33) (.mv (.t 3)) (some (some 32, false)), .o (some 34) (.ar .gtr (.t 33) (.c (.int .i64 1000))) (some (some 32, false)), .o (some 35) (.pick (.t 32) (.c (.bool true)) (.t 34)) none, .cond (.tmp 35) [.o (some 8) (.tk (.const (.int .i64 1))) none, .ret] [], .o (some 36) (.mv (.t 0)) none, .o (some 37) (.mv (.t 1)) none, .o (some 38) (.mv (.t 2)) none, .o (some 39) (.call 97 [.t 36, .t 37, .t 38]) none, .o (some 9) (.tk (.tmp 39)) none, .o (some 40) (.mv (.t 9)) none, .o (some 41) (.ar .geq (.t 40) (.c (.int .i64 0))) none, .cond (.tmp 41) [.o (some 43) (.mv (.t 0)) none, .o (some 44) (.mv (.t 0)) none, .o (some 45) (.nilck (.t 44)) none, .o (some 46) (.fa 0 (.t 45)) none, .o (some 47) (.fa 5 (.t 46)) none, .o (some 48) (.ld1 (.slice 86) (.t 47)) none, .o (some 49) (.mv (.t 9)) none, .o (some 50) (.call 98 [.t 48, .t 49]) none, .o (some 42) (.mv (.t 50)) none, .o (some 51) (.ext (.t 42) 0) none, .o (some 52) (.ext (.t 42) 1) none, .o (some 53) (.nilck (.t 43)) none, .o (some 54) (.fa 0 (.t 53)) none, .o (some 55) (.fa 5 (.t 54)) none, .o none (.st 1 (.t 55) (.tmp 51)) none] [], .o (some 56) (.mv (.t 0)) none, .o (some 57) (.nilck (.t 56)) none, .o (some 58) (.fa 0 (.t 57)) none, .o (some 59) (.fa 5 (.t 58)) none, .o (some 60) (.ld1 (.slice 86) (.t 59)) none, .o (some 61) (.lens (.t 60)) none, .o (some 62) (.eq1 (.int .i64) false (.t 61) (.c (.int .i64 64))) none, .cond (.tmp 62) [.o (some 8) (.tk (.const (.int .i64 7))) none, .ret] [], .o (some 63) (.mv (.t 0)) none, .o (some 64) (.nilck (.t 63)) none, .o (some 65) (.fa 0 (.t 64)) none, .o (some 66) (.fa 1 (.t 65)) none, .o (some 67) (.ld1 (.int .i64) (.t 66)) none, .o (some 68) (.mv (.t 3)) none, .o (some 69) (.ar .add (.t 67) (.t 68)) none, .o (some 70) (.mv (.t 1)) none, .o (some 71) (.mv (.t 2)) none, .o (some 72) (.bld 86 [(0, .t 69), (1, .t 70), (2, .t 71)]) none, .o (some 10) (.alloc false [.int .i64 0, .int .i64 0, .int .i64 0]) none, .o none (.st 3 (.t 10) (.tmp 72)) none, .rf (rg (bodyOf Go.Proofs.Try.f67) 0), .rf (rg (bodyOf Go.Proofs.Try.f67) 1), .o (some 8) (.tk (.const (.int .i64 0))) none, .ret]
theorem c67 : compR T {} pl67 (bodyOf Go.Proofs.Try.f67) = b67 := by kernel_rfl
noncomputable def g67q0 : List It := [.o (some 74) (.mv (.t 0)) none, .o (some 75) (.nilck (.t 74)) none, .o (some 76) (.fa 0 (.t 75)) none, .o (some 77) (.fa 5 (.t 76)) none, .alts [[.o (some 78) (.ld1 (.slice 86) (.t 77)) none, .alts [[.o (some 79) (.ldA 3 [.int .i64, .int .i64, .int .i64] (.t 10)) none, .alts [[.o (some 80) (.call 99 [.t 78, .t 79, .c (.fn 54 [])]) none, .o (some 73) (.mv (.t 80)) none, .o (some 81) (.ext (.t 73) 0) none, .o (some 82) (.ext (.t 73) 1) none, .o (some 11) (.tk (.tmp 81)) none, .o (some 12) (.tk (.tmp 82)) none]]]]], [.o (some 79) (.ldA 3 [.int .i64, .int .i64, .int .i64] (.t 10)) none, .alts [[.o (some 78) (.ld1 (.slice 86) (.t 77)) none, .alts [[.o (some 80) (.call 99 [.t 78, .t 79, .c (.fn 54 [])]) none, .o (some 73) (.mv (.t 80)) none, .o (some 81) (.ext (.t 73) 0) none, .o (some 82) (.ext (.t 73) 1) none, .o (some 11) (.tk (.tmp 81)) none, .o (some 12) (.tk (.tmp 82)) none]]]]]]]
theorem gc67q0 : compC T {} pl67 (rg (bodyOf Go.Proofs.Try.f67) 0) = g67q0 := by kernel_rfl
theorem go67q0 : okCode {} none pl67 (rg (bodyOf Go.Proofs.Try.f67) 0) = true := by kernel_rfl
theorem re67q0 (h1 : Run C Pg T {} none g67q0 s K) : AWp C Pg none (rg (bodyOf Go.Proofs.Try.f67) 0) s K := AWp.eachR T_ok mixed {} pl67 go67q0 gc67q0 h1
noncomputable def g67q1 : List It := [.o (some 83) (.mv (.t 0)) none, .o (some 84) (.mv (.t 0)) none, .o (some 85) (.nilck (.t 84)) none, .o (some 86) (.fa 0 (.t 85)) none, .o (some 87) (.fa 5 (.t 86)) none, .o (some 89) (.mv (.t 11)) none, .alts [[.o (some 88) (.ld1 (.slice 86) (.t 87)) none, .alts [[.o (some 90) (.ldA 3 [.int .i64, .int .i64, .int .i64] (.t 10)) none, .alts [[.o (some 91) (.bsl false 24 1 [(0, .t 90)]) none, .alts [[.o (some 92) (.call 100 [.t 88, .t 89, .t 91]) none, .o (some 93) (.nilck (.t 83)) none, .o (some 94) (.fa 0 (.t 93)) none, .o (some 95) (.fa 5 (.t 94)) none, .alts [[.o none (.st 1 (.t 95) (.tmp 92)) none]]]]]]]]], [.o (some 90) (.ldA 3 [.int .i64, .int .i64, .int .i64] (.t 10)) none, .alts [[.o (some 88) (.ld1 (.slice 86) (.t 87)) none, .alts [[.o (some 91) (.bsl false 24 1 [(0, .t 90)]) none, .alts [[.o (some 92) (.call 100 [.t 88, .t 89, .t 91]) none, .o (some 93) (.nilck (.t 83)) none, .o (some 94) (.fa 0 (.t 93)) none, .o (some 95) (.fa 5 (.t 94)) none, .alts [[.o none (.st 1 (.t 95) (.tmp 92)) none]]]]]]], [.o (some 91) (.bsl false 24 1 [(0, .t 90)]) none, .alts [[.o (some 88) (.ld1 (.slice 86) (.t 87)) none, .alts [[.o (some 92) (.call 100 [.t 88, .t 89, .t 91]) none, .o (some 93) (.nilck (.t 83)) none, .o (some 94) (.fa 0 (.t 93)) none, .o (some 95) (.fa 5 (.t 94)) none, .alts [[.o none (.st 1 (.t 95) (.tmp 92)) none]]]]]]]]]]]
theorem gc67q1 : compC T {} pl67 (rg (bodyOf Go.Proofs.Try.f67) 1) = g67q1 := by kernel_rfl
theorem go67q1 : okCode {} none pl67 (rg (bodyOf Go.Proofs.Try.f67) 1) = true := by kernel_rfl
theorem re67q1 (h1 : Run C Pg T {} none g67q1 s K) : AWp C Pg none (rg (bodyOf Go.Proofs.Try.f67) 1) s K := AWp.eachR T_ok mixed {} pl67 go67q1 gc67q1 h1
theorem n67 : Go.Proofs.Try.f67.ntmps = 96 := by kernel_rfl
theorem r67 : Go.Proofs.Try.f67.results.toList = [.tmp 8] := by kernel_rfl
theorem f67 : Pg.funcs[67]? = some Go.Proofs.Try.f67 := by kernel_rfl
theorem run67 {args : List AV} {K : AV → List AObj → Prop} (hv : Run C Pg T {} none b67 (S (.tup []) 96 (enumL 0 args) [] h) (bodyK T Go.Proofs.Try.f67 K)) (hown : args.all (fun a => !a.owns) = true := by first | rfl | simp [AV.owns]) (hl : args.length ≤ 96 := by exact Nat.le_of_ble_eq_true rfl) : ACall C Pg 67 args h K := ACall.of_runR T_ok {} pl67 (c := bodyOf Go.Proofs.Try.f67) f67 (by kernel_rfl) (by kernel_rfl) c67 n67 hown hl hv
noncomputable def b72q0 : List It := [.rf (rg (bodyOf Go.Proofs.Try.f72) 0), .cond (.tmp 43) [] [.exit 0], .block 1 [.o (some 5) (.alloc false [.int .i64 0, .int .i64 0, .int .i64 0]) none, .o (some 45) (.mv (.t 0)) none, .o (some 46) (.mv (.t 0)) none, .o (some 47) (.nilck (.t 46)) none, .o (some 48) (.fa 0 (.t 47)) none, .o (some 49) (.fa 5 (.t 48)) none, .o (some 50) (.ld1 (.slice 86) (.t 49)) none, .o (some 51) (.call 98 [.t 50, .c (.int .i64 0)]) none, .o (some 44) (.mv (.t 51)) none, .o (some 52) (.ext (.t 44) 0) none, .o (some 53) (.ext (.t 44) 1) none, .o (some 54) (.nilck (.t 45)) none, .o (some 55) (.fa 0 (.t 54)) none, .o (some 56) (.fa 5 (.t 55)) none, .o none (.st 1 (.t 56) (.tmp 52)) none, .o none (.st 3 (.t 5) (.tmp 53)) none, .o (some 57) (.tk (.tmp 4)) none, .o (some 58) (.ldA 3 [.int .i64, .int .i64, .int .i64] (.t 5)) none, .o (some 59) (.bsl false 24 1 [(0, .t 58)]) none, .o (some 60) (.app false 24 24 (.tmp 57) (.tmp 59)) none, .o (some 4) (.tk (.tmp 60)) none]]
noncomputable def b72 : List It := [.o (some 2) (.tk (.const (.slice none 0 0))) none, .o (some 3) (.tk (.const (.int .i64 0))) none, .o (some 6) (.mv (.t 0)) none, .o (some 7) (.nilck (.t 6)) none, .o (some 8) (.fa 0 (.t 7)) none, .o (some 9) (.fa 1 (.t 8)) none, .o (some 10) (.ld1 (.int .i64) (.t 9)) none, .o (some 11) (.eq1 (.int .i64) false (.t 10) (.c (.int .i64 1099511627776))) none, .cond (.tmp 11) [.o (some 2) (.tk (.const (.slice none 0 0))) none, .o (some 3) (.tk (.const (.int .i64 3))) none, .ret] [], .o (some 12) (.mv (.t 0)) none, .o (some 13) (.nilck (.t 12)) none, .o (some 14) (.fa 0 (.t 13)) none, .o (some 15) (.fa 1 (.t 14)) none, .o (some 16) (.ld1 (.int .i64) (.t 15)) none, .o (some 17) (.ar .add (.t 16) (.c (.int .i64 1))) none, .o (some 18) (.nilck (.t 12)) none, .o (some 19) (.fa 0 (.t 18)) none, .o (some 20) (.fa 1 (.t 19)) none, .o none (.st 1 (.t 20) (.tmp 17)) none, .o (some 4) (.tk (.const (.slice none 0 0))) none, .block 0 [.loop b72q0 (lp (bodyOf Go.Proofs.Try.f72) 0)], .o (some 61) (.mv (.t 4)) none, .o (some 2) (.tk (.tmp 61)) none, .o (some 3) (.tk (.const (.int .i64 0))) none, .ret]
theorem c72q0 : compR T ann72 pl72 (lp (bodyOf Go.Proofs.Try.f72) 0) = b72q0 := by kernel_rfl
theorem lp72q0 {α : Type} (m : Nat) (ls : α → List (Nat × AV)) (bs : α → List (List AV)) (hs : α → List AObj) (φ : α → Prop) (μ : α → Nat) (g0 : α) (h0 : φ g0) (hkeys : ∀ g, (ls g).map (·.1) = (ls g0).map (·.1)) (e1 : allIn d l m (ls g0)) (e2 : bs g0 = bx.take m) (e3 : (bs g0).all (fun cs => AV.lb.lbs m cs) = true) (e4 : h = hs g0) (round : ∀ g, φ g → Run C Pg T ann72 none b72q0 (S .undef 62 (ls g) (bs g) (hs g)) (nextR d 62 m ls bs hs φ μ g K)) : AWp C Pg none (.loop (lp (bodyOf Go.Proofs.Try.f72) 0)) (S d 62 l bx h) K := AWp.loopQ T_ok ann72 pl72 c72q0 m ls bs hs φ μ g0 h0 hkeys e1 e2 e3 e4 round
theorem c72 : compR T ann72 pl72 (bodyOf Go.Proofs.Try.f72) = b72 := by kernel_rfl
noncomputable def g72q0 : List It := [.o (some 21) (.mv (.t 0)) none, .o (some 22) (.nilck (.t 21)) none, .o (some 23) (.fa 0 (.t 22)) none, .o (some 24) (.fa 5 (.t 23)) none, .alts [[.o (some 25) (.ld1 (.slice 86) (.t 24)) none, .o (some 26) (.lens (.t 25)) none, .o (some 27) (.ar .gtr (.t 26) (.c (.int .i64 0))) none, .o (some 28) (.mv (.t 27)) none, .o (some 29) (.mv (.t 0)) (some (some 28, true)), .o (some 30) (.nilck (.t 29)) (some (some 28, true)), .o (some 31) (.fa 0 (.t 30)) (some (some 28, true)), .o (some 32) (.fa 5 (.t 31)) (some (some 28, true)), .o (some 37) (.mv (.t 0)) (some (some 28, true)), .o (some 38) (.nilck (.t 37)) (some (some 28, true)), .o (some 39) (.fa 0 (.t 38)) (some (some 28, true)), .o (some 40) (.fa 1 (.t 39)) (some (some 28, true)), .alts [[.o (some 33) (.ld1 (.slice 86) (.t 32)) (some (some 28, true)), .o (some 34) (.ixs 3 [.int .i64, .int .i64, .int .i64] (.t 33) (.c (.int .i64 0))) (some (some 28, true)), .o (some 35) (.fa 0 (.t 34)) (some (some 28, true)), .alts [[.o (some 36) (.ld1 (.int .i64) (.t 35)) (some (some 28, true)), .alts [[.o (some 41) (.ld1 (.int .i64) (.t 40)) (some (some 28, true)), .o (some 42) (.eq1 (.int .i64) false (.t 36) (.t 41)) (some (some 28, true)), .o (some 43) (.pick (.t 28) (.t 42) (.c (.bool false))) none]]], [.o (some 41) (.ld1 (.int .i64) (.t 40)) (some (some 28, true)), .alts [[.o (some 36) (.ld1 (.int .i64) (.t 35)) (some (some 28, true)), .o (some 42) (.eq1 (.int .i64) false (.t 36) (.t 41)) (some (some 28, true)), .o (some 43) (.pick (.t 28) (.t 42) (.c (.bool false))) none]]]]], [.o (some 41) (.ld1 (.int .i64) (.t 40)) (some (some 28, true)), .alts [[.o (some 33) (.ld1 (.slice 86) (.t 32)) (some (some 28, true)), .o (some 34) (.ixs 3 [.int .i64, .int .i64, .int .i64] (.t 33) (.c (.int .i64 0))) (some (some 28, true)), .o (some 35) (.fa 0 (.t 34)) (some (some 28, true)), .alts [[.o (some 36) (.ld1 (.int .i64) (.t 35)) (some (some 28, true)), .o (some 42) (.eq1 (.int .i64) false (.t 36) (.t 41)) (some (some 28, true)), .o (some 43) (.pick (.t 28) (.t 42) (.c (.bool false))) none]]]]]]]]]
theorem gc72q0 : compC T ann72 pl72 (rg (bodyOf Go.Proofs.Try.f72) 0) = g72q0 := by kernel_rfl
theorem go72q0 : okCode ann72 none pl72 (rg (bodyOf Go.Proofs.Try.f72) 0) = true := by kernel_rfl
theorem re72q0 (h1 : Run C Pg T ann72 none g72q0 s K) : AWp C Pg none (rg (bodyOf Go.Proofs.Try.f72) 0) s K := AWp.eachR T_ok mixed ann72 pl72 go72q0 gc72q0 h1
theorem n72 : Go.Proofs.Try.f72.ntmps = 62 := by kernel_rfl
theorem r72 : Go.Proofs.Try.f72.results.toList = [.tmp 2, .tmp 3] := by kernel_rfl
theorem f72 : Pg.funcs[72]? = some Go.Proofs.Try.f72 := by kernel_rfl
theorem run72 {args : List AV} {K : AV → List AObj → Prop} (hv : Run C Pg T ann72 none b72 (S (.tup []) 62 (enumL 0 args) [] h) (bodyK T Go.Proofs.Try.f72 K)) (hown : args.all (fun a => !a.owns) = true := by first | rfl | simp [AV.owns]) (hl : args.length ≤ 62 := by exact Nat.le_of_ble_eq_true rfl) : ACall C Pg 72 args h K := ACall.of_runR T_ok ann72 pl72 (c := bodyOf Go.Proofs.Try.f72) f72 (by kernel_rfl) (by kernel_rfl) c72 n72 hown hl hv
noncomputable def b73 : List It := [.o (some 4) (.alloc false [.int .i64 0, .int .i64 0, .int .i64 0, .sl true 0 [] .own, .sl true 0 [] .own, .sl true 0 [] .own]) none, .o (some 5) (.tk (.const (.int .i64 0))) none, .o (some 6) (.mv (.t 1)) none, .o (some 7) (.eq1 (.int .i64) true (.t 6) (.c (.int .i64 0))) none, .cond (.tmp 7) [.o (some 8) (.bld 26 []) none, .o (some 9) (.mv (.t 1)) none, .o none (.st 6 (.t 4) (.tmp 8)) none, .o (some 5) (.tk (.tmp 9)) none, .ret] [], .o (some 10) (.mv (.t 0)) none, .o (some 11) (.nilck (.t 10)) none, .o (some 12) (.fa 0 (.t 11)) none, .o (some 13) (.ldA 6 [.int .i64, .int .i64, .int .i64, .slice 33, .slice 100, .slice 86] (.t 12)) none, .o none (.st 6 (.t 4) (.tmp 13)) none, .o (some 5) (.tk (.const (.int .i64 0))) none, .ret]
theorem c73 : compR T {} [] (bodyOf Go.Proofs.Try.f73) = b73 := by kernel_rfl
theorem n73 : Go.Proofs.Try.f73.ntmps = 14 := by kernel_rfl
theorem r73 : Go.Proofs.Try.f73.results.toList = [.cell 4 26, .tmp 5] := by kernel_rfl
theorem f73 : Pg.funcs[73]? = some Go.Proofs.Try.f73 := by kernel_rfl
theorem run73 {args : List AV} {K : AV → List AObj → Prop} (hv : Run C Pg T {} none b73 (S (.tup []) 14 (enumL 0 args) [] h) (bodyK T Go.Proofs.Try.f73 K)) (hown : args.all (fun a => !a.owns) = true := by first | rfl | simp [AV.owns]) (hl : args.length ≤ 14 := by exact Nat.le_of_ble_eq_true rfl) : ACall C Pg 73 args h K := ACall.of_runR T_ok {} [] (c := bodyOf Go.Proofs.Try.f73) f73 (by kernel_rfl) (by kernel_rfl) c73 n73 hown hl hv
noncomputable def b74 : List It := [.o (some 1) (.box true (.t 0)) none, .o (some 2) (.tk (.const .nilIface)) none, .o (some 3) (.fa 0 (.t 1)) none, .o (some 4) (.ld1 (.int .i64) (.t 3)) none, .block 0 [.o (some 6) (.eq1 (.int .i64) false (.t 4) (.c (.int .i64 1))) none, .o (some 5) (.tk (.tmp 6)) none, .cond (.tmp 5) [.o (some 7) (.mkf 101 [.t 1]) none, .o (some 8) (.mki 149 (.t 7)) none, .o (some 2) (.tk (.tmp 8)) none, .ret] [.o (some 10) (.eq1 (.int .i64) false (.t 4) (.c (.int .i64 2))) none, .o (some 9) (.tk (.tmp 10)) none, .cond (.tmp 9) [.o (some 11) (.mkf 102 [.t 1]) none, .o (some 12) (.mki 149 (.t 11)) none, .o (some 2) (.tk (.tmp 12)) none, .ret] [.o (some 14) (.eq1 (.int .i64) false (.t 4) (.c (.int .i64 3))) none, .o (some 13) (.tk (.tmp 14)) none, .cond (.tmp 13) [.o (some 15) (.mkf 103 [.t 1]) none, .o (some 16) (.mki 149 (.t 15)) none, .o (some 2) (.tk (.tmp 16)) none, .ret] [.o (some 18) (.eq1 (.int .i64) false (.t 4) (.c (.int .i64 4))) none, .o (some 17) (.tk (.tmp 18)) none, .cond (.tmp 17) [.o (some 19) (.mkf 104 [.t 1]) none, .o (some 20) (.mki 149 (.t 19)) none, .o (some 2) (.tk (.tmp 20)) none, .ret] [.o (some 22) (.eq1 (.int .i64) false (.t 4) (.c (.int .i64 5))) none, .o (some 21) (.tk (.tmp 22)) none, .cond (.tmp 21) [.o (some 23) (.mkf 106 [.t 1]) none, .o (some 24) (.mki 149 (.t 23)) none, .o (some 2) (.tk (.tmp 24)) none, .ret] [.o (some 26) (.eq1 (.int .i64) false (.t 4) (.c (.int .i64 6))) none, .o (some 25) (.tk (.tmp 26)) none, .cond (.tmp 25) [.o (some 27) (.mkf 107 [.t 1]) none, .o (some 28) (.mki 150 (.t 27)) none, .o (some 2) (.tk (.tmp 28)) none, .ret] [.o (some 30) (.eq1 (.int .i64) false (.t 4) (.c (.int .i64 7))) none, .o (some 29) (.tk (.tmp 30)) none, .cond (.tmp 29) [.o (some 31) (.mkf 108 [.t 1]) none, .o (some 32) (.mki 150 (.t 31)) none, .o (some 2) (.tk (.tmp 32)) none, .ret] [.o (some 34) (.eq1 (.int .i64) false (.t 4) (.c (.int .i64 8))) none, .o (some 33) (.tk (.tmp 34)) none, .cond (.tmp 33) [.o (some 35) (.mkf 109 [.t 1]) none, .o (some 36) (.mki 150 (.t 35)) none, .o (some 2) (.tk (.tmp 36)) none, .ret] [.o (some 38) (.eq1 (.int .i64) false (.t 4) (.c (.int .i64 9))) none, .o (some 37) (.tk (.tmp 38)) none, .cond (.tmp 37) [.o (some 39) (.mkf 110 [.t 1]) none, .o (some 40) (.mki 150 (.t 39)) none, .o (some 2) (.tk (.tmp 40)) none, .ret] [.o (some 42) (.eq1 (.int .i64) false (.t 4) (.c (.int .i64 10))) none, .o (some 41) (.tk (.tmp 42)) none, .cond (.tmp 41) [.o (some 43) (.bld 152 []) none, .o (some 44) (.mki 152 (.t 43)) none, .o (some 2) (.tk (.tmp 44)) none, .ret] []]]]]]]]]]], .o (some 45) (.mki 150 (.c (.fn 111 []))) none, .o (some 2) (.tk (.tmp 45)) none, .ret]
theorem c74 : compR T ann74 [] (bodyOf Go.Proofs.Try.f74) = b74 := by kernel_rfl
theorem n74 : Go.Proofs.Try.f74.ntmps = 46 := by kernel_rfl
theorem r74 : Go.Proofs.Try.f74.results.toList = [.tmp 2] := by kernel_rfl
theorem f74 : Pg.funcs[74]? = some Go.Proofs.Try.f74 := by kernel_rfl
theorem run74 {args : List AV} {K : AV → List AObj → Prop} (hv : Run C Pg T ann74 none b74 (S (.tup []) 46 (enumL 0 args) [] h) (bodyK T Go.Proofs.Try.f74 K)) (hown : args.all (fun a => !a.owns) = true := by first | rfl | simp [AV.owns]) (hl : args.length ≤ 46 := by exact Nat.le_of_ble_eq_true rfl) : ACall C Pg 74 args h K := ACall.of_runR T_ok ann74 [] (c := bodyOf Go.Proofs.Try.f74) f74 (by kernel_rfl) (by kernel_rfl) c74 n74 hown hl hv
noncomputable def b75 : List It := [.o (some 2) (.tk (.const (.bool false))) none, .o (some 3) (.mv (.t 0)) none, .block 0 [.o (some 4) (.tas (.t 3) 149 true) none, .o (some 5) (.ext (.t 4) 1) none, .o (some 6) (.ext (.t 4) 0) none, .o (some 7) (.tas (.t 3) 152 true) none, .o (some 8) (.ext (.t 7) 1) none, .o (some 9) (.ext (.t 7) 0) none, .o (some 10) (.pick (.t 5) (.c (.bool true)) (.t 8)) none, .cond (.tmp 10) [.o (some 2) (.tk (.const (.bool true))) none, .ret] []], .o (some 2) (.tk (.const (.bool false))) none, .ret]
theorem c75 : compR T {} [] (bodyOf Go.Proofs.Try.f75) = b75 := by kernel_rfl
theorem n75 : Go.Proofs.Try.f75.ntmps = 11 := by kernel_rfl
theorem r75 : Go.Proofs.Try.f75.results.toList = [.tmp 2] := by kernel_rfl
theorem f75 : Pg.funcs[75]? = some Go.Proofs.Try.f75 := by kernel_rfl
theorem run75 {args : List AV} {K : AV → List AObj → Prop} (hv : Run C Pg T {} none b75 (S (.tup []) 11 (enumL 0 args) [] h) (bodyK T Go.Proofs.Try.f75 K)) (hown : args.all (fun a => !a.owns) = true := by first | rfl | simp [AV.owns]) (hl : args.length ≤ 11 := by exact Nat.le_of_ble_eq_true rfl) : ACall C Pg 75 args h K := ACall.of_runR T_ok {} [] (c := bodyOf Go.Proofs.Try.f75) f75 (by kernel_rfl) (by kernel_rfl) c75 n75 hown hl hv
noncomputable def b76 : List It := [.o (some 2) (.box true (.t 0)) none, .o (some 3) (.box true (.t 1)) none, .o (some 4) (.alloc true [.int .i64 0, .int .i64 0, .int .i64 0, .int .i64 0, .str []]) none, .o (some 5) (.alloc true [.int .i64 0]) none, .o (some 7) (.ld1 (.ptr 125) (.t 2)) none, .o (some 8) (.ld1 (.int .i64) (.t 3)) none, .o (some 9) (.call 112 [.t 7, .t 8]) none, .o (some 10) (.not (.t 9)) none, .cond (.tmp 10) [.o (some 11) (.bld 33 []) none, .o none (.st 5 (.t 4) (.tmp 11)) none, .o none (.st 1 (.t 5) (.const (.int .i64 4))) none, .ret] [], .o (some 12) (.ld1 (.ptr 125) (.t 2)) none, .o (some 13) (.call 47 [.t 12]) none, .block 0 [.rf (lp (bodyOf Go.Proofs.Try.f76) 0)], .o (some 23) (.bld 33 []) none, .o none (.st 5 (.t 4) (.tmp 23)) none, .o none (.st 1 (.t 5) (.const (.int .i64 6))) none, .ret]
noncomputable def x76q0 : List It := [.o (some 6) (.tk (.tmp 14)) none]
theorem xc76q0 : compR T ann76 [] (rfA (lp (bodyOf Go.Proofs.Try.f76) 0)) = x76q0 := by kernel_rfl
noncomputable def y76q0 : List It := [.block 1 [.o (some 15) (.mv (.t 6)) none, .o (some 16) (.ld1 (.int .i64) (.t 3)) none, .o (some 17) (.eq1 (.int .i64) false (.t 15) (.t 16)) none, .cond (.tmp 17) [.o (some 18) (.ld1 (.ptr 125) (.t 2)) none, .o (some 19) (.ld1 (.int .i64) (.t 3)) none, .o (some 20) (.call 78 [.t 18, .t 19]) none, .o (some 21) (.ext (.t 20) 0) none, .o (some 22) (.ext (.t 20) 1) none, .o none (.st 5 (.t 4) (.tmp 21)) none, .o none (.st 1 (.t 5) (.tmp 22)) none, .ret] []]]
theorem yc76q0 : compR T ann76 [] (rfB (lp (bodyOf Go.Proofs.Try.f76) 0)) = y76q0 := by kernel_rfl
theorem c76 : compR T ann76 [] (bodyOf Go.Proofs.Try.f76) = b76 := by kernel_rfl
theorem n76 : Go.Proofs.Try.f76.ntmps = 24 := by kernel_rfl
theorem r76 : Go.Proofs.Try.f76.results.toList = [.cell 4 33, .cell 5 29] := by kernel_rfl
theorem f76 : Pg.funcs[76]? = some Go.Proofs.Try.f76 := by kernel_rfl
theorem run76 {args : List AV} {K : AV → List AObj → Prop} (hv : Run C Pg T ann76 none b76 (S (.tup []) 24 (enumL 0 args) [] h) (bodyK T Go.Proofs.Try.f76 K)) (hown : args.all (fun a => !a.owns) = true := by first | rfl | simp [AV.owns]) (hl : args.length ≤ 24 := by exact Nat.le_of_ble_eq_true rfl) : ACall C Pg 76 args h K := ACall.of_runR T_ok ann76 [] (c := bodyOf Go.Proofs.Try.f76) f76 (by kernel_rfl) (by kernel_rfl) c76 n76 hown hl hv
noncomputable def b78 : List It := [.o (some 4) (.alloc false [.int .i64 0, .int .i64 0, .int .i64 0, .int .i64 0, .str []]) none, .o (some 5) (.tk (.const (.int .i64 0))) none, .o (some 6) (.mv (.t 0)) none, .o (some 7) (.mv (.t 1)) none, .o (some 8) (.call 112 [.t 6, .t 7]) none, .o (some 9) (.not (.t 8)) none, .cond (.tmp 9) [.o (some 10) (.ldA 5 [.int .i64, .int .i64, .int .i64, .int .i64, .str] (.t 4)) none, .o none (.st 5 (.t 4) (.tmp 10)) none, .o (some 5) (.tk (.const (.int .i64 4))) none, .ret] [], .o (some 12) (.mv (.t 0)) none, .o (some 13) (.mv (.t 0)) none, .o (some 14) (.nilck (.t 13)) none, .o (some 15) (.fa 0 (.t 14)) none, .o (some 16) (.fa 3 (.t 15)) none, .o (some 17) (.ld1 (.slice 33) (.t 16)) none, .o (some 18) (.mv (.t 1)) none, .o (some 19) (.call 113 [.t 17, .t 18]) none, .o (some 11) (.mv (.t 19)) none, .o (some 20) (.ext (.t 11) 0) none, .o (some 21) (.ext (.t 11) 1) none, .o (some 22) (.nilck (.t 12)) none, .o (some 23) (.fa 0 (.t 22)) none, .o (some 24) (.fa 3 (.t 23)) none, .o none (.st 1 (.t 24) (.tmp 20)) none, .o none (.st 5 (.t 4) (.tmp 21)) none, .o (some 25) (.ldA 5 [.int .i64, .int .i64, .int .i64, .int .i64, .str] (.t 4)) none, .o none (.st 5 (.t 4) (.tmp 25)) none, .o (some 5) (.tk (.const (.int .i64 0))) none, .ret]
theorem c78 : compR T {} [] (bodyOf Go.Proofs.Try.f78) = b78 := by kernel_rfl
theorem n78 : Go.Proofs.Try.f78.ntmps = 26 := by kernel_rfl
theorem r78 : Go.Proofs.Try.f78.results.toList = [.cell 4 33, .tmp 5] := by kernel_rfl
theorem f78 : Pg.funcs[78]? = some Go.Proofs.Try.f78 := by kernel_rfl
theorem run78 {args : List AV} {K : AV → List AObj → Prop} (hv : Run C Pg T {} none b78 (S (.tup []) 26 (enumL 0 args) [] h) (bodyK T Go.Proofs.Try.f78 K)) (hown : args.all (fun a => !a.owns) = true := by first | rfl | simp [AV.owns]) (hl : args.length ≤ 26 := by exact Nat.le_of_ble_eq_true rfl) : ACall C Pg 78 args h K := ACall.of_runR T_ok {} [] (c := bodyOf Go.Proofs.Try.f78) f78 (by kernel_rfl) (by kernel_rfl) c78 n78 hown hl hv
noncomputable def b80 : List It := [.o (some 8) (.alloc false [.int .i64 0, .int .i64 0, .int .i64 0, .int .i64 0, .str []]) none, .o (some 9) (.tk (.const (.int .i64 0))) none, .block 0 [.o (some 12) (.mv (.t 0)) none, .o (some 13) (.nilck (.t 12)) none, .o (some 14) (.fa 0 (.t 13)) none, .o (some 15) (.ldA 6 [.int .i64, .int .i64, .int .i64, .slice 33, .slice 100, .slice 86] (.t 14)) none, .o (some 16) (.mv (.t 1)) none, .o (some 17) (.call 56 [.t 15, .t 16]) none, .o (some 18) (.not (.t 17)) none, .o (some 19) (.mv (.t 18)) none, .o (some 20) (.mv (.t 0)) (some (some 19, false)), .o (some 21) (.nilck (.t 20)) (some (some 19, false)), .o (some 22) (.fa 0 (.t 21)) (some (some 19, false)), .o (some 23) (.ldA 6 [.int .i64, .int .i64, .int .i64, .slice 33, .slice 100, .slice 86] (.t 22)) (some (some 19, false)), .o (some 24) (.mv (.t 2)) (some (some 19, false)), .o (some 25) (.call 56 [.t 23, .t 24]) (some (some 19, false)), .o (some 26) (.not (.t 25)) (some (some 19, false)), .o (some 27) (.pick (.t 19) (.c (.bool true)) (.t 26)) none, .o (some 28) (.mv (.t 27)) none, .o (some 29) (.mv (.t 1)) (some (some 28, false)), .o (some 30) (.mv (.t 2)) (some (some 28, false)), .o (some 31) (.eq1 (.int .i64) false (.t 29) (.t 30)) (some (some 28, false)), .o (some 32) (.pick (.t 28) (.c (.bool true)) (.t 31)) none, .o (some 33) (.mv (.t 32)) none, .o (some 34) (.mv (.t 3)) (some (some 33, false)), .o (some 35) (.lenS (.t 34)) (some (some 33, false)), .o (some 36) (.ar .gtr (.t 35) (.c (.int .i64 500000))) (some (some 33, false)), .o (some 37) (.pick (.t 33) (.c (.bool true)) (.t 36)) none, .o (some 11) (.tk (.tmp 37)) none, .cond (.tmp 11) [.o (some 38) (.bld 33 []) none, .o none (.st 5 (.t 8) (.tmp 38)) none, .o (some 9) (.tk (.const (.int .i64 1))) none, .ret] [.o (some 40) (.mv (.t 0)) none, .o (some 41) (.nilck (.t 40)) none, .o (some 42) (.fa 0 (.t 41)) none, .o (some 43) (.fa 2 (.t 42)) none, .o (some 44) (.ld1 (.int .i64) (.t 43)) none, .o (some 45) (.eq1 (.int .i64) false (.t 44) (.c (.int .i64 1099511627776))) none, .o (some 39) (.tk (.tmp 45)) none, .cond (.tmp 39) [.o (some 46) (.bld 33 []) none, .o none (.st 5 (.t 8) (.tmp 46)) none, .o (some 9) (.tk (.const (.int .i64 3))) none, .ret] [.o (some 48) (.mv (.t 0)) none, .o (some 49) (.nilck (.t 48)) none, .o (some 50) (.fa 0 (.t 49)) none, .o (some 51) (.fa 3 (.t 50)) none, .o (some 52) (.ld1 (.slice 33) (.t 51)) none, .o (some 53) (.lens (.t 52)) none, .o (some 54) (.eq1 (.int .i64) false (.t 53) (.c (.int .i64 200))) none, .o (some 47) (.tk (.tmp 54)) none, .cond (.tmp 47) [.o (some 55) (.bld 33 []) none, .o none (.st 5 (.t 8) (.tmp 55)) none, .o (some 9) (.tk (.const (.int .i64 7))) none, .ret] []]]], .rf (rg (bodyOf Go.Proofs.Try.f80) 0), .rf (rg (bodyOf Go.Proofs.Try.f80) 1), .o (some 82) (.mv (.t 0)) none, .o (some 83) (.nilck (.t 82)) none, .o (some 84) (.fa 0 (.t 83)) none, .o (some 85) (.fa 2 (.t 84)) none, .o (some 86) (.ld1 (.int .i64) (.t 85)) none, .o (some 87) (.ar .add (.t 86) (.c (.int .i64 1))) none, .o (some 88) (.nilck (.t 82)) none, .o (some 89) (.fa 0 (.t 88)) none, .o (some 90) (.fa 2 (.t 89)) none, .o none (.st 1 (.t 90) (.tmp 87)) none, .o (some 91) (.ldA 5 [.int .i64, .int .i64, .int .i64, .int .i64, .str] (.t 10)) none, .o none (.st 5 (.t 8) (.tmp 91)) none, .o (some 9) (.tk (.const (.int .i64 0))) none, .ret]
theorem c80 : compR T ann80 pl80 (bodyOf Go.Proofs.Try.f80) = b80 := by kernel_rfl
noncomputable def g80q0 : List It := [.o (some 56) (.mv (.t 0)) none, .o (some 57) (.nilck (.t 56)) none, .o (some 58) (.fa 0 (.t 57)) none, .o (some 59) (.fa 2 (.t 58)) none, .o (some 61) (.mv (.t 1)) none, .o (some 62) (.mv (.t 2)) none, .o (some 63) (.mv (.t 0)) none, .o (some 64) (.nilck (.t 63)) none, .o (some 65) (.fa 0 (.t 64)) none, .o (some 66) (.fa 1 (.t 65)) none, .o (some 68) (.mv (.t 3)) none, .alts [[.o (some 60) (.ld1 (.int .i64) (.t 59)) none, .alts [[.o (some 67) (.ld1 (.int .i64) (.t 66)) none, .o (some 69) (.bld 33 [(0, .t 60), (1, .t 61), (2, .t 62), (3, .t 67), (4, .t 68)]) none, .alts [[.o (some 10) (.alloc false [.int .i64 0, .int .i64 0, .int .i64 0, .int .i64 0, .str []]) none, .alts [[.o none (.st 5 (.t 10) (.tmp 69)) none]]]]], [.o (some 10) (.alloc false [.int .i64 0, .int .i64 0, .int .i64 0, .int .i64 0, .str []]) none, .alts [[.o (some 67) (.ld1 (.int .i64) (.t 66)) none, .o (some 69) (.bld 33 [(0, .t 60), (1, .t 61), (2, .t 62), (3, .t 67), (4, .t 68)]) none, .alts [[.o none (.st 5 (.t 10) (.tmp 69)) none]]]]]]], [.o (some 67) (.ld1 (.int .i64) (.t 66)) none, .alts [[.o (some 60) (.ld1 (.int .i64) (.t 59)) none, .o (some 69) (.bld 33 [(0, .t 60), (1, .t 61), (2, .t 62), (3, .t 67), (4, .t 68)]) none, .alts [[.o (some 10) (.alloc false [.int .i64 0, .int .i64 0, .int .i64 0, .int .i64 0, .str []]) none, .alts [[.o none (.st 5 (.t 10) (.tmp 69)) none]]]]], [.o (some 10) (.alloc false [.int .i64 0, .int .i64 0, .int .i64 0, .int .i64 0, .str []]) none, .alts [[.o (some 60) (.ld1 (.int .i64) (.t 59)) none, .o (some 69) (.bld 33 [(0, .t 60), (1, .t 61), (2, .t 62), (3, .t 67), (4, .t 68)]) none, .alts [[.o none (.st 5 (.t 10) (.tmp 69)) none]]]]]]], [.o (some 10) (.alloc false [.int .i64 0, .int .i64 0, .int .i64 0, .int .i64 0, .str []]) none, .alts [[.o (some 60) (.ld1 (.int .i64) (.t 59)) none, .alts [[.o (some 67) (.ld1 (.int .i64) (.t 66)) none, .o (some 69) (.bld 33 [(0, .t 60), (1, .t 61), (2, .t 62), (3, .t 67), (4, .t 68)]) none, .alts [[.o none (.st 5 (.t 10) (.tmp 69)) none]]]]], [.o (some 67) (.ld1 (.int .i64) (.t 66)) none, .alts [[.o (some 60) (.ld1 (.int .i64) (.t 59)) none, .o (some 69) (.bld 33 [(0, .t 60), (1, .t 61), (2, .t 62), (3, .t 67), (4, .t 68)]) none, .alts [[.o none (.st 5 (.t 10) (.tmp 69)) none]]]]]]]]]
theorem gc80q0 : compC T ann80 pl80 (rg (bodyOf Go.Proofs.Try.f80) 0) = g80q0 := by kernel_rfl
theorem go80q0 : okCode ann80 none pl80 (rg (bodyOf Go.Proofs.Try.f80) 0) = true := by kernel_rfl
theorem rj80q0 {v56 v57 v58 v59 v61 v62 v63 v64 v65 v66 v68 v60 v67 v69 v10 : AV} (h1 : Run C Pg T ann80 none g80q0 (S d 92 l bx h) (sameK d 92 [10, 56, 57, 58, 59, 60, 61, 62, 63, 64, 65, 66, 67, 68, 69] l ((10, v10) :: (69, v69) :: (67, v67) :: (60, v60) :: (68, v68) :: (66, v66) :: (65, v65) :: (64, v64) :: (63, v63) :: (62, v62) :: (61, v61) :: (59, v59) :: (58, v58) :: (57, v57) :: (56, v56) :: l) bx' h')) (hK : K .normal (S d 92 ((10, v10) :: (69, v69) :: (67, v67) :: (60, v60) :: (68, v68) :: (66, v66) :: (65, v65) :: (64, v64) :: (63, v63) :: (62, v62) :: (61, v61) :: (59, v59) :: (58, v58) :: (57, v57) :: (56, v56) :: l) bx' h')) : AWp C Pg none (rg (bodyOf Go.Proofs.Try.f80) 0) (S d 92 l bx h) K := AWp.joinV T_ok mixed ann80 pl80 go80q0 gc80q0 [10, 56, 57, 58, 59, 60, 61, 62, 63, 64, 65, 66, 67, 68, 69] _ _ _ (Sk.cons rfl (Sk.cons rfl (Sk.cons rfl (Sk.cons rfl (Sk.cons rfl (Sk.cons rfl (Sk.cons rfl (Sk.cons rfl (Sk.cons rfl (Sk.cons rfl (Sk.cons rfl (Sk.cons rfl (Sk.cons rfl (Sk.cons rfl (Sk.cons rfl (Sk.refl)))))))))))))))) h1 hK
noncomputable def g80q1 : List It := [.o (some 70) (.mv (.t 0)) none, .o (some 71) (.mv (.t 0)) none, .o (some 72) (.nilck (.t 71)) none, .o (some 73) (.fa 0 (.t 72)) none, .o (some 74) (.fa 3 (.t 73)) none, .alts [[.o (some 75) (.ld1 (.slice 33) (.t 74)) none, .alts [[.o (some 76) (.ldA 5 [.int .i64, .int .i64, .int .i64, .int .i64, .str] (.t 10)) none, .alts [[.o (some 77) (.bsl false 22 1 [(0, .t 76)]) none, .alts [[.o (some 78) (.app true 22 22 (.tmp 75) (.tmp 77)) none, .o (some 79) (.nilck (.t 70)) none, .o (some 80) (.fa 0 (.t 79)) none, .o (some 81) (.fa 3 (.t 80)) none, .alts [[.o none (.st 1 (.t 81) (.tmp 78)) none]]]]]]]]], [.o (some 76) (.ldA 5 [.int .i64, .int .i64, .int .i64, .int .i64, .str] (.t 10)) none, .alts [[.o (some 75) (.ld1 (.slice 33) (.t 74)) none, .alts [[.o (some 77) (.bsl false 22 1 [(0, .t 76)]) none, .alts [[.o (some 78) (.app true 22 22 (.tmp 75) (.tmp 77)) none, .o (some 79) (.nilck (.t 70)) none, .o (some 80) (.fa 0 (.t 79)) none, .o (some 81) (.fa 3 (.t 80)) none, .alts [[.o none (.st 1 (.t 81) (.tmp 78)) none]]]]]]], [.o (some 77) (.bsl false 22 1 [(0, .t 76)]) none, .alts [[.o (some 75) (.ld1 (.slice 33) (.t 74)) none, .alts [[.o (some 78) (.app true 22 22 (.tmp 75) (.tmp 77)) none, .o (some 79) (.nilck (.t 70)) none, .o (some 80) (.fa 0 (.t 79)) none, .o (some 81) (.fa 3 (.t 80)) none, .alts [[.o none (.st 1 (.t 81) (.tmp 78)) none]]]]]]]]]]]
theorem gc80q1 : compC T ann80 pl80 (rg (bodyOf Go.Proofs.Try.f80) 1) = g80q1 := by kernel_rfl
theorem go80q1 : okCode ann80 none pl80 (rg (bodyOf Go.Proofs.Try.f80) 1) = true := by kernel_rfl
theorem re80q1 (h1 : Run C Pg T ann80 none g80q1 s K) : AWp C Pg none (rg (bodyOf Go.Proofs.Try.f80) 1) s K := AWp.eachR T_ok mixed ann80 pl80 go80q1 gc80q1 h1
theorem n80 : Go.Proofs.Try.f80.ntmps = 92 := by kernel_rfl
theorem r80 : Go.Proofs.Try.f80.results.toList = [.cell 8 33, .tmp 9] := by kernel_rfl
theorem f80 : Pg.funcs[80]? = some Go.Proofs.Try.f80 := by kernel_rfl
theorem run80 {args : List AV} {K : AV → List AObj → Prop} (hv : Run C Pg T ann80 none b80 (S (.tup []) 92 (enumL 0 args) [] h) (bodyK T Go.Proofs.Try.f80 K)) (hown : args.all (fun a => !a.owns) = true := by first | rfl | simp [AV.owns]) (hl : args.length ≤ 92 := by exact Nat.le_of_ble_eq_true rfl) : ACall C Pg 80 args h K := ACall.of_runR T_ok ann80 pl80 (c := bodyOf Go.Proofs.Try.f80) f80 (by kernel_rfl) (by kernel_rfl) c80 n80 hown hl hv
noncomputable def b81 : List It := [.o (some 4) (.tk (.const (.int .i64 0))) none, .o (some 8) (.mv (.t 0)) none, .o (some 9) (.ld1 (.int .i64) (.t 1)) none, .o (some 10) (.ld1 (.int .i64) (.t 2)) none, .o (some 11) (.call 82 [.t 8, .t 9, .t 10]) none, .o (some 7) (.mv (.t 11)) none, .o (some 12) (.ext (.t 7) 0) none, .o (some 13) (.ext (.t 7) 1) none, .o (some 5) (.alloc false [.int .i64 0, .int .i64 0, .int .i64 0, .int .i64 0, .str []]) none, .o none (.st 5 (.t 5) (.tmp 12)) none, .o (some 6) (.tk (.tmp 13)) none, .o (some 14) (.mv (.t 6)) none, .o (some 4) (.tk (.tmp 14)) none, .ret]
theorem c81 : compR T {} [] (bodyOf Go.Proofs.Try.f81) = b81 := by kernel_rfl
theorem n81 : Go.Proofs.Try.f81.ntmps = 15 := by kernel_rfl
theorem r81 : Go.Proofs.Try.f81.results.toList = [.tmp 4] := by kernel_rfl
theorem f81 : Pg.funcs[81]? = some Go.Proofs.Try.f81 := by kernel_rfl
theorem run81 {args : List AV} {K : AV → List AObj → Prop} (hv : Run C Pg T {} none b81 (S (.tup []) 15 (enumL 0 args) [] h) (bodyK T Go.Proofs.Try.f81 K)) (hown : args.all (fun a => !a.owns) = true := by first | rfl | simp [AV.owns]) (hl : args.length ≤ 15 := by exact Nat.le_of_ble_eq_true rfl) : ACall C Pg 81 args h K := ACall.of_runR T_ok {} [] (c := bodyOf Go.Proofs.Try.f81) f81 (by kernel_rfl) (by kernel_rfl) c81 n81 hown hl hv
noncomputable def b82 : List It := [.o (some 6) (.alloc false [.int .i64 0, .int .i64 0, .int .i64 0, .int .i64 0, .str []]) none, .o (some 7) (.tk (.const (.int .i64 0))) none, .block 0 [.o (some 9) (.mv (.t 0)) none, .o (some 10) (.mv (.t 1)) none, .o (some 11) (.call 112 [.t 9, .t 10]) none, .o (some 12) (.not (.t 11)) none, .o (some 8) (.tk (.tmp 12)) none, .cond (.tmp 8) [.o (some 13) (.bld 33 []) none, .o none (.st 5 (.t 6) (.tmp 13)) none, .o (some 7) (.tk (.const (.int .i64 4))) none, .ret] [.o (some 15) (.mv (.t 2)) none, .o (some 16) (.ar .lss (.t 15) (.c (.int .i64 0))) none, .o (some 17) (.mv (.t 16)) none, .o (some 18) (.mv (.t 2)) (some (some 17, false)), .o (some 19) (.ar .gtr (.t 18) (.c (.int .i64 1000))) (some (some 17, false)), .o (some 20) (.pick (.t 17) (.c (.bool true)) (.t 19)) none, .o (some 14) (.tk (.tmp 20)) none, .cond (.tmp 14) [.o (some 21) (.bld 33 []) none, .o none (.st 5 (.t 6) (.tmp 21)) none, .o (some 7) (.tk (.const (.int .i64 1))) none, .ret] []]], .rf (rg (bodyOf Go.Proofs.Try.f82) 0), .o (some 37) (.mv (.t 0)) none, .o (some 38) (.nilck (.t 37)) none, .o (some 39) (.fa 0 (.t 38)) none, .o (some 40) (.fa 3 (.t 39)) none, .o (some 41) (.ld1 (.slice 33) (.t 40)) none, .o (some 42) (.mv (.t 1)) none, .o (some 43) (.ixs 5 [.int .i64, .int .i64, .int .i64, .int .i64, .str] (.t 41) (.t 42)) none, .o (some 44) (.ldA 5 [.int .i64, .int .i64, .int .i64, .int .i64, .str] (.t 43)) none, .o none (.st 5 (.t 6) (.tmp 44)) none, .o (some 7) (.tk (.const (.int .i64 0))) none, .ret]
theorem c82 : compR T {} pl82 (bodyOf Go.Proofs.Try.f82) = b82 := by kernel_rfl
noncomputable def g82q0 : List It := [.o (some 22) (.mv (.t 0)) none, .o (some 23) (.nilck (.t 22)) none, .o (some 24) (.fa 0 (.t 23)) none, .o (some 25) (.fa 3 (.t 24)) none, .o (some 27) (.mv (.t 1)) none, .o (some 28) (.mv (.t 0)) none, .o (some 29) (.nilck (.t 28)) none, .o (some 30) (.fa 0 (.t 29)) none, .o (some 31) (.fa 1 (.t 30)) none, .o (some 33) (.mv (.t 2)) none, .alts [[.o (some 26) (.ld1 (.slice 33) (.t 25)) none, .alts [[.o (some 32) (.ld1 (.int .i64) (.t 31)) none, .o (some 34) (.ar .add (.t 32) (.t 33)) none, .o (some 35) (.ixs 5 [.int .i64, .int .i64, .int .i64, .int .i64, .str] (.t 26) (.t 27)) none, .o (some 36) (.fa 3 (.t 35)) none, .alts [[.o none (.st 1 (.t 36) (.tmp 34)) none]]]]], [.o (some 32) (.ld1 (.int .i64) (.t 31)) none, .o (some 34) (.ar .add (.t 32) (.t 33)) none, .alts [[.o (some 26) (.ld1 (.slice 33) (.t 25)) none, .o (some 35) (.ixs 5 [.int .i64, .int .i64, .int .i64, .int .i64, .str] (.t 26) (.t 27)) none, .o (some 36) (.fa 3 (.t 35)) none, .alts [[.o none (.st 1 (.t 36) (.tmp 34)) none]]]]]]]
theorem gc82q0 : compC T {} pl82 (rg (bodyOf Go.Proofs.Try.f82) 0) = g82q0 := by kernel_rfl
theorem go82q0 : okCode {} none pl82 (rg (bodyOf Go.Proofs.Try.f82) 0) = true := by kernel_rfl
theorem re82q0 (h1 : Run C Pg T {} none g82q0 s K) : AWp C Pg none (rg (bodyOf Go.Proofs.Try.f82) 0) s K := AWp.eachR T_ok mixed {} pl82 go82q0 gc82q0 h1
theorem n82 : Go.Proofs.Try.f82.ntmps = 45 := by kernel_rfl
theorem r82 : Go.Proofs.Try.f82.results.toList = [.cell 6 33, .tmp 7] := by kernel_rfl
theorem f82 : Pg.funcs[82]? = some Go.Proofs.Try.f82 := by kernel_rfl
theorem run82 {args : List AV} {K : AV → List AObj → Prop} (hv : Run C Pg T {} none b82 (S (.tup []) 45 (enumL 0 args) [] h) (bodyK T Go.Proofs.Try.f82 K)) (hown : args.all (fun a => !a.owns) = true := by first | rfl | simp [AV.owns]) (hl : args.length ≤ 45 := by exact Nat.le_of_ble_eq_true rfl) : ACall C Pg 82 args h K := ACall.of_runR T_ok {} pl82 (c := bodyOf Go.Proofs.Try.f82) f82 (by kernel_rfl) (by kernel_rfl) c82 n82 hown hl hv
noncomputable def b83 : List It := [.o (some 2) (.tk (.const (.slice none 0 0))) none, .o (some 3) (.mv (.t 0)) none, .o (some 4) (.eqt 22 false (.t 3) (.c (.sl true 0 [] .own))) none, .cond (.tmp 4) [.o (some 2) (.tk (.const (.slice none 0 0))) none, .ret] [], .o (some 5) (.bsl false 22 0 []) none, .o (some 6) (.mv (.t 0)) none, .o (some 7) (.app true 22 22 (.tmp 5) (.tmp 6)) none, .o (some 2) (.tk (.tmp 7)) none, .ret]
theorem c83 : compR T ann83 [] (bodyOf Go.Proofs.Try.f83) = b83 := by kernel_rfl
theorem n83 : Go.Proofs.Try.f83.ntmps = 8 := by kernel_rfl
theorem r83 : Go.Proofs.Try.f83.results.toList = [.tmp 2] := by kernel_rfl
theorem f83 : Pg.funcs[83]? = some Go.Proofs.Try.f83 := by kernel_rfl
theorem run83 {args : List AV} {K : AV → List AObj → Prop} (hv : Run C Pg T ann83 none b83 (S (.tup []) 8 (enumL 0 args) [] h) (bodyK T Go.Proofs.Try.f83 K)) (hown : args.all (fun a => !a.owns) = true := by first | rfl | simp [AV.owns]) (hl : args.length ≤ 8 := by exact Nat.le_of_ble_eq_true rfl) : ACall C Pg 83 args h K := ACall.of_runR T_ok ann83 [] (c := bodyOf Go.Proofs.Try.f83) f83 (by kernel_rfl) (by kernel_rfl) c83 n83 hown hl hv
noncomputable def b84 : List It := [.o (some 2) (.tk (.const (.slice none 0 0))) none, .o (some 3) (.mv (.t 0)) none, .o (some 4) (.eqt 23 false (.t 3) (.c (.sl true 0 [] .own))) none, .cond (.tmp 4) [.o (some 2) (.tk (.const (.slice none 0 0))) none, .ret] [], .o (some 5) (.bsl false 23 0 []) none, .o (some 6) (.mv (.t 0)) none, .o (some 7) (.app true 23 23 (.tmp 5) (.tmp 6)) none, .o (some 2) (.tk (.tmp 7)) none, .ret]
theorem c84 : compR T ann84 [] (bodyOf Go.Proofs.Try.f84) = b84 := by kernel_rfl
theorem n84 : Go.Proofs.Try.f84.ntmps = 8 := by kernel_rfl
theorem r84 : Go.Proofs.Try.f84.results.toList = [.tmp 2] := by kernel_rfl
theorem f84 : Pg.funcs[84]? = some Go.Proofs.Try.f84 := by kernel_rfl
theorem run84 {args : List AV} {K : AV → List AObj → Prop} (hv : Run C Pg T ann84 none b84 (S (.tup []) 8 (enumL 0 args) [] h) (bodyK T Go.Proofs.Try.f84 K)) (hown : args.all (fun a => !a.owns) = true := by first | rfl | simp [AV.owns]) (hl : args.length ≤ 8 := by exact Nat.le_of_ble_eq_true rfl) : ACall C Pg 84 args h K := ACall.of_runR T_ok ann84 [] (c := bodyOf Go.Proofs.Try.f84) f84 (by kernel_rfl) (by kernel_rfl) c84 n84 hown hl hv
noncomputable def b85 : List It := [.o (some 2) (.tk (.const (.slice none 0 0))) none, .o (some 3) (.mv (.t 0)) none, .o (some 4) (.eqt 24 false (.t 3) (.c (.sl true 0 [] .own))) none, .cond (.tmp 4) [.o (some 2) (.tk (.const (.slice none 0 0))) none, .ret] [], .o (some 5) (.bsl false 24 0 []) none, .o (some 6) (.mv (.t 0)) none, .o (some 7) (.app true 24 24 (.tmp 5) (.tmp 6)) none, .o (some 2) (.tk (.tmp 7)) none, .ret]
theorem c85 : compR T ann85 [] (bodyOf Go.Proofs.Try.f85) = b85 := by kernel_rfl
theorem n85 : Go.Proofs.Try.f85.ntmps = 8 := by kernel_rfl
theorem r85 : Go.Proofs.Try.f85.results.toList = [.tmp 2] := by kernel_rfl
theorem f85 : Pg.funcs[85]? = some Go.Proofs.Try.f85 := by kernel_rfl
theorem run85 {args : List AV} {K : AV → List AObj → Prop} (hv : Run C Pg T ann85 none b85 (S (.tup []) 8 (enumL 0 args) [] h) (bodyK T Go.Proofs.Try.f85 K)) (hown : args.all (fun a => !a.owns) = true := by first | rfl | simp [AV.owns]) (hl : args.length ≤ 8 := by exact Nat.le_of_ble_eq_true rfl) : ACall C Pg 85 args h K := ACall.of_runR T_ok ann85 [] (c := bodyOf Go.Proofs.Try.f85) f85 (by kernel_rfl) (by kernel_rfl) c85 n85 hown hl hv
noncomputable def b86 : List It := [.o (some 2) (.box true (.t 0)) none, .o (some 4) (.tk (.const (.slice none 0 0))) none, .o (some 6) (.mv (.t 1)) none, .block 0 [.rf (lp (bodyOf Go.Proofs.Try.f86) 0)], .o (some 12) (.ld1 (.slice 3) (.t 2)) none, .o (some 4) (.tk (.tmp 12)) none, .ret]
noncomputable def x86q0 : List It := [.o (some 5) (.tk (.tmp 7)) none]
theorem xc86q0 : compR T ann86 [] (rfA (lp (bodyOf Go.Proofs.Try.f86) 0)) = x86q0 := by kernel_rfl
noncomputable def y86q0 : List It := [.block 1 [.o (some 8) (.ld1 (.slice 3) (.t 2)) none, .o (some 9) (.mv (.t 5)) none, .o (some 10) (.bsl false 37 1 [(0, .t 9)]) none, .o (some 11) (.app true 37 37 (.tmp 8) (.tmp 10)) none, .o none (.st 1 (.t 2) (.tmp 11)) none]]
theorem yc86q0 : compR T ann86 [] (rfB (lp (bodyOf Go.Proofs.Try.f86) 0)) = y86q0 := by kernel_rfl
theorem c86 : compR T ann86 [] (bodyOf Go.Proofs.Try.f86) = b86 := by kernel_rfl
theorem n86 : Go.Proofs.Try.f86.ntmps = 13 := by kernel_rfl
theorem r86 : Go.Proofs.Try.f86.results.toList = [.tmp 4] := by kernel_rfl
theorem f86 : Pg.funcs[86]? = some Go.Proofs.Try.f86 := by kernel_rfl
theorem run86 {args : List AV} {K : AV → List AObj → Prop} (hv : Run C Pg T ann86 none b86 (S (.tup []) 13 (enumL 0 args) [] h) (bodyK T Go.Proofs.Try.f86 K)) (hown : args.all (fun a => !a.owns) = true := by first | rfl | simp [AV.owns]) (hl : args.length ≤ 13 := by exact Nat.le_of_ble_eq_true rfl) : ACall C Pg 86 args h K := ACall.of_runR T_ok ann86 [] (c := bodyOf Go.Proofs.Try.f86) f86 (by kernel_rfl) (by kernel_rfl) c86 n86 hown hl hv
noncomputable def b87q1 : List It := [.o (some 29) (.ar .lss (.t 28) (.t 27)) none, .cond (.tmp 29) [] [.exit 2], .block 3 [.o (some 30) (.mv (.t 28)) none, .o (some 31) (.ixs 5 [.int .i64, .int .i64, .int .i64, .int .i64, .str] (.t 26) (.t 28)) none, .o (some 32) (.ldA 5 [.int .i64, .int .i64, .int .i64, .int .i64, .str] (.t 31)) none, .o (some 7) (.alloc false [.int .i64 0, .int .i64 0, .int .i64 0, .int .i64 0, .str []]) none, .o (some 6) (.tk (.tmp 30)) none, .o none (.st 5 (.t 7) (.tmp 32)) none, .rf (rg (bodyOf Go.Proofs.Try.f87) 0), .cond (.tmp 56) [.ret] []], .o (some 57) (.ar .add (.t 28) (.c (.int .i64 1))) none, .o (some 28) (.mv (.t 57)) none]
noncomputable def b87q0 : List It := [.o (some 16) (.ar .lss (.t 15) (.t 14)) none, .cond (.tmp 16) [] [.exit 0], .block 1 [.o (some 17) (.ixs 2 [.int .i64, .int .i64] (.t 13) (.t 15)) none, .o (some 18) (.ldA 2 [.int .i64, .int .i64] (.t 17)) none, .o (some 5) (.alloc false [.int .i64 0, .int .i64 0]) none, .o none (.st 2 (.t 5) (.tmp 18)) none, .o (some 19) (.mv (.t 3)) none, .o (some 20) (.ldA 2 [.int .i64, .int .i64] (.t 5)) none, .o none (.mup 135 (.t 19) (.t 20) (.c (.bool true))) none], .o (some 21) (.ar .add (.t 15) (.c (.int .i64 1))) none, .o (some 15) (.mv (.t 21)) none]
noncomputable def b87 : List It := [.o (some 8) .mkm none, .o (some 3) (.tk (.tmp 8)) none, .o (some 9) (.ld1 (.ptr 125) (.t 1)) none, .o (some 10) (.nilck (.t 9)) none, .o (some 11) (.fa 0 (.t 10)) none, .o (some 12) (.fa 4 (.t 11)) none, .o (some 13) (.ld1 (.slice 100) (.t 12)) none, .o (some 14) (.lens (.t 13)) none, .o (some 15) (.mv (.c (.int .i64 0))) none, .block 0 [.loop b87q0 (lp (bodyOf Go.Proofs.Try.f87) 0)], .o (some 22) (.ld1 (.ptr 125) (.t 1)) none, .o (some 23) (.nilck (.t 22)) none, .o (some 24) (.fa 0 (.t 23)) none, .o (some 25) (.fa 3 (.t 24)) none, .o (some 26) (.ld1 (.slice 33) (.t 25)) none, .o (some 27) (.lens (.t 26)) none, .o (some 28) (.mv (.c (.int .i64 0))) none, .block 2 [.loop b87q1 (lp (bodyOf Go.Proofs.Try.f87) 1)]]
theorem c87q0 : compR T {} pl87 (lp (bodyOf Go.Proofs.Try.f87) 0) = b87q0 := by kernel_rfl
theorem lp87q0 {α : Type} (m : Nat) (ls : α → List (Nat × AV)) (bs : α → List (List AV)) (hs : α → List AObj) (φ : α → Prop) (μ : α → Nat) (g0 : α) (h0 : φ g0) (hkeys : ∀ g, (ls g).map (·.1) = (ls g0).map (·.1)) (e1 : allIn d l m (ls g0)) (e2 : bs g0 = bx.take m) (e3 : (bs g0).all (fun cs => AV.lb.lbs m cs) = true) (e4 : h = hs g0) (round : ∀ g, φ g → Run C Pg T {} none b87q0 (S .undef 58 (ls g) (bs g) (hs g)) (nextR d 58 m ls bs hs φ μ g K)) : AWp C Pg none (.loop (lp (bodyOf Go.Proofs.Try.f87) 0)) (S d 58 l bx h) K := AWp.loopQ T_ok {} pl87 c87q0 m ls bs hs φ μ g0 h0 hkeys e1 e2 e3 e4 round
theorem c87q1 : compR T {} pl87 (lp (bodyOf Go.Proofs.Try.f87) 1) = b87q1 := by kernel_rfl
theorem lp87q1 {α : Type} (m : Nat) (ls : α → List (Nat × AV)) (bs : α → List (List AV)) (hs : α → List AObj) (φ : α → Prop) (μ : α → Nat) (g0 : α) (h0 : φ g0) (hkeys : ∀ g, (ls g).map (·.1) = (ls g0).map (·.1)) (e1 : allIn d l m (ls g0)) (e2 : bs g0 = bx.take m) (e3 : (bs g0).all (fun cs => AV.lb.lbs m cs) = true) (e4 : h = hs g0) (round : ∀ g, φ g → Run C Pg T {} none b87q1 (S .undef 58 (ls g) (bs g) (hs g)) (nextR d 58 m ls bs hs φ μ g K)) : AWp C Pg none (.loop (lp (bodyOf Go.Proofs.Try.f87) 1)) (S d 58 l bx h) K := AWp.loopQ T_ok {} pl87 c87q1 m ls bs hs φ μ g0 h0 hkeys e1 e2 e3 e4 round
theorem c87 : compR T {} pl87 (bodyOf Go.Proofs.Try.f87) = b87 := by kernel_rfl
noncomputable def g87q0 : List It := [.o (some 33) (.fa 3 (.t 7)) none, .alts [[.o (some 34) (.ld1 (.int .i64) (.t 33)) none, .alts [[.o (some 35) (.ld1 (.ptr 125) (.t 1)) none, .o (some 36) (.nilck (.t 35)) none, .o (some 37) (.fa 0 (.t 36)) none, .o (some 38) (.fa 1 (.t 37)) none, .alts [[.o (some 39) (.ld1 (.int .i64) (.t 38)) none, .o (some 40) (.ar .leq (.t 34) (.t 39)) none, .o (some 41) (.mv (.t 40)) none, .o (some 42) (.mv (.t 3)) (some (some 41, true)), .o (some 43) (.fa 1 (.t 7)) (some (some 41, true)), .o (some 45) (.fa 2 (.t 7)) (some (some 41, true)), .alts [[.o (some 44) (.ld1 (.int .i64) (.t 43)) (some (some 41, true)), .alts [[.o (some 46) (.ld1 (.int .i64) (.t 45)) (some (some 41, true)), .alts [[.o (some 47) (.call 88 [.t 44, .t 46]) (some (some 41, true)), .alts [[.o (some 48) (.lkp 135 (.t 42) (.t 47) false) (some (some 41, true)), .o (some 49) (.not (.t 48)) (some (some 41, true)), .o (some 50) (.pick (.t 41) (.t 49) (.c (.bool false))) none, .o (some 51) (.mv (.t 50)) none, .o (some 52) (.mv (.t 0)) (some (some 51, true)), .o (some 53) (.mv (.t 6)) (some (some 51, true)), .alts [[.o (some 54) (.callv (.t 52) [.t 53]) (some (some 51, true)), .o (some 55) (.not (.t 54)) (some (some 51, true)), .o (some 56) (.pick (.t 51) (.t 55) (.c (.bool false))) none]]]]]]]]], [.o (some 46) (.ld1 (.int .i64) (.t 45)) (some (some 41, true)), .alts [[.o (some 44) (.ld1 (.int .i64) (.t 43)) (some (some 41, true)), .alts [[.o (some 47) (.call 88 [.t 44, .t 46]) (some (some 41, true)), .alts [[.o (some 48) (.lkp 135 (.t 42) (.t 47) false) (some (some 41, true)), .o (some 49) (.not (.t 48)) (some (some 41, true)), .o (some 50) (.pick (.t 41) (.t 49) (.c (.bool false))) none, .o (some 51) (.mv (.t 50)) none, .o (some 52) (.mv (.t 0)) (some (some 51, true)), .o (some 53) (.mv (.t 6)) (some (some 51, true)), .alts [[.o (some 54) (.callv (.t 52) [.t 53]) (some (some 51, true)), .o (some 55) (.not (.t 54)) (some (some 51, true)), .o (some 56) (.pick (.t 51) (.t 55) (.c (.bool false))) none]]]]]]]]]]]]]]], [.o (some 35) (.ld1 (.ptr 125) (.t 1)) none, .o (some 36) (.nilck (.t 35)) none, .o (some 37) (.fa 0 (.t 36)) none, .o (some 38) (.fa 1 (.t 37)) none, .alts [[.o (some 34) (.ld1 (.int .i64) (.t 33)) none, .alts [[.o (some 39) (.ld1 (.int .i64) (.t 38)) none, .o (some 40) (.ar .leq (.t 34) (.t 39)) none, .o (some 41) (.mv (.t 40)) none, .o (some 42) (.mv (.t 3)) (some (some 41, true)), .o (some 43) (.fa 1 (.t 7)) (some (some 41, true)), .o (some 45) (.fa 2 (.t 7)) (some (some 41, true)), .alts [[.o (some 44) (.ld1 (.int .i64) (.t 43)) (some (some 41, true)), .alts [[.o (some 46) (.ld1 (.int .i64) (.t 45)) (some (some 41, true)), .alts [[.o (some 47) (.call 88 [.t 44, .t 46]) (some (some 41, true)), .alts [[.o (some 48) (.lkp 135 (.t 42) (.t 47) false) (some (some 41, true)), .o (some 49) (.not (.t 48)) (some (some 41, true)), .o (some 50) (.pick (.t 41) (.t 49) (.c (.bool false))) none, .o (some 51) (.mv (.t 50)) none, .o (some 52) (.mv (.t 0)) (some (some 51, true)), .o (some 53) (.mv (.t 6)) (some (some 51, true)), .alts [[.o (some 54) (.callv (.t 52) [.t 53]) (some (some 51, true)), .o (some 55) (.not (.t 54)) (some (some 51, true)), .o (some 56) (.pick (.t 51) (.t 55) (.c (.bool false))) none]]]]]]]]], [.o (some 46) (.ld1 (.int .i64) (.t 45)) (some (some 41, true)), .alts [[.o (some 44) (.ld1 (.int .i64) (.t 43)) (some (some 41, true)), .alts [[.o (some 47) (.call 88 [.t 44, .t 46]) (some (some 41, true)), .alts [[.o (some 48) (.lkp 135 (.t 42) (.t 47) false) (some (some 41, true)), .o (some 49) (.not (.t 48)) (some (some 41, true)), .o (some 50) (.pick (.t 41) (.t 49) (.c (.bool false))) none, .o (some 51) (.mv (.t 50)) none, .o (some 52) (.mv (.t 0)) (some (some 51, true)), .o (some 53) (.mv (.t 6)) (some (some 51, true)), .alts [[.o (some 54) (.callv (.t 52) [.t 53]) (some (some 51, true)), .o (some 55) (.not (.t 54)) (some (some 51, true)), .o (some 56) (.pick (.t 51) (.t 55) (.c (.bool false))) none]]]]]]]]]]]]], [.o (some 39) (.ld1 (.int .i64) (.t 38)) none, .alts [[.o (some 34) (.ld1 (.int .i64) (.t 33)) none, .o (some 40) (.ar .leq (.t 34) (.t 39)) none, .o (some 41) (.mv (.t 40)) none, .o (some 42) (.mv (.t 3)) (some (some 41, true)), .o (some 43) (.fa 1 (.t 7)) (some (some 41, true)), .o (some 45) (.fa 2 (.t 7)) (some (some 41, true)), .alts [[.o (some 44) (.ld1 (.int .i64) (.t 43)) (some (some 41, true)), .alts [[.o (some 46) (.ld1 (.int .i64) (.t 45)) (some (some 41, true)), .alts [[.o (some 47) (.call 88 [.t 44, .t 46]) (some (some 41, true)), .alts [[.o (some 48) (.lkp 135 (.t 42) (.t 47) false) (some (some 41, true)), .o (some 49) (.not (.t 48)) (some (some 41, true)), .o (some 50) (.pick (.t 41) (.t 49) (.c (.bool false))) none, .o (some 51) (.mv (.t 50)) none, .o (some 52) (.mv (.t 0)) (some (some 51, true)), .o (some 53) (.mv (.t 6)) (some (some 51, true)), .alts [[.o (some 54) (.callv (.t 52) [.t 53]) (some (some 51, true)), .o (some 55) (.not (.t 54)) (some (some 51, true)), .o (some 56) (.pick (.t 51) (.t 55) (.c (.bool false))) none]]]]]]]]], [.o (some 46) (.ld1 (.int .i64) (.t 45)) (some (some 41, true)), .alts [[.o (some 44) (.ld1 (.int .i64) (.t 43)) (some (some 41, true)), .alts [[.o (some 47) (.call 88 [.t 44, .t 46]) (some (some 41, true)), .alts [[.o (some 48) (.lkp 135 (.t 42) (.t 47) false) (some (some 41, true)), .o (some 49) (.not (.t 48)) (some (some 41, true)), .o (some 50) (.pick (.t 41) (.t 49) (.c (.bool false))) none, .o (some 51) (.mv (.t 50)) none, .o (some 52) (.mv (.t 0)) (some (some 51, true)), .o (some 53) (.mv (.t 6)) (some (some 51, true)), .alts [[.o (some 54) (.callv (.t 52) [.t 53]) (some (some 51, true)), .o (some 55) (.not (.t 54)) (some (some 51, true)), .o (some 56) (.pick (.t 51) (.t 55) (.c (.bool false))) none]]]]]]]]]]]]]]]]]
theorem gc87q0 : compC T {} pl87 (rg (bodyOf Go.Proofs.Try.f87) 0) = g87q0 := by kernel_rfl
theorem go87q0 : okCode {} none pl87 (rg (bodyOf Go.Proofs.Try.f87) 0) = true := by kernel_rfl
theorem re87q0 (h1 : Run C Pg T {} none g87q0 s K) : AWp C Pg none (rg (bodyOf Go.Proofs.Try.f87) 0) s K := AWp.eachR T_ok mixed {} pl87 go87q0 gc87q0 h1
theorem n87 : Go.Proofs.Try.f87.ntmps = 58 := by kernel_rfl
theorem r87 : Go.Proofs.Try.f87.results.toList = [] := by kernel_rfl
theorem f87 : Pg.funcs[87]? = some Go.Proofs.Try.f87 := by kernel_rfl
theorem run87 {args : List AV} {K : AV → List AObj → Prop} (hv : Run C Pg T {} none b87 (S (.tup []) 58 (enumL 0 args) [] h) (bodyK T Go.Proofs.Try.f87 K)) (hown : args.all (fun a => !a.owns) = true := by first | rfl | simp [AV.owns]) (hl : args.length ≤ 58 := by exact Nat.le_of_ble_eq_true rfl) : ACall C Pg 87 args h K := ACall.of_runR T_ok {} pl87 (c := bodyOf Go.Proofs.Try.f87) f87 (by kernel_rfl) (by kernel_rfl) c87 n87 hown hl hv
noncomputable def b93 : List It := [.o (some 6) (.tk (.const (.bool false))) none, .o (some 7) (.mv (.t 0)) none, .o (some 8) (.nilck (.t 7)) none, .o (some 9) (.fa 0 (.t 8)) none, .o (some 10) (.ldA 6 [.int .i64, .int .i64, .int .i64, .slice 33, .slice 100, .slice 86] (.t 9)) none, .o (some 11) (.mv (.t 1)) none, .o (some 12) (.call 56 [.t 10, .t 11]) none, .o (some 13) (.mv (.t 12)) none, .o (some 14) (.mv (.t 0)) (some (some 13, true)), .o (some 15) (.nilck (.t 14)) (some (some 13, true)), .o (some 16) (.fa 0 (.t 15)) (some (some 13, true)), .o (some 17) (.ldA 6 [.int .i64, .int .i64, .int .i64, .slice 33, .slice 100, .slice 86] (.t 16)) (some (some 13, true)), .o (some 18) (.mv (.t 2)) (some (some 13, true)), .o (some 19) (.call 56 [.t 17, .t 18]) (some (some 13, true)), .o (some 20) (.pick (.t 13) (.t 19) (.c (.bool false))) none, .o (some 21) (.mv (.t 20)) none, .o (some 22) (.mv (.t 1)) (some (some 21, true)), .o (some 23) (.mv (.t 2)) (some (some 21, true)), .o (some 24) (.eq1 (.int .i64) true (.t 22) (.t 23)) (some (some 21, true)), .o (some 25) (.pick (.t 21) (.t 24) (.c (.bool false))) none, .o (some 6) (.tk (.tmp 25)) none, .ret]
theorem c93 : compR T {} [] (bodyOf Go.Proofs.Try.f93) = b93 := by kernel_rfl
theorem n93 : Go.Proofs.Try.f93.ntmps = 26 := by kernel_rfl
theorem r93 : Go.Proofs.Try.f93.results.toList = [.tmp 6] := by kernel_rfl
theorem f93 : Pg.funcs[93]? = some Go.Proofs.Try.f93 := by kernel_rfl
theorem run93 {args : List AV} {K : AV → List AObj → Prop} (hv : Run C Pg T {} none b93 (S (.tup []) 26 (enumL 0 args) [] h) (bodyK T Go.Proofs.Try.f93 K)) (hown : args.all (fun a => !a.owns) = true := by first | rfl | simp [AV.owns]) (hl : args.length ≤ 26 := by exact Nat.le_of_ble_eq_true rfl) : ACall C Pg 93 args h K := ACall.of_runR T_ok {} [] (c := bodyOf Go.Proofs.Try.f93) f93 (by kernel_rfl) (by kernel_rfl) c93 n93 hown hl hv
noncomputable def b94q0 : List It := [.o (some 15) (.mv (.t 9)) none, .o (some 16) (.mv (.t 10)) none, .o (some 17) (.ar .lss (.t 15) (.t 16)) none, .cond (.tmp 17) [] [.exit 0], .block 1 [.o (some 18) (.mv (.t 9)) none, .o (some 19) (.mv (.t 10)) none, .o (some 20) (.ar .add (.t 18) (.t 19)) none, .o (some 21) (.cvt 3 155 (.t 20)) none, .o (some 22) (.shf .shr (.t 21) (.c (.int .u64 1))) none, .o (some 23) (.cvt 155 3 (.t 22)) none, .o (some 11) (.tk (.tmp 23)) none, .rf (rg (bodyOf Go.Proofs.Try.f94) 0), .cond (.tmp 31) [.o (some 32) (.mv (.t 11)) none, .o (some 33) (.ar .add (.t 32) (.c (.int .i64 1))) none, .o (some 9) (.tk (.tmp 33)) none] [.o (some 34) (.mv (.t 11)) none, .o (some 10) (.tk (.tmp 34)) none]]]
noncomputable def b94 : List It := [.o (some 4) (.box false (.t 1)) none, .o (some 6) (.tk (.const (.int .i64 0))) none, .o (some 7) (.tk (.const (.bool false))) none, .o (some 12) (.mv (.t 0)) none, .o (some 13) (.lens (.t 12)) none, .o (some 8) (.tk (.tmp 13)) none, .o (some 14) (.mv (.t 8)) none, .o (some 9) (.tk (.const (.int .i64 0))) none, .o (some 10) (.tk (.tmp 14)) none, .block 0 [.loop b94q0 (lp (bodyOf Go.Proofs.Try.f94) 0)], .rf (rg (bodyOf Go.Proofs.Try.f94) 1), .ret]
theorem c94q0 : compR T {} pl94 (lp (bodyOf Go.Proofs.Try.f94) 0) = b94q0 := by kernel_rfl
theorem lp94q0 {α : Type} (m : Nat) (ls : α → List (Nat × AV)) (bs : α → List (List AV)) (hs : α → List AObj) (φ : α → Prop) (μ : α → Nat) (g0 : α) (h0 : φ g0) (hkeys : ∀ g, (ls g).map (·.1) = (ls g0).map (·.1)) (e1 : allIn d l m (ls g0)) (e2 : bs g0 = bx.take m) (e3 : (bs g0).all (fun cs => AV.lb.lbs m cs) = true) (e4 : h = hs g0) (round : ∀ g, φ g → Run C Pg T {} none b94q0 (S .undef 49 (ls g) (bs g) (hs g)) (nextR d 49 m ls bs hs φ μ g K)) : AWp C Pg none (.loop (lp (bodyOf Go.Proofs.Try.f94) 0)) (S d 49 l bx h) K := AWp.loopQ T_ok {} pl94 c94q0 m ls bs hs φ μ g0 h0 hkeys e1 e2 e3 e4 round
theorem c94 : compR T {} pl94 (bodyOf Go.Proofs.Try.f94) = b94 := by kernel_rfl
noncomputable def g94q0 : List It := [.o (some 24) (.mv (.t 2)) none, .o (some 25) (.mv (.t 0)) none, .o (some 26) (.mv (.t 11)) none, .o (some 27) (.ixs 2 [.int .i64, .int .i64] (.t 25) (.t 26)) none, .alts [[.o (some 28) (.ldA 2 [.int .i64, .int .i64] (.t 27)) none, .alts [[.o (some 29) (.ldA 2 [.int .i64, .int .i64] (.t 4)) none, .alts [[.o (some 30) (.callv (.t 24) [.t 28, .t 29]) none, .o (some 31) (.ar .lss (.t 30) (.c (.int .i64 0))) none]]]]], [.o (some 29) (.ldA 2 [.int .i64, .int .i64] (.t 4)) none, .alts [[.o (some 28) (.ldA 2 [.int .i64, .int .i64] (.t 27)) none, .alts [[.o (some 30) (.callv (.t 24) [.t 28, .t 29]) none, .o (some 31) (.ar .lss (.t 30) (.c (.int .i64 0))) none]]]]]]]
theorem gc94q0 : compC T {} pl94 (rg (bodyOf Go.Proofs.Try.f94) 0) = g94q0 := by kernel_rfl
theorem go94q0 : okCode {} none pl94 (rg (bodyOf Go.Proofs.Try.f94) 0) = true := by kernel_rfl
theorem re94q0 (h1 : Run C Pg T {} none g94q0 s K) : AWp C Pg none (rg (bodyOf Go.Proofs.Try.f94) 0) s K := AWp.eachR T_ok mixed {} pl94 go94q0 gc94q0 h1
noncomputable def g94q1 : List It := [.o (some 35) (.mv (.t 9)) none, .o (some 36) (.mv (.t 9)) none, .o (some 37) (.mv (.t 8)) none, .o (some 38) (.ar .lss (.t 36) (.t 37)) none, .o (some 39) (.mv (.t 38)) none, .o (some 40) (.mv (.t 2)) (some (some 39, true)), .o (some 41) (.mv (.t 0)) (some (some 39, true)), .o (some 42) (.mv (.t 9)) (some (some 39, true)), .o (some 43) (.ixs 2 [.int .i64, .int .i64] (.t 41) (.t 42)) (some (some 39, true)), .alts [[.o (some 44) (.ldA 2 [.int .i64, .int .i64] (.t 43)) (some (some 39, true)), .alts [[.o (some 45) (.ldA 2 [.int .i64, .int .i64] (.t 4)) (some (some 39, true)), .alts [[.o (some 46) (.callv (.t 40) [.t 44, .t 45]) (some (some 39, true)), .o (some 47) (.eq1 (.int .i64) false (.t 46) (.c (.int .i64 0))) (some (some 39, true)), .o (some 48) (.pick (.t 39) (.t 47) (.c (.bool false))) none, .o (some 6) (.tk (.tmp 35)) none, .o (some 7) (.tk (.tmp 48)) none]]]]], [.o (some 45) (.ldA 2 [.int .i64, .int .i64] (.t 4)) (some (some 39, true)), .alts [[.o (some 44) (.ldA 2 [.int .i64, .int .i64] (.t 43)) (some (some 39, true)), .alts [[.o (some 46) (.callv (.t 40) [.t 44, .t 45]) (some (some 39, true)), .o (some 47) (.eq1 (.int .i64) false (.t 46) (.c (.int .i64 0))) (some (some 39, true)), .o (some 48) (.pick (.t 39) (.t 47) (.c (.bool false))) none, .o (some 6) (.tk (.tmp 35)) none, .o (some 7) (.tk (.tmp 48)) none]]]]]]]
theorem gc94q1 : compC T {} pl94 (rg (bodyOf Go.Proofs.Try.f94) 1) = g94q1 := by kernel_rfl
theorem go94q1 : okCode {} none pl94 (rg (bodyOf Go.Proofs.Try.f94) 1) = true := by kernel_rfl
theorem re94q1 (h1 : Run C Pg T {} none g94q1 s K) : AWp C Pg none (rg (bodyOf Go.Proofs.Try.f94) 1) s K := AWp.eachR T_ok mixed {} pl94 go94q1 gc94q1 h1
theorem n94 : Go.Proofs.Try.f94.ntmps = 49 := by kernel_rfl
theorem r94 : Go.Proofs.Try.f94.results.toList = [.tmp 6, .tmp 7] := by kernel_rfl
theorem f94 : Pg.funcs[94]? = some Go.Proofs.Try.f94 := by kernel_rfl
theorem run94 {args : List AV} {K : AV → List AObj → Prop} (hv : Run C Pg T {} none b94 (S (.tup []) 49 (enumL 0 args) [] h) (bodyK T Go.Proofs.Try.f94 K)) (hown : args.all (fun a => !a.owns) = true := by first | rfl | simp [AV.owns]) (hl : args.length ≤ 49 := by exact Nat.le_of_ble_eq_true rfl) : ACall C Pg 94 args h K := ACall.of_runR T_ok {} pl94 (c := bodyOf Go.Proofs.Try.f94) f94 (by kernel_rfl) (by kernel_rfl) c94 n94 hown hl hv
noncomputable def b95 : List It := [.o (some 6) (.tk (.const (.slice none 0 0))) none, .o (some 10) (.mv (.t 0)) none, .o (some 11) (.mv (.t 1)) none, .o (some 12) (.slc 23 (.t 10) (some (.t 11)) none none) none, .o (some 13) (.mv (.t 2)) none, .o (some 14) (.lens (.t 13)) none, .o (some 7) (.tk (.tmp 14)) none, .o (some 15) (.mv (.t 7)) none, .o (some 16) (.eq1 (.int .i64) false (.t 15) (.c (.int .i64 0))) none, .cond (.tmp 16) [.o (some 17) (.mv (.t 0)) none, .o (some 6) (.tk (.tmp 17)) none, .ret] [], .o (some 18) (.mv (.t 0)) none, .o (some 19) (.lens (.t 18)) none, .o (some 8) (.tk (.tmp 19)) none, .o (some 20) (.mv (.t 1)) none, .o (some 21) (.mv (.t 8)) none, .o (some 22) (.eq1 (.int .i64) false (.t 20) (.t 21)) none, .cond (.tmp 22) [.o (some 23) (.mv (.t 0)) none, .o (some 24) (.mv (.t 2)) none, .o (some 25) (.app true 23 23 (.tmp 23) (.tmp 24)) none, .o (some 6) (.tk (.tmp 25)) none, .ret] [], .o (some 26) (.mv (.t 8)) none, .o (some 27) (.mv (.t 7)) none, .o (some 28) (.ar .add (.t 26) (.t 27)) none, .o (some 29) (.mv (.t 0)) none, .o (some 30) (.cps 23 (.t 29)) none, .o (some 31) (.ar .gtr (.t 28) (.t 30)) none, .cond (.tmp 31) [.o (some 32) (.mv (.t 0)) none, .o (some 33) (.mv (.t 1)) none, .o (some 34) (.slc 23 (.t 32) none (some (.t 33)) none) none, .o (some 35) (.mv (.t 8)) none, .o (some 36) (.mv (.t 7)) none, .o (some 37) (.ar .add (.t 35) (.t 36)) none, .o (some 38) (.mv (.t 1)) none, .o (some 39) (.ar .sub (.t 37) (.t 38)) none, .o (some 40) (.app false 23 3 (.tmp 34) (.tmp 39)) none, .o (some 9) (.tk (.tmp 40)) none, .o (some 41) (.mv (.t 9)) none, .o (some 42) (.mv (.t 1)) none, .o (some 43) (.slc 23 (.t 41) (some (.t 42)) none none) none, .o (some 44) (.mv (.t 2)) none, .o (some 45) (.cpy 23 23 (.t 43) (.t 44)) none, .rf (rg (bodyOf Go.Proofs.Try.f95) 0), .o (some 55) (.mv (.t 9)) none, .o (some 6) (.tk (.tmp 55)) none, .ret] [], .o (some 56) (.mv (.t 0)) none, .o (some 57) (.mv (.t 8)) none, .o (some 58) (.mv (.t 7)) none, .o (some 59) (.ar .add (.t 57) (.t 58)) none, .o (some 60) (.ovr 23 (.t 56) none (some (.t 59))) none, .o (some 0) (.tk (.tmp 60)) none, .o (some 61) (.mv (.t 2)) none, .o (some 62) (.mv (.t 0)) none, .o (some 63) (.mv (.t 1)) none, .o (some 64) (.mv (.t 7)) none, .o (some 65) (.ar .add (.t 63) (.t 64)) none, .o (some 66) (.slc 23 (.t 62) (some (.t 65)) none none) none, .o (some 67) (.call 116 [.t 61, .t 66]) none, .o (some 68) (.not (.t 67)) none, .cond (.tmp 68) [.rf (rg (bodyOf Go.Proofs.Try.f95) 1), .o (some 78) (.mv (.t 0)) none, .o (some 79) (.mv (.t 1)) none, .o (some 80) (.slc 23 (.t 78) (some (.t 79)) none none) none, .o (some 81) (.mv (.t 2)) none, .o (some 82) (.cpy 23 23 (.t 80) (.t 81)) none, .o (some 83) (.mv (.t 0)) none, .o (some 6) (.tk (.tmp 83)) none, .ret] [], .o (some 84) (.mv (.t 0)) none, .o (some 85) (.mv (.t 8)) none, .o (some 86) (.slc 23 (.t 84) (some (.t 85)) none none) none, .o (some 87) (.mv (.t 2)) none, .o (some 88) (.cpy 23 23 (.t 86) (.t 87)) none, .o (some 89) (.mv (.t 0)) none, .o (some 90) (.mv (.t 1)) none, .o (some 91) (.slc 23 (.t 89) (some (.t 90)) none none) none, .o (some 92) (.mv (.t 7)) none, .o (some 93) (.call 117 [.t 91, .t 92]) none, .o (some 94) (.mv (.t 0)) none, .o (some 6) (.tk (.tmp 94)) none, .ret]
theorem c95 : compR T ann95 pl95 (bodyOf Go.Proofs.Try.f95) = b95 := by kernel_rfl
noncomputable def g95q0 : List It := [.o (some 46) (.mv (.t 9)) none, .o (some 47) (.mv (.t 1)) none, .o (some 48) (.mv (.t 7)) none, .o (some 49) (.ar .add (.t 47) (.t 48)) none, .o (some 50) (.slc 23 (.t 46) (some (.t 49)) none none) none, .o (some 51) (.mv (.t 0)) none, .o (some 52) (.mv (.t 1)) none, .o (some 53) (.slc 23 (.t 51) (some (.t 52)) none none) none, .alts [[.o (some 54) (.cpy 23 23 (.t 50) (.t 53)) none]]]
theorem gc95q0 : compC T ann95 pl95 (rg (bodyOf Go.Proofs.Try.f95) 0) = g95q0 := by kernel_rfl
theorem go95q0 : okCode ann95 none pl95 (rg (bodyOf Go.Proofs.Try.f95) 0) = true := by kernel_rfl
theorem re95q0 (h1 : Run C Pg T ann95 none g95q0 s K) : AWp C Pg none (rg (bodyOf Go.Proofs.Try.f95) 0) s K := AWp.eachR T_ok mixed ann95 pl95 go95q0 gc95q0 h1
noncomputable def g95q1 : List It := [.o (some 69) (.mv (.t 0)) none, .o (some 70) (.mv (.t 1)) none, .o (some 71) (.mv (.t 7)) none, .o (some 72) (.ar .add (.t 70) (.t 71)) none, .o (some 73) (.slc 23 (.t 69) (some (.t 72)) none none) none, .o (some 74) (.mv (.t 0)) none, .o (some 75) (.mv (.t 1)) none, .o (some 76) (.slc 23 (.t 74) (some (.t 75)) none none) none, .alts [[.o (some 77) (.cpy 23 23 (.t 73) (.t 76)) none]]]
theorem gc95q1 : compC T ann95 pl95 (rg (bodyOf Go.Proofs.Try.f95) 1) = g95q1 := by kernel_rfl
theorem go95q1 : okCode ann95 none pl95 (rg (bodyOf Go.Proofs.Try.f95) 1) = true := by kernel_rfl
theorem re95q1 (h1 : Run C Pg T ann95 none g95q1 s K) : AWp C Pg none (rg (bodyOf Go.Proofs.Try.f95) 1) s K := AWp.eachR T_ok mixed ann95 pl95 go95q1 gc95q1 h1
theorem n95 : Go.Proofs.Try.f95.ntmps = 95 := by kernel_rfl
theorem r95 : Go.Proofs.Try.f95.results.toList = [.tmp 6] := by kernel_rfl
theorem f95 : Pg.funcs[95]? = some Go.Proofs.Try.f95 := by kernel_rfl
theorem run95 {args : List AV} {K : AV → List AObj → Prop} (hv : Run C Pg T ann95 none b95 (S (.tup []) 95 (enumL 0 args) [] h) (bodyK T Go.Proofs.Try.f95 K)) (hown : args.all (fun a => !a.owns) = true := by first | rfl | simp [AV.owns]) (hl : args.length ≤ 95 := by exact Nat.le_of_ble_eq_true rfl) : ACall C Pg 95 args h K := ACall.of_runR T_ok ann95 pl95 (c := bodyOf Go.Proofs.Try.f95) f95 (by kernel_rfl) (by kernel_rfl) c95 n95 hown hl hv
noncomputable def b96 : List It := [.o (some 4) (.tk (.const (.slice none 0 0))) none, .o (some 5) (.alloc false [.int .i64 0, .int .i64 0]) none, .o (some 7) (.mv (.t 0)) none, .o (some 8) (.mv (.t 1)) none, .o (some 9) (.ixs 2 [.int .i64, .int .i64] (.t 7) (.t 8)) none, .o (some 10) (.ldA 2 [.int .i64, .int .i64] (.t 9)) none, .o (some 6) (.alloc false [.int .i64 0, .int .i64 0]) none, .o none (.st 2 (.t 6) (.tmp 10)) none, .rf (rg (bodyOf Go.Proofs.Try.f96) 0), .ret]
theorem c96 : compR T {} pl96 (bodyOf Go.Proofs.Try.f96) = b96 := by kernel_rfl
noncomputable def g96q0 : List It := [.o (some 11) (.mv (.t 0)) none, .o (some 12) (.mv (.t 1)) none, .o (some 13) (.mv (.t 1)) none, .o (some 14) (.ar .add (.t 13) (.c (.int .i64 1))) none, .alts [[.o (some 15) (.call 118 [.t 11, .t 12, .t 14]) none, .o (some 4) (.tk (.tmp 15)) none, .alts [[.o (some 16) (.ldA 2 [.int .i64, .int .i64] (.t 6)) none, .alts [[.o none (.st 2 (.t 5) (.tmp 16)) none]]]]], [.o (some 16) (.ldA 2 [.int .i64, .int .i64] (.t 6)) none, .alts [[.o (some 15) (.call 118 [.t 11, .t 12, .t 14]) none, .o (some 4) (.tk (.tmp 15)) none, .alts [[.o none (.st 2 (.t 5) (.tmp 16)) none]]]]]]]
theorem gc96q0 : compC T {} pl96 (rg (bodyOf Go.Proofs.Try.f96) 0) = g96q0 := by kernel_rfl
theorem go96q0 : okCode {} none pl96 (rg (bodyOf Go.Proofs.Try.f96) 0) = true := by kernel_rfl
theorem re96q0 (h1 : Run C Pg T {} none g96q0 s K) : AWp C Pg none (rg (bodyOf Go.Proofs.Try.f96) 0) s K := AWp.eachR T_ok mixed {} pl96 go96q0 gc96q0 h1
theorem n96 : Go.Proofs.Try.f96.ntmps = 17 := by kernel_rfl
theorem r96 : Go.Proofs.Try.f96.results.toList = [.tmp 4, .cell 5 100] := by kernel_rfl
theorem f96 : Pg.funcs[96]? = some Go.Proofs.Try.f96 := by kernel_rfl
theorem run96 {args : List AV} {K : AV → List AObj → Prop} (hv : Run C Pg T {} none b96 (S (.tup []) 17 (enumL 0 args) [] h) (bodyK T Go.Proofs.Try.f96 K)) (hown : args.all (fun a => !a.owns) = true := by first | rfl | simp [AV.owns]) (hl : args.length ≤ 17 := by exact Nat.le_of_ble_eq_true rfl) : ACall C Pg 96 args h K := ACall.of_runR T_ok {} pl96 (c := bodyOf Go.Proofs.Try.f96) f96 (by kernel_rfl) (by kernel_rfl) c96 n96 hown hl hv
noncomputable def b97 : List It := [.o (some 4) (.box true (.t 1)) none, .o (some 5) (.box true (.t 2)) none, .o (some 6) (.tk (.const (.int .i64 0))) none, .o (some 7) (.mv (.t 0)) none, .o (some 8) (.nilck (.t 7)) none, .o (some 9) (.fa 0 (.t 8)) none, .o (some 10) (.fa 5 (.t 9)) none, .o (some 11) (.ld1 (.slice 86) (.t 10)) none, .o (some 12) (.mkf 120 [.t 4, .t 5]) none, .o (some 13) (.call 119 [.t 11, .t 12]) none, .o (some 6) (.tk (.tmp 13)) none, .ret]
theorem c97 : compR T ann97 [] (bodyOf Go.Proofs.Try.f97) = b97 := by kernel_rfl
theorem n97 : Go.Proofs.Try.f97.ntmps = 14 := by kernel_rfl
theorem r97 : Go.Proofs.Try.f97.results.toList = [.tmp 6] := by kernel_rfl
theorem f97 : Pg.funcs[97]? = some Go.Proofs.Try.f97 := by kernel_rfl
theorem run97 {args : List AV} {K : AV → List AObj → Prop} (hv : Run C Pg T ann97 none b97 (S (.tup []) 14 (enumL 0 args) [] h) (bodyK T Go.Proofs.Try.f97 K)) (hown : args.all (fun a => !a.owns) = true := by first | rfl | simp [AV.owns]) (hl : args.length ≤ 14 := by exact Nat.le_of_ble_eq_true rfl) : ACall C Pg 97 args h K := ACall.of_runR T_ok ann97 [] (c := bodyOf Go.Proofs.Try.f97) f97 (by kernel_rfl) (by kernel_rfl) c97 n97 hown hl hv
noncomputable def b98 : List It := [.o (some 4) (.tk (.const (.slice none 0 0))) none, .o (some 5) (.alloc false [.int .i64 0, .int .i64 0, .int .i64 0]) none, .o (some 7) (.mv (.t 0)) none, .o (some 8) (.mv (.t 1)) none, .o (some 9) (.ixs 3 [.int .i64, .int .i64, .int .i64] (.t 7) (.t 8)) none, .o (some 10) (.ldA 3 [.int .i64, .int .i64, .int .i64] (.t 9)) none, .o (some 6) (.alloc false [.int .i64 0, .int .i64 0, .int .i64 0]) none, .o none (.st 3 (.t 6) (.tmp 10)) none, .rf (rg (bodyOf Go.Proofs.Try.f98) 0), .ret]
theorem c98 : compR T {} pl98 (bodyOf Go.Proofs.Try.f98) = b98 := by kernel_rfl
noncomputable def g98q0 : List It := [.o (some 11) (.mv (.t 0)) none, .o (some 12) (.mv (.t 1)) none, .o (some 13) (.mv (.t 1)) none, .o (some 14) (.ar .add (.t 13) (.c (.int .i64 1))) none, .alts [[.o (some 15) (.call 121 [.t 11, .t 12, .t 14]) none, .o (some 4) (.tk (.tmp 15)) none, .alts [[.o (some 16) (.ldA 3 [.int .i64, .int .i64, .int .i64] (.t 6)) none, .alts [[.o none (.st 3 (.t 5) (.tmp 16)) none]]]]], [.o (some 16) (.ldA 3 [.int .i64, .int .i64, .int .i64] (.t 6)) none, .alts [[.o (some 15) (.call 121 [.t 11, .t 12, .t 14]) none, .o (some 4) (.tk (.tmp 15)) none, .alts [[.o none (.st 3 (.t 5) (.tmp 16)) none]]]]]]]
theorem gc98q0 : compC T {} pl98 (rg (bodyOf Go.Proofs.Try.f98) 0) = g98q0 := by kernel_rfl
theorem go98q0 : okCode {} none pl98 (rg (bodyOf Go.Proofs.Try.f98) 0) = true := by kernel_rfl
theorem re98q0 (h1 : Run C Pg T {} none g98q0 s K) : AWp C Pg none (rg (bodyOf Go.Proofs.Try.f98) 0) s K := AWp.eachR T_ok mixed {} pl98 go98q0 gc98q0 h1
theorem n98 : Go.Proofs.Try.f98.ntmps = 17 := by kernel_rfl
theorem r98 : Go.Proofs.Try.f98.results.toList = [.tmp 4, .cell 5 86] := by kernel_rfl
theorem f98 : Pg.funcs[98]? = some Go.Proofs.Try.f98 := by kernel_rfl
theorem run98 {args : List AV} {K : AV → List AObj → Prop} (hv : Run C Pg T {} none b98 (S (.tup []) 17 (enumL 0 args) [] h) (bodyK T Go.Proofs.Try.f98 K)) (hown : args.all (fun a => !a.owns) = true := by first | rfl | simp [AV.owns]) (hl : args.length ≤ 17 := by exact Nat.le_of_ble_eq_true rfl) : ACall C Pg 98 args h K := ACall.of_runR T_ok {} pl98 (c := bodyOf Go.Proofs.Try.f98) f98 (by kernel_rfl) (by kernel_rfl) c98 n98 hown hl hv
noncomputable def b99q0 : List It := [.o (some 15) (.mv (.t 9)) none, .o (some 16) (.mv (.t 10)) none, .o (some 17) (.ar .lss (.t 15) (.t 16)) none, .cond (.tmp 17) [] [.exit 0], .block 1 [.o (some 18) (.mv (.t 9)) none, .o (some 19) (.mv (.t 10)) none, .o (some 20) (.ar .add (.t 18) (.t 19)) none, .o (some 21) (.cvt 3 155 (.t 20)) none, .o (some 22) (.shf .shr (.t 21) (.c (.int .u64 1))) none, .o (some 23) (.cvt 155 3 (.t 22)) none, .o (some 11) (.tk (.tmp 23)) none, .rf (rg (bodyOf Go.Proofs.Try.f99) 0), .cond (.tmp 31) [.o (some 32) (.mv (.t 11)) none, .o (some 33) (.ar .add (.t 32) (.c (.int .i64 1))) none, .o (some 9) (.tk (.tmp 33)) none] [.o (some 34) (.mv (.t 11)) none, .o (some 10) (.tk (.tmp 34)) none]]]
noncomputable def b99 : List It := [.o (some 4) (.box false (.t 1)) none, .o (some 6) (.tk (.const (.int .i64 0))) none, .o (some 7) (.tk (.const (.bool false))) none, .o (some 12) (.mv (.t 0)) none, .o (some 13) (.lens (.t 12)) none, .o (some 8) (.tk (.tmp 13)) none, .o (some 14) (.mv (.t 8)) none, .o (some 9) (.tk (.const (.int .i64 0))) none, .o (some 10) (.tk (.tmp 14)) none, .block 0 [.loop b99q0 (lp (bodyOf Go.Proofs.Try.f99) 0)], .rf (rg (bodyOf Go.Proofs.Try.f99) 1), .ret]
theorem c99q0 : compR T {} pl99 (lp (bodyOf Go.Proofs.Try.f99) 0) = b99q0 := by kernel_rfl
theorem lp99q0 {α : Type} (m : Nat) (ls : α → List (Nat × AV)) (bs : α → List (List AV)) (hs : α → List AObj) (φ : α → Prop) (μ : α → Nat) (g0 : α) (h0 : φ g0) (hkeys : ∀ g, (ls g).map (·.1) = (ls g0).map (·.1)) (e1 : allIn d l m (ls g0)) (e2 : bs g0 = bx.take m) (e3 : (bs g0).all (fun cs => AV.lb.lbs m cs) = true) (e4 : h = hs g0) (round : ∀ g, φ g → Run C Pg T {} none b99q0 (S .undef 49 (ls g) (bs g) (hs g)) (nextR d 49 m ls bs hs φ μ g K)) : AWp C Pg none (.loop (lp (bodyOf Go.Proofs.Try.f99) 0)) (S d 49 l bx h) K := AWp.loopQ T_ok {} pl99 c99q0 m ls bs hs φ μ g0 h0 hkeys e1 e2 e3 e4 round
theorem c99 : compR T {} pl99 (bodyOf Go.Proofs.Try.f99) = b99 := by kernel_rfl
noncomputable def g99q0 : List It := [.o (some 24) (.mv (.t 2)) none, .o (some 25) (.mv (.t 0)) none, .o (some 26) (.mv (.t 11)) none, .o (some 27) (.ixs 3 [.int .i64, .int .i64, .int .i64] (.t 25) (.t 26)) none, .alts [[.o (some 28) (.ldA 3 [.int .i64, .int .i64, .int .i64] (.t 27)) none, .alts [[.o (some 29) (.ldA 3 [.int .i64, .int .i64, .int .i64] (.t 4)) none, .alts [[.o (some 30) (.callv (.t 24) [.t 28, .t 29]) none, .o (some 31) (.ar .lss (.t 30) (.c (.int .i64 0))) none]]]]], [.o (some 29) (.ldA 3 [.int .i64, .int .i64, .int .i64] (.t 4)) none, .alts [[.o (some 28) (.ldA 3 [.int .i64, .int .i64, .int .i64] (.t 27)) none, .alts [[.o (some 30) (.callv (.t 24) [.t 28, .t 29]) none, .o (some 31) (.ar .lss (.t 30) (.c (.int .i64 0))) none]]]]]]]
theorem gc99q0 : compC T {} pl99 (rg (bodyOf Go.Proofs.Try.f99) 0) = g99q0 := by kernel_rfl
theorem go99q0 : okCode {} none pl99 (rg (bodyOf Go.Proofs.Try.f99) 0) = true := by kernel_rfl
theorem re99q0 (h1 : Run C Pg T {} none g99q0 s K) : AWp C Pg none (rg (bodyOf Go.Proofs.Try.f99) 0) s K := AWp.eachR T_ok mixed {} pl99 go99q0 gc99q0 h1
noncomputable def g99q1 : List It := [.o (some 35) (.mv (.t 9)) none, .o (some 36) (.mv (.t 9)) none, .o (some 37) (.mv (.t 8)) none, .o (some 38) (.ar .lss (.t 36) (.t 37)) none, .o (some 39) (.mv (.t 38)) none, .o (some 40) (.mv (.t 2)) (some (some 39, true)), .o (some 41) (.mv (.t 0)) (some (some 39, true)), .o (some 42) (.mv (.t 9)) (some (some 39, true)), .o (some 43) (.ixs 3 [.int .i64, .int .i64, .int .i64] (.t 41) (.t 42)) (some (some 39, true)), .alts [[.o (some 44) (.ldA 3 [.int .i64, .int .i64, .int .i64] (.t 43)) (some (some 39, true)), .alts [[.o (some 45) (.ldA 3 [.int .i64, .int .i64, .int .i64] (.t 4)) (some (some 39, true)), .alts [[.o (some 46) (.callv (.t 40) [.t 44, .t 45]) (some (some 39, true)), .o (some 47) (.eq1 (.int .i64) false (.t 46) (.c (.int .i64 0))) (some (some 39, true)), .o (some 48) (.pick (.t 39) (.t 47) (.c (.bool false))) none, .o (some 6) (.tk (.tmp 35)) none, .o (some 7) (.tk (.tmp 48)) none]]]]], [.o (some 45) (.ldA 3 [.int .i64, .int .i64, .int .i64] (.t 4)) (some (some 39, true)), .alts [[.o (some 44) (.ldA 3 [.int .i64, .int .i64, .int .i64] (.t 43)) (some (some 39, true)), .alts [[.o (some 46) (.callv (.t 40) [.t 44, .t 45]) (some (some 39, true)), .o (some 47) (.eq1 (.int .i64) false (.t 46) (.c (.int .i64 0))) (some (some 39, true)), .o (some 48) (.pick (.t 39) (.t 47) (.c (.bool false))) none, .o (some 6) (.tk (.tmp 35)) none, .o (some 7) (.tk (.tmp 48)) none]]]]]]]
theorem gc99q1 : compC T {} pl99 (rg (bodyOf Go.Proofs.Try.f99) 1) = g99q1 := by kernel_rfl
theorem go99q1 : okCode {} none pl99 (rg (bodyOf Go.Proofs.Try.f99) 1) = true := by kernel_rfl
theorem re99q1 (h1 : Run C Pg T {} none g99q1 s K) : AWp C Pg none (rg (bodyOf Go.Proofs.Try.f99) 1) s K := AWp.eachR T_ok mixed {} pl99 go99q1 gc99q1 h1
theorem n99 : Go.Proofs.Try.f99.ntmps = 49 := by kernel_rfl
theorem r99 : Go.Proofs.Try.f99.results.toList = [.tmp 6, .tmp 7] := by kernel_rfl
theorem f99 : Pg.funcs[99]? = some Go.Proofs.Try.f99 := by kernel_rfl
theorem run99 {args : List AV} {K : AV → List AObj → Prop} (hv : Run C Pg T {} none b99 (S (.tup []) 49 (enumL 0 args) [] h) (bodyK T Go.Proofs.Try.f99 K)) (hown : args.all (fun a => !a.owns) = true := by first | rfl | simp [AV.owns]) (hl : args.length ≤ 49 := by exact Nat.le_of_ble_eq_true rfl) : ACall C Pg 99 args h K := ACall.of_runR T_ok {} pl99 (c := bodyOf Go.Proofs.Try.f99) f99 (by kernel_rfl) (by kernel_rfl) c99 n99 hown hl hv
noncomputable def b100 : List It := [.o (some 6) (.tk (.const (.slice none 0 0))) none, .o (some 10) (.mv (.t 0)) none, .o (some 11) (.mv (.t 1)) none, .o (some 12) (.slc 24 (.t 10) (some (.t 11)) none none) none, .o (some 13) (.mv (.t 2)) none, .o (some 14) (.lens (.t 13)) none, .o (some 7) (.tk (.tmp 14)) none, .o (some 15) (.mv (.t 7)) none, .o (some 16) (.eq1 (.int .i64) false (.t 15) (.c (.int .i64 0))) none, .cond (.tmp 16) [.o (some 17) (.mv (.t 0)) none, .o (some 6) (.tk (.tmp 17)) none, .ret] [], .o (some 18) (.mv (.t 0)) none, .o (some 19) (.lens (.t 18)) none, .o (some 8) (.tk (.tmp 19)) none, .o (some 20) (.mv (.t 1)) none, .o (some 21) (.mv (.t 8)) none, .o (some 22) (.eq1 (.int .i64) false (.t 20) (.t 21)) none, .cond (.tmp 22) [.o (some 23) (.mv (.t 0)) none, .o (some 24) (.mv (.t 2)) none, .o (some 25) (.app true 24 24 (.tmp 23) (.tmp 24)) none, .o (some 6) (.tk (.tmp 25)) none, .ret] [], .o (some 26) (.mv (.t 8)) none, .o (some 27) (.mv (.t 7)) none, .o (some 28) (.ar .add (.t 26) (.t 27)) none, .o (some 29) (.mv (.t 0)) none, .o (some 30) (.cps 24 (.t 29)) none, .o (some 31) (.ar .gtr (.t 28) (.t 30)) none, .cond (.tmp 31) [.o (some 32) (.mv (.t 0)) none, .o (some 33) (.mv (.t 1)) none, .o (some 34) (.slc 24 (.t 32) none (some (.t 33)) none) none, .o (some 35) (.mv (.t 8)) none, .o (some 36) (.mv (.t 7)) none, .o (some 37) (.ar .add (.t 35) (.t 36)) none, .o (some 38) (.mv (.t 1)) none, .o (some 39) (.ar .sub (.t 37) (.t 38)) none, .o (some 40) (.app false 24 3 (.tmp 34) (.tmp 39)) none, .o (some 9) (.tk (.tmp 40)) none, .o (some 41) (.mv (.t 9)) none, .o (some 42) (.mv (.t 1)) none, .o (some 43) (.slc 24 (.t 41) (some (.t 42)) none none) none, .o (some 44) (.mv (.t 2)) none, .o (some 45) (.cpy 24 24 (.t 43) (.t 44)) none, .rf (rg (bodyOf Go.Proofs.Try.f100) 0), .o (some 55) (.mv (.t 9)) none, .o (some 6) (.tk (.tmp 55)) none, .ret] [], .o (some 56) (.mv (.t 0)) none, .o (some 57) (.mv (.t 8)) none, .o (some 58) (.mv (.t 7)) none, .o (some 59) (.ar .add (.t 57) (.t 58)) none, .o (some 60) (.ovr 24 (.t 56) none (some (.t 59))) none, .o (some 0) (.tk (.tmp 60)) none, .o (some 61) (.mv (.t 2)) none, .o (some 62) (.mv (.t 0)) none, .o (some 63) (.mv (.t 1)) none, .o (some 64) (.mv (.t 7)) none, .o (some 65) (.ar .add (.t 63) (.t 64)) none, .o (some 66) (.slc 24 (.t 62) (some (.t 65)) none none) none, .o (some 67) (.call 122 [.t 61, .t 66]) none, .o (some 68) (.not (.t 67)) none, .cond (.tmp 68) [.rf (rg (bodyOf Go.Proofs.Try.f100) 1), .o (some 78) (.mv (.t 0)) none, .o (some 79) (.mv (.t 1)) none, .o (some 80) (.slc 24 (.t 78) (some (.t 79)) none none) none, .o (some 81) (.mv (.t 2)) none, .o (some 82) (.cpy 24 24 (.t 80) (.t 81)) none, .o (some 83) (.mv (.t 0)) none, .o (some 6) (.tk (.tmp 83)) none, .ret] [], .o (some 84) (.mv (.t 0)) none, .o (some 85) (.mv (.t 8)) none, .o (some 86) (.slc 24 (.t 84) (some (.t 85)) none none) none, .o (some 87) (.mv (.t 2)) none, .o (some 88) (.cpy 24 24 (.t 86) (.t 87)) none, .o (some 89) (.mv (.t 0)) none, .o (some 90) (.mv (.t 1)) none, .o (some 91) (.slc 24 (.t 89) (some (.t 90)) none none) none, .o (some 92) (.mv (.t 7)) none, .o (some 93) (.call 123 [.t 91, .t 92]) none, .o (some 94) (.mv (.t 0)) none, .o (some 6) (.tk (.tmp 94)) none, .ret]
theorem c100 : compR T ann100 pl100 (bodyOf Go.Proofs.Try.f100) = b100 := by kernel_rfl
noncomputable def g100q0 : List It := [.o (some 46) (.mv (.t 9)) none, .o (some 47) (.mv (.t 1)) none, .o (some 48) (.mv (.t 7)) none, .o (some 49) (.ar .add (.t 47) (.t 48)) none, .o (some 50) (.slc 24 (.t 46) (some (.t 49)) none none) none, .o (some 51) (.mv (.t 0)) none, .o (some 52) (.mv (.t 1)) none, .o (some 53) (.slc 24 (.t 51) (some (.t 52)) none none) none, .alts [[.o (some 54) (.cpy 24 24 (.t 50) (.t 53)) none]]]
theorem gc100q0 : compC T ann100 pl100 (rg (bodyOf Go.Proofs.Try.f100) 0) = g100q0 := by kernel_rfl
theorem go100q0 : okCode ann100 none pl100 (rg (bodyOf Go.Proofs.Try.f100) 0) = true := by kernel_rfl
theorem re100q0 (h1 : Run C Pg T ann100 none g100q0 s K) : AWp C Pg none (rg (bodyOf Go.Proofs.Try.f100) 0) s K := AWp.eachR T_ok mixed ann100 pl100 go100q0 gc100q0 h1
noncomputable def g100q1 : List It := [.o (some 69) (.mv (.t 0)) none, .o (some 70) (.mv (.t 1)) none, .o (some 71) (.mv (.t 7)) none, .o (some 72) (.ar .add (.t 70) (.t 71)) none, .o (some 73) (.slc 24 (.t 69) (some (.t 72)) none none) none, .o (some 74) (.mv (.t 0)) none, .o (some 75) (.mv (.t 1)) none, .o (some 76) (.slc 24 (.t 74) (some (.t 75)) none none) none, .alts [[.o (some 77) (.cpy 24 24 (.t 73) (.t 76)) none]]]
theorem gc100q1 : compC T ann100 pl100 (rg (bodyOf Go.Proofs.Try.f100) 1) = g100q1 := by kernel_rfl
theorem go100q1 : okCode ann100 none pl100 (rg (bodyOf Go.Proofs.Try.f100) 1) = true := by kernel_rfl
theorem re100q1 (h1 : Run C Pg T ann100 none g100q1 s K) : AWp C Pg none (rg (bodyOf Go.Proofs.Try.f100) 1) s K := AWp.eachR T_ok mixed ann100 pl100 go100q1 gc100q1 h1
theorem n100 : Go.Proofs.Try.f100.ntmps = 95 := by kernel_rfl
theorem r100 : Go.Proofs.Try.f100.results.toList = [.tmp 6] := by kernel_rfl
theorem f100 : Pg.funcs[100]? = some Go.Proofs.Try.f100 := by kernel_rfl
theorem run100 {args : List AV} {K : AV → List AObj → Prop} (hv : Run C Pg T ann100 none b100 (S (.tup []) 95 (enumL 0 args) [] h) (bodyK T Go.Proofs.Try.f100 K)) (hown : args.all (fun a => !a.owns) = true := by first | rfl | simp [AV.owns]) (hl : args.length ≤ 95 := by exact Nat.le_of_ble_eq_true rfl) : ACall C Pg 100 args h K := ACall.of_runR T_ok ann100 pl100 (c := bodyOf Go.Proofs.Try.f100) f100 (by kernel_rfl) (by kernel_rfl) c100 n100 hown hl hv
noncomputable def b101 : List It := [.o (some 3) (.alloc false [.int .i64 0, .int .i64 0, .int .i64 0, .int .i64 0, .str []]) none, .o (some 4) (.tk (.const (.int .i64 0))) none, .o (some 5) (.mv (.t 0)) none, .o (some 6) (.fa 1 (.t 1)) none, .o (some 7) (.ld1 (.int .i64) (.t 6)) none, .o (some 8) (.fa 2 (.t 1)) none, .o (some 9) (.ld1 (.int .i64) (.t 8)) none, .o (some 10) (.fa 4 (.t 1)) none, .o (some 11) (.ld1 .str (.t 10)) none, .o (some 12) (.call 80 [.t 5, .t 7, .t 9, .t 11]) none, .o (some 13) (.ext (.t 12) 0) none, .o (some 14) (.ext (.t 12) 1) none, .o none (.st 5 (.t 3) (.tmp 13)) none, .o (some 4) (.tk (.tmp 14)) none, .ret]
theorem c101 : compR T {} [] (bodyOf Go.Proofs.Try.f101) = b101 := by kernel_rfl
theorem n101 : Go.Proofs.Try.f101.ntmps = 15 := by kernel_rfl
theorem r101 : Go.Proofs.Try.f101.results.toList = [.cell 3 33, .tmp 4] := by kernel_rfl
theorem f101 : Pg.funcs[101]? = some Go.Proofs.Try.f101 := by kernel_rfl
theorem run101 {args : List AV} {K : AV → List AObj → Prop} (hv : Run C Pg T {} none b101 (S (.tup []) 15 (enumL 0 args) [] h) (bodyK T Go.Proofs.Try.f101 K)) (hown : args.all (fun a => !a.owns) = true := by first | rfl | simp [AV.owns]) (hl : args.length ≤ 15 := by exact Nat.le_of_ble_eq_true rfl) : ACall C Pg 101 args h K := ACall.of_runR T_ok {} [] (c := bodyOf Go.Proofs.Try.f101) f101 (by kernel_rfl) (by kernel_rfl) c101 n101 hown hl hv
noncomputable def b102 : List It := [.o (some 3) (.alloc false [.int .i64 0, .int .i64 0, .int .i64 0, .int .i64 0, .str []]) none, .o (some 4) (.tk (.const (.int .i64 0))) none, .o (some 5) (.mv (.t 0)) none, .o (some 6) (.fa 3 (.t 1)) none, .o (some 7) (.ld1 (.int .i64) (.t 6)) none, .o (some 8) (.call 76 [.t 5, .t 7]) none, .o (some 9) (.ext (.t 8) 0) none, .o (some 10) (.ext (.t 8) 1) none, .o none (.st 5 (.t 3) (.tmp 9)) none, .o (some 4) (.tk (.tmp 10)) none, .ret]
theorem c102 : compR T {} [] (bodyOf Go.Proofs.Try.f102) = b102 := by kernel_rfl
theorem n102 : Go.Proofs.Try.f102.ntmps = 11 := by kernel_rfl
theorem r102 : Go.Proofs.Try.f102.results.toList = [.cell 3 33, .tmp 4] := by kernel_rfl
theorem f102 : Pg.funcs[102]? = some Go.Proofs.Try.f102 := by kernel_rfl
theorem run102 {args : List AV} {K : AV → List AObj → Prop} (hv : Run C Pg T {} none b102 (S (.tup []) 11 (enumL 0 args) [] h) (bodyK T Go.Proofs.Try.f102 K)) (hown : args.all (fun a => !a.owns) = true := by first | rfl | simp [AV.owns]) (hl : args.length ≤ 11 := by exact Nat.le_of_ble_eq_true rfl) : ACall C Pg 102 args h K := ACall.of_runR T_ok {} [] (c := bodyOf Go.Proofs.Try.f102) f102 (by kernel_rfl) (by kernel_rfl) c102 n102 hown hl hv
noncomputable def b104 : List It := [.o (some 3) (.alloc false [.int .i64 0, .int .i64 0, .int .i64 0, .int .i64 0, .str []]) none, .o (some 4) (.tk (.const (.int .i64 0))) none, .o (some 5) (.mv (.t 0)) none, .o (some 6) (.fa 3 (.t 1)) none, .o (some 7) (.ld1 (.int .i64) (.t 6)) none, .o (some 8) (.call 105 [.t 5, .t 7]) none, .o (some 9) (.ext (.t 8) 0) none, .o (some 10) (.ext (.t 8) 1) none, .o none (.st 5 (.t 3) (.tmp 9)) none, .o (some 4) (.tk (.tmp 10)) none, .ret]
theorem c104 : compR T {} [] (bodyOf Go.Proofs.Try.f104) = b104 := by kernel_rfl
theorem n104 : Go.Proofs.Try.f104.ntmps = 11 := by kernel_rfl
theorem r104 : Go.Proofs.Try.f104.results.toList = [.cell 3 33, .tmp 4] := by kernel_rfl
theorem f104 : Pg.funcs[104]? = some Go.Proofs.Try.f104 := by kernel_rfl
theorem run104 {args : List AV} {K : AV → List AObj → Prop} (hv : Run C Pg T {} none b104 (S (.tup []) 11 (enumL 0 args) [] h) (bodyK T Go.Proofs.Try.f104 K)) (hown : args.all (fun a => !a.owns) = true := by first | rfl | simp [AV.owns]) (hl : args.length ≤ 11 := by exact Nat.le_of_ble_eq_true rfl) : ACall C Pg 104 args h K := ACall.of_runR T_ok {} [] (c := bodyOf Go.Proofs.Try.f104) f104 (by kernel_rfl) (by kernel_rfl) c104 n104 hown hl hv
noncomputable def b105 : List It := [.o (some 4) (.alloc false [.int .i64 0, .int .i64 0, .int .i64 0, .int .i64 0, .str []]) none, .o (some 5) (.tk (.const (.int .i64 0))) none, .block 0 [.o (some 8) (.mv (.t 0)) none, .o (some 9) (.mv (.t 1)) none, .o (some 10) (.call 112 [.t 8, .t 9]) none, .o (some 11) (.not (.t 10)) none, .o (some 7) (.tk (.tmp 11)) none, .cond (.tmp 7) [.o (some 12) (.bld 33 []) none, .o none (.st 5 (.t 4) (.tmp 12)) none, .o (some 5) (.tk (.const (.int .i64 4))) none, .ret] [.o (some 14) (.mv (.t 0)) none, .o (some 15) (.nilck (.t 14)) none, .o (some 16) (.fa 0 (.t 15)) none, .o (some 17) (.fa 3 (.t 16)) none, .o (some 18) (.ld1 (.slice 33) (.t 17)) none, .o (some 19) (.lens (.t 18)) none, .o (some 20) (.eq1 (.int .i64) false (.t 19) (.c (.int .i64 200))) none, .o (some 13) (.tk (.tmp 20)) none, .cond (.tmp 13) [.o (some 21) (.bld 33 []) none, .o none (.st 5 (.t 4) (.tmp 21)) none, .o (some 5) (.tk (.const (.int .i64 7))) none, .ret] []]], .o (some 22) (.mv (.t 0)) none, .o (some 23) (.nilck (.t 22)) none, .o (some 24) (.fa 0 (.t 23)) none, .o (some 25) (.fa 3 (.t 24)) none, .o (some 26) (.ld1 (.slice 33) (.t 25)) none, .o (some 27) (.mv (.t 1)) none, .o (some 28) (.ixs 5 [.int .i64, .int .i64, .int .i64, .int .i64, .str] (.t 26) (.t 27)) none, .o (some 29) (.ldA 5 [.int .i64, .int .i64, .int .i64, .int .i64, .str] (.t 28)) none, .o (some 6) (.alloc false [.int .i64 0, .int .i64 0, .int .i64 0, .int .i64 0, .str []]) none, .o none (.st 5 (.t 6) (.tmp 29)) none, .rf (rg (bodyOf Go.Proofs.Try.f105) 0), .o (some 42) (.ldA 5 [.int .i64, .int .i64, .int .i64, .int .i64, .str] (.t 6)) none, .o none (.st 5 (.t 4) (.tmp 42)) none, .o (some 5) (.tk (.const (.int .i64 0))) none, .ret]
theorem c105 : compR T ann105 pl105 (bodyOf Go.Proofs.Try.f105) = b105 := by kernel_rfl
noncomputable def g105q0 : List It := [.o (some 30) (.mv (.t 0)) none, .o (some 31) (.mv (.t 0)) none, .o (some 32) (.nilck (.t 31)) none, .o (some 33) (.fa 0 (.t 32)) none, .o (some 34) (.fa 3 (.t 33)) none, .alts [[.o (some 35) (.ld1 (.slice 33) (.t 34)) none, .alts [[.o (some 36) (.ldA 5 [.int .i64, .int .i64, .int .i64, .int .i64, .str] (.t 6)) none, .alts [[.o (some 37) (.bsl false 22 1 [(0, .t 36)]) none, .alts [[.o (some 38) (.app true 22 22 (.tmp 35) (.tmp 37)) none, .o (some 39) (.nilck (.t 30)) none, .o (some 40) (.fa 0 (.t 39)) none, .o (some 41) (.fa 3 (.t 40)) none, .alts [[.o none (.st 1 (.t 41) (.tmp 38)) none]]]]]]]]], [.o (some 36) (.ldA 5 [.int .i64, .int .i64, .int .i64, .int .i64, .str] (.t 6)) none, .alts [[.o (some 35) (.ld1 (.slice 33) (.t 34)) none, .alts [[.o (some 37) (.bsl false 22 1 [(0, .t 36)]) none, .alts [[.o (some 38) (.app true 22 22 (.tmp 35) (.tmp 37)) none, .o (some 39) (.nilck (.t 30)) none, .o (some 40) (.fa 0 (.t 39)) none, .o (some 41) (.fa 3 (.t 40)) none, .alts [[.o none (.st 1 (.t 41) (.tmp 38)) none]]]]]]], [.o (some 37) (.bsl false 22 1 [(0, .t 36)]) none, .alts [[.o (some 35) (.ld1 (.slice 33) (.t 34)) none, .alts [[.o (some 38) (.app true 22 22 (.tmp 35) (.tmp 37)) none, .o (some 39) (.nilck (.t 30)) none, .o (some 40) (.fa 0 (.t 39)) none, .o (some 41) (.fa 3 (.t 40)) none, .alts [[.o none (.st 1 (.t 41) (.tmp 38)) none]]]]]]]]]]]
theorem gc105q0 : compC T ann105 pl105 (rg (bodyOf Go.Proofs.Try.f105) 0) = g105q0 := by kernel_rfl
theorem go105q0 : okCode ann105 none pl105 (rg (bodyOf Go.Proofs.Try.f105) 0) = true := by kernel_rfl
theorem re105q0 (h1 : Run C Pg T ann105 none g105q0 s K) : AWp C Pg none (rg (bodyOf Go.Proofs.Try.f105) 0) s K := AWp.eachR T_ok mixed ann105 pl105 go105q0 gc105q0 h1
theorem n105 : Go.Proofs.Try.f105.ntmps = 43 := by kernel_rfl
theorem r105 : Go.Proofs.Try.f105.results.toList = [.cell 4 33, .tmp 5] := by kernel_rfl
theorem f105 : Pg.funcs[105]? = some Go.Proofs.Try.f105 := by kernel_rfl
theorem run105 {args : List AV} {K : AV → List AObj → Prop} (hv : Run C Pg T ann105 none b105 (S (.tup []) 43 (enumL 0 args) [] h) (bodyK T Go.Proofs.Try.f105 K)) (hown : args.all (fun a => !a.owns) = true := by first | rfl | simp [AV.owns]) (hl : args.length ≤ 43 := by exact Nat.le_of_ble_eq_true rfl) : ACall C Pg 105 args h K := ACall.of_runR T_ok ann105 pl105 (c := bodyOf Go.Proofs.Try.f105) f105 (by kernel_rfl) (by kernel_rfl) c105 n105 hown hl hv
noncomputable def b112 : List It := [.o (some 4) (.tk (.const (.bool false))) none, .o (some 5) (.mv (.t 1)) none, .o (some 6) (.ar .geq (.t 5) (.c (.int .i64 0))) none, .o (some 7) (.mv (.t 6)) none, .o (some 8) (.mv (.t 1)) (some (some 7, true)), .o (some 9) (.mv (.t 0)) (some (some 7, true)), .o (some 10) (.nilck (.t 9)) (some (some 7, true)), .o (some 11) (.fa 0 (.t 10)) (some (some 7, true)), .o (some 12) (.fa 3 (.t 11)) (some (some 7, true)), .o (some 13) (.ld1 (.slice 33) (.t 12)) (some (some 7, true)), .o (some 14) (.lens (.t 13)) (some (some 7, true)), .o (some 15) (.ar .lss (.t 8) (.t 14)) (some (some 7, true)), .o (some 16) (.pick (.t 7) (.t 15) (.c (.bool false))) none, .o (some 4) (.tk (.tmp 16)) none, .ret]
theorem c112 : compR T {} [] (bodyOf Go.Proofs.Try.f112) = b112 := by kernel_rfl
theorem n112 : Go.Proofs.Try.f112.ntmps = 17 := by kernel_rfl
theorem r112 : Go.Proofs.Try.f112.results.toList = [.tmp 4] := by kernel_rfl
theorem f112 : Pg.funcs[112]? = some Go.Proofs.Try.f112 := by kernel_rfl
theorem run112 {args : List AV} {K : AV → List AObj → Prop} (hv : Run C Pg T {} none b112 (S (.tup []) 17 (enumL 0 args) [] h) (bodyK T Go.Proofs.Try.f112 K)) (hown : args.all (fun a => !a.owns) = true := by first | rfl | simp [AV.owns]) (hl : args.length ≤ 17 := by exact Nat.le_of_ble_eq_true rfl) : ACall C Pg 112 args h K := ACall.of_runR T_ok {} [] (c := bodyOf Go.Proofs.Try.f112) f112 (by kernel_rfl) (by kernel_rfl) c112 n112 hown hl hv
noncomputable def b113 : List It := [.o (some 4) (.tk (.const (.slice none 0 0))) none, .o (some 5) (.alloc false [.int .i64 0, .int .i64 0, .int .i64 0, .int .i64 0, .str []]) none, .o (some 7) (.mv (.t 0)) none, .o (some 8) (.mv (.t 1)) none, .o (some 9) (.ixs 5 [.int .i64, .int .i64, .int .i64, .int .i64, .str] (.t 7) (.t 8)) none, .o (some 10) (.ldA 5 [.int .i64, .int .i64, .int .i64, .int .i64, .str] (.t 9)) none, .o (some 6) (.alloc false [.int .i64 0, .int .i64 0, .int .i64 0, .int .i64 0, .str []]) none, .o none (.st 5 (.t 6) (.tmp 10)) none, .rf (rg (bodyOf Go.Proofs.Try.f113) 0), .ret]
theorem c113 : compR T {} pl113 (bodyOf Go.Proofs.Try.f113) = b113 := by kernel_rfl
noncomputable def g113q0 : List It := [.o (some 11) (.mv (.t 0)) none, .o (some 12) (.mv (.t 1)) none, .o (some 13) (.mv (.t 1)) none, .o (some 14) (.ar .add (.t 13) (.c (.int .i64 1))) none, .alts [[.o (some 15) (.call 124 [.t 11, .t 12, .t 14]) none, .o (some 4) (.tk (.tmp 15)) none, .alts [[.o (some 16) (.ldA 5 [.int .i64, .int .i64, .int .i64, .int .i64, .str] (.t 6)) none, .alts [[.o none (.st 5 (.t 5) (.tmp 16)) none]]]]], [.o (some 16) (.ldA 5 [.int .i64, .int .i64, .int .i64, .int .i64, .str] (.t 6)) none, .alts [[.o (some 15) (.call 124 [.t 11, .t 12, .t 14]) none, .o (some 4) (.tk (.tmp 15)) none, .alts [[.o none (.st 5 (.t 5) (.tmp 16)) none]]]]]]]
theorem gc113q0 : compC T {} pl113 (rg (bodyOf Go.Proofs.Try.f113) 0) = g113q0 := by kernel_rfl
theorem go113q0 : okCode {} none pl113 (rg (bodyOf Go.Proofs.Try.f113) 0) = true := by kernel_rfl
theorem re113q0 (h1 : Run C Pg T {} none g113q0 s K) : AWp C Pg none (rg (bodyOf Go.Proofs.Try.f113) 0) s K := AWp.eachR T_ok mixed {} pl113 go113q0 gc113q0 h1
theorem n113 : Go.Proofs.Try.f113.ntmps = 17 := by kernel_rfl
theorem r113 : Go.Proofs.Try.f113.results.toList = [.tmp 4, .cell 5 33] := by kernel_rfl
theorem f113 : Pg.funcs[113]? = some Go.Proofs.Try.f113 := by kernel_rfl
theorem run113 {args : List AV} {K : AV → List AObj → Prop} (hv : Run C Pg T {} none b113 (S (.tup []) 17 (enumL 0 args) [] h) (bodyK T Go.Proofs.Try.f113 K)) (hown : args.all (fun a => !a.owns) = true := by first | rfl | simp [AV.owns]) (hl : args.length ≤ 17 := by exact Nat.le_of_ble_eq_true rfl) : ACall C Pg 113 args h K := ACall.of_runR T_ok {} pl113 (c := bodyOf Go.Proofs.Try.f113) f113 (by kernel_rfl) (by kernel_rfl) c113 n113 hown hl hv
noncomputable def b118 : List It := [.o (some 6) (.tk (.const (.slice none 0 0))) none, .o (some 8) (.mv (.t 0)) none, .o (some 9) (.mv (.t 1)) none, .o (some 10) (.mv (.t 2)) none, .o (some 11) (.mv (.t 0)) none, .o (some 12) (.lens (.t 11)) none, .o (some 13) (.slc 23 (.t 8) (some (.t 9)) (some (.t 10)) (some (.t 12))) none, .o (some 14) (.mv (.t 1)) none, .o (some 15) (.mv (.t 2)) none, .o (some 16) (.eq1 (.int .i64) false (.t 14) (.t 15)) none, .cond (.tmp 16) [.o (some 17) (.mv (.t 0)) none, .o (some 6) (.tk (.tmp 17)) none, .ret] [], .o (some 18) (.mv (.t 0)) none, .o (some 19) (.lens (.t 18)) none, .o (some 7) (.tk (.tmp 19)) none, .rf (rg (bodyOf Go.Proofs.Try.f118) 0), .o (some 27) (.mv (.t 0)) none, .o (some 28) (.mv (.t 0)) none, .o (some 29) (.lens (.t 28)) none, .o (some 30) (.mv (.t 7)) none, .o (some 31) (.ovr 23 (.t 27) (some (.t 29)) (some (.t 30))) none, .o none (.clr 23 (.t 31)) none, .o (some 32) (.mv (.t 0)) none, .o (some 6) (.tk (.tmp 32)) none, .ret]
theorem c118 : compR T ann118 pl118 (bodyOf Go.Proofs.Try.f118) = b118 := by kernel_rfl
noncomputable def g118q0 : List It := [.o (some 20) (.mv (.t 0)) none, .o (some 21) (.mv (.t 1)) none, .o (some 22) (.slc 23 (.t 20) none (some (.t 21)) none) none, .o (some 23) (.mv (.t 0)) none, .o (some 24) (.mv (.t 2)) none, .o (some 25) (.slc 23 (.t 23) (some (.t 24)) none none) none, .alts [[.o (some 26) (.app false 23 23 (.tmp 22) (.tmp 25)) none, .o (some 0) (.tk (.tmp 26)) none]]]
theorem gc118q0 : compC T ann118 pl118 (rg (bodyOf Go.Proofs.Try.f118) 0) = g118q0 := by kernel_rfl
theorem go118q0 : okCode ann118 none pl118 (rg (bodyOf Go.Proofs.Try.f118) 0) = true := by kernel_rfl
theorem re118q0 (h1 : Run C Pg T ann118 none g118q0 s K) : AWp C Pg none (rg (bodyOf Go.Proofs.Try.f118) 0) s K := AWp.eachR T_ok mixed ann118 pl118 go118q0 gc118q0 h1
theorem n118 : Go.Proofs.Try.f118.ntmps = 33 := by kernel_rfl
theorem r118 : Go.Proofs.Try.f118.results.toList = [.tmp 6] := by kernel_rfl
theorem f118 : Pg.funcs[118]? = some Go.Proofs.Try.f118 := by kernel_rfl
theorem run118 {args : List AV} {K : AV → List AObj → Prop} (hv : Run C Pg T ann118 none b118 (S (.tup []) 33 (enumL 0 args) [] h) (bodyK T Go.Proofs.Try.f118 K)) (hown : args.all (fun a => !a.owns) = true := by first | rfl | simp [AV.owns]) (hl : args.length ≤ 33 := by exact Nat.le_of_ble_eq_true rfl) : ACall C Pg 118 args h K := ACall.of_runR T_ok ann118 pl118 (c := bodyOf Go.Proofs.Try.f118) f118 (by kernel_rfl) (by kernel_rfl) c118 n118 hown hl hv
noncomputable def b119q0 : List It := [.o (some 9) (.ar .lss (.t 8) (.t 7)) none, .cond (.tmp 9) [] [.exit 0], .block 1 [.o (some 10) (.mv (.t 8)) none, .o (some 5) (.tk (.tmp 10)) none, .o (some 11) (.mv (.t 1)) none, .o (some 12) (.mv (.t 0)) none, .o (some 13) (.mv (.t 5)) none, .o (some 14) (.ixs 3 [.int .i64, .int .i64, .int .i64] (.t 12) (.t 13)) none, .o (some 15) (.ldA 3 [.int .i64, .int .i64, .int .i64] (.t 14)) none, .o (some 16) (.callv (.t 11) [.t 15]) none, .cond (.tmp 16) [.o (some 17) (.mv (.t 5)) none, .o (some 4) (.tk (.tmp 17)) none, .ret] []], .o (some 18) (.ar .add (.t 8) (.c (.int .i64 1))) none, .o (some 8) (.mv (.t 18)) none]
noncomputable def b119 : List It := [.o (some 4) (.tk (.const (.int .i64 0))) none, .o (some 6) (.mv (.t 0)) none, .o (some 7) (.lens (.t 6)) none, .o (some 8) (.mv (.c (.int .i64 0))) none, .block 0 [.loop b119q0 (lp (bodyOf Go.Proofs.Try.f119) 0)], .o (some 4) (.tk (.const (.int .i64 (-1)))) none, .ret]
theorem c119q0 : compR T {} [] (lp (bodyOf Go.Proofs.Try.f119) 0) = b119q0 := by kernel_rfl
theorem lp119q0 {α : Type} (m : Nat) (ls : α → List (Nat × AV)) (bs : α → List (List AV)) (hs : α → List AObj) (φ : α → Prop) (μ : α → Nat) (g0 : α) (h0 : φ g0) (hkeys : ∀ g, (ls g).map (·.1) = (ls g0).map (·.1)) (e1 : allIn d l m (ls g0)) (e2 : bs g0 = bx.take m) (e3 : (bs g0).all (fun cs => AV.lb.lbs m cs) = true) (e4 : h = hs g0) (round : ∀ g, φ g → Run C Pg T {} none b119q0 (S .undef 19 (ls g) (bs g) (hs g)) (nextR d 19 m ls bs hs φ μ g K)) : AWp C Pg none (.loop (lp (bodyOf Go.Proofs.Try.f119) 0)) (S d 19 l bx h) K := AWp.loopQ T_ok {} [] c119q0 m ls bs hs φ μ g0 h0 hkeys e1 e2 e3 e4 round
theorem c119 : compR T {} [] (bodyOf Go.Proofs.Try.f119) = b119 := by kernel_rfl
theorem n119 : Go.Proofs.Try.f119.ntmps = 19 := by kernel_rfl
theorem r119 : Go.Proofs.Try.f119.results.toList = [.tmp 4] := by kernel_rfl
theorem f119 : Pg.funcs[119]? = some Go.Proofs.Try.f119 := by kernel_rfl
theorem run119 {args : List AV} {K : AV → List AObj → Prop} (hv : Run C Pg T {} none b119 (S (.tup []) 19 (enumL 0 args) [] h) (bodyK T Go.Proofs.Try.f119 K)) (hown : args.all (fun a => !a.owns) = true := by first | rfl | simp [AV.owns]) (hl : args.length ≤ 19 := by exact Nat.le_of_ble_eq_true rfl) : ACall C Pg 119 args h K := ACall.of_runR T_ok {} [] (c := bodyOf Go.Proofs.Try.f119) f119 (by kernel_rfl) (by kernel_rfl) c119 n119 hown hl hv
noncomputable def b120 : List It := [.o (some 3) (.box false (.t 0)) none, .o (some 4) (.tk (.const (.bool false))) none, .o (some 5) (.fa 1 (.t 3)) none, .o (some 6) (.ld1 (.int .i64) (.t 5)) none, .o (some 7) (.ld1 (.int .i64) (.t 1)) none, .o (some 8) (.eq1 (.int .i64) false (.t 6) (.t 7)) none, .o (some 9) (.mv (.t 8)) none, .o (some 10) (.fa 2 (.t 3)) (some (some 9, true)), .o (some 11) (.ld1 (.int .i64) (.t 10)) (some (some 9, true)), .o (some 12) (.ld1 (.int .i64) (.t 2)) (some (some 9, true)), .o (some 13) (.eq1 (.int .i64) false (.t 11) (.t 12)) (some (some 9, true)), .o (some 14) (.pick (.t 9) (.t 13) (.c (.bool false))) none, .o (some 4) (.tk (.tmp 14)) none, .ret]
theorem c120 : compR T {} [] (bodyOf Go.Proofs.Try.f120) = b120 := by kernel_rfl
theorem n120 : Go.Proofs.Try.f120.ntmps = 15 := by kernel_rfl
theorem r120 : Go.Proofs.Try.f120.results.toList = [.tmp 4] := by kernel_rfl
theorem f120 : Pg.funcs[120]? = some Go.Proofs.Try.f120 := by kernel_rfl
theorem run120 {args : List AV} {K : AV → List AObj → Prop} (hv : Run C Pg T {} none b120 (S (.tup []) 15 (enumL 0 args) [] h) (bodyK T Go.Proofs.Try.f120 K)) (hown : args.all (fun a => !a.owns) = true := by first | rfl | simp [AV.owns]) (hl : args.length ≤ 15 := by exact Nat.le_of_ble_eq_true rfl) : ACall C Pg 120 args h K := ACall.of_runR T_ok {} [] (c := bodyOf Go.Proofs.Try.f120) f120 (by kernel_rfl) (by kernel_rfl) c120 n120 hown hl hv
noncomputable def b121 : List It := [.o (some 6) (.tk (.const (.slice none 0 0))) none, .o (some 8) (.mv (.t 0)) none, .o (some 9) (.mv (.t 1)) none, .o (some 10) (.mv (.t 2)) none, .o (some 11) (.mv (.t 0)) none, .o (some 12) (.lens (.t 11)) none, .o (some 13) (.slc 24 (.t 8) (some (.t 9)) (some (.t 10)) (some (.t 12))) none, .o (some 14) (.mv (.t 1)) none, .o (some 15) (.mv (.t 2)) none, .o (some 16) (.eq1 (.int .i64) false (.t 14) (.t 15)) none, .cond (.tmp 16) [.o (some 17) (.mv (.t 0)) none, .o (some 6) (.tk (.tmp 17)) none, .ret] [], .o (some 18) (.mv (.t 0)) none, .o (some 19) (.lens (.t 18)) none, .o (some 7) (.tk (.tmp 19)) none, .rf (rg (bodyOf Go.Proofs.Try.f121) 0), .o (some 27) (.mv (.t 0)) none, .o (some 28) (.mv (.t 0)) none, .o (some 29) (.lens (.t 28)) none, .o (some 30) (.mv (.t 7)) none, .o (some 31) (.ovr 24 (.t 27) (some (.t 29)) (some (.t 30))) none, .o none (.clr 24 (.t 31)) none, .o (some 32) (.mv (.t 0)) none, .o (some 6) (.tk (.tmp 32)) none, .ret]
theorem c121 : compR T ann121 pl121 (bodyOf Go.Proofs.Try.f121) = b121 := by kernel_rfl
noncomputable def g121q0 : List It := [.o (some 20) (.mv (.t 0)) none, .o (some 21) (.mv (.t 1)) none, .o (some 22) (.slc 24 (.t 20) none (some (.t 21)) none) none, .o (some 23) (.mv (.t 0)) none, .o (some 24) (.mv (.t 2)) none, .o (some 25) (.slc 24 (.t 23) (some (.t 24)) none none) none, .alts [[.o (some 26) (.app false 24 24 (.tmp 22) (.tmp 25)) none, .o (some 0) (.tk (.tmp 26)) none]]]
theorem gc121q0 : compC T ann121 pl121 (rg (bodyOf Go.Proofs.Try.f121) 0) = g121q0 := by kernel_rfl
theorem go121q0 : okCode ann121 none pl121 (rg (bodyOf Go.Proofs.Try.f121) 0) = true := by kernel_rfl
theorem re121q0 (h1 : Run C Pg T ann121 none g121q0 s K) : AWp C Pg none (rg (bodyOf Go.Proofs.Try.f121) 0) s K := AWp.eachR T_ok mixed ann121 pl121 go121q0 gc121q0 h1
theorem n121 : Go.Proofs.Try.f121.ntmps = 33 := by kernel_rfl
theorem r121 : Go.Proofs.Try.f121.results.toList = [.tmp 6] := by kernel_rfl
theorem f121 : Pg.funcs[121]? = some Go.Proofs.Try.f121 := by kernel_rfl
theorem run121 {args : List AV} {K : AV → List AObj → Prop} (hv : Run C Pg T ann121 none b121 (S (.tup []) 33 (enumL 0 args) [] h) (bodyK T Go.Proofs.Try.f121 K)) (hown : args.all (fun a => !a.owns) = true := by first | rfl | simp [AV.owns]) (hl : args.length ≤ 33 := by exact Nat.le_of_ble_eq_true rfl) : ACall C Pg 121 args h K := ACall.of_runR T_ok ann121 pl121 (c := bodyOf Go.Proofs.Try.f121) f121 (by kernel_rfl) (by kernel_rfl) c121 n121 hown hl hv
noncomputable def b124 : List It := [.o (some 6) (.tk (.const (.slice none 0 0))) none, .o (some 8) (.mv (.t 0)) none, .o (some 9) (.mv (.t 1)) none, .o (some 10) (.mv (.t 2)) none, .o (some 11) (.mv (.t 0)) none, .o (some 12) (.lens (.t 11)) none, .o (some 13) (.slc 22 (.t 8) (some (.t 9)) (some (.t 10)) (some (.t 12))) none, .o (some 14) (.mv (.t 1)) none, .o (some 15) (.mv (.t 2)) none, .o (some 16) (.eq1 (.int .i64) false (.t 14) (.t 15)) none, .cond (.tmp 16) [.o (some 17) (.mv (.t 0)) none, .o (some 6) (.tk (.tmp 17)) none, .ret] [], .o (some 18) (.mv (.t 0)) none, .o (some 19) (.lens (.t 18)) none, .o (some 7) (.tk (.tmp 19)) none, .rf (rg (bodyOf Go.Proofs.Try.f124) 0), .o (some 27) (.mv (.t 0)) none, .o (some 28) (.mv (.t 0)) none, .o (some 29) (.lens (.t 28)) none, .o (some 30) (.mv (.t 7)) none, .o (some 31) (.ovr 22 (.t 27) (some (.t 29)) (some (.t 30))) none, .o none (.clr 22 (.t 31)) none, .o (some 32) (.mv (.t 0)) none, .o (some 6) (.tk (.tmp 32)) none, .ret]
theorem c124 : compR T ann124 pl124 (bodyOf Go.Proofs.Try.f124) = b124 := by kernel_rfl
noncomputable def g124q0 : List It := [.o (some 20) (.mv (.t 0)) none, .o (some 21) (.mv (.t 1)) none, .o (some 22) (.slc 22 (.t 20) none (some (.t 21)) none) none, .o (some 23) (.mv (.t 0)) none, .o (some 24) (.mv (.t 2)) none, .o (some 25) (.slc 22 (.t 23) (some (.t 24)) none none) none, .alts [[.o (some 26) (.app false 22 22 (.tmp 22) (.tmp 25)) none, .o (some 0) (.tk (.tmp 26)) none]]]
theorem gc124q0 : compC T ann124 pl124 (rg (bodyOf Go.Proofs.Try.f124) 0) = g124q0 := by kernel_rfl
theorem go124q0 : okCode ann124 none pl124 (rg (bodyOf Go.Proofs.Try.f124) 0) = true := by kernel_rfl
theorem re124q0 (h1 : Run C Pg T ann124 none g124q0 s K) : AWp C Pg none (rg (bodyOf Go.Proofs.Try.f124) 0) s K := AWp.eachR T_ok mixed ann124 pl124 go124q0 gc124q0 h1
theorem n124 : Go.Proofs.Try.f124.ntmps = 33 := by kernel_rfl
theorem r124 : Go.Proofs.Try.f124.results.toList = [.tmp 6] := by kernel_rfl
theorem f124 : Pg.funcs[124]? = some Go.Proofs.Try.f124 := by kernel_rfl
theorem run124 {args : List AV} {K : AV → List AObj → Prop} (hv : Run C Pg T ann124 none b124 (S (.tup []) 33 (enumL 0 args) [] h) (bodyK T Go.Proofs.Try.f124 K)) (hown : args.all (fun a => !a.owns) = true := by first | rfl | simp [AV.owns]) (hl : args.length ≤ 33 := by exact Nat.le_of_ble_eq_true rfl) : ACall C Pg 124 args h K := ACall.of_runR T_ok ann124 pl124 (c := bodyOf Go.Proofs.Try.f124) f124 (by kernel_rfl) (by kernel_rfl) c124 n124 hown hl hv
noncomputable def b144 : List It := [.o (some 4) (.alloc false [.int .i64 0, .int .i64 0, .int .i64 0, .int .i64 0, .str [], .int .i64 0, .int .i64 0, .int .i64 0, .int .i64 0, .int .i64 0, .int .i64 0, .str [], .sl true 0 [] .own]) none, .o (some 8) (.mv (.t 0)) none, .o (some 9) (.mv (.t 1)) none, .o (some 10) (.callv (.t 8) [.t 9]) none, .o (some 7) (.mv (.t 10)) none, .o (some 11) (.ext (.t 7) 0) none, .o (some 12) (.ext (.t 7) 1) none, .o (some 5) (.alloc false [.int .i64 0, .int .i64 0, .int .i64 0, .int .i64 0, .str []]) none, .o none (.st 5 (.t 5) (.tmp 11)) none, .o (some 6) (.tk (.tmp 12)) none, .o (some 13) (.mv (.t 6)) none, .o (some 14) (.ldA 5 [.int .i64, .int .i64, .int .i64, .int .i64, .str] (.t 5)) none, .o (some 15) (.bld 55 [(1, .t 13), (3, .t 14)]) none, .o none (.st 13 (.t 4) (.tmp 15)) none, .ret]
theorem c144 : compR T {} [] (bodyOf Go.Proofs.Try.f144) = b144 := by kernel_rfl
theorem n144 : Go.Proofs.Try.f144.ntmps = 16 := by kernel_rfl
theorem r144 : Go.Proofs.Try.f144.results.toList = [.cell 4 55] := by kernel_rfl
theorem f144 : Pg.funcs[144]? = some Go.Proofs.Try.f144 := by kernel_rfl
theorem run144 {args : List AV} {K : AV → List AObj → Prop} (hv : Run C Pg T {} none b144 (S (.tup []) 16 (enumL 0 args) [] h) (bodyK T Go.Proofs.Try.f144 K)) (hown : args.all (fun a => !a.owns) = true := by first | rfl | simp [AV.owns]) (hl : args.length ≤ 16 := by exact Nat.le_of_ble_eq_true rfl) : ACall C Pg 144 args h K := ACall.of_runR T_ok {} [] (c := bodyOf Go.Proofs.Try.f144) f144 (by kernel_rfl) (by kernel_rfl) c144 n144 hown hl hv
end
end Go.Ab
end
section
/- Rules for runs on values that are known. -/
set_option linter.unusedSimpArgs false
set_option linter.unusedVariables false
set_option maxRecDepth 100000
set_option maxHeartbeats 4000000
namespace Go.Ab

def TD.fit : TD → AV → Bool
  | .int k, .int k' _ => decide (k = k')
  | .int _, _ => false
  | .bool, .bool _ => true
  | .bool, _ => false
  | .str, .str _ => true
  | .str, _ => false
  | _, _ => true
def fits : List TD → List AV → Bool
  | [], [] => true
  | d :: ds, a :: r => d.fit a && fits ds r
  | _, _ => false
theorem exCells_iff : ∀ {ds : List TD} {K : List AV → Prop}, exCells ds K ↔ ∃ c, fits ds c = true ∧ K c
  | [], K => by
    simp only [exCells]
    constructor
    · exact fun h => ⟨[], rfl, h⟩
    · rintro ⟨c, h1, h2⟩
      cases c with
      | nil => exact h2
      | cons a r => simp [fits] at h1
  | d :: ds, K => by
    cases d with
    | int k =>
      simp only [exCells, exCells_iff]
      constructor
      · rintro ⟨n, c, h1, h2⟩
        exact ⟨_, by simp [fits, TD.fit, h1], h2⟩
      · rintro ⟨c, h1, h2⟩
        cases c with
        | nil => simp [fits] at h1
        | cons a r =>
          cases a <;> simp [fits, TD.fit] at h1
          obtain ⟨rfl, h1⟩ := h1
          exact ⟨_, r, h1, h2⟩
    | bool =>
      simp only [exCells, exCells_iff]
      constructor
      · rintro ⟨n, c, h1, h2⟩
        exact ⟨_, by simp [fits, TD.fit, h1], h2⟩
      · rintro ⟨c, h1, h2⟩
        cases c with
        | nil => simp [fits] at h1
        | cons a r =>
          cases a <;> simp [fits, TD.fit] at h1
          exact ⟨_, r, h1, h2⟩
    | str =>
      simp only [exCells, exCells_iff]
      constructor
      · rintro ⟨n, c, h1, h2⟩
        exact ⟨_, by simp [fits, TD.fit, h1], h2⟩
      · rintro ⟨c, h1, h2⟩
        cases c with
        | nil => simp [fits] at h1
        | cons a r =>
          cases a <;> simp [fits, TD.fit] at h1
          exact ⟨_, r, h1, h2⟩
    | _ =>
      simp only [exCells, exCells_iff]
      constructor
      · rintro ⟨n, c, h1, h2⟩
        exact ⟨_, by simp [fits, TD.fit, h1], h2⟩
      · rintro ⟨c, h1, h2⟩
        cases c with
        | nil => simp [fits] at h1
        | cons a r =>
          simp [fits, TD.fit] at h1
          exact ⟨_, r, h1, h2⟩
theorem fits_len : ∀ {ds : List TD} {c : List AV}, fits ds c = true → c.length = ds.length
  | [], [], _ => rfl
  | [], _ :: _, h => by simp [fits] at h
  | _ :: _, [], h => by simp [fits] at h
  | d :: ds, a :: r, h => by
    simp only [fits, Bool.and_eq_true] at h
    simp [fits_len h.2]

/-- Cells of an object. -/
def readC (h : List AObj) (id off sz : Nat) (K : List AV → Prop) : Prop :=
  match h[id]? with
  | some (.cells cs _) => off + sz ≤ cs.length ∧ K ((cs.drop off).take sz)
  | _ => False
section
variable {bx : List (List AV)} {h : List AObj} {id off sz : Nat} {K : AV → Prop} {d : TD} {ks : List TD} {es : List (List AV)} {n : Int} {k : IntKind} {z : Bool} {sz' : Nat} {t : Tip}
theorem hread_iff {c : List AV} : hread h id off c ↔ readC h id off c.length (fun x => x = c) := by
  unfold hread readC
  constructor
  · rintro ⟨cs, n, h1, h2, h3⟩
    rw [h1]
    exact ⟨h2, h3⟩
  · intro hr
    split at hr
    · rename_i cs n h1
      exact ⟨cs, n, h1, hr.1, hr.2⟩
    · exact hr.elim
theorem ld1qm : ld1K d bx h (.mptr id off) K = readC h id off 1 (fun c => fits [d] c = true ∧ hd1 c K) := by
  simp only [ld1K, exCells_iff, hread_iff]
  apply propext
  unfold readC
  constructor
  · rintro ⟨c, h1, h2, h3⟩
    have := fits_len h1
    simp only [List.length_singleton] at this
    rw [this] at h2
    split at h2
    · obtain ⟨h4, h5⟩ := h2
      subst h5
      exact ⟨h4, h1, h3⟩
    · exact h2.elim
  · intro hr
    split at hr
    · obtain ⟨h1, h2, h3⟩ := hr
      refine ⟨_, h2, ?_, h3⟩
      have := fits_len h2
      simp only [List.length_singleton] at this
      rw [this]
      exact ⟨h1, rfl⟩
    · exact hr.elim
theorem ldA_m : ldAK sz ks bx h (.mptr id off) K = (ks.length = sz ∧ readC h id off sz (fun c => fits ks c = true ∧ K (.agg c))) := by
  simp only [ldAK, exCells_iff, hread_iff]
  apply propext
  unfold readC
  constructor
  · rintro ⟨c, h1, h0, h2, h3⟩
    have := fits_len h1
    rw [h0] at h2
    refine ⟨by omega, ?_⟩
    split at h2
    · obtain ⟨h4, h5⟩ := h2
      subst h5
      exact ⟨h4, h1, h3⟩
    · exact h2.elim
  · rintro ⟨hk, hr⟩
    split at hr
    · obtain ⟨h1, h2, h3⟩ := hr
      have := fits_len h2
      refine ⟨_, h2, by omega, ?_, h3⟩
      rw [this, hk]
      exact ⟨h1, rfl⟩
    · exact hr.elim
def getE (es : List (List AV)) (i : Nat) (K : List AV → Prop) : Prop := match es[i]? with | some c => K c | none => False
theorem ixs_l : ixsK sz ks (.sl z sz' es t) (.int k n) K = (z = false ∧ sz = sz' ∧ 0 ≤ n ∧ getE es n.toNat (fun c => fits ks c = true ∧ K (.eptr c))) := by
  simp only [ixsK, exCells_iff]
  apply propext
  unfold getE
  constructor
  · rintro ⟨h1, h2, h3, c, h4, h5, h6⟩
    rw [h5]
    exact ⟨h1, h2, h3, h4, h6⟩
  · rintro ⟨h1, h2, h3, h4⟩
    refine ⟨h1, h2, h3, ?_⟩
    split at h4
    · rename_i c hc
      exact ⟨c, h4.1, hc, h4.2⟩
    · exact h4.elim
theorem ixs_m {i : Nat} {len : Nat} : ixsK sz ks (.msl i sz' off len) (.int k n) K = (sz = sz' ∧ 0 ≤ n ∧ n < len ∧ K (.mptr i (off + n.toNat * sz'))) := rfl
/-- Cells of an object that are written. -/
def wrC (h : List AObj) (id off sz : Nat) (K : List AV → Nat → Prop) : Prop :=
  match h[id]? with
  | some (.cells cs n) => off + sz ≤ cs.length ∧ K cs n
  | _ => False
theorem st_m {v : AV} {i : Nat} {K : List (List AV) → List AObj → Prop} : stK sz v bx h (.mptr i off) K = (v.cells.length = sz ∧ v.cells.all AV.one = true ∧ AV.nol.nols v.cells = true ∧ wrC h i off sz fun cs n => K bx (h.set i (.cells (laid cs off (v.cells.map AV.un)) n))) := by
  simp only [stK]
  apply propext
  unfold wrC
  constructor
  · rintro ⟨h1, h2, h3, cs, n, h4, h5, h6⟩
    rw [h4]
    exact ⟨h1, h2, h3, h5, h6⟩
  · rintro ⟨h1, h2, h3, h4⟩
    refine ⟨h1, h2, h3, ?_⟩
    split at h4
    · rename_i cs n hc
      exact ⟨cs, n, hc, h4.1, h4.2⟩
    · exact h4.elim
theorem st_l {v : AV} {i : Nat} {K : List (List AV) → List AObj → Prop} : stK sz v bx h (.lptr i off) K = (v.cells.length = sz ∧ v.cells.all AV.one = true ∧ i < bx.length ∧ off + sz ≤ (bx.getD i []).length ∧ K (bx.set i (laid (bx.getD i []) off v.scells)) h) := rfl
theorem T22 : T.get 22 = some (TI.mk (.slice 33) 1 24 [.sl true 0 [] .own] []) := rfl
theorem T23 : T.get 23 = some (TI.mk (.slice 100) 1 24 [.sl true 0 [] .own] []) := rfl
theorem T24 : T.get 24 = some (TI.mk (.slice 86) 1 24 [.sl true 0 [] .own] []) := rfl
theorem T37 : T.get 37 = some (TI.mk (.slice 3) 1 24 [.sl true 0 [] .own] []) := rfl
theorem T3 : T.get 3 = some (TI.mk (.int .i64) 1 8 [.int .i64 0] []) := rfl
theorem T33 : T.get 33 = some (TI.mk (.struct [(0, 3), (1, 3), (2, 3), (3, 3), (4, 9)]) 5 48 [.int .i64 0, .int .i64 0, .int .i64 0, .int .i64 0, .str []] [.int .i64, .int .i64, .int .i64, .int .i64, .str]) := rfl
theorem T100 : T.get 100 = some (TI.mk (.struct [(0, 3), (1, 3)]) 2 16 [.int .i64 0, .int .i64 0] [.int .i64, .int .i64]) := rfl
theorem T86 : T.get 86 = some (TI.mk (.struct [(0, 3), (1, 3), (2, 3)]) 3 24 [.int .i64 0, .int .i64 0, .int .i64 0] [.int .i64, .int .i64, .int .i64]) := rfl
theorem ld1qe {cs : List AV} : ld1K d bx h (.eptr cs) K = hd1 cs K := rfl
theorem ld1ql {i : Nat} : ld1K d bx h (.lptr i off) K = hd1 ((bx.getD i []).drop off) K := rfl
theorem ldA_e {cs : List AV} : ldAK sz ks bx h (.eptr cs) K = (sz ≤ cs.length ∧ K (.agg (cs.take sz))) := rfl
theorem ldA_l {i : Nat} : ldAK sz ks bx h (.lptr i off) K = (i < bx.length ∧ off + sz ≤ (bx.getD i []).length ∧ K (.agg ((((bx.getD i []).drop off).take sz).map AV.un))) := rfl
theorem ldcm33 {i : Nat} : loadK T 33 (.mptr i off) bx h K = readC h i off 5 (fun c => fits [.int .i64, .int .i64, .int .i64, .int .i64, .str] c = true ∧ K (.agg c)) := by
  have : loadK T 33 (.mptr i off) bx h K = ldAK 5 [.int .i64, .int .i64, .int .i64, .int .i64, .str] bx h (.mptr i off) K := by
    simp only [loadK, T33, TD.known, TD.isAgg, if_true, true_and, ldAK]
    rfl
  rw [this, ldA_m]; simp
theorem ldcm29 {i : Nat} : loadK T 29 (.mptr i off) bx h K = readC h i off 1 (fun c => fits [.int .i64] c = true ∧ hd1 c K) := by
  have : loadK T 29 (.mptr i off) bx h K = ld1K (.int .i64) bx h (.mptr i off) K := by
    simp only [loadK, show T.get 29 = some (TI.mk (.int .i64) 1 8 [.int .i64 0] []) from rfl, TD.known, TD.isAgg, true_and, ld1K]
    apply propext
    simp only [Bool.false_eq_true, if_false, exCells]
    constructor <;> rintro ⟨n, h1, h2⟩ <;> exact ⟨n, h1, h2⟩
  rw [this, ld1qm]
end
section
variable {C : CX} {h : List AObj} {a b c n : Int} {A B D : AV} {z1 z2 z3 : Bool} {s1 s2 s3 : Nat} {x : Net}
theorem deep_L {l : List Letter} : AV.deep.deepss (l.map Letter.c) = true := by
  induction l with
  | nil => rfl
  | cons x l ih => simp [AV.deep.deepss, Letter.c, AV.deep.deeps, AV.deep, ih]
theorem deep_C {l : List Link} : AV.deep.deepss (l.map Link.c) = true := by
  induction l with
  | nil => rfl
  | cons x l ih => simp [AV.deep.deepss, Link.c, AV.deep.deeps, AV.deep, ih]
theorem deep_T {l : List Timer} : AV.deep.deepss (l.map Timer.c) = true := by
  induction l with
  | nil => rfl
  | cons x l ih => simp [AV.deep.deepss, Timer.c, AV.deep.deeps, AV.deep, ih]
theorem deep_I {l : List Int} : AV.deep.deepss (l.map intc) = true := by
  induction l with
  | nil => rfl
  | cons x l ih => simp [AV.deep.deepss, intc, AV.deep.deeps, AV.deep, ih]
theorem check19c {K : AV → List AObj → Prop} (hk : Nk z1 s1 z2 s2 z3 s3 x) (hc : x.cuts.length < 1000000) (hK : ∀ r, (r = true ↔ WF x) → K (.int .i64 (if r = true then 0 else 2)) h) : ACall C Pg 19 [.agg [.int .i64 x.nodes, .int .i64 x.now, .int .i64 x.next, .sl z1 s1 (x.way.map Letter.c) .no, .sl z2 s2 (x.cuts.map Link.c) .no, .sl z3 s3 (x.timers.map Timer.c) .no]] h K :=
  ACall.closed (by simp [AV.deep.deeps, AV.deep, deep_L, deep_C, deep_T]) (check19 hk hc fun g r hr => ⟨rfl, rfl, hK r hr⟩)
theorem bld125 {K : AV → Prop} (h1 : A.one = true) (h2 : B.one = true) (h3 : D.one = true) : agK (abuild T 125 [(0, .agg [.int .i64 a, .int .i64 b, .int .i64 c, A, B, D])]) K = K (.agg [.int .i64 a, .int .i64 b, .int .i64 c, A, B, D]) := by
  have e : T.get 125 = some (TI.mk (.struct [(0, 26)]) 6 96 [.int .i64 0, .int .i64 0, .int .i64 0, .sl true 0 [] .own, .sl true 0 [] .own, .sl true 0 [] .own] []) := rfl
  have e2 : T.get 26 = some (TI.mk (.struct [(0, 3), (1, 3), (2, 3), (3, 22), (4, 23), (5, 24)]) 6 96 [.int .i64 0, .int .i64 0, .int .i64 0, .sl true 0 [] .own, .sl true 0 [] .own, .sl true 0 [] .own] []) := rfl
  have i1 : ∀ (k : IntKind) (n : Int), (AV.int k n).one = true := fun _ _ => rfl
  simp [abuild, e, e2, places, fillA, jo, AV.cells, i1, h1, h2, h3, agK]
theorem Nk.of {b1 b2 b3 : Bool} {t1 t2 t3 : Nat} {y : Net} (h : (b1 = true → y.way.length = 0) ∧ (b1 = false → t1 = 5) ∧ (b2 = true → y.cuts.length = 0) ∧ (b2 = false → t2 = 2) ∧ (b3 = true → y.timers.length = 0) ∧ (b3 = false → t3 = 3)) : Nk b1 t1 b2 t2 b3 t3 y := ⟨⟨h.1, h.2.1⟩, ⟨h.2.2.1, h.2.2.2.1⟩, ⟨h.2.2.2.2.1, h.2.2.2.2.2⟩⟩
end
/-- The rules for runs on known values. -/
def rue := And.intro (And.intro (And.intro (And.intro (@bld125) (And.intro (@ld1qe) (@ld1ql))) (And.intro (And.intro (@ld1qm) (@ldA_e)) (And.intro (@ldA_l) (@ldA_m)))) (And.intro (And.intro (And.intro (@ldcm33) (@ldcm29)) (And.intro (@ixs_l) (@ixs_m))) (And.intro (And.intro (@st_m) (@st_l)) (And.intro (@runN_succ) (@more_n))))) (And.intro (And.intro (And.intro (@more_exit) (And.intro (@more_ret) (@getE.eq_1))) (And.intro (And.intro (@fits.eq_1) (@fits.eq_2)) (And.intro (@fits.eq_3) (@TD.fit.eq_1)))) (And.intro (And.intro (And.intro (@TD.fit.eq_2) (@TD.fit.eq_3)) (And.intro (@TD.fit.eq_4) (@TD.fit.eq_5))) (And.intro (And.intro (@TD.fit.eq_6) (@TD.fit.eq_7)) (And.intro (@optO.eq_1) (@optO.eq_2)))))
end Go.Ab
end
section
/- A network under change: its lists are objects of the call's own. -/
set_option linter.unusedSimpArgs false
set_option linter.unusedVariables false
set_option maxRecDepth 100000
set_option maxHeartbeats 4000000
namespace Go.Ab

/-- A list of the call's own. -/
def LV {α : Type} (h : List AObj) (sz : Nat) (c : α → List AV) (v : AV) (l : List α) : Prop :=
  (l = [] ∧ (v = .sl true 0 [] .no ∨ v = .sl false sz [] .full)) ∨
  (∃ id cs n rest, v = .msl id sz 0 l.length ∧ h[id]? = some (.cells cs n) ∧ cs.length = n ∧ cs = (l.map c).flatten ++ rest)
def vid : AV → List Nat
  | .msl id _ _ _ => [id]
  | _ => []
theorem LV.more {α : Type} {h : List AObj} {sz : Nat} {c : α → List AV} {v : AV} {l : List α} (hv : LV h sz c v l) {h' : List AObj} (hf : ∀ i ∈ vid v, h'[i]? = h[i]?) : LV h' sz c v l := by
  rcases hv with hv | ⟨id, cs, n, rest, h1, h2, h3, h4⟩
  · exact .inl hv
  · refine .inr ⟨id, cs, n, rest, h1, ?_, h3, h4⟩
    rw [hf id (by rw [h1]; simp [vid])]
    exact h2
theorem LV.lt {α : Type} {h : List AObj} {sz : Nat} {c : α → List AV} {v : AV} {l : List α} (hv : LV h sz c v l) : ∀ i ∈ vid v, i < h.length := by
  rcases hv with ⟨_, rfl | rfl⟩ | ⟨id, cs, n, rest, rfl, h2, _⟩
  · simp [vid]
  · simp [vid]
  · simp only [vid, List.mem_singleton]
    rintro i rfl
    exact (List.getElem?_eq_some_iff.1 h2).1
theorem LV.app {α : Type} {h g : List AObj} {sz : Nat} {c : α → List AV} {v : AV} {l : List α} (hv : LV h sz c v l) : LV (h ++ g) sz c v l :=
  hv.more fun i hi => List.getElem?_append_left (hv.lt i hi)
theorem LV.one {α : Type} {h : List AObj} {sz : Nat} {c : α → List AV} {v : AV} {l : List α} (hv : LV h sz c v l) : v.one = true := by
  rcases hv with ⟨_, rfl | rfl⟩ | ⟨id, cs, n, rest, rfl, _⟩ <;> rfl
theorem LV.nol {α : Type} {h : List AObj} {sz : Nat} {c : α → List AV} {v : AV} {l : List α} (hv : LV h sz c v l) : v.nol = true := by
  rcases hv with ⟨_, rfl | rfl⟩ | ⟨id, cs, n, rest, rfl, _⟩ <;> rfl
theorem LV.un {α : Type} {h : List AObj} {sz : Nat} {c : α → List AV} {v : AV} {l : List α} (hv : LV h sz c v l) : v.un = v := by
  rcases hv with ⟨_, rfl | rfl⟩ | ⟨id, cs, n, rest, rfl, _⟩ <;> rfl
theorem LV.owns {α : Type} {h : List AObj} {sz : Nat} {c : α → List AV} {v : AV} {l : List α} (hv : LV h sz c v l) : v.owns = false := by
  rcases hv with ⟨_, rfl | rfl⟩ | ⟨id, cs, n, rest, rfl, _⟩ <;> rfl

theorem LV.cells {α : Type} {h : List AObj} {sz : Nat} {c : α → List AV} {v : AV} {l : List α} (hv : LV h sz c v l) : v.cells = [v] := by
  rcases hv with ⟨_, rfl | rfl⟩ | ⟨id, cs, n, rest, rfl, _⟩ <;> rfl
theorem LV.scells {α : Type} {h : List AObj} {sz : Nat} {c : α → List AV} {v : AV} {l : List α} (hv : LV h sz c v l) : v.scells = [v] := by
  rcases hv with ⟨_, rfl | rfl⟩ | ⟨id, cs, n, rest, rfl, _⟩ <;> rfl

theorem flat_len {α : Type} {sz : Nat} {c : α → List AV} (hc : ∀ x, (c x).length = sz) (l : List α) : ((l.map c).flatten).length = l.length * sz := by
  induction l with
  | nil => simp
  | cons x l ih => simp [hc, ih, Nat.add_mul]; omega
theorem lenL (x : Letter) : (Letter.c x).length = 5 := rfl
theorem lenC (x : Link) : (Link.c x).length = 2 := rfl
theorem lenT (x : Timer) : (Timer.c x).length = 3 := rfl

section
variable {C : CX} {h : List AObj} {K : AV → List AObj → Prop} {z z1 z2 z3 : Bool} {s s1 s2 s3 : Nat} {x : Net}

/-- What cloning makes. -/
theorem cloneK {α : Type} {sz t e : Nat} {c : α → List AV} {l : List α} {ti ei : TI} (hsz : sz ≠ 0) (hc : ∀ x, (c x).length = sz) (h1 : T.get t = some ti) (h2 : ti.d = .slice e) (h3 : T.get e = some ei) (h4 : ei.size = sz) (hb : ei.bytes ≠ 0) (hb2 : ei.bytes ≤ 1000) (hz : Slk false s sz l.length) (hl : l.length < 1000000)
    (hK : ∀ v g, LV (h ++ g) sz c v l → (∀ i ∈ vid v, h.length ≤ i) → K v (h ++ g)) : appendK T true t t (.sl false sz [] .full) (.sl false s (l.map c) .no) h K := by
  have hs := hz.sz rfl
  subst hs h4
  simp only [appendK, srcK, h1, h2, h3]
  refine ⟨hsz, hb, fun _ => trivial, fun _ => trivial, ?_, ?_⟩
  · simp only [List.length_nil, List.length_map, Nat.zero_add]
    exact Nat.le_trans (Nat.mul_le_mul (Nat.le_of_lt hl) hb2) (by decide)
  · rw [if_pos trivial]
    refine ⟨.inr trivial, fun he => ?_, fun he n hn => ?_⟩
    · have hl0 : l = [] := by cases l <;> simp at he ⊢
      have := hK (.sl false ei.size [] .full) [] (.inl ⟨hl0, .inr rfl⟩) (by simp [vid])
      rw [un_full]
      simpa using this
    · have := hK (.msl h.length ei.size 0 l.length) [.cells ((l.map c).flatten ++ List.replicate (n - l.length * ei.size) .undef) n] (.inr ⟨h.length, _, n, List.replicate (n - l.length * ei.size) .undef, rfl, by simp, ?_, rfl⟩) (by simp [vid])
      · simpa using this
      · simp only [List.length_nil, List.length_map, Nat.zero_add] at hn
        rw [List.length_append, flat_len hc, List.length_replicate]
        omega

theorem clone83 {l : List Letter} (hz : Slk z s 5 l.length) (hl : l.length < 1000000) (hK : ∀ v g, LV (h ++ g) 5 Letter.c v l → (∀ i ∈ vid v, h.length ≤ i) → K v (h ++ g)) : ACall C Pg 83 [.sl z s (l.map Letter.c) .no] h K := by
  refine run83 ?_; simp -implicitDefEqProofs only [b83, r83, ru, ruc, rud, ru5, Nat.reduceLT, Nat.reduceEqDiff, reduceIte, Nat.reduceAdd, Nat.reduceLeDiff, Int.reduceEq, Int.reduceLT, Int.reduceLE, Int.reduceNeg]
  cases z with
  | true =>
    have hl0 : l = [] := List.eq_nil_of_length_eq_zero (hz.nil rfl)
    simp -implicitDefEqProofs only [r83, ru, ruc, rud, ru5, Nat.reduceLT, Nat.reduceEqDiff, reduceIte, Nat.reduceAdd, Nat.reduceLeDiff, Int.reduceEq, Int.reduceLT, Int.reduceLE, Int.reduceNeg]
    have := hK (.sl true 0 [] .no) [] (.inl ⟨hl0, .inl rfl⟩) (by simp [vid])
    simpa using this
  | false =>
    simp -implicitDefEqProofs [buildSliceK, T22, T33, fillA, chunks, r83, ru, ruc, rud, ru5, Nat.reduceLT, Nat.reduceEqDiff, reduceIte, Nat.reduceAdd, Nat.reduceLeDiff, Int.reduceEq, Int.reduceLT, Int.reduceLE, Int.reduceNeg, -List.getD_eq_getElem?_getD]
    refine cloneK (by decide) lenL T22 rfl T33 rfl (by decide) (by decide) hz hl fun v g hv hg => ?_
    simp -implicitDefEqProofs only [r83, hv.un, hv.nol, hv.owns, ru, ruc, rud, ru5, Nat.reduceLT, Nat.reduceEqDiff, reduceIte, Nat.reduceAdd, Nat.reduceLeDiff, Int.reduceEq, Int.reduceLT, Int.reduceLE, Int.reduceNeg]
    exact hK v g hv hg
theorem clone84 {l : List Link} (hz : Slk z s 2 l.length) (hl : l.length < 1000000) (hK : ∀ v g, LV (h ++ g) 2 Link.c v l → (∀ i ∈ vid v, h.length ≤ i) → K v (h ++ g)) : ACall C Pg 84 [.sl z s (l.map Link.c) .no] h K := by
  refine run84 ?_; simp -implicitDefEqProofs only [b84, r84, ru, ruc, rud, ru5, Nat.reduceLT, Nat.reduceEqDiff, reduceIte, Nat.reduceAdd, Nat.reduceLeDiff, Int.reduceEq, Int.reduceLT, Int.reduceLE, Int.reduceNeg]
  cases z with
  | true =>
    have hl0 : l = [] := List.eq_nil_of_length_eq_zero (hz.nil rfl)
    simp -implicitDefEqProofs only [r84, ru, ruc, rud, ru5, Nat.reduceLT, Nat.reduceEqDiff, reduceIte, Nat.reduceAdd, Nat.reduceLeDiff, Int.reduceEq, Int.reduceLT, Int.reduceLE, Int.reduceNeg]
    have := hK (.sl true 0 [] .no) [] (.inl ⟨hl0, .inl rfl⟩) (by simp [vid])
    simpa using this
  | false =>
    simp -implicitDefEqProofs [buildSliceK, T23, T100, fillA, chunks, r84, ru, ruc, rud, ru5, Nat.reduceLT, Nat.reduceEqDiff, reduceIte, Nat.reduceAdd, Nat.reduceLeDiff, Int.reduceEq, Int.reduceLT, Int.reduceLE, Int.reduceNeg, -List.getD_eq_getElem?_getD]
    refine cloneK (by decide) lenC T23 rfl T100 rfl (by decide) (by decide) hz hl fun v g hv hg => ?_
    simp -implicitDefEqProofs only [r84, hv.un, hv.nol, hv.owns, ru, ruc, rud, ru5, Nat.reduceLT, Nat.reduceEqDiff, reduceIte, Nat.reduceAdd, Nat.reduceLeDiff, Int.reduceEq, Int.reduceLT, Int.reduceLE, Int.reduceNeg]
    exact hK v g hv hg
theorem clone85 {l : List Timer} (hz : Slk z s 3 l.length) (hl : l.length < 1000000) (hK : ∀ v g, LV (h ++ g) 3 Timer.c v l → (∀ i ∈ vid v, h.length ≤ i) → K v (h ++ g)) : ACall C Pg 85 [.sl z s (l.map Timer.c) .no] h K := by
  refine run85 ?_; simp -implicitDefEqProofs only [b85, r85, ru, ruc, rud, ru5, Nat.reduceLT, Nat.reduceEqDiff, reduceIte, Nat.reduceAdd, Nat.reduceLeDiff, Int.reduceEq, Int.reduceLT, Int.reduceLE, Int.reduceNeg]
  cases z with
  | true =>
    have hl0 : l = [] := List.eq_nil_of_length_eq_zero (hz.nil rfl)
    simp -implicitDefEqProofs only [r85, ru, ruc, rud, ru5, Nat.reduceLT, Nat.reduceEqDiff, reduceIte, Nat.reduceAdd, Nat.reduceLeDiff, Int.reduceEq, Int.reduceLT, Int.reduceLE, Int.reduceNeg]
    have := hK (.sl true 0 [] .no) [] (.inl ⟨hl0, .inl rfl⟩) (by simp [vid])
    simpa using this
  | false =>
    simp -implicitDefEqProofs [buildSliceK, T24, T86, fillA, chunks, r85, ru, ruc, rud, ru5, Nat.reduceLT, Nat.reduceEqDiff, reduceIte, Nat.reduceAdd, Nat.reduceLeDiff, Int.reduceEq, Int.reduceLT, Int.reduceLE, Int.reduceNeg, -List.getD_eq_getElem?_getD]
    refine cloneK (by decide) lenT T24 rfl T86 rfl (by decide) (by decide) hz hl fun v g hv hg => ?_
    simp -implicitDefEqProofs only [r85, hv.un, hv.nol, hv.owns, ru, ruc, rud, ru5, Nat.reduceLT, Nat.reduceEqDiff, reduceIte, Nat.reduceAdd, Nat.reduceLeDiff, Int.reduceEq, Int.reduceLT, Int.reduceLE, Int.reduceNeg]
    exact hK v g hv hg

/-- A network under change. -/
structure Chg (h : List AObj) (cid : Nat) (x : Net) (A B D : AV) : Prop where
  cell : h[cid]? = some (.cells [.int .i64 x.nodes, .int .i64 x.now, .int .i64 x.next, A, B, D] 6)
  way : LV h 5 Letter.c A x.way
  cuts : LV h 2 Link.c B x.cuts
  tims : LV h 3 Timer.c D x.timers
  apart : (cid :: (vid A ++ vid B ++ vid D)).Nodup

def Three (h h' : List AObj) (x : Net) (A B D : AV) : Prop := LV h' 5 Letter.c A x.way ∧ LV h' 2 Link.c B x.cuts ∧ LV h' 3 Timer.c D x.timers ∧ (vid A ++ vid B ++ vid D).Nodup ∧ (∀ i ∈ vid A ++ vid B ++ vid D, h.length ≤ i)
theorem nd3 {A B D : AV} (h1 : ∀ i ∈ vid A, ∀ j ∈ vid B, i ≠ j) (h2 : ∀ i ∈ vid A, ∀ j ∈ vid D, i ≠ j) (h3 : ∀ i ∈ vid B, ∀ j ∈ vid D, i ≠ j) : (vid A ++ vid B ++ vid D).Nodup := by
  have n1 : (vid A).Nodup := by cases A <;> simp [vid]
  have n2 : (vid B).Nodup := by cases B <;> simp [vid]
  have n3 : (vid D).Nodup := by cases D <;> simp [vid]
  refine List.nodup_append.2 ⟨List.nodup_append.2 ⟨n1, n2, h1⟩, n3, fun i hi j hj => ?_⟩
  rcases List.mem_append.1 hi with hi | hi
  · exact h2 i hi j hj
  · exact h3 i hi j hj
theorem changing45 (hk : Nk z1 s1 z2 s2 z3 s3 x) (hc : x.cuts.length < 1000000) (hK1 : ¬ WF x → K (.tup [.nilp, .int .i64 2]) h) (hK : WF x → ∀ cid A B D g, h.length ≤ cid → (∀ i ∈ vid A ++ vid B ++ vid D, h.length ≤ i) → Chg (h ++ g) cid x A B D → K (.tup [.mptr cid 0, .int .i64 0]) (h ++ g)) : ACall C Pg 45 [.agg [.int .i64 x.nodes, .int .i64 x.now, .int .i64 x.next, .sl z1 s1 (x.way.map Letter.c) .no, .sl z2 s2 (x.cuts.map Link.c) .no, .sl z3 s3 (x.timers.map Timer.c) .no]] h K := by
  refine run45 ?_; simp -implicitDefEqProofs only [b45, r45, ru, ruc, rud, ru5, Nat.reduceLT, Nat.reduceEqDiff, reduceIte, Nat.reduceAdd, Nat.reduceLeDiff, Int.reduceEq, Int.reduceLT, Int.reduceLE, Int.reduceNeg]
  refine check19c hk hc fun r hr => ?_
  cases r with
  | false =>
    simp -implicitDefEqProofs only [r45, ru, ruc, rud, ru5, Nat.reduceLT, Nat.reduceEqDiff, reduceIte, Nat.reduceAdd, Nat.reduceLeDiff, Int.reduceEq, Int.reduceLT, Int.reduceLE, Int.reduceNeg]
    exact hK1 (fun w => by have := hr.2 w; cases this)
  | true =>
    have w := hr.1 rfl
    have lw : x.way.length < 1000000 := by have := w.fl; omega
    have lt : x.timers.length < 1000000 := by have := w.tl; omega
    simp -implicitDefEqProofs only [r45, ru, ruc, rud, ru5, Nat.reduceLT, Nat.reduceEqDiff, reduceIte, Nat.reduceAdd, Nat.reduceLeDiff, Int.reduceEq, Int.reduceLT, Int.reduceLE, Int.reduceNeg]
    refine rg45q0 (fun l' bx' h' => ∃ A B D g, bx' = [[.int .i64 x.nodes, .int .i64 x.now, .int .i64 x.next, A, B, D]] ∧ h' = h ++ g ∧ Three h h' x A B D) ?_ ?_
    · simp -implicitDefEqProofs only [g45q0, ru, ruc, rud, ru5, Nat.reduceLT, Nat.reduceEqDiff, reduceIte, Nat.reduceAdd, Nat.reduceLeDiff, Int.reduceEq, Int.reduceLT, Int.reduceLE, Int.reduceNeg]
      repeat' (first
        | (refine And.intro ?_ ?_)
        | (refine clone83 hk.w lw (fun A ga hA hgA => ?_); have uA := hA.un; have nA := hA.nol; have wA := hA.owns; have cA := hA.cells; have sA := hA.scells; have oA := hA.one; simp -implicitDefEqProofs only [uA, nA, wA, ru, ruc, rud, ru5, Nat.reduceLT, Nat.reduceEqDiff, reduceIte, Nat.reduceAdd, Nat.reduceLeDiff, Int.reduceEq, Int.reduceLT, Int.reduceLE, Int.reduceNeg])
        | (refine clone84 hk.c hc (fun B gb hB hgB => ?_); have uB := hB.un; have nB := hB.nol; have wB := hB.owns; have cB := hB.cells; have sB := hB.scells; have oB := hB.one; simp -implicitDefEqProofs only [uB, nB, wB, ru, ruc, rud, ru5, Nat.reduceLT, Nat.reduceEqDiff, reduceIte, Nat.reduceAdd, Nat.reduceLeDiff, Int.reduceEq, Int.reduceLT, Int.reduceLE, Int.reduceNeg])
        | (refine clone85 hk.t lt (fun D gd hD hgD => ?_); have uD := hD.un; have nD := hD.nol; have wD := hD.owns; have cD := hD.cells; have sD := hD.scells; have oD := hD.one; simp -implicitDefEqProofs only [uD, nD, wD, ru, ruc, rud, ru5, Nat.reduceLT, Nat.reduceEqDiff, reduceIte, Nat.reduceAdd, Nat.reduceLeDiff, Int.reduceEq, Int.reduceLT, Int.reduceLE, Int.reduceNeg]))
      all_goals simp -implicitDefEqProofs only [uA, uB, uD, wA, wB, wD, cA, cB, cD, sA, sB, sD, oA, oB, oD, ru, ruc, rud, ru5, Nat.reduceLT, Nat.reduceEqDiff, reduceIte, Nat.reduceAdd, Nat.reduceLeDiff, Int.reduceEq, Int.reduceLT, Int.reduceLE, Int.reduceNeg]
      all_goals refine join_n (by repeat (first | exact Sk.refl | refine Sk.cons rfl ?_)) ⟨A, B, D, _, rfl, (by rw [List.append_assoc, List.append_assoc]), ?_, ?_, ?_, ?_, ?_⟩
      all_goals first
        | exact hA | exact hA.app | exact hA.app.app
        | exact hB | exact hB.app | exact hB.app.app
        | exact hD | exact hD.app | exact hD.app.app
        | skip
      all_goals have lA := hA.lt
      all_goals have lB := hB.lt
      all_goals have lD := hD.lt
      all_goals simp only [List.length_append] at hgA hgB hgD lA lB lD
      all_goals first
        | (refine nd3 (fun i hi j hj e => ?_) (fun i hi j hj e => ?_) (fun i hi j hj e => ?_)
           · subst e; have := lA i hi; have := hgA i hi; have := lB i hj; have := hgB i hj; omega
           · subst e; have := lA i hi; have := hgA i hi; have := lD i hj; have := hgD i hj; omega
           · subst e; have := lB i hi; have := hgB i hi; have := lD i hj; have := hgD i hj; omega)
        | (intro i hi
           rcases List.mem_append.1 hi with hi | hi
           · rcases List.mem_append.1 hi with hi | hi
             · have := hgA i hi; omega
             · have := hgB i hi; omega
           · have := hgD i hi; omega)
    · rintro l' bx' h' hl ⟨A, B, D, g, rfl, rfl, hA, hB, hD, hn, hge⟩
      have e1 := hl 1 rfl
      have e3 := hl 3 rfl
      simp -implicitDefEqProofs only [r45, e1, hA.one, hB.one, hD.one, hA.un, hB.un, hD.un, bld125 hA.one hB.one hD.one, hA.nol, hB.nol, hD.nol, ru, ruc, rud, ru5, Nat.reduceLT, Nat.reduceEqDiff, reduceIte, Nat.reduceAdd, Nat.reduceLeDiff, Int.reduceEq, Int.reduceLT, Int.reduceLE, Int.reduceNeg]
      have := hK w (h ++ g).length A B D (g ++ [.cells [.int .i64 x.nodes, .int .i64 x.now, .int .i64 x.next, A, B, D] 6]) (by simp) hge ⟨by simp, ?_, ?_, ?_, ?_⟩
      · simpa using this
      · rw [← List.append_assoc]; exact hA.app
      · rw [← List.append_assoc]; exact hB.app
      · rw [← List.append_assoc]; exact hD.app
      · refine List.nodup_cons.2 ⟨fun hi => ?_, hn⟩
        rcases List.mem_append.1 hi with hi | hi
        · rcases List.mem_append.1 hi with hi | hi
          · have := hA.lt _ hi; omega
          · have := hB.lt _ hi; omega
        · have := hD.lt _ hi; omega
end
end Go.Ab
end
section
/- What is done to a network under change: sending. -/
set_option linter.unusedSimpArgs false
set_option linter.unusedVariables false
set_option maxRecDepth 100000
set_option maxHeartbeats 4000000
namespace Go.Ab

/-- All but some objects are as they were. -/
structure Fr (S : List Nat) (h h' : List AObj) : Prop where
  len : h.length ≤ h'.length
  same : ∀ i, i < h.length → i ∉ S → h'[i]? = h[i]?
theorem Fr.refl (S : List Nat) (h : List AObj) : Fr S h h := ⟨Nat.le_refl _, fun _ _ _ => rfl⟩
theorem Fr.trans {S : List Nat} {a b c : List AObj} (x : Fr S a b) (y : Fr S b c) : Fr S a c := ⟨Nat.le_trans x.len y.len, fun i hi hs => (y.same i (Nat.lt_of_lt_of_le hi x.len) hs).trans (x.same i hi hs)⟩
theorem Fr.sub {S S' : List Nat} {a b : List AObj} (x : Fr S a b) (hs : ∀ i ∈ S, i ∈ S') : Fr S' a b := ⟨x.len, fun i hi hn => x.same i hi fun h => hn (hs i h)⟩
theorem Fr.set {h : List AObj} {id : Nat} {o : AObj} : Fr [id] h (h.set id o) := ⟨by simp, fun i _ hn => by rw [List.getElem?_set_ne (fun e => hn (by simp [e]))]⟩
theorem Fr.push {S : List Nat} {h g : List AObj} : Fr S h (h ++ g) := ⟨by simp, fun i hi _ => List.getElem?_append_left hi⟩

theorem laid_mid {a b v : List AV} {k : Nat} (hk : k = a.length) : laid (a ++ b) k v = a ++ v ++ b.drop v.length := by
  subst hk
  unfold laid
  rw [List.take_left, List.drop_append, List.drop_eq_nil_of_le (by omega)]
  simp

section
variable {α : Type} {h : List AObj} {sz t e : Nat} {c : α → List AV} {v : AV} {l : List α} {ti ei : TI} {K : AV → List AObj → Prop}
theorem LV.append {y : α} {mu : Bool} (hmu : mu = true) (hv : LV h sz c v l) (hsz : sz ≠ 0) (hc : ∀ x, (c x).length = sz) (h1 : T.get t = some ti) (h2 : ti.d = .slice e) (h3 : T.get e = some ei) (h4 : ei.size = sz) (hb : ei.bytes ≠ 0) (hb2 : ei.bytes ≤ 1000) (hl : l.length < 1000000)
    (hK : ∀ v' h', LV h' sz c v' (l ++ [y]) → Fr (vid v) h h' → (∀ i ∈ vid v', i ∈ vid v ∨ h.length ≤ i) → (∀ i ∈ vid v', i < h'.length) → K v' h') : appendK T mu t t v (.sl false sz [c y] .full) h K := by
  subst h4 hmu
  have hbd : (l.length + 1) * ei.bytes ≤ 140737488355328 := Nat.le_trans (Nat.mul_le_mul (show l.length + 1 ≤ 1000000 by omega) hb2) (by decide)
  rcases hv with ⟨rfl, hv⟩ | ⟨id, cs, n, rest, rfl, hid, hn, hcs⟩
  · have fin : ∀ z tip, (z = true ∨ tip = Tip.full) → appendK T true t t (.sl z ei.size [] tip) (.sl false ei.size [c y] .full) h K := fun z tip hz => by
      simp only [appendK, srcK, h1, h2, h3]
      refine ⟨hsz, hb, fun _ => trivial, fun _ => trivial, ?_, ?_⟩
      · simpa using hbd
      · rw [if_pos trivial]
        refine ⟨hz, fun he => by simp at he, fun _ m hm => ?_⟩
        have := hK (.msl h.length ei.size 0 1) (h ++ [.cells (c y ++ List.replicate (m - ei.size) .undef) m]) (.inr ⟨h.length, c y ++ List.replicate (m - ei.size) .undef, m, List.replicate (m - ei.size) .undef, rfl, by simp, ?_, by simp⟩) Fr.push (by simp [vid]) (by simp [vid])
        · simpa using this
        · simp only [List.length_nil, List.length_singleton, Nat.zero_add, Nat.one_mul] at hm
          rw [List.length_append, hc, List.length_replicate]
          omega
    rcases hv with rfl | rfl
    · have := fin true .no (.inl rfl)
      simp only [appendK, srcK, h1, h2, h3] at this ⊢
      simpa using this
    · exact fin false .full (.inr rfl)
  · simp only [appendK, srcK, h1, h2, h3]
    have hfl := flat_len hc l
    have hlen : cs.length = l.length * ei.size + rest.length := by rw [hcs, List.length_append, hfl]
    refine ⟨hsz, hb, fun _ => trivial, trivial, by simpa using hbd, cs, n, hid, by omega, fun hin => ?_, fun hgr n' hn' => ?_⟩
    · simp only [List.length_singleton, Nat.zero_add] at hin
      have e1 : (l.length + 1) * ei.size = l.length * ei.size + ei.size := by rw [Nat.add_mul, Nat.one_mul]
      have hlaid : laid cs (0 + l.length * ei.size) [c y].flatten = ((l ++ [y]).map c).flatten ++ rest.drop ei.size := by
        rw [hcs, laid_mid (by rw [hfl]; omega)]
        simp [hc]
      have := hK (.msl id ei.size 0 (l.length + 1)) (h.set id (.cells (laid cs (0 + l.length * ei.size) [c y].flatten) n)) (.inr ⟨id, _, n, rest.drop ei.size, by simp, by
        rw [List.getElem?_set_self (List.getElem?_eq_some_iff.1 hid).1], ?_, hlaid⟩) (Fr.set.sub (by simp [vid])) (by simp [vid]) (by simpa [vid] using (List.getElem?_eq_some_iff.1 hid).1)
      · simpa using this
      · rw [hlaid, List.length_append, flat_len hc, List.length_drop, List.length_append, List.length_singleton]
        omega
    · simp only [List.length_singleton, Nat.zero_add] at hn'
      have e1 : (l.length + 1) * ei.size = l.length * ei.size + ei.size := by rw [Nat.add_mul, Nat.one_mul]
      have e2 : (cs.drop 0).take (l.length * ei.size) = (l.map c).flatten := by
        rw [List.drop_zero, hcs, ← hfl, List.take_left]
      rw [e2]
      have := hK (.msl h.length ei.size 0 (l.length + 1)) (h ++ [.cells ((l.map c).flatten ++ [c y].flatten ++ List.replicate (n' - (l.length + 1) * ei.size) .undef) n']) (.inr ⟨h.length, (l.map c).flatten ++ [c y].flatten ++ List.replicate (n' - (l.length + 1) * ei.size) .undef, n', List.replicate (n' - (l.length + 1) * ei.size) .undef, by simp, by simp, ?_, by simp⟩) Fr.push (by simp [vid]) (by simp [vid])
      · simpa using this
      · rw [List.length_append, List.length_append, hfl, List.length_replicate]
        simp [hc]
        omega
theorem LV.lens (hv : LV h sz c v l) {K : AV → Prop} : lensK v K = K (.int .i64 l.length) := by
  rcases hv with ⟨rfl, rfl | rfl⟩ | ⟨id, cs, n, rest, rfl, _⟩ <;> rfl
end

section
variable {C : CX} {h : List AObj} {K : AV → List AObj → Prop} {a b n : Int} {x : Net} {A B D : AV} {cid : Nat}

theorem has112 (hc : Chg h cid x A B D) (hK : K (.bool (decide (0 ≤ a) && decide (a < x.way.length))) h) : ACall C Pg 112 [.mptr cid 0, .int .i64 a] h K := by
  refine run112 ?_
  simp -implicitDefEqProofs [b112, r112, hc.cell, hc.way.lens, hc.way.un, rue, wrC, readC, -List.getD_eq_getElem?_getD, ru, ruc, rud, laid]
  refine guardV_split (fun g => ?_) (fun g => ?_)
  · simp -implicitDefEqProofs [r112, hc.cell, hc.way.lens, hc.way.un, rue, wrC, readC, -List.getD_eq_getElem?_getD, ru, ruc, rud, laid]
    simpa [g] using hK
  · simp -implicitDefEqProofs [r112, rue, wrC, readC, -List.getD_eq_getElem?_getD, ru, ruc, rud, laid]
    simpa [g] using hK

instance nodeDec (x : Net) (n : Int) : Decidable (nodeOk x n) := by unfold nodeOk; infer_instance
def sendE (x : Net) (fr to : Int) (data : List UInt8) : Int :=
  if ¬ nodeOk x fr ∨ ¬ nodeOk x to ∨ fr = to ∨ 500000 < data.length then 1 else if x.next = 1099511627776 then 3 else if x.way.length = 200 then 7 else 0
def sendL (x : Net) (fr to : Int) (data : List UInt8) : Letter := ⟨x.next, fr, to, x.now, data⟩
def sendX (x : Net) (fr to : Int) (data : List UInt8) : Net := { x with way := x.way ++ [sendL x fr to data], next := x.next + 1 }

theorem Chg.other (hc : Chg h cid x A B D) : cid ∉ vid A ∧ cid ∉ vid B ∧ cid ∉ vid D ∧ (∀ i ∈ vid A, i ∉ vid B ∧ i ∉ vid D) ∧ (∀ i ∈ vid B, i ∉ vid D) := by
  have h1 := List.nodup_cons.1 hc.apart
  have h2 := List.nodup_append.1 h1.2
  have h3 := List.nodup_append.1 h2.1
  simp only [List.mem_append, not_or] at h1
  exact ⟨h1.1.1.1, h1.1.1.2, h1.1.2, fun i hi => ⟨fun hj => h3.2.2 i hi i hj rfl, fun hj => h2.2.2 i (List.mem_append.2 (.inl hi)) i hj rfl⟩, fun i hi hj => h2.2.2 i (List.mem_append.2 (.inr hi)) i hj rfl⟩
theorem Chg.clt (hc : Chg h cid x A B D) : cid < h.length := (List.getElem?_eq_some_iff.1 hc.cell).1

/-- The way is another list; the numbers may have turned. -/
theorem Chg.setWay {h' : List AObj} {A' : AV} {y : Net} (hc : Chg h cid x A B D) (hA : LV h' 5 Letter.c A' y.way) (hf : Fr (vid A) h h') (hv : ∀ i ∈ vid A', i ∈ vid A ∨ h.length ≤ i) (hl : ∀ i ∈ vid A', i < h'.length) (e1 : y.cuts = x.cuts) (e2 : y.timers = x.timers) :
    Chg (h'.set cid (.cells [.int .i64 y.nodes, .int .i64 y.now, .int .i64 y.next, A', B, D] 6)) cid y A' B D := by
  obtain ⟨o1, o2, o3, o4, o5⟩ := hc.other
  have hcl := hc.clt
  have hne : ∀ i ∈ vid A', i ≠ cid := fun i hi e => by
    subst e
    rcases hv _ hi with h1 | h1
    · exact o1 h1
    · omega
  refine ⟨by rw [List.getElem?_set_self (Nat.lt_of_lt_of_le hcl hf.len)], hA.more fun i hi => List.getElem?_set_ne (Ne.symm (hne i hi)), ?_, ?_, ?_⟩
  · rw [e1]
    exact hc.cuts.more fun i hi => by
      rw [List.getElem?_set_ne (fun e => by subst e; exact o2 hi)]
      exact hf.same i (hc.cuts.lt i hi) fun hj => (o4 i hj).1 hi
  · rw [e2]
    exact hc.tims.more fun i hi => by
      rw [List.getElem?_set_ne (fun e => by subst e; exact o3 hi)]
      exact hf.same i (hc.tims.lt i hi) fun hj => (o4 i hj).2 hi
  · refine List.nodup_cons.2 ⟨?_, nd3 (fun i hi j hj e => ?_) (fun i hi j hj e => ?_) (fun i hi j hj e => ?_)⟩
    · simp only [List.mem_append, not_or]
      exact ⟨⟨fun hi => hne _ hi rfl, o2⟩, o3⟩
    · subst e
      rcases hv i hi with h1 | h1
      · exact (o4 i h1).1 hj
      · have := hc.cuts.lt i hj; omega
    · subst e
      rcases hv i hi with h1 | h1
      · exact (o4 i h1).2 hj
      · have := hc.tims.lt i hj; omega
    · subst e
      exact o5 i hi hj
/-- The numbers alone have turned. -/
theorem Chg.setNum {y : Net} (hc : Chg h cid x A B D) (e0 : y.way = x.way) (e1 : y.cuts = x.cuts) (e2 : y.timers = x.timers) :
    Chg (h.set cid (.cells [.int .i64 y.nodes, .int .i64 y.now, .int .i64 y.next, A, B, D] 6)) cid y A B D :=
  hc.setWay (e0 ▸ hc.way) (Fr.refl _ _) (fun i hi => .inl hi) (fun i hi => hc.way.lt i hi) e1 e2

theorem bsl22q1 {i f t r : Int} {y : List UInt8} {K : AV → List AObj → Prop} : buildSliceK T false 22 1 [(0, .agg [.int .i64 i, .int .i64 f, .int .i64 t, .int .i64 r, .str y])] h K = K (.sl false 5 [[.int .i64 i, .int .i64 f, .int .i64 t, .int .i64 r, .str y]] .full) h := by
  simp [buildSliceK, T22, T33, fillA, AV.cells, AV.one, AV.nol, chunks]
theorem bsl23q1 {i f : Int} {K : AV → List AObj → Prop} : buildSliceK T false 23 1 [(0, .agg [.int .i64 i, .int .i64 f])] h K = K (.sl false 2 [[.int .i64 i, .int .i64 f]] .full) h := by
  simp [buildSliceK, T23, T100, fillA, AV.cells, AV.one, AV.nol, chunks]
theorem bsl24q1 {i f t : Int} {K : AV → List AObj → Prop} : buildSliceK T false 24 1 [(0, .agg [.int .i64 i, .int .i64 f, .int .i64 t])] h K = K (.sl false 3 [[.int .i64 i, .int .i64 f, .int .i64 t]] .full) h := by
  simp [buildSliceK, T24, T86, fillA, AV.cells, AV.one, AV.nol, chunks]
theorem isNode56v {A B D : AV} {nodes now next : Int} (hA : A.one = true ∧ A.owns = false ∧ A.un = A) (hB : B.one = true ∧ B.owns = false ∧ B.un = B) (hD : D.one = true ∧ D.owns = false ∧ D.un = D) (hK : K (.bool (decide (0 ≤ n) && decide (n < nodes))) h) : ACall C Pg 56 [.agg [.int .i64 nodes, .int .i64 now, .int .i64 next, A, B, D], .int .i64 n] h K := by
  refine run56 ?_ (by simp [AV.owns])
  simp -implicitDefEqProofs only [b56, r56, hA.1, hB.1, hD.1, hA.2.2, hB.2.2, hD.2.2, ru, ruc, rud, ru5, Nat.reduceLT, Nat.reduceEqDiff, reduceIte, Nat.reduceAdd, Nat.reduceLeDiff, Int.reduceEq, Int.reduceLT, Int.reduceLE, Int.reduceNeg]
  repeat' (first | (refine guardV_split (fun g => ?_) (fun g => ?_) <;> simp -implicitDefEqProofs only [hA.2.2, hB.2.2, hD.2.2, r56, ru, ruc, rud, ru5, Nat.reduceLT, Nat.reduceEqDiff, reduceIte, Nat.reduceAdd, Nat.reduceLeDiff, Int.reduceEq, Int.reduceLT, Int.reduceLE, Int.reduceNeg]) | (refine condV_split (fun g => ?_) (fun g => ?_) <;> simp -implicitDefEqProofs only [hA.2.2, hB.2.2, hD.2.2, r56, ru, ruc, rud, ru5, Nat.reduceLT, Nat.reduceEqDiff, reduceIte, Nat.reduceAdd, Nat.reduceLeDiff, Int.reduceEq, Int.reduceLT, Int.reduceLE, Int.reduceNeg]))
  all_goals simp_all
theorem LV.trio {α : Type} {h : List AObj} {sz : Nat} {c : α → List AV} {v : AV} {l : List α} (hv : LV h sz c v l) : v.one = true ∧ v.owns = false ∧ v.un = v := ⟨hv.one, hv.owns, hv.un⟩

theorem Chg.all (hc : Chg h cid x A B D) : h[cid]? = some (.cells [.int .i64 x.nodes, .int .i64 x.now, .int .i64 x.next, A, B, D] 6) ∧ (A.un = A ∧ B.un = B ∧ D.un = D) ∧ (A.nol = true ∧ B.nol = true ∧ D.nol = true) ∧ (A.one = true ∧ B.one = true ∧ D.one = true) ∧ (A.owns = false ∧ B.owns = false ∧ D.owns = false) ∧ (A.cells = [A] ∧ B.cells = [B] ∧ D.cells = [D]) ∧ (A.scells = [A] ∧ B.scells = [B] ∧ D.scells = [D]) ∧ (∀ K : AV → Prop, lensK A K = K (.int .i64 x.way.length)) ∧ (∀ K : AV → Prop, lensK B K = K (.int .i64 x.cuts.length)) ∧ (∀ K : AV → Prop, lensK D K = K (.int .i64 x.timers.length)) :=
  ⟨hc.cell, ⟨hc.way.un, hc.cuts.un, hc.tims.un⟩, ⟨hc.way.nol, hc.cuts.nol, hc.tims.nol⟩, ⟨hc.way.one, hc.cuts.one, hc.tims.one⟩, ⟨hc.way.owns, hc.cuts.owns, hc.tims.owns⟩, ⟨hc.way.cells, hc.cuts.cells, hc.tims.cells⟩, ⟨hc.way.scells, hc.cuts.scells, hc.tims.scells⟩, fun _ => hc.way.lens, fun _ => hc.cuts.lens, fun _ => hc.tims.lens⟩
theorem LV.all {α : Type} {h : List AObj} {sz : Nat} {c : α → List AV} {v : AV} {l : List α} (hv : LV h sz c v l) : v.un = v ∧ v.nol = true ∧ v.one = true ∧ v.owns = false ∧ v.cells = [v] ∧ v.scells = [v] ∧ (∀ K : AV → Prop, lensK v K = K (.int .i64 l.length)) := ⟨hv.un, hv.nol, hv.one, hv.owns, hv.cells, hv.scells, fun _ => hv.lens⟩

theorem send80 {fr to : Int} {data : List UInt8} (hc : Chg h cid x A B D) (hx : 0 ≤ x.next ∧ x.next ≤ 1099511627776) (hw : x.way.length < 1000000)
    (hK1 : sendE x fr to data ≠ 0 → K (.tup [.agg (Letter.c ⟨0, 0, 0, 0, []⟩), .int .i64 (sendE x fr to data)]) h)
    (hK : sendE x fr to data = 0 → ∀ h' A', Fr (cid :: vid A) h h' → Chg h' cid (sendX x fr to data) A' B D → (∀ i ∈ vid A', i ∈ vid A ∨ h.length ≤ i) → K (.tup [.agg (Letter.c (sendL x fr to data)), .int .i64 0]) h') : ACall C Pg 80 [.mptr cid 0, .int .i64 fr, .int .i64 to, .str data] h K := by
  have ha := hc.all
  repeat' (first | (exact same_n rfl rfl (by repeat (first | exact Sk.refl | refine Sk.cons rfl ?_)) (by repeat (first | exact True.intro | refine And.intro rfl ?_))) | (first | exact step_1 rfl | exact step_2 rfl (by assumption)) | (refine isNode56v hc.way.trio hc.cuts.trio hc.tims.trio ?_ <;> try simp -implicitDefEqProofs [ha, g80q0, rue, wrC, readC, -List.getD_eq_getElem?_getD, ru, ruc, rud, laid]) | (refine guardV_split (fun g => ?_) (fun g => ?_) <;> try simp -implicitDefEqProofs [ha, g80q0, rue, wrC, readC, -List.getD_eq_getElem?_getD, ru, ruc, rud, laid]) | (refine condV_split (fun g => ?_) (fun g => ?_) <;> try simp -implicitDefEqProofs [ha, g80q0, rue, wrC, readC, -List.getD_eq_getElem?_getD, ru, ruc, rud, laid]) | (refine run80 ?_ <;> simp -implicitDefEqProofs [ha, g80q0, b80, r80, rue, wrC, readC, -List.getD_eq_getElem?_getD, ru, ruc, rud, laid]) | (apply rj80q0) | (intro _ <;> intros <;> simp -implicitDefEqProofs [ha, g80q0, *, rue, wrC, readC, -List.getD_eq_getElem?_getD, ru, ruc, rud, laid]) | (refine And.intro ?_ ?_) | simp -implicitDefEqProofs [ha, g80q0, rue, wrC, readC, -List.getD_eq_getElem?_getD, ru, ruc, rud, laid])
  all_goals try (
    have e : sendE x fr to data = 1 := by
      unfold sendE
      rw [if_pos]
      simp only [nodeOk]
      simp only [Bool.or_eq_true, Bool.not_eq_true', decide_eq_false_iff_not, Bool.or_eq_false_iff, Bool.not_eq_false', decide_eq_true_eq] at *
      omega
    rw [e] at hK1
    exact hK1 (by decide))
  all_goals (
    have e0 : ¬ (¬ nodeOk x fr ∨ ¬ nodeOk x to ∨ fr = to ∨ 500000 < data.length) := by
      simp only [nodeOk]
      simp only [Bool.or_eq_true, Bool.not_eq_true', decide_eq_false_iff_not, Bool.or_eq_false_iff, Bool.not_eq_false', decide_eq_true_eq] at *
      omega)
  all_goals unfold sendE at hK1 hK
  all_goals rw [if_neg e0] at hK1 hK
  all_goals simp only [decide_eq_false_iff_not, decide_eq_true_eq] at *
  all_goals try (
    have n1 : x.next = 1099511627776 := by assumption
    rw [if_pos n1] at hK1
    exact hK1 (by decide))
  all_goals have n1 : ¬ x.next = 1099511627776 := by assumption
  all_goals try (
    have n2 : x.way.length = 200 := by omega
    rw [if_neg n1, if_pos n2] at hK1
    exact hK1 (by decide))
  have n2 : ¬ x.way.length = 200 := by omega
  rw [if_neg n1, if_neg n2] at hK
  have hcl := hc.clt
  obtain ⟨o1, o2, o3, o4, o5⟩ := hc.other
  refine re80q1 ?_
  simp -implicitDefEqProofs [g80q1, ha, List.append_nil, bsl22q1, rue, wrC, readC, -List.getD_eq_getElem?_getD, ru, ruc, rud, laid]
  refine ⟨?_, ?_, ?_⟩
  all_goals (
    refine LV.append (y := sendL x fr to data) rfl hc.way (by decide) lenL T22 rfl T33 rfl (by decide) (by decide) hw fun A' h' hA' hf hv hl => ?_
    have hall := hA'.all
    have hcell : h'[cid]? = some (.cells [.int .i64 x.nodes, .int .i64 x.now, .int .i64 x.next, A, B, D] 6) := (hf.same cid hcl o1).trans hc.cell
    have hcl' : cid < h'.length := Nat.lt_of_lt_of_le hcl hf.len
    have hset : ∀ o, (h'.set cid o)[cid]? = some o := fun o => List.getElem?_set_self hcl'
    simp -implicitDefEqProofs [r80, ha, hall, hcell, hset, List.set_set, rue, wrC, readC, -List.getD_eq_getElem?_getD, ru, ruc, rud, laid]
    rw [wrap_id (by omega) (by omega)]
    exact hK rfl _ A' ((hf.sub fun i hi => List.mem_cons_of_mem _ hi).trans (Fr.set.sub (by simp))) (hc.setWay (y := sendX x fr to data) hA' hf hv hl rfl rfl) hv)
end
end Go.Ab
end
section
/- What a change leads to, told without objects; sending. -/
set_option linter.unusedSimpArgs false
set_option linter.unusedVariables false
set_option maxRecDepth 100000
set_option maxHeartbeats 4000000
namespace Go.Ab

theorem chunks_flat {α : Type} {sz : Nat} {c : α → List AV} (hc : ∀ x, (c x).length = sz) : ∀ (l : List α) (rest : List AV), chunks sz l.length ((l.map c).flatten ++ rest) = l.map c
  | [], _ => rfl
  | x :: l, rest => by
    simp only [List.length_cons, chunks, List.map_cons, List.flatten_cons, List.append_assoc]
    rw [List.take_left' (hc x), List.drop_left' (hc x), chunks_flat hc l rest]
/-- A list's value, frozen. -/
theorem LV.frz {α : Type} {h : List AObj} {sz : Nat} {c : α → List AV} {v : AV} {l : List α} (hc : ∀ x, (c x).length = sz) (hv : LV h sz c v l) {Q : AV → List AObj → Prop}
    (hQ : ∀ z s v' h', Slk z s sz l.length → v'.weak = .sl z s (l.map c) .no → (∀ i, i ∉ vid v → h'[i]? = h[i]?) → h'.length = h.length → (∀ id, id ∉ vid v → True) → Q v' h') :
    Q v h ∨ ∃ id cs n, vid v = [id] ∧ h[id]? = some (.cells cs n) ∧ id < h.length ∧ Q (v.frz id cs) (h.set id .dead) := by
  rcases hv with ⟨rfl, rfl | rfl⟩ | ⟨id, cs, n, rest, rfl, h2, h3, h4⟩
  · exact .inl (hQ true 0 _ h ⟨by simp, by simp⟩ rfl (fun _ _ => rfl) rfl (fun _ _ => trivial))
  · exact .inl (hQ false sz _ h ⟨by simp, by simp⟩ rfl (fun _ _ => rfl) rfl (fun _ _ => trivial))
  · refine .inr ⟨id, cs, n, rfl, h2, (List.getElem?_eq_some_iff.1 h2).1, hQ false sz _ _ ⟨by simp, by simp⟩ ?_ (fun i hi => ?_) (by simp) (fun _ _ => trivial)⟩
    · have hle : 0 + l.length * sz ≤ cs.length := by rw [h4, List.length_append, flat_len hc]; omega
      simp only [AV.frz, hle, and_self, if_true, AV.weak, List.drop_zero]
      rw [h4, chunks_flat hc]
    · simp only [vid, List.mem_singleton] at hi
      exact List.getElem?_set_ne (fun e => hi e.symm)
theorem frz_other {id : Nat} {cs : List AV} {v : AV} (h : id ∉ vid v) (h1 : ∃ i s o n, v = .msl i s o n ∨ v = .sl true 0 [] .no ∨ ∃ s, v = .sl false s [] .full) : v.frz id cs = v := by
  obtain ⟨i, s, o, n, rfl | rfl | ⟨s, rfl⟩⟩ := h1
  · simp only [vid, List.mem_singleton] at h
    simp only [AV.frz]
    rw [if_neg (fun e => h e.1.symm)]
  · rfl
  · rfl
theorem LV.form {α : Type} {h : List AObj} {sz : Nat} {c : α → List AV} {v : AV} {l : List α} (hv : LV h sz c v l) : ∃ i s o n, v = .msl i s o n ∨ v = .sl true 0 [] .no ∨ ∃ s, v = .sl false s [] .full := by
  rcases hv with ⟨_, rfl | rfl⟩ | ⟨id, cs, n, rest, rfl, _⟩
  · exact ⟨0, 0, 0, 0, .inr (.inl rfl)⟩
  · exact ⟨0, 0, 0, 0, .inr (.inr ⟨_, rfl⟩)⟩
  · exact ⟨_, _, _, _, .inl rfl⟩

section
variable {C : CX} {h : List AObj} {K : AV → List AObj → Prop} {a b n : Int} {x : Net} {A B D : AV} {cid : Nat}

/-- Nothing of a frozen object's in the rest of a result. -/
theorem froz {rest : List AV} (hc : Chg h cid x A B D) (hr : ∀ id cs, AV.frz.frzs id cs rest = rest) (hw : AV.weak.weaks rest = rest)
    (hK : ∀ z1 s1 z2 s2 z3 s3 h', Nk z1 s1 z2 s2 z3 s3 x → K (.tup (.agg [.int .i64 x.nodes, .int .i64 x.now, .int .i64 x.next, .sl z1 s1 (x.way.map Letter.c) .no, .sl z2 s2 (x.cuts.map Link.c) .no, .sl z3 s3 (x.timers.map Timer.c) .no] :: rest)) h') :
    frzK (frzK (frzK fun r h => K r.weak h)) (.tup (.agg [.int .i64 x.nodes, .int .i64 x.now, .int .i64 x.next, A, B, D] :: rest)) h := by
  obtain ⟨o1, o2, o3, o4, o5⟩ := hc.other
  -- the timers, then the cuts, then the letters
  have s3 : ∀ z1 s1 z2 s2 A' B' h', Slk z1 s1 5 x.way.length → A'.weak = .sl z1 s1 (x.way.map Letter.c) .no → Slk z2 s2 2 x.cuts.length → B'.weak = .sl z2 s2 (x.cuts.map Link.c) .no → LV h' 3 Timer.c D x.timers → (∀ id ∈ vid D, ∀ cs, A'.frz id cs = A') → (∀ id ∈ vid D, ∀ cs, B'.frz id cs = B') →
      frzK (fun r h => K r.weak h) (.tup (.agg [.int .i64 x.nodes, .int .i64 x.now, .int .i64 x.next, A', B', D] :: rest)) h' := fun z1 s1 z2 s2 A' B' h' k1 e1 k2 e2 hD f1 f2 => by
    have := hD.frz lenT (Q := fun v h' => K (AV.tup (.agg [.int .i64 x.nodes, .int .i64 x.now, .int .i64 x.next, A', B', v] :: rest)).weak h') (fun z s v' h' k3 e3 _ _ _ => by
      simp only [AV.weak, AV.weak.weaks, e1, e2, e3, hw]
      exact hK _ _ _ _ _ _ _ ⟨k1, k2, k3⟩)
    rcases this with h1 | ⟨id, cs, n, hv, hid, hlt, h1⟩
    · exact .inl h1
    · refine .inr ⟨id, cs, n, hid, hlt, ?_⟩
      have m1 : id ∈ vid D := by rw [hv]; simp
      simp only [AV.frz, AV.frz.frzs, hr, f1 id m1, f2 id m1]
      exact h1
  have s2 : ∀ z1 s1 A' h', Slk z1 s1 5 x.way.length → A'.weak = .sl z1 s1 (x.way.map Letter.c) .no → LV h' 2 Link.c B x.cuts → LV h' 3 Timer.c D x.timers → (∀ id ∈ vid D ++ vid B, ∀ cs, A'.frz id cs = A') →
      frzK (frzK (fun r h => K r.weak h)) (.tup (.agg [.int .i64 x.nodes, .int .i64 x.now, .int .i64 x.next, A', B, D] :: rest)) h' := fun z1 s1 A' h' k1 e1 hB hD f1 => by
    have := hB.frz lenC (Q := fun v h' => (∀ id ∈ vid D, ∀ cs, v.frz id cs = v) → frzK (fun r h => K r.weak h) (AV.tup (.agg [.int .i64 x.nodes, .int .i64 x.now, .int .i64 x.next, A', v, D] :: rest)) h') (fun z s v' h'' k2 e2 hsame _ _ hf => by
      refine s3 _ _ _ _ _ _ _ k1 e1 k2 e2 (hD.more fun i hi => hsame i fun hj => ?_) (fun id hid => f1 id (List.mem_append.2 (.inl hid))) hf
      exact o5 i hj hi)
    rcases this with h1 | ⟨id, cs, n, hv, hid, hlt, h1⟩
    · exact .inl (h1 fun id hid cs => frz_other (fun hj => o5 id hj hid) hB.form)
    · refine .inr ⟨id, cs, n, hid, hlt, ?_⟩
      have m1 : id ∈ vid B := by rw [hv]; simp
      have d1 : D.frz id cs = D := frz_other (fun hj => o5 id m1 hj) hD.form
      simp only [AV.frz, AV.frz.frzs, hr, f1 id (List.mem_append.2 (.inr m1)), d1]
      refine h1 fun id' hid' cs' => ?_
      have hne : id' ∉ vid B := fun hj => o5 id' hj hid'
      obtain ⟨i, s, o, m, rfl | rfl | ⟨s, rfl⟩⟩ := hB.form
      · simp only [AV.frz]
        split
        · rfl
        · simp only [AV.frz, vid, List.mem_singleton] at hne ⊢
          rw [if_neg (fun e => hne e.1.symm)]
      · rfl
      · rfl
  have := hc.way.frz lenL (Q := fun v h' => (∀ id ∈ vid D ++ vid B, ∀ cs, v.frz id cs = v) → frzK (frzK (fun r h => K r.weak h)) (AV.tup (.agg [.int .i64 x.nodes, .int .i64 x.now, .int .i64 x.next, v, B, D] :: rest)) h') (fun z s v' h'' k1 e1 hsame _ _ hf => by
    refine s2 _ _ _ _ k1 e1 (hc.cuts.more fun i hi => hsame i fun hj => (o4 i hj).1 hi) (hc.tims.more fun i hi => hsame i fun hj => (o4 i hj).2 hi) hf)
  rcases this with h1 | ⟨id, cs, n, hv, hid, hlt, h1⟩
  · refine .inl (h1 fun id hid cs => frz_other (fun hj => ?_) hc.way.form)
    rcases List.mem_append.1 hid with h2 | h2
    · exact (o4 id hj).2 h2
    · exact (o4 id hj).1 h2
  · refine .inr ⟨id, cs, n, hid, hlt, ?_⟩
    have m1 : id ∈ vid A := by rw [hv]; simp
    have d1 : D.frz id cs = D := frz_other (fun hj => (o4 id m1).2 hj) hc.tims.form
    have d2 : B.frz id cs = B := frz_other (fun hj => (o4 id m1).1 hj) hc.cuts.form
    simp only [AV.frz, AV.frz.frzs, hr, d1, d2]
    refine h1 fun id' hid' cs' => ?_
    have hne : id' ∉ vid A := fun hj => by
      rcases List.mem_append.1 hid' with h2 | h2
      · exact (o4 id' hj).2 h2
      · exact (o4 id' hj).1 h2
    obtain ⟨i, s, o, m, rfl | rfl | ⟨s, rfl⟩⟩ := hc.way.form
    · simp only [AV.frz]
      split
      · rfl
      · simp only [AV.frz, vid, List.mem_singleton] at hne ⊢
        rw [if_neg (fun e => hne e.1.symm)]
    · rfl
    · rfl

theorem done73 {e : Int} (hc : Chg h cid x A B D) (hK1 : e ≠ 0 → K (.tup [.agg [.int .i64 0, .int .i64 0, .int .i64 0, .sl true 0 [] .no, .sl true 0 [] .no, .sl true 0 [] .no], .int .i64 e]) h)
    (hK : e = 0 → K (.tup [.agg [.int .i64 x.nodes, .int .i64 x.now, .int .i64 x.next, A, B, D], .int .i64 0]) h) : ACall C Pg 73 [.mptr cid 0, .int .i64 e] h K := by
  have ha := hc.all
  repeat' (first | (exact same_n rfl rfl (by repeat (first | exact Sk.refl | refine Sk.cons rfl ?_)) (by repeat (first | exact True.intro | refine And.intro rfl ?_))) | (first | exact step_1 rfl | exact step_2 rfl (by assumption)) | (refine guardV_split (fun g => ?_) (fun g => ?_) <;> try simp -implicitDefEqProofs [ha, rue, wrC, readC, -List.getD_eq_getElem?_getD, ru, ruc, rud, laid]) | (refine condV_split (fun g => ?_) (fun g => ?_) <;> try simp -implicitDefEqProofs [ha, rue, wrC, readC, -List.getD_eq_getElem?_getD, ru, ruc, rud, laid]) | (refine run73 ?_ <;> simp -implicitDefEqProofs [ha, b73, r73, rue, wrC, readC, -List.getD_eq_getElem?_getD, ru, ruc, rud, laid]) | (intro _ <;> intros <;> simp -implicitDefEqProofs [ha, *, rue, wrC, readC, -List.getD_eq_getElem?_getD, ru, ruc, rud, laid]) | (refine And.intro ?_ ?_) | simp -implicitDefEqProofs [ha, rue, wrC, readC, -List.getD_eq_getElem?_getD, ru, ruc, rud, laid])
  all_goals simp only [Bool.not_eq_true', Bool.not_eq_false', decide_eq_true_eq, decide_eq_false_iff_not] at *
  · simp_all
  · simp_all
end
end Go.Ab
end
section
/- Sending; taking an element out. -/
set_option linter.unusedSimpArgs false
set_option linter.unusedVariables false
set_option maxRecDepth 100000
set_option maxHeartbeats 4000000
namespace Go.Ab

section
variable {α : Type} {h : List AObj} {sz t e : Nat} {c : α → List AV} {v : AV} {l : List α} {ti ei : TI}
/-- append(s[:i], s[i+1:]...) -/
theorem flat_take {sz : Nat} {c : α → List AV} (hc : ∀ x, (c x).length = sz) (l : List α) (i : Nat) (hi : i ≤ l.length) : ((l.map c).flatten).take (i * sz) = ((l.take i).map c).flatten := by
  have : l.map c = (l.take i).map c ++ (l.drop i).map c := by rw [← List.map_append, List.take_append_drop]
  rw [this, List.flatten_append, List.take_left' (by rw [flat_len hc, List.length_take, Nat.min_eq_left hi])]
theorem flat_drop {sz : Nat} {c : α → List AV} (hc : ∀ x, (c x).length = sz) (l : List α) (i : Nat) (hi : i ≤ l.length) : ((l.map c).flatten).drop (i * sz) = ((l.drop i).map c).flatten := by
  have : l.map c = (l.take i).map c ++ (l.drop i).map c := by rw [← List.map_append, List.take_append_drop]
  rw [this, List.flatten_append, List.drop_left' (by rw [flat_len hc, List.length_take, Nat.min_eq_left hi])]

variable {id n : Nat} {cs rest : List AV} {i : Nat} {ki kj : IntKind}
theorem slc_pre {K : AV → Prop} (h1 : T.get t = some ti) (h2 : ti.d = .slice e) (h3 : T.get e = some ei) (h4 : ei.size = sz) (hi : i ≤ n) (hK : K (.msl id sz 0 i)) : sliceK T t (.msl id sz 0 n) none (some (.int .i64 i)) none K := by
  simp only [sliceK, h1, h2, h3, boundsK]
  refine ⟨h4, by omega, by omega, .inl ⟨.inl trivial, ?_⟩⟩
  simpa using hK
theorem slc_suf {K : AV → Prop} {j : Int} (h1 : T.get t = some ti) (h2 : ti.d = .slice e) (h3 : T.get e = some ei) (h4 : ei.size = sz) (hj : j = (i : Int)) (hi : i ≤ n) (hK1 : i < n → K (.msl id sz (i * sz) (n - i))) (hK2 : i = n → K (.sl false sz [] .no)) : sliceK T t (.msl id sz 0 n) (some (.int .i64 j)) none none K := by
  subst hj
  simp only [sliceK, h1, h2, h3, boundsK]
  refine ⟨h4, by omega, by omega, ?_⟩
  rcases Nat.lt_or_ge i n with hlt | hge
  · refine .inl ⟨.inr (by simpa using hlt), ?_⟩
    simpa using hK1 hlt
  · have : i = n := by omega
    exact .inr ⟨by simpa using this, hK2 this⟩
theorem slc_three {K : AV → Prop} {a b : Int} (h1 : T.get t = some ti) (h2 : ti.d = .slice e) (h3 : T.get e = some ei) (ha : 0 ≤ a) (hb : a ≤ b) (hn : b ≤ n) (hK : K .undef) : sliceK T t (.msl id sz 0 n) (some (.int .i64 a)) (some (.int .i64 b)) (some (.int .i64 n)) K := by
  simp only [sliceK, h1, h2, h3, boundsK]
  exact ⟨rfl, ha, hb, hn, by omega, Int.le_refl _, hK⟩
theorem app_del {K : AV → List AObj → Prop} (hsz : sz ≠ 0) (hc : ∀ x, (c x).length = sz) (h1 : T.get t = some ti) (h2 : ti.d = .slice e) (h3 : T.get e = some ei) (h4 : ei.size = sz) (hb : ei.bytes ≠ 0) (hb2 : ei.bytes ≤ 1000) (hl : l.length < 1000000)
    (hid : h[id]? = some (.cells cs n)) (hn : cs.length = n) (hcs : cs = (l.map c).flatten ++ rest) (hi : i < l.length) {y : AV} (hy : (i + 1 < l.length ∧ y = .msl id sz ((i + 1) * sz) (l.length - (i + 1))) ∨ (i + 1 = l.length ∧ y = .sl false sz [] .no))
    (hK : ∀ rest', K (.msl id sz 0 (l.length - 1)) (h.set id (.cells (((l.eraseIdx i).map c).flatten ++ rest') n)) ∨ rest'.length < sz ∨ ((l.eraseIdx i).map c).flatten.length + rest'.length ≠ n) : appendK T false t t (.msl id sz 0 i) y h K := by
  subst h4
  have hfl := flat_len hc l
  have hlen : cs.length = l.length * ei.size + rest.length := by rw [hcs, List.length_append, hfl]
  have her : l.eraseIdx i = l.take i ++ l.drop (i + 1) := List.eraseIdx_eq_take_drop_succ ..
  have hmul : (i + 1 + (l.length - (i + 1))) * ei.size = l.length * ei.size := by rw [show i + 1 + (l.length - (i + 1)) = l.length by omega]
  have hi1 : (i + 1) * ei.size = i * ei.size + ei.size := by rw [Nat.add_mul, Nat.one_mul]
  have hle : (i + 1) * ei.size ≤ l.length * ei.size := Nat.mul_le_mul_right _ hi
  -- what is laid
  have ys : ((l.drop (i + 1)).map c).length = l.length - (i + 1) := by simp
  have yl : (((l.drop (i + 1)).map c).flatten).length = (l.length - (i + 1)) * ei.size := by rw [flat_len hc]; simp
  have hsub : (l.length - (i + 1)) * ei.size + (i + 1) * ei.size = l.length * ei.size := by rw [← Nat.add_mul, Nat.sub_add_cancel hi]
  have hlaid : laid cs (0 + i * ei.size) ((l.drop (i + 1)).map c).flatten = ((l.eraseIdx i).map c).flatten ++ cs.drop (i * ei.size + (l.length - (i + 1)) * ei.size) := by
    unfold laid
    rw [yl, Nat.zero_add, her, List.map_append, List.flatten_append]
    congr 2
    rw [hcs, List.take_append_of_le_length (by rw [hfl]; omega), flat_take hc l i (by omega)]
  have hres := hK (cs.drop (i * ei.size + (l.length - (i + 1)) * ei.size))
  have hrl : (cs.drop (i * ei.size + (l.length - (i + 1)) * ei.size)).length = ei.size + rest.length := by rw [List.length_drop, hlen]; omega
  have hel : ((l.eraseIdx i).map c).flatten.length = i * ei.size + (l.length - (i + 1)) * ei.size := by
    rw [flat_len hc, her, List.length_append, List.length_take, List.length_drop, Nat.min_eq_left (by omega), Nat.add_mul]
  have hfin : K (.msl id ei.size 0 (l.length - 1)) (h.set id (.cells (((l.eraseIdx i).map c).flatten ++ cs.drop (i * ei.size + (l.length - (i + 1)) * ei.size)) n)) := by
    rcases hres with h | h | h
    · exact h
    · rw [hrl] at h; omega
    · rw [hel, hrl] at h; omega
  have hb47 : (i + (l.length - (i + 1))) * ei.bytes ≤ 140737488355328 := Nat.le_trans (Nat.mul_le_mul (show i + (l.length - (i + 1)) ≤ 1000000 by omega) hb2) (by decide)
  rcases hy with ⟨hlt, rfl⟩ | ⟨heq, rfl⟩
  · simp only [appendK, srcK, h1, h2, h3]
    refine ⟨hsz, hb, trivial, (l.drop (i + 1)).map c, by simp, fun y hy => (by obtain ⟨x, _, rfl⟩ := List.mem_map.1 hy; exact hc x), ?_, trivial, ?_, cs, n, hid, by omega, fun hin => ?_, fun hgr => ?_⟩
    · refine ⟨cs, n, hid, by rw [yl]; omega, ?_⟩
      rw [yl, hcs, List.drop_append_of_le_length (by rw [hfl]; omega), flat_drop hc l (i + 1) (by omega), List.take_left' yl]
    · simpa using hb47
    · rw [hlaid]
      rw [ys, show i + (l.length - (i + 1)) = l.length - 1 by omega]
      exact hfin
    · exfalso
      rw [ys, Nat.add_mul] at hgr
      omega
  · simp only [appendK, srcK, h1, h2, h3]
    have hd : l.drop (i + 1) = [] := List.drop_eq_nil_of_le (by omega)
    rw [hd] at hlaid
    refine ⟨hsz, hb, fun _ => trivial, trivial, ?_, cs, n, hid, by omega, fun hin => ?_, fun hgr => ?_⟩
    · have : i + (l.length - (i + 1)) = i := by omega
      rw [this] at hb47
      simpa using hb47
    · simp only [List.map_nil] at hlaid
      rw [hlaid]
      rw [show i + [].length = l.length - 1 by simp; omega]
      exact hfin
    · exfalso
      simp only [List.length_nil, Nat.add_zero] at hgr
      omega
/-- Clearing what lies behind. -/
theorem clr_last {K : List AObj → Prop} (hsz : sz ≠ 0) (hc : ∀ x, (c x).length = sz) (h1 : T.get t = some ti) (h2 : ti.d = .slice e) (h3 : T.get e = some ei) (h4 : ei.size = sz) (hz : ei.zero.length = sz) (hzn : ei.zero.all AV.nol = true)
    (hid : h[id]? = some (.cells ((l.map c).flatten ++ rest) n)) (hr : sz ≤ rest.length) (hK : K (h.set id (.cells ((l.map c).flatten ++ (ei.zero ++ rest.drop sz)) n))) : clearK T t (.msl id sz (l.length * sz) 1) h K := by
  simp only [clearK, h1, h2, h3]
  refine ⟨h4, ?_, hzn, _, n, hid, by rw [List.length_append, flat_len hc]; omega, ?_⟩
  · intro e0; rw [e0] at hz; simp at hz; omega
  · rw [laid_mid (by rw [flat_len hc])]
    simpa [hz] using hK
theorem ovr_last {K : AV → Prop} {a b : Int} (hsz : sz ≠ 0) (h1 : T.get t = some ti) (h2 : ti.d = .slice e) (h3 : T.get e = some ei) (h4 : ei.size = sz) {m : Nat} (hid : h[id]? = some (.cells cs n)) (ha : a = (m : Int)) (hb : b = ((m + 1 : Nat) : Int)) (hn : (m + 1) * sz ≤ n) (hK : K (.msl id sz (m * sz) 1)) : overK T t (.msl id sz 0 m) (some (.int .i64 a)) (some (.int .i64 b)) h K := by
  subst ha hb h4
  simp only [overK, h1, h2, h3, boundsK]
  have : m + 1 ≤ (n - 0) / ei.size := by rw [Nat.le_div_iff_mul_le (by omega)]; simpa using hn
  refine ⟨trivial, hsz, cs, n, hid, rfl, by omega, by omega, by omega, .inr (by omega), ?_⟩
  have e1 : ((m + 1 : Nat) : Int).toNat - ((m : Nat) : Int).toNat = 1 := by omega
  rw [e1]
  simpa using hK
end

section
variable {C : CX} {h : List AObj} {K : AV → List AObj → Prop} {id n : Nat} {cs rest : List AV} {i : Nat} {ii jj : Int}
/-- slices.Delete of one element. -/
theorem delete124 {l : List Letter} (hl : l.length < 1000000) (hid : h[id]? = some (.cells cs n)) (hn : cs.length = n) (hcs : cs = (l.map Letter.c).flatten ++ rest) (hi : i < l.length) (hii : ii = (i : Int)) (hjj : jj = (i : Int) + 1)
    (hK : ∀ h', Fr [id] h h' → LV h' 5 Letter.c (.msl id 5 0 (l.length - 1)) (l.eraseIdx i) → K (.msl id 5 0 (l.length - 1)) h') : ACall C Pg 124 [.msl id 5 0 l.length, .int .i64 ii, .int .i64 jj] h K := by
  subst hii hjj
  have hlt := (List.getElem?_eq_some_iff.1 hid).1
  have hel : (l.eraseIdx i).length = l.length - 1 := by rw [List.length_eraseIdx, if_pos hi]
  refine run124 ?_
  simp -implicitDefEqProofs [b124, r124, rue, wrC, readC, -List.getD_eq_getElem?_getD, ru, ruc, rud, laid]
  refine slc_three T22 rfl T33 (by omega) (by omega) (by omega) ?_
  simp -implicitDefEqProofs [r124, rue, wrC, readC, -List.getD_eq_getElem?_getD, ru, ruc, rud, laid]
  refine condV_split (fun g => ?_) (fun g => ?_)
  · simp at g; omega
  simp -implicitDefEqProofs [r124, rue, wrC, readC, -List.getD_eq_getElem?_getD, ru, ruc, rud, laid]
  refine re124q0 ?_
  simp -implicitDefEqProofs [g124q0, rue, wrC, readC, -List.getD_eq_getElem?_getD, ru, ruc, rud, laid]
  refine slc_pre T22 rfl T33 rfl (by omega) ?_
  simp -implicitDefEqProofs [r124, rue, wrC, readC, -List.getD_eq_getElem?_getD, ru, ruc, rud, laid]
  refine slc_suf (i := i + 1) T22 rfl T33 rfl (by omega) (by omega) (fun g1 => ?_) (fun g1 => ?_)
  all_goals simp -implicitDefEqProofs [r124, rue, wrC, readC, -List.getD_eq_getElem?_getD, ru, ruc, rud, laid]
  all_goals (
    refine app_del (l := l) (by decide) lenL T22 rfl T33 rfl (by decide) (by decide) hl hid hn hcs hi (by first | exact .inl ⟨g1, rfl⟩ | exact .inr ⟨g1, rfl⟩) fun rest' => ?_
    by_cases h1 : rest'.length < 5
    · exact .inr (.inl h1)
    by_cases h2 : ((l.eraseIdx i).map Letter.c).flatten.length + rest'.length ≠ n
    · exact .inr (.inr h2)
    refine .inl ?_
    have hset : ∀ o, (h.set id o)[id]? = some o := fun o => List.getElem?_set_self hlt
    have h3 := flat_len lenL (l.eraseIdx i)
    rw [hel] at h3
    simp -implicitDefEqProofs [r124, ovr_last, rue, wrC, readC, -List.getD_eq_getElem?_getD, ru, ruc, rud, laid]
    refine ovr_last (sz := 5) (m := l.length - 1) (cs := ((l.eraseIdx i).map Letter.c).flatten ++ rest') (n := n) (by decide) T22 rfl T33 rfl (hset _) rfl (by omega) (by omega) ?_
    simp -implicitDefEqProofs [r124, rue, wrC, readC, -List.getD_eq_getElem?_getD, ru, ruc, rud, laid]
    rw [← hel]
    refine clr_last (sz := 5) (l := l.eraseIdx i) (rest := rest') (n := n) (by decide) lenL T22 rfl T33 rfl (by decide) (by decide) (hset _) (by omega) ?_
    rw [hel]
    simp -implicitDefEqProofs [r124, List.set_set, rue, wrC, readC, -List.getD_eq_getElem?_getD, ru, ruc, rud, laid]
    refine hK _ Fr.set (.inr ⟨id, _, n, _, by rw [hel], hset _, ?_, rfl⟩)
    simp only [List.length_append, h3, List.length_drop, List.length_cons, List.length_nil]
    omega)

/-- slices.Delete of one element. -/
theorem delete121 {l : List Timer} (hl : l.length < 1000000) (hid : h[id]? = some (.cells cs n)) (hn : cs.length = n) (hcs : cs = (l.map Timer.c).flatten ++ rest) (hi : i < l.length) (hii : ii = (i : Int)) (hjj : jj = (i : Int) + 1)
    (hK : ∀ h', Fr [id] h h' → LV h' 3 Timer.c (.msl id 3 0 (l.length - 1)) (l.eraseIdx i) → K (.msl id 3 0 (l.length - 1)) h') : ACall C Pg 121 [.msl id 3 0 l.length, .int .i64 ii, .int .i64 jj] h K := by
  subst hii hjj
  have hlt := (List.getElem?_eq_some_iff.1 hid).1
  have hel : (l.eraseIdx i).length = l.length - 1 := by rw [List.length_eraseIdx, if_pos hi]
  refine run121 ?_
  simp -implicitDefEqProofs [b121, r121, rue, wrC, readC, -List.getD_eq_getElem?_getD, ru, ruc, rud, laid]
  refine slc_three T24 rfl T86 (by omega) (by omega) (by omega) ?_
  simp -implicitDefEqProofs [r121, rue, wrC, readC, -List.getD_eq_getElem?_getD, ru, ruc, rud, laid]
  refine condV_split (fun g => ?_) (fun g => ?_)
  · simp at g; omega
  simp -implicitDefEqProofs [r121, rue, wrC, readC, -List.getD_eq_getElem?_getD, ru, ruc, rud, laid]
  refine re121q0 ?_
  simp -implicitDefEqProofs [g121q0, rue, wrC, readC, -List.getD_eq_getElem?_getD, ru, ruc, rud, laid]
  refine slc_pre T24 rfl T86 rfl (by omega) ?_
  simp -implicitDefEqProofs [r121, rue, wrC, readC, -List.getD_eq_getElem?_getD, ru, ruc, rud, laid]
  refine slc_suf (i := i + 1) T24 rfl T86 rfl (by omega) (by omega) (fun g1 => ?_) (fun g1 => ?_)
  all_goals simp -implicitDefEqProofs [r121, rue, wrC, readC, -List.getD_eq_getElem?_getD, ru, ruc, rud, laid]
  all_goals (
    refine app_del (l := l) (by decide) lenT T24 rfl T86 rfl (by decide) (by decide) hl hid hn hcs hi (by first | exact .inl ⟨g1, rfl⟩ | exact .inr ⟨g1, rfl⟩) fun rest' => ?_
    by_cases h1 : rest'.length < 3
    · exact .inr (.inl h1)
    by_cases h2 : ((l.eraseIdx i).map Timer.c).flatten.length + rest'.length ≠ n
    · exact .inr (.inr h2)
    refine .inl ?_
    have hset : ∀ o, (h.set id o)[id]? = some o := fun o => List.getElem?_set_self hlt
    have h3 := flat_len lenT (l.eraseIdx i)
    rw [hel] at h3
    simp -implicitDefEqProofs [r121, ovr_last, rue, wrC, readC, -List.getD_eq_getElem?_getD, ru, ruc, rud, laid]
    refine ovr_last (sz := 3) (m := l.length - 1) (cs := ((l.eraseIdx i).map Timer.c).flatten ++ rest') (n := n) (by decide) T24 rfl T86 rfl (hset _) rfl (by omega) (by omega) ?_
    simp -implicitDefEqProofs [r121, rue, wrC, readC, -List.getD_eq_getElem?_getD, ru, ruc, rud, laid]
    rw [← hel]
    refine clr_last (sz := 3) (l := l.eraseIdx i) (rest := rest') (n := n) (by decide) lenT T24 rfl T86 rfl (by decide) (by decide) (hset _) (by omega) ?_
    rw [hel]
    simp -implicitDefEqProofs [r121, List.set_set, rue, wrC, readC, -List.getD_eq_getElem?_getD, ru, ruc, rud, laid]
    refine hK _ Fr.set (.inr ⟨id, _, n, _, by rw [hel], hset _, ?_, rfl⟩)
    simp only [List.length_append, h3, List.length_drop, List.length_cons, List.length_nil]
    omega)

/-- slices.Delete of one element. -/
theorem delete118 {l : List Link} (hl : l.length < 1000000) (hid : h[id]? = some (.cells cs n)) (hn : cs.length = n) (hcs : cs = (l.map Link.c).flatten ++ rest) (hi : i < l.length) (hii : ii = (i : Int)) (hjj : jj = (i : Int) + 1)
    (hK : ∀ h', Fr [id] h h' → LV h' 2 Link.c (.msl id 2 0 (l.length - 1)) (l.eraseIdx i) → K (.msl id 2 0 (l.length - 1)) h') : ACall C Pg 118 [.msl id 2 0 l.length, .int .i64 ii, .int .i64 jj] h K := by
  subst hii hjj
  have hlt := (List.getElem?_eq_some_iff.1 hid).1
  have hel : (l.eraseIdx i).length = l.length - 1 := by rw [List.length_eraseIdx, if_pos hi]
  refine run118 ?_
  simp -implicitDefEqProofs [b118, r118, rue, wrC, readC, -List.getD_eq_getElem?_getD, ru, ruc, rud, laid]
  refine slc_three T23 rfl T100 (by omega) (by omega) (by omega) ?_
  simp -implicitDefEqProofs [r118, rue, wrC, readC, -List.getD_eq_getElem?_getD, ru, ruc, rud, laid]
  refine condV_split (fun g => ?_) (fun g => ?_)
  · simp at g; omega
  simp -implicitDefEqProofs [r118, rue, wrC, readC, -List.getD_eq_getElem?_getD, ru, ruc, rud, laid]
  refine re118q0 ?_
  simp -implicitDefEqProofs [g118q0, rue, wrC, readC, -List.getD_eq_getElem?_getD, ru, ruc, rud, laid]
  refine slc_pre T23 rfl T100 rfl (by omega) ?_
  simp -implicitDefEqProofs [r118, rue, wrC, readC, -List.getD_eq_getElem?_getD, ru, ruc, rud, laid]
  refine slc_suf (i := i + 1) T23 rfl T100 rfl (by omega) (by omega) (fun g1 => ?_) (fun g1 => ?_)
  all_goals simp -implicitDefEqProofs [r118, rue, wrC, readC, -List.getD_eq_getElem?_getD, ru, ruc, rud, laid]
  all_goals (
    refine app_del (l := l) (by decide) lenC T23 rfl T100 rfl (by decide) (by decide) hl hid hn hcs hi (by first | exact .inl ⟨g1, rfl⟩ | exact .inr ⟨g1, rfl⟩) fun rest' => ?_
    by_cases h1 : rest'.length < 2
    · exact .inr (.inl h1)
    by_cases h2 : ((l.eraseIdx i).map Link.c).flatten.length + rest'.length ≠ n
    · exact .inr (.inr h2)
    refine .inl ?_
    have hset : ∀ o, (h.set id o)[id]? = some o := fun o => List.getElem?_set_self hlt
    have h3 := flat_len lenC (l.eraseIdx i)
    rw [hel] at h3
    simp -implicitDefEqProofs [r118, ovr_last, rue, wrC, readC, -List.getD_eq_getElem?_getD, ru, ruc, rud, laid]
    refine ovr_last (sz := 2) (m := l.length - 1) (cs := ((l.eraseIdx i).map Link.c).flatten ++ rest') (n := n) (by decide) T23 rfl T100 rfl (hset _) rfl (by omega) (by omega) ?_
    simp -implicitDefEqProofs [r118, rue, wrC, readC, -List.getD_eq_getElem?_getD, ru, ruc, rud, laid]
    rw [← hel]
    refine clr_last (sz := 2) (l := l.eraseIdx i) (rest := rest') (n := n) (by decide) lenC T23 rfl T100 rfl (by decide) (by decide) (hset _) (by omega) ?_
    rw [hel]
    simp -implicitDefEqProofs [r118, List.set_set, rue, wrC, readC, -List.getD_eq_getElem?_getD, ru, ruc, rud, laid]
    refine hK _ Fr.set (.inr ⟨id, _, n, _, by rw [hel], hset _, ?_, rfl⟩)
    simp only [List.length_append, h3, List.length_drop, List.length_cons, List.length_nil]
    omega)
end
end Go.Ab
end
section
/- Losing, doubling and delaying letters. -/
set_option linter.unusedSimpArgs false
set_option linter.unusedVariables false
set_option maxRecDepth 100000
set_option maxHeartbeats 4000000
namespace Go.Ab

section
variable {α : Type} {h : List AObj} {sz : Nat} {c : α → List AV} {l : List α} {id n i : Nat} {rest : List AV}
theorem readC_at {F : List AV → Prop} (hc : ∀ x, (c x).length = sz) (hid : h[id]? = some (.cells ((l.map c).flatten ++ rest) n)) (hi : i < l.length) (hF : F (c l[i])) : readC h id (i * sz) sz F := by
  unfold readC
  rw [hid]
  have h1 := flat_len hc l
  have h2 : (i + 1) * sz ≤ l.length * sz := Nat.mul_le_mul_right _ hi
  have h3 : (i + 1) * sz = i * sz + sz := by rw [Nat.add_mul, Nat.one_mul]
  refine ⟨by rw [List.length_append, h1]; omega, ?_⟩
  rw [List.drop_append_of_le_length (by rw [h1]; omega), flat_drop hc l i (by omega), List.drop_eq_getElem_cons hi, List.map_cons, List.flatten_cons, List.append_assoc, List.take_left' (hc _)]
  exact hF
theorem LV.obj {v : AV} (hv : LV h sz c v l) (hi : i < l.length) : ∃ id n rest, v = .msl id sz 0 l.length ∧ h[id]? = some (.cells ((l.map c).flatten ++ rest) n) ∧ ((l.map c).flatten ++ rest).length = n := by
  rcases hv with ⟨rfl, _⟩ | ⟨id, cs, n, rest, h1, h2, h3, rfl⟩
  · simp at hi
  · exact ⟨id, n, rest, h1, h2, h3⟩
end

section
variable {C : CX} {h : List AObj} {K : AV → List AObj → Prop} {id n : Nat} {cs rest : List AV} {i : Nat} {ii jj : Int} {x : Net} {A B D : AV} {cid : Nat}
theorem without113 {l : List Letter} {v : AV} (hl : l.length < 1000000) (hv : LV h 5 Letter.c v l) (hi : i < l.length) (hii : ii = (i : Int))
    (hK : ∀ v' h', vid v' = vid v → Fr (vid v) h h' → LV h' 5 Letter.c v' (l.eraseIdx i) → K (.tup [v', .agg (Letter.c l[i])]) h') : ACall C Pg 113 [v, .int .i64 ii] h K := by
  subst hii
  obtain ⟨id, n, rest, rfl, hid, hn⟩ := hv.obj hi
  refine run113 ?_
  simp -implicitDefEqProofs [b113, r113, rue, -List.getD_eq_getElem?_getD, ru, ruc, rud]
  refine ⟨by omega, readC_at (l := l) lenL hid hi ?_⟩
  simp -implicitDefEqProofs [r113, Letter.c, rue, wrC, readC, -List.getD_eq_getElem?_getD, ru, ruc, rud, laid]
  refine re113q0 ?_
  simp -implicitDefEqProofs [g113q0, wrap_id, rue, wrC, readC, -List.getD_eq_getElem?_getD, ru, ruc, rud, laid]
  refine ⟨?_, ?_⟩
  all_goals (
    refine delete124 hl hid hn rfl hi rfl (by rw [wrap_id (by omega) (by omega)]) fun h' hf hv' => ?_
    simp -implicitDefEqProofs [r113, rue, wrC, readC, -List.getD_eq_getElem?_getD, ru, ruc, rud, laid]
    exact hK _ h' rfl hf hv')
theorem without98 {l : List Timer} {v : AV} (hl : l.length < 1000000) (hv : LV h 3 Timer.c v l) (hi : i < l.length) (hii : ii = (i : Int))
    (hK : ∀ v' h', vid v' = vid v → Fr (vid v) h h' → LV h' 3 Timer.c v' (l.eraseIdx i) → K (.tup [v', .agg (Timer.c l[i])]) h') : ACall C Pg 98 [v, .int .i64 ii] h K := by
  subst hii
  obtain ⟨id, n, rest, rfl, hid, hn⟩ := hv.obj hi
  refine run98 ?_
  simp -implicitDefEqProofs [b98, r98, rue, -List.getD_eq_getElem?_getD, ru, ruc, rud]
  refine ⟨by omega, readC_at (l := l) lenT hid hi ?_⟩
  simp -implicitDefEqProofs [r98, Timer.c, rue, wrC, readC, -List.getD_eq_getElem?_getD, ru, ruc, rud, laid]
  refine re98q0 ?_
  simp -implicitDefEqProofs [g98q0, wrap_id, rue, wrC, readC, -List.getD_eq_getElem?_getD, ru, ruc, rud, laid]
  refine ⟨?_, ?_⟩
  all_goals (
    refine delete121 hl hid hn rfl hi rfl (by rw [wrap_id (by omega) (by omega)]) fun h' hf hv' => ?_
    simp -implicitDefEqProofs [r98, rue, wrC, readC, -List.getD_eq_getElem?_getD, ru, ruc, rud, laid]
    exact hK _ h' rfl hf hv')

/-- The letter at a place is taken out. -/
def dropX (x : Net) (i : Nat) : Net := { x with way := x.way.eraseIdx i }
theorem lose78 (hc : Chg h cid x A B D) (hw : x.way.length < 1000000)
    (hK1 : ¬ (0 ≤ ii ∧ ii < x.way.length) → K (.tup [.agg (Letter.c ⟨0, 0, 0, 0, []⟩), .int .i64 4]) h)
    (hK : ∀ i (hi : i < x.way.length), ii = (i : Int) → ∀ h' A', Fr (cid :: vid A) h h' → Chg h' cid (dropX x i) A' B D → vid A' = vid A → K (.tup [.agg (Letter.c x.way[i]), .int .i64 0]) h') : ACall C Pg 78 [.mptr cid 0, .int .i64 ii] h K := by
  have ha := hc.all
  have hcl := hc.clt
  obtain ⟨o1, o2, o3, o4, o5⟩ := hc.other
  repeat' (first | (exact same_n rfl rfl (by repeat (first | exact Sk.refl | refine Sk.cons rfl ?_)) (by repeat (first | exact True.intro | refine And.intro rfl ?_))) | (first | exact step_1 rfl | exact step_2 rfl (by assumption)) | (refine has112 hc ?_ <;> try simp -implicitDefEqProofs [ha, rue, wrC, readC, -List.getD_eq_getElem?_getD, ru, ruc, rud, laid]) | (refine guardV_split (fun g => ?_) (fun g => ?_) <;> try simp -implicitDefEqProofs [ha, rue, wrC, readC, -List.getD_eq_getElem?_getD, ru, ruc, rud, laid]) | (refine condV_split (fun g => ?_) (fun g => ?_) <;> try simp -implicitDefEqProofs [ha, rue, wrC, readC, -List.getD_eq_getElem?_getD, ru, ruc, rud, laid]) | (refine run78 ?_ <;> simp -implicitDefEqProofs [ha, b78, r78, rue, wrC, readC, -List.getD_eq_getElem?_getD, ru, ruc, rud, laid]) | (intro _ <;> intros <;> simp -implicitDefEqProofs [ha, *, rue, wrC, readC, -List.getD_eq_getElem?_getD, ru, ruc, rud, laid]) | (refine And.intro ?_ ?_) | simp -implicitDefEqProofs [ha, rue, wrC, readC, -List.getD_eq_getElem?_getD, ru, ruc, rud, laid])
  · refine hK1 fun h1 => ?_
    simp at g
    omega
  · simp at g
    obtain ⟨i, rfl⟩ : ∃ i : Nat, ii = i := ⟨ii.toNat, by omega⟩
    have hi : i < x.way.length := by omega
    refine without113 hw hc.way hi rfl fun A' h' hvid hf hA' => ?_
    have hall := hA'.all
    have hcell : h'[cid]? = some (.cells [.int .i64 x.nodes, .int .i64 x.now, .int .i64 x.next, A, B, D] 6) := (hf.same cid hcl o1).trans hc.cell
    have hcl' : cid < h'.length := Nat.lt_of_lt_of_le hcl hf.len
    have hset : ∀ o, (h'.set cid o)[cid]? = some o := fun o => List.getElem?_set_self hcl'
    simp -implicitDefEqProofs [r78, ha, hall, hcell, hset, List.set_set, Letter.c, rue, wrC, readC, -List.getD_eq_getElem?_getD, ru, ruc, rud, laid]
    exact hK i hi rfl _ A' ((hf.sub fun i hi => List.mem_cons_of_mem _ hi).trans (Fr.set.sub (by simp))) (hc.setWay (y := dropX x i) hA' hf (fun j hj => .inl (hvid ▸ hj)) (fun j hj => hA'.lt j hj) rfl rfl) hvid
end
end Go.Ab
end
section
/- Delaying and doubling letters. -/
set_option linter.unusedSimpArgs false
set_option linter.unusedVariables false
set_option maxRecDepth 100000
set_option maxHeartbeats 4000000
namespace Go.Ab

def setRdy (l : Letter) (v : Int) : Letter := ⟨l.id, l.fr, l.to, v, l.data⟩
theorem laid_rdy {l : List Letter} {rest : List AV} {i : Nat} {v : Int} (hi : i < l.length) : laid ((l.map Letter.c).flatten ++ rest) (i * 5 + 3) [.int .i64 v] = ((l.set i (setRdy l[i] v)).map Letter.c).flatten ++ rest := by
  have h0 : ((l.take i).map Letter.c).flatten.length = i * 5 := by rw [flat_len lenL, List.length_take, Nat.min_eq_left (by omega)]
  have e1 : (l.map Letter.c).flatten ++ rest = (((l.take i).map Letter.c).flatten ++ [.int .i64 l[i].id, .int .i64 l[i].fr, .int .i64 l[i].to]) ++ (.int .i64 l[i].rdy :: .str l[i].data :: (((l.drop (i + 1)).map Letter.c).flatten ++ rest)) := by
    have : (l.map Letter.c).flatten = ((l.take i ++ l.drop i).map Letter.c).flatten := by rw [List.take_append_drop]
    rw [this, List.drop_eq_getElem_cons hi, List.map_append, List.map_cons, List.flatten_append, List.flatten_cons]
    simp only [Letter.c, List.append_assoc, List.cons_append, List.nil_append]
  have e2 : l.set i (setRdy l[i] v) = l.take i ++ setRdy l[i] v :: l.drop (i + 1) := by rw [List.set_eq_take_append_cons_drop, if_pos hi]
  rw [e1, e2, laid_mid (by rw [List.length_append, h0]; rfl)]
  rw [List.map_append, List.map_cons, List.flatten_append, List.flatten_cons]
  simp only [Letter.c, setRdy, List.append_assoc, List.cons_append, List.nil_append, List.length_singleton, List.drop_succ_cons, List.drop_zero]

theorem wrC_at {h : List AObj} {id off sz n : Nat} {cs : List AV} {F : List AV → Nat → Prop} (hid : h[id]? = some (.cells cs n)) (h1 : off + sz ≤ cs.length) (hF : F cs n) : wrC h id off sz F := by
  unfold wrC
  rw [hid]
  exact ⟨h1, hF⟩

section
variable {C : CX} {h : List AObj} {K : AV → List AObj → Prop} {id n : Nat} {cs rest : List AV} {ii d : Int} {x : Net} {A B D : AV} {cid : Nat}
def delayX (x : Net) (i : Nat) (hi : i < x.way.length) (d : Int) : Net := { x with way := x.way.set i (setRdy x.way[i] (x.now + d)) }
theorem delay82 (hc : Chg h cid x A B D) (hw : x.way.length < 1000000) (hn : 0 ≤ x.now ∧ x.now ≤ 1099511627776)
    (hK1 : ¬ (0 ≤ ii ∧ ii < x.way.length) → K (.tup [.agg (Letter.c ⟨0, 0, 0, 0, []⟩), .int .i64 4]) h)
    (hK2 : (0 ≤ ii ∧ ii < x.way.length) → (d < 0 ∨ 1000 < d) → K (.tup [.agg (Letter.c ⟨0, 0, 0, 0, []⟩), .int .i64 1]) h)
    (hK : ∀ i (hi : i < x.way.length), ii = (i : Int) → 0 ≤ d → d ≤ 1000 → ∀ h' A', Fr (cid :: vid A) h h' → Chg h' cid (delayX x i hi d) A' B D → vid A' = vid A → K (.tup [.agg (Letter.c (setRdy x.way[i] (x.now + d))), .int .i64 0]) h') : ACall C Pg 82 [.mptr cid 0, .int .i64 ii, .int .i64 d] h K := by
  have ha := hc.all
  have hcl := hc.clt
  obtain ⟨o1, o2, o3, o4, o5⟩ := hc.other
  repeat' (first | (exact same_n rfl rfl (by repeat (first | exact Sk.refl | refine Sk.cons rfl ?_)) (by repeat (first | exact True.intro | refine And.intro rfl ?_))) | (first | exact step_1 rfl | exact step_2 rfl (by assumption)) | (refine has112 hc ?_ <;> try simp -implicitDefEqProofs [ha, rue, wrC, readC, -List.getD_eq_getElem?_getD, ru, ruc, rud, laid]) | (refine guardV_split (fun g => ?_) (fun g => ?_) <;> try simp -implicitDefEqProofs [ha, rue, wrC, readC, -List.getD_eq_getElem?_getD, ru, ruc, rud, laid]) | (refine condV_split (fun g => ?_) (fun g => ?_) <;> try simp -implicitDefEqProofs [ha, rue, wrC, readC, -List.getD_eq_getElem?_getD, ru, ruc, rud, laid]) | (refine run82 ?_ <;> simp -implicitDefEqProofs [ha, b82, r82, rue, wrC, readC, -List.getD_eq_getElem?_getD, ru, ruc, rud, laid]) | (intro _ <;> intros <;> simp -implicitDefEqProofs [ha, *, rue, wrC, readC, -List.getD_eq_getElem?_getD, ru, ruc, rud, laid]) | (refine And.intro ?_ ?_) | simp -implicitDefEqProofs [ha, rue, wrC, readC, -List.getD_eq_getElem?_getD, ru, ruc, rud, laid])
  · refine hK1 fun h1 => ?_
    simp at *
    omega
  · refine hK2 ?_ ?_ <;> simp at * <;> omega
  · refine hK2 ?_ ?_ <;> simp at * <;> omega
  · have hb : 0 ≤ ii ∧ ii < x.way.length ∧ 0 ≤ d ∧ d ≤ 1000 := by
      simp at *
      omega
    obtain ⟨i, rfl⟩ : ∃ i : Nat, ii = i := ⟨ii.toNat, by omega⟩
    have hi : i < x.way.length := by omega
    obtain ⟨id, n, rest, rfl, hid, hnn⟩ := hc.way.obj hi
    have hne : id ≠ cid := fun e => o1 (by simp [vid, e])
    have hlt := (List.getElem?_eq_some_iff.1 hid).1
    have hlen := flat_len lenL x.way
    have hm : (i + 1) * 5 ≤ x.way.length * 5 := Nat.mul_le_mul_right _ hi
    have hm2 : (i + 1) * 5 = i * 5 + 5 := by rw [Nat.add_mul, Nat.one_mul]
    have hw1 := wrap_id (n := x.now + d) (by omega) (by omega)
    have hread : ∀ off sz K, readC h cid off sz K = (off + sz ≤ 6 ∧ K (([AV.int .i64 x.nodes, .int .i64 x.now, .int .i64 x.next, .msl id 5 0 x.way.length, B, D].drop off).take sz)) := fun off sz K => by unfold readC; rw [hc.cell]; rfl
    have hsetc : ∀ o off sz K, readC (h.set id o) cid off sz K = (off + sz ≤ 6 ∧ K (([AV.int .i64 x.nodes, .int .i64 x.now, .int .i64 x.next, .msl id 5 0 x.way.length, B, D].drop off).take sz)) := fun o off sz K => by unfold readC; rw [List.getElem?_set_ne hne, hc.cell]; rfl
    refine re82q0 ?_
    simp -implicitDefEqProofs [g82q0, ha, hread, hw1, rue, -List.getD_eq_getElem?_getD, ru, ruc, rud]
    refine ⟨⟨hi, wrC_at hid (by rw [List.length_append, hlen]; omega) ?_⟩, ⟨hi, wrC_at hid (by rw [List.length_append, hlen]; omega) ?_⟩⟩
    all_goals (
      rw [laid_rdy hi]
      obtain ⟨l', hl'⟩ : ∃ l', l' = x.way.set i (setRdy x.way[i] (x.now + d)) := ⟨_, rfl⟩
      have hl2 : l'.length = x.way.length := by rw [hl']; simp
      have hl3 : ∀ hh : i < l'.length, l'[i] = setRdy x.way[i] (x.now + d) := fun hh => by subst hl'; simp
      rw [← hl']
      simp -implicitDefEqProofs [r82, ha, hsetc, rue, -List.getD_eq_getElem?_getD, ru, ruc, rud]
      refine ⟨hi, readC_at (l := l') lenL (List.getElem?_set_self hlt) (by rw [hl2]; exact hi) ?_⟩
      rw [hl3]
      simp -implicitDefEqProofs [r82, Letter.c, setRdy, laid, rue, -List.getD_eq_getElem?_getD, ru, ruc, rud]
      refine hK i hi rfl (by omega) (by omega) _ (.msl id 5 0 x.way.length) ((Fr.set (id := id)).sub (fun j hj => by simp at hj; subst hj; simp [vid])) ?_ rfl
      have := hc.setWay (y := delayX x i hi d) (A' := .msl id 5 0 x.way.length) (h' := h.set id (.cells ((l'.map Letter.c).flatten ++ rest) n)) (.inr ⟨id, _, n, rest, by simp [delayX], List.getElem?_set_self hlt, ?_, by rw [hl']; rfl⟩) ((Fr.set (id := id)).sub (fun j hj => by simp at hj; subst hj; simp [vid])) (fun j hj => .inl hj) (fun j hj => by simp [vid] at hj; subst hj; simpa using hlt) rfl rfl
      · have e : (h.set id (.cells ((l'.map Letter.c).flatten ++ rest) n)).set cid (.cells [.int .i64 x.nodes, .int .i64 x.now, .int .i64 x.next, .msl id 5 0 x.way.length, B, D] 6) = h.set id (.cells ((l'.map Letter.c).flatten ++ rest) n) := by
          apply List.ext_getElem?
          intro k
          by_cases hk : k = cid
          · subst hk
            rw [List.getElem?_set_self (by simpa using hcl), List.getElem?_set_ne hne, hc.cell]
          · rw [List.getElem?_set_ne (Ne.symm hk)]
        simp only [delayX] at this
        rw [e] at this
        exact this
      · rw [List.length_append, flat_len lenL, hl2]; rw [List.length_append, hlen] at hnn; exact hnn)

def doubleX (x : Net) (i : Nat) (hi : i < x.way.length) : Net := { x with way := x.way ++ [x.way[i]] }
theorem double105 (hc : Chg h cid x A B D) (hw : x.way.length < 1000000)
    (hK1 : ¬ (0 ≤ ii ∧ ii < x.way.length) → K (.tup [.agg (Letter.c ⟨0, 0, 0, 0, []⟩), .int .i64 4]) h)
    (hK2 : (0 ≤ ii ∧ ii < x.way.length) → x.way.length = 200 → K (.tup [.agg (Letter.c ⟨0, 0, 0, 0, []⟩), .int .i64 7]) h)
    (hK : ∀ i (hi : i < x.way.length), ii = (i : Int) → x.way.length ≠ 200 → ∀ h' A', Fr (cid :: vid A) h h' → Chg h' cid (doubleX x i hi) A' B D → (∀ j ∈ vid A', j ∈ vid A ∨ h.length ≤ j) → K (.tup [.agg (Letter.c x.way[i]), .int .i64 0]) h') : ACall C Pg 105 [.mptr cid 0, .int .i64 ii] h K := by
  have ha := hc.all
  have hcl := hc.clt
  obtain ⟨o1, o2, o3, o4, o5⟩ := hc.other
  repeat' (first | (exact same_n rfl rfl (by repeat (first | exact Sk.refl | refine Sk.cons rfl ?_)) (by repeat (first | exact True.intro | refine And.intro rfl ?_))) | (first | exact step_1 rfl | exact step_2 rfl (by assumption)) | (refine has112 hc ?_ <;> try simp -implicitDefEqProofs [ha, rue, wrC, readC, -List.getD_eq_getElem?_getD, ru, ruc, rud, laid]) | (refine guardV_split (fun g => ?_) (fun g => ?_) <;> try simp -implicitDefEqProofs [ha, rue, wrC, readC, -List.getD_eq_getElem?_getD, ru, ruc, rud, laid]) | (refine condV_split (fun g => ?_) (fun g => ?_) <;> try simp -implicitDefEqProofs [ha, rue, wrC, readC, -List.getD_eq_getElem?_getD, ru, ruc, rud, laid]) | (refine run105 ?_ <;> simp -implicitDefEqProofs [ha, b105, r105, rue, wrC, readC, -List.getD_eq_getElem?_getD, ru, ruc, rud, laid]) | (intro _ <;> intros <;> simp -implicitDefEqProofs [ha, *, rue, wrC, readC, -List.getD_eq_getElem?_getD, ru, ruc, rud, laid]) | (refine And.intro ?_ ?_) | simp -implicitDefEqProofs [ha, rue, wrC, readC, -List.getD_eq_getElem?_getD, ru, ruc, rud, laid])
  · refine hK1 fun h1 => ?_
    simp at *
    omega
  · refine hK2 ?_ ?_ <;> simp at * <;> omega
  · have hb : 0 ≤ ii ∧ ii < x.way.length ∧ x.way.length ≠ 200 := by
      simp at *
      omega
    obtain ⟨i, rfl⟩ : ∃ i : Nat, ii = i := ⟨ii.toNat, by omega⟩
    have hi : i < x.way.length := by omega
    obtain ⟨id, n, rest, rfl, hid, hnn⟩ := hc.way.obj hi
    have hread : ∀ off sz K, readC h cid off sz K = (off + sz ≤ 6 ∧ K (([AV.int .i64 x.nodes, .int .i64 x.now, .int .i64 x.next, .msl id 5 0 x.way.length, B, D].drop off).take sz)) := fun off sz K => by unfold readC; rw [hc.cell]; rfl
    simp -implicitDefEqProofs [ha, hread, rue, -List.getD_eq_getElem?_getD, ru, ruc, rud]
    refine ⟨hi, readC_at (l := x.way) lenL hid hi ?_⟩
    simp -implicitDefEqProofs [r105, Letter.c, laid, rue, -List.getD_eq_getElem?_getD, ru, ruc, rud]
    refine re105q0 ?_
    simp -implicitDefEqProofs [g105q0, ha, List.append_nil, bsl22q1, rue, wrC, readC, -List.getD_eq_getElem?_getD, ru, ruc, rud, laid]
    refine ⟨?_, ?_, ?_⟩
    all_goals (
      refine LV.append (y := x.way[i]) rfl hc.way (by decide) lenL T22 rfl T33 rfl (by decide) (by decide) hw fun A' h' hA' hf hv hl => ?_
      have hall := hA'.all
      have hcell : h'[cid]? = some (.cells [.int .i64 x.nodes, .int .i64 x.now, .int .i64 x.next, .msl id 5 0 x.way.length, B, D] 6) := (hf.same cid hcl o1).trans hc.cell
      have hcl' : cid < h'.length := Nat.lt_of_lt_of_le hcl hf.len
      have hset : ∀ o, (h'.set cid o)[cid]? = some o := fun o => List.getElem?_set_self hcl'
      simp -implicitDefEqProofs [r105, ha, hall, hcell, hset, List.set_set, rue, wrC, readC, -List.getD_eq_getElem?_getD, ru, ruc, rud, laid]
      exact hK i hi rfl hb.2.2 _ A' ((hf.sub fun i hi => List.mem_cons_of_mem _ hi).trans (Fr.set.sub (by simp))) (hc.setWay (y := doubleX x i hi) hA' hf hv hl rfl rfl) hv)
end
end Go.Ab
end
