/- One text out of several: see the remark at the head of each part. -/
import Derived.Test.YtpjcpmmcaccgiaaBs5
import Derived.Laws.Externs
set_option linter.all false
section
set_option maxRecDepth 100000
namespace Go.Ab
def ann4 : Ann := { take := [121], mu := [128] }
def pl4 : List (Nat × Plan) := [(17, .take 0 (.take 2 (.take 3 (.all [(1, .take 4 (.take 5 (.take 6 (.take 8 (.take 9 (.take 10 (.take 11 (.all [(7, .all [(12, .take 13 (.take 14 (.take 15 (.take 16 (.take 18 (.take 19 (.take 20 (.take 21 (.all [(17, .all [(22, .take 23 (.take 24 (.take 25 (.take 26 (.take 28 (.take 29 (.take 30 (.take 31 (.all [(27, .all [(32, .take 33 (.take 34 (.take 35 (.take 36 (.take 38 (.take 39 (.take 40 (.take 41 (.all [(37, .all [(42, .take 43 (.take 44 (.done)))]), (42, .all [(37, .take 43 (.take 44 (.done)))])])))))))))]), (32, .all [(27, .take 33 (.take 34 (.take 35 (.take 36 (.take 38 (.take 39 (.take 40 (.take 41 (.all [(37, .all [(42, .take 43 (.take 44 (.done)))]), (42, .all [(37, .take 43 (.take 44 (.done)))])])))))))))])])))))))))]), (22, .all [(17, .take 23 (.take 24 (.take 25 (.take 26 (.take 28 (.take 29 (.take 30 (.take 31 (.all [(27, .all [(32, .take 33 (.take 34 (.take 35 (.take 36 (.take 38 (.take 39 (.take 40 (.take 41 (.all [(37, .all [(42, .take 43 (.take 44 (.done)))]), (42, .all [(37, .take 43 (.take 44 (.done)))])])))))))))]), (32, .all [(27, .take 33 (.take 34 (.take 35 (.take 36 (.take 38 (.take 39 (.take 40 (.take 41 (.all [(37, .all [(42, .take 43 (.take 44 (.done)))]), (42, .all [(37, .take 43 (.take 44 (.done)))])])))))))))])])))))))))])])))))))))]), (12, .all [(7, .take 13 (.take 14 (.take 15 (.take 16 (.take 18 (.take 19 (.take 20 (.take 21 (.all [(17, .all [(22, .take 23 (.take 24 (.take 25 (.take 26 (.take 28 (.take 29 (.take 30 (.take 31 (.all [(27, .all [(32, .take 33 (.take 34 (.take 35 (.take 36 (.take 38 (.take 39 (.take 40 (.take 41 (.all [(37, .all [(42, .take 43 (.take 44 (.done)))]), (42, .all [(37, .take 43 (.take 44 (.done)))])])))))))))]), (32, .all [(27, .take 33 (.take 34 (.take 35 (.take 36 (.take 38 (.take 39 (.take 40 (.take 41 (.all [(37, .all [(42, .take 43 (.take 44 (.done)))]), (42, .all [(37, .take 43 (.take 44 (.done)))])])))))))))])])))))))))]), (22, .all [(17, .take 23 (.take 24 (.take 25 (.take 26 (.take 28 (.take 29 (.take 30 (.take 31 (.all [(27, .all [(32, .take 33 (.take 34 (.take 35 (.take 36 (.take 38 (.take 39 (.take 40 (.take 41 (.all [(37, .all [(42, .take 43 (.take 44 (.done)))]), (42, .all [(37, .take 43 (.take 44 (.done)))])])))))))))]), (32, .all [(27, .take 33 (.take 34 (.take 35 (.take 36 (.take 38 (.take 39 (.take 40 (.take 41 (.all [(37, .all [(42, .take 43 (.take 44 (.done)))]), (42, .all [(37, .take 43 (.take 44 (.done)))])])))))))))])])))))))))])])))))))))])]))))))))])))),
  (21, .take 0 (.all [(1, .take 2 (.take 3 (.take 4 (.take 6 (.take 7 (.all [(5, .take 8 (.take 9 (.take 10 (.take 11 (.take 13 (.take 14 (.all [(12, .all [(15, .take 16 (.take 17 (.all [(18, .take 19 (.take 20 (.take 21 (.take 22 (.take 24 (.take 25 (.all [(23, .all [(26, .take 27 (.take 28 (.all [(29, .take 30 (.take 31 (.take 32 (.take 33 (.take 35 (.take 36 (.all [(34, .all [(37, .take 38 (.take 39 (.all [(40, .take 41 (.take 42 (.done)))])))]), (37, .take 38 (.take 39 (.all [(34, .all [(40, .take 41 (.take 42 (.done)))]), (40, .all [(34, .take 41 (.take 42 (.done)))])])))])))))))])))]), (26, .take 27 (.take 28 (.all [(23, .all [(29, .take 30 (.take 31 (.take 32 (.take 33 (.take 35 (.take 36 (.all [(34, .all [(37, .take 38 (.take 39 (.all [(40, .take 41 (.take 42 (.done)))])))]), (37, .take 38 (.take 39 (.all [(34, .all [(40, .take 41 (.take 42 (.done)))]), (40, .all [(34, .take 41 (.take 42 (.done)))])])))])))))))]), (29, .all [(23, .take 30 (.take 31 (.take 32 (.take 33 (.take 35 (.take 36 (.all [(34, .all [(37, .take 38 (.take 39 (.all [(40, .take 41 (.take 42 (.done)))])))]), (37, .take 38 (.take 39 (.all [(34, .all [(40, .take 41 (.take 42 (.done)))]), (40, .all [(34, .take 41 (.take 42 (.done)))])])))])))))))])])))])))))))])))]), (15, .take 16 (.take 17 (.all [(12, .all [(18, .take 19 (.take 20 (.take 21 (.take 22 (.take 24 (.take 25 (.all [(23, .all [(26, .take 27 (.take 28 (.all [(29, .take 30 (.take 31 (.take 32 (.take 33 (.take 35 (.take 36 (.all [(34, .all [(37, .take 38 (.take 39 (.all [(40, .take 41 (.take 42 (.done)))])))]), (37, .take 38 (.take 39 (.all [(34, .all [(40, .take 41 (.take 42 (.done)))]), (40, .all [(34, .take 41 (.take 42 (.done)))])])))])))))))])))]), (26, .take 27 (.take 28 (.all [(23, .all [(29, .take 30 (.take 31 (.take 32 (.take 33 (.take 35 (.take 36 (.all [(34, .all [(37, .take 38 (.take 39 (.all [(40, .take 41 (.take 42 (.done)))])))]), (37, .take 38 (.take 39 (.all [(34, .all [(40, .take 41 (.take 42 (.done)))]), (40, .all [(34, .take 41 (.take 42 (.done)))])])))])))))))]), (29, .all [(23, .take 30 (.take 31 (.take 32 (.take 33 (.take 35 (.take 36 (.all [(34, .all [(37, .take 38 (.take 39 (.all [(40, .take 41 (.take 42 (.done)))])))]), (37, .take 38 (.take 39 (.all [(34, .all [(40, .take 41 (.take 42 (.done)))]), (40, .all [(34, .take 41 (.take 42 (.done)))])])))])))))))])])))])))))))]), (18, .all [(12, .take 19 (.take 20 (.take 21 (.take 22 (.take 24 (.take 25 (.all [(23, .all [(26, .take 27 (.take 28 (.all [(29, .take 30 (.take 31 (.take 32 (.take 33 (.take 35 (.take 36 (.all [(34, .all [(37, .take 38 (.take 39 (.all [(40, .take 41 (.take 42 (.done)))])))]), (37, .take 38 (.take 39 (.all [(34, .all [(40, .take 41 (.take 42 (.done)))]), (40, .all [(34, .take 41 (.take 42 (.done)))])])))])))))))])))]), (26, .take 27 (.take 28 (.all [(23, .all [(29, .take 30 (.take 31 (.take 32 (.take 33 (.take 35 (.take 36 (.all [(34, .all [(37, .take 38 (.take 39 (.all [(40, .take 41 (.take 42 (.done)))])))]), (37, .take 38 (.take 39 (.all [(34, .all [(40, .take 41 (.take 42 (.done)))]), (40, .all [(34, .take 41 (.take 42 (.done)))])])))])))))))]), (29, .all [(23, .take 30 (.take 31 (.take 32 (.take 33 (.take 35 (.take 36 (.all [(34, .all [(37, .take 38 (.take 39 (.all [(40, .take 41 (.take 42 (.done)))])))]), (37, .take 38 (.take 39 (.all [(34, .all [(40, .take 41 (.take 42 (.done)))]), (40, .all [(34, .take 41 (.take 42 (.done)))])])))])))))))])])))])))))))])])))])))))))]))))))])),
  (27, .take 0 (.take 2 (.take 3 (.take 4 (.take 5 (.all [(1, .all [(6, .take 7 (.done))]), (6, .all [(1, .take 7 (.done))])])))))),
  (32, .take 0 (.take 1 (.take 6 (.take 7 (.all [(2, .take 3 (.take 4 (.all [(5, .all [(8, .take 9 (.take 10 (.all [(11, .take 12 (.done))])))]), (8, .take 9 (.take 10 (.all [(5, .all [(11, .take 12 (.done))]), (11, .all [(5, .take 12 (.done))])])))]))), (8, .take 9 (.take 10 (.all [(2, .take 3 (.take 4 (.all [(5, .all [(11, .take 12 (.done))]), (11, .all [(5, .take 12 (.done))])]))), (11, .all [(2, .take 3 (.take 4 (.all [(5, .take 12 (.done))])))])])))]))))),
  (38, .take 0 (.all [(1, .take 2 (.take 3 (.take 4 (.take 6 (.take 7 (.all [(5, .take 8 (.take 9 (.take 10 (.take 11 (.take 13 (.take 14 (.all [(12, .all [(15, .take 16 (.take 17 (.all [(18, .take 19 (.take 20 (.take 21 (.take 22 (.take 24 (.take 25 (.all [(23, .all [(26, .take 27 (.take 28 (.all [(29, .take 30 (.take 31 (.take 32 (.take 33 (.take 35 (.take 36 (.all [(34, .all [(37, .take 38 (.take 39 (.all [(40, .take 41 (.take 42 (.done)))])))]), (37, .take 38 (.take 39 (.all [(34, .all [(40, .take 41 (.take 42 (.done)))]), (40, .all [(34, .take 41 (.take 42 (.done)))])])))])))))))])))]), (26, .take 27 (.take 28 (.all [(23, .all [(29, .take 30 (.take 31 (.take 32 (.take 33 (.take 35 (.take 36 (.all [(34, .all [(37, .take 38 (.take 39 (.all [(40, .take 41 (.take 42 (.done)))])))]), (37, .take 38 (.take 39 (.all [(34, .all [(40, .take 41 (.take 42 (.done)))]), (40, .all [(34, .take 41 (.take 42 (.done)))])])))])))))))]), (29, .all [(23, .take 30 (.take 31 (.take 32 (.take 33 (.take 35 (.take 36 (.all [(34, .all [(37, .take 38 (.take 39 (.all [(40, .take 41 (.take 42 (.done)))])))]), (37, .take 38 (.take 39 (.all [(34, .all [(40, .take 41 (.take 42 (.done)))]), (40, .all [(34, .take 41 (.take 42 (.done)))])])))])))))))])])))])))))))])))]), (15, .take 16 (.take 17 (.all [(12, .all [(18, .take 19 (.take 20 (.take 21 (.take 22 (.take 24 (.take 25 (.all [(23, .all [(26, .take 27 (.take 28 (.all [(29, .take 30 (.take 31 (.take 32 (.take 33 (.take 35 (.take 36 (.all [(34, .all [(37, .take 38 (.take 39 (.all [(40, .take 41 (.take 42 (.done)))])))]), (37, .take 38 (.take 39 (.all [(34, .all [(40, .take 41 (.take 42 (.done)))]), (40, .all [(34, .take 41 (.take 42 (.done)))])])))])))))))])))]), (26, .take 27 (.take 28 (.all [(23, .all [(29, .take 30 (.take 31 (.take 32 (.take 33 (.take 35 (.take 36 (.all [(34, .all [(37, .take 38 (.take 39 (.all [(40, .take 41 (.take 42 (.done)))])))]), (37, .take 38 (.take 39 (.all [(34, .all [(40, .take 41 (.take 42 (.done)))]), (40, .all [(34, .take 41 (.take 42 (.done)))])])))])))))))]), (29, .all [(23, .take 30 (.take 31 (.take 32 (.take 33 (.take 35 (.take 36 (.all [(34, .all [(37, .take 38 (.take 39 (.all [(40, .take 41 (.take 42 (.done)))])))]), (37, .take 38 (.take 39 (.all [(34, .all [(40, .take 41 (.take 42 (.done)))]), (40, .all [(34, .take 41 (.take 42 (.done)))])])))])))))))])])))])))))))]), (18, .all [(12, .take 19 (.take 20 (.take 21 (.take 22 (.take 24 (.take 25 (.all [(23, .all [(26, .take 27 (.take 28 (.all [(29, .take 30 (.take 31 (.take 32 (.take 33 (.take 35 (.take 36 (.all [(34, .all [(37, .take 38 (.take 39 (.all [(40, .take 41 (.take 42 (.done)))])))]), (37, .take 38 (.take 39 (.all [(34, .all [(40, .take 41 (.take 42 (.done)))]), (40, .all [(34, .take 41 (.take 42 (.done)))])])))])))))))])))]), (26, .take 27 (.take 28 (.all [(23, .all [(29, .take 30 (.take 31 (.take 32 (.take 33 (.take 35 (.take 36 (.all [(34, .all [(37, .take 38 (.take 39 (.all [(40, .take 41 (.take 42 (.done)))])))]), (37, .take 38 (.take 39 (.all [(34, .all [(40, .take 41 (.take 42 (.done)))]), (40, .all [(34, .take 41 (.take 42 (.done)))])])))])))))))]), (29, .all [(23, .take 30 (.take 31 (.take 32 (.take 33 (.take 35 (.take 36 (.all [(34, .all [(37, .take 38 (.take 39 (.all [(40, .take 41 (.take 42 (.done)))])))]), (37, .take 38 (.take 39 (.all [(34, .all [(40, .take 41 (.take 42 (.done)))]), (40, .all [(34, .take 41 (.take 42 (.done)))])])))])))))))])])))])))))))])])))])))))))]))))))])),
  (44, .take 0 (.take 1 (.take 2 (.take 3 (.take 5 (.take 6 (.take 7 (.take 8 (.all [(4, .all [(9, .take 10 (.done))]), (9, .all [(4, .take 10 (.done))])])))))))))]
end Go.Ab
end
section
/- Cutting. -/
set_option linter.unusedSimpArgs false
set_option linter.unusedVariables false
set_option maxRecDepth 100000
set_option maxHeartbeats 4000000
namespace Go.Ab

theorem T155 : T.get 155 = some (TI.mk (.int .u64) 1 8 [.int .u64 0] []) := rfl
theorem wrap_u {n : Int} (h1 : 0 ≤ n) (h2 : n < 18446744073709551616) : IntKind.u64.wrap n = n := by
  have : IntKind.u64.wrap n = n % 18446744073709551616 := rfl
  rw [this]; omega
theorem half {a b : Nat} (ha : a < 1000000000) (hb : b < 1000000000) : IntKind.i64.wrap ((IntKind.u64.wrap (IntKind.i64.wrap ((a : Int) + b))).fdiv 2) = (((a + b) / 2 : Nat) : Int) := by
  rw [wrap_id (n := (a : Int) + b) (by omega) (by omega), wrap_u (by omega) (by omega), Int.fdiv_eq_ediv_of_nonneg _ (by omega), wrap_id (by omega) (by omega)]
  omega

/-- An element, by its place. -/
theorem LV.lb {α : Type} {h : List AObj} {sz : Nat} {c : α → List AV} {v : AV} {l : List α} (hv : LV h sz c v l) (m : Nat) : AV.lb m v = true := by
  rcases hv with ⟨_, rfl | rfl⟩ | ⟨id, cs, n, rest, rfl, _⟩ <;> rfl
theorem LV.at {α : Type} {h : List AObj} {sz : Nat} {c : α → List AV} {v : AV} {l : List α} (hc : ∀ x, (c x).length = sz) (hv : LV h sz c v l) {i : Nat} (hi : i < l.length) {ks : List TD} {K : AV → Prop} {n : Int} (hn : n = i)
    (hK : ∀ id off, (∀ F : List AV → Prop, F (c l[i]) → readC h id off sz F) → K (.mptr id off)) : ixsK sz ks v (.int .i64 n) K := by
  subst hn
  obtain ⟨id, m, rest, rfl, hid, _⟩ := hv.obj hi
  refine ⟨rfl, by omega, by omega, ?_⟩
  have := hK id (i * sz) fun F hF => readC_at hc hid hi hF
  simpa using this

section
variable {C : CX} {h : List AObj} {K : AV → List AObj → Prop} {a b : Int} {x : Net} {A B D : AV} {cid : Nat}
theorem two93 (hc : Chg h cid x A B D) (hK : ∀ r, (r = true ↔ nodeOk x a ∧ nodeOk x b ∧ a ≠ b) → K (.bool r) h) : ACall C Pg 93 [.mptr cid 0, .int .i64 a, .int .i64 b] h K := by
  have ha := hc.all
  repeat' (first | (exact same_n rfl rfl (by repeat (first | exact Sk.refl | refine Sk.cons rfl ?_)) (by repeat (first | exact True.intro | refine And.intro rfl ?_))) | (first | exact step_1 rfl | exact step_2 rfl (by assumption)) | (refine isNode56v hc.way.trio hc.cuts.trio hc.tims.trio ?_ <;> try simp -implicitDefEqProofs [ha, rue, wrC, readC, -List.getD_eq_getElem?_getD, ru, ruc, rud, laid]) | (refine guardV_split (fun g => ?_) (fun g => ?_) <;> try simp -implicitDefEqProofs [ha, rue, wrC, readC, -List.getD_eq_getElem?_getD, ru, ruc, rud, laid]) | (refine condV_split (fun g => ?_) (fun g => ?_) <;> try simp -implicitDefEqProofs [ha, rue, wrC, readC, -List.getD_eq_getElem?_getD, ru, ruc, rud, laid]) | (refine run93 ?_ <;> simp -implicitDefEqProofs [ha, b93, r93, rue, wrC, readC, -List.getD_eq_getElem?_getD, ru, ruc, rud, laid]) | (intro _ <;> intros <;> simp -implicitDefEqProofs [ha, *, rue, wrC, readC, -List.getD_eq_getElem?_getD, ru, ruc, rud, laid]) | (refine And.intro ?_ ?_) | simp -implicitDefEqProofs [ha, rue, wrC, readC, -List.getD_eq_getElem?_getD, ru, ruc, rud, laid])
  all_goals refine hK _ ?_
  all_goals simp only [nodeOk, Bool.and_eq_true, Bool.and_eq_false_iff, decide_eq_true_eq, decide_eq_false_iff_not, Bool.not_eq_true', Bool.not_eq_false', Bool.false_eq_true, false_iff, true_iff] at *
  all_goals omega

/-- Where an element stands, or would stand. -/
structure PosOf {α : Type} (f : α → α → Int) (l : List α) (t : α) (i : Nat) : Prop where
  le : i ≤ l.length
  lo : ∀ (h : 0 < i) (hi : i - 1 < l.length), f l[i - 1] t < 0
  hi : ∀ (h : i < l.length), 0 ≤ f l[i] t
theorem search94 {l : List Link} {v : AV} {t : Link} (hv : LV h 2 Link.c v l) (hl : l.length < 1000000)
    (hK : ∀ i r, PosOf cmpC l t i → (r = true ↔ ∃ hi : i < l.length, cmpC l[i] t = 0) → K (.tup [.int .i64 (i : Nat), .bool r]) h) : ACall C Pg 94 [v, .agg (Link.c t), .fn 52 []] h K := by
  refine run94 ?_ (by have := hv.owns; simp [AV.owns, this] <;> exact this)
  have ha := hv.all
  simp -implicitDefEqProofs [b94, r94, ha, Link.c, rue, wrC, readC, -List.getD_eq_getElem?_getD, ru, ruc, rud, laid]
  refine lp94q0 (α := Nat × Nat) 1 (fun g => [(0, v), (2, .fn 52 []), (4, .lptr 0 0), (8, .int .i64 l.length), (9, .int .i64 g.1), (10, .int .i64 g.2)]) (fun _ => [[.int .i64 t.a, .int .i64 t.b]]) (fun _ => h)
    (fun g => g.1 ≤ g.2 ∧ g.2 ≤ l.length ∧ (∀ (h : 0 < g.1) (hi : g.1 - 1 < l.length), cmpC l[g.1 - 1] t < 0) ∧ (∀ (h : g.2 < l.length), 0 ≤ cmpC l[g.2] t)) (fun g => g.2 - g.1) (0, l.length) ⟨Nat.zero_le _, Nat.le_refl _, fun h => by omega, fun h => by omega⟩ (fun _ => rfl) ?_ rfl rfl rfl ?_
  · simp [allIn, lk, AV.lb, AV.lb.lbs, hv.lb]
  · rintro ⟨i, j⟩ ⟨hij, hj, hlo, hhi⟩
    simp -implicitDefEqProofs [b94q0, r94, ha, T3, T155, cvtK, shiftK, shK, TD.known, rue, wrC, readC, -List.getD_eq_getElem?_getD, ru, ruc, rud, laid]
    simp only at hij hj hlo hhi
    refine condV_split (fun g => ?_) (fun g => ?_)
    · have g' : i < j := by simpa using g
      have hm : (i + j) / 2 < l.length := by omega
      have hh : IntKind.i64.wrap ((IntKind.u64.wrap (IntKind.i64.wrap ((i : Int) + j))).fdiv (2 ^ min 1 IntKind.u64.bits)) = (((i + j) / 2 : Nat) : Int) := half (a := i) (b := j) (by omega) (by omega)
      obtain ⟨m, hmd⟩ : ∃ m, m = (i + j) / 2 := ⟨_, rfl⟩
      rw [← hmd] at hm hh
      simp -implicitDefEqProofs [r94, ha, T3, T155, cvtK, shiftK, shK, TD.known, hh, rue, wrC, readC, -List.getD_eq_getElem?_getD, ru, ruc, rud, laid]
      refine re94q0 ?_
      simp -implicitDefEqProofs [g94q0, ha, rue, -List.getD_eq_getElem?_getD, ru, ruc, rud]
      repeat' (first | (refine guardV_split (fun g => ?_) (fun g => ?_) <;> try simp -implicitDefEqProofs [r94, ha, Link.c, rue, -List.getD_eq_getElem?_getD, ru, ruc, rud]) | (refine condV_split (fun g => ?_) (fun g => ?_) <;> try simp -implicitDefEqProofs [r94, ha, Link.c, rue, -List.getD_eq_getElem?_getD, ru, ruc, rud]) | (refine And.intro ?_ ?_ <;> try simp -implicitDefEqProofs [r94, ha, Link.c, rue, -List.getD_eq_getElem?_getD, ru, ruc, rud]) | (refine LV.at lenC hv hm rfl (fun id off hrd => ?_) <;> try simp -implicitDefEqProofs [r94, ha, Link.c, rue, -List.getD_eq_getElem?_getD, ru, ruc, rud]) | (refine hrd _ ?_ <;> try simp -implicitDefEqProofs [r94, ha, Link.c, rue, -List.getD_eq_getElem?_getD, ru, ruc, rud]) | (refine byNodes52 (x := l[m]) (y := t) ?_ <;> try simp -implicitDefEqProofs [r94, ha, Link.c, rue, -List.getD_eq_getElem?_getD, ru, ruc, rud]))
      all_goals simp only [decide_eq_true_eq, decide_eq_false_iff_not] at *
      all_goals first
        | (refine next_normal (m + 1, j) ⟨by simp only; omega, by simp only; omega, fun h1 h2 => ?_, fun h1 => hhi h1⟩ (by simp only; omega) rfl ?_ rfl rfl
           · simpa using g
           · simp [allIn, lk, AV.lb, AV.lb.lbs, hv.lb, wrap_i (show m < 9223372036854775807 by omega)])
        | (refine next_normal (i, m) ⟨by simp only; omega, by simp only; omega, fun h1 h2 => hlo h1 h2, fun h1 => by simp only; omega⟩ (by simp only; omega) rfl ?_ rfl rfl
           · simp [allIn, lk, AV.lb, AV.lb.lbs, hv.lb])
    · have g' : i = j := by simp at g; omega
      subst g'
      simp -implicitDefEqProofs [r94, ha, rue, wrC, readC, -List.getD_eq_getElem?_getD, ru, ruc, rud, laid]
      refine re94q1 ?_
      simp -implicitDefEqProofs [g94q1, ha, rue, -List.getD_eq_getElem?_getD, ru, ruc, rud]
      have hP : ∀ hh : ¬ i < l.length ∨ 0 ≤ 0, PosOf cmpC l t i := fun _ => ⟨hj, hlo, hhi⟩
      by_cases hi : i < l.length
      · have hd : decide (i < l.length) = true := by simpa using hi
        repeat' (first | (refine guardV_split (fun g => ?_) (fun g => ?_) <;> try simp -implicitDefEqProofs [r94, ha, hd, Link.c, decide_true, rue, -List.getD_eq_getElem?_getD, ru, ruc, rud]) | (refine condV_split (fun g => ?_) (fun g => ?_) <;> try simp -implicitDefEqProofs [r94, ha, hd, Link.c, decide_true, rue, -List.getD_eq_getElem?_getD, ru, ruc, rud]) | (refine And.intro ?_ ?_ <;> try simp -implicitDefEqProofs [r94, ha, hd, Link.c, decide_true, rue, -List.getD_eq_getElem?_getD, ru, ruc, rud]) | (refine LV.at lenC hv hi rfl (fun id off hrd => ?_) <;> try simp -implicitDefEqProofs [r94, ha, hd, Link.c, decide_true, rue, -List.getD_eq_getElem?_getD, ru, ruc, rud]) | (refine hrd _ ?_ <;> try simp -implicitDefEqProofs [r94, ha, hd, Link.c, decide_true, rue, -List.getD_eq_getElem?_getD, ru, ruc, rud]) | (refine byNodes52 (x := l[i]) (y := t) ?_ <;> try simp -implicitDefEqProofs [r94, ha, hd, Link.c, decide_true, rue, -List.getD_eq_getElem?_getD, ru, ruc, rud]))
        all_goals try (rw [hd] at *)
        all_goals try (exfalso; simp_all; done)
        all_goals (
          refine hK i _ ⟨hj, hlo, hhi⟩ ?_
          simp only [decide_eq_true_eq, hi, exists_true_left])
      · have hd : decide (i < l.length) = false := by simpa using hi
        repeat' (first | (refine guardV_split (fun g => ?_) (fun g => ?_) <;> try simp -implicitDefEqProofs [r94, ha, hd, rue, -List.getD_eq_getElem?_getD, ru, ruc, rud]) | (refine condV_split (fun g => ?_) (fun g => ?_) <;> try simp -implicitDefEqProofs [r94, ha, hd, rue, -List.getD_eq_getElem?_getD, ru, ruc, rud]) | (done <;> try simp -implicitDefEqProofs [r94, ha, hd, rue, -List.getD_eq_getElem?_getD, ru, ruc, rud]))
        all_goals try (exfalso; simp_all; done)
        all_goals (
          refine hK i _ ⟨hj, hlo, hhi⟩ ?_
          simp [hi])
end
end Go.Ab
end
section
/- Searching timers; inserting at the end; cutting. -/
set_option linter.unusedSimpArgs false
set_option linter.unusedVariables false
set_option maxRecDepth 100000
set_option maxHeartbeats 4000000
namespace Go.Ab

section
variable {C : CX} {h : List AObj} {K : AV → List AObj → Prop} {a b : Int} {x : Net} {A B D : AV} {cid : Nat}
theorem search99 {l : List Timer} {v : AV} {t : Timer} (hv : LV h 3 Timer.c v l) (hl : l.length < 1000000)
    (hK : ∀ i r, PosOf cmpT l t i → (r = true ↔ ∃ hi : i < l.length, cmpT l[i] t = 0) → K (.tup [.int .i64 (i : Nat), .bool r]) h) : ACall C Pg 99 [v, .agg (Timer.c t), .fn 54 []] h K := by
  refine run99 ?_ (by have := hv.owns; simp [AV.owns, this] <;> exact this)
  have ha := hv.all
  simp -implicitDefEqProofs [b99, r99, ha, Timer.c, rue, wrC, readC, -List.getD_eq_getElem?_getD, ru, ruc, rud, laid]
  refine lp99q0 (α := Nat × Nat) 1 (fun g => [(0, v), (2, .fn 54 []), (4, .lptr 0 0), (8, .int .i64 l.length), (9, .int .i64 g.1), (10, .int .i64 g.2)]) (fun _ => [[.int .i64 t.tm, .int .i64 t.nd, .int .i64 t.tg]]) (fun _ => h)
    (fun g => g.1 ≤ g.2 ∧ g.2 ≤ l.length ∧ (∀ (h : 0 < g.1) (hi : g.1 - 1 < l.length), cmpT l[g.1 - 1] t < 0) ∧ (∀ (h : g.2 < l.length), 0 ≤ cmpT l[g.2] t)) (fun g => g.2 - g.1) (0, l.length) ⟨Nat.zero_le _, Nat.le_refl _, fun h => by omega, fun h => by omega⟩ (fun _ => rfl) ?_ rfl rfl rfl ?_
  · simp [allIn, lk, AV.lb, AV.lb.lbs, hv.lb]
  · rintro ⟨i, j⟩ ⟨hij, hj, hlo, hhi⟩
    simp -implicitDefEqProofs [b99q0, r99, ha, T3, T155, cvtK, shiftK, shK, TD.known, rue, wrC, readC, -List.getD_eq_getElem?_getD, ru, ruc, rud, laid]
    simp only at hij hj hlo hhi
    refine condV_split (fun g => ?_) (fun g => ?_)
    · have g' : i < j := by simpa using g
      have hm : (i + j) / 2 < l.length := by omega
      have hh : IntKind.i64.wrap ((IntKind.u64.wrap (IntKind.i64.wrap ((i : Int) + j))).fdiv (2 ^ min 1 IntKind.u64.bits)) = (((i + j) / 2 : Nat) : Int) := half (a := i) (b := j) (by omega) (by omega)
      obtain ⟨m, hmd⟩ : ∃ m, m = (i + j) / 2 := ⟨_, rfl⟩
      rw [← hmd] at hm hh
      simp -implicitDefEqProofs [r99, ha, T3, T155, cvtK, shiftK, shK, TD.known, hh, rue, wrC, readC, -List.getD_eq_getElem?_getD, ru, ruc, rud, laid]
      refine re99q0 ?_
      simp -implicitDefEqProofs [g99q0, ha, rue, -List.getD_eq_getElem?_getD, ru, ruc, rud]
      repeat' (first | (refine guardV_split (fun g => ?_) (fun g => ?_) <;> try simp -implicitDefEqProofs [r99, ha, Timer.c, rue, -List.getD_eq_getElem?_getD, ru, ruc, rud]) | (refine condV_split (fun g => ?_) (fun g => ?_) <;> try simp -implicitDefEqProofs [r99, ha, Timer.c, rue, -List.getD_eq_getElem?_getD, ru, ruc, rud]) | (refine And.intro ?_ ?_ <;> try simp -implicitDefEqProofs [r99, ha, Timer.c, rue, -List.getD_eq_getElem?_getD, ru, ruc, rud]) | (refine LV.at lenT hv hm rfl (fun id off hrd => ?_) <;> try simp -implicitDefEqProofs [r99, ha, Timer.c, rue, -List.getD_eq_getElem?_getD, ru, ruc, rud]) | (refine hrd _ ?_ <;> try simp -implicitDefEqProofs [r99, ha, Timer.c, rue, -List.getD_eq_getElem?_getD, ru, ruc, rud]) | (refine order54 (x := l[m]) (y := t) ?_ <;> try simp -implicitDefEqProofs [r99, ha, Timer.c, rue, -List.getD_eq_getElem?_getD, ru, ruc, rud]))
      all_goals simp only [decide_eq_true_eq, decide_eq_false_iff_not] at *
      all_goals first
        | (refine next_normal (m + 1, j) ⟨by simp only; omega, by simp only; omega, fun h1 h2 => ?_, fun h1 => hhi h1⟩ (by simp only; omega) rfl ?_ rfl rfl
           · simpa using g
           · simp [allIn, lk, AV.lb, AV.lb.lbs, hv.lb, wrap_i (show m < 9223372036854775807 by omega)])
        | (refine next_normal (i, m) ⟨by simp only; omega, by simp only; omega, fun h1 h2 => hlo h1 h2, fun h1 => by simp only; omega⟩ (by simp only; omega) rfl ?_ rfl rfl
           · simp [allIn, lk, AV.lb, AV.lb.lbs, hv.lb])
    · have g' : i = j := by simp at g; omega
      subst g'
      simp -implicitDefEqProofs [r99, ha, rue, wrC, readC, -List.getD_eq_getElem?_getD, ru, ruc, rud, laid]
      refine re99q1 ?_
      simp -implicitDefEqProofs [g99q1, ha, rue, -List.getD_eq_getElem?_getD, ru, ruc, rud]
      have hP : ∀ hh : ¬ i < l.length ∨ 0 ≤ 0, PosOf cmpT l t i := fun _ => ⟨hj, hlo, hhi⟩
      by_cases hi : i < l.length
      · have hd : decide (i < l.length) = true := by simpa using hi
        repeat' (first | (refine guardV_split (fun g => ?_) (fun g => ?_) <;> try simp -implicitDefEqProofs [r99, ha, hd, Timer.c, decide_true, rue, -List.getD_eq_getElem?_getD, ru, ruc, rud]) | (refine condV_split (fun g => ?_) (fun g => ?_) <;> try simp -implicitDefEqProofs [r99, ha, hd, Timer.c, decide_true, rue, -List.getD_eq_getElem?_getD, ru, ruc, rud]) | (refine And.intro ?_ ?_ <;> try simp -implicitDefEqProofs [r99, ha, hd, Timer.c, decide_true, rue, -List.getD_eq_getElem?_getD, ru, ruc, rud]) | (refine LV.at lenT hv hi rfl (fun id off hrd => ?_) <;> try simp -implicitDefEqProofs [r99, ha, hd, Timer.c, decide_true, rue, -List.getD_eq_getElem?_getD, ru, ruc, rud]) | (refine hrd _ ?_ <;> try simp -implicitDefEqProofs [r99, ha, hd, Timer.c, decide_true, rue, -List.getD_eq_getElem?_getD, ru, ruc, rud]) | (refine order54 (x := l[i]) (y := t) ?_ <;> try simp -implicitDefEqProofs [r99, ha, hd, Timer.c, decide_true, rue, -List.getD_eq_getElem?_getD, ru, ruc, rud]))
        all_goals try (rw [hd] at *)
        all_goals try (exfalso; simp_all; done)
        all_goals (
          refine hK i _ ⟨hj, hlo, hhi⟩ ?_
          simp only [decide_eq_true_eq, hi, exists_true_left])
      · have hd : decide (i < l.length) = false := by simpa using hi
        repeat' (first | (refine guardV_split (fun g => ?_) (fun g => ?_) <;> try simp -implicitDefEqProofs [r99, ha, hd, rue, -List.getD_eq_getElem?_getD, ru, ruc, rud]) | (refine condV_split (fun g => ?_) (fun g => ?_) <;> try simp -implicitDefEqProofs [r99, ha, hd, rue, -List.getD_eq_getElem?_getD, ru, ruc, rud]) | (done <;> try simp -implicitDefEqProofs [r99, ha, hd, rue, -List.getD_eq_getElem?_getD, ru, ruc, rud]))
        all_goals try (exfalso; simp_all; done)
        all_goals (
          refine hK i _ ⟨hj, hlo, hhi⟩ ?_
          simp [hi])

/-- slices.Insert of one element, at the end. -/
theorem insert95 {l : List Link} {v : AV} {y : Link} {n : Int} (hv : LV h 2 Link.c v l) (hl : l.length < 1000000) (hn : n = l.length)
    (hK : ∀ v' h', LV h' 2 Link.c v' (l ++ [y]) → Fr (vid v) h h' → (∀ i ∈ vid v', i ∈ vid v ∨ h.length ≤ i) → (∀ i ∈ vid v', i < h'.length) → K v' h') : ACall C Pg 95 [v, .int .i64 n, .sl false 2 [Link.c y] .full] h K := by
  subst hn
  refine run95 ?_ (by have := hv.owns; simp [AV.owns, this] <;> exact this)
  have ha := hv.all
  have fin : ∀ v', sliceK T 23 v (some (.int .i64 l.length)) none none v' ∨ ¬ sliceK T 23 v (some (.int .i64 l.length)) none none v' := fun _ => Classical.em _
  have hs : ∀ Q : AV → Prop, (∀ z sz t, Q (.sl z sz [] t)) → sliceK T 23 v (some (.int .i64 l.length)) none none Q := fun Q hQ => by
    rcases hv with ⟨rfl, rfl | rfl⟩ | ⟨id, cs, m, rest, rfl, hid, hm, hcs⟩
    · simp [sliceK, T23, T100, boundsK, hQ]
    · simp [sliceK, T23, T100, boundsK, hQ]
    · exact slc_suf T23 rfl T100 rfl rfl (Nat.le_refl _) (fun h => absurd h (Nat.lt_irrefl _)) (fun _ => hQ _ _ _)
  simp -implicitDefEqProofs [b95, r95, ha, rue, wrC, readC, -List.getD_eq_getElem?_getD, ru, ruc, rud, laid]
  refine hs _ fun z sz t => ?_
  have hun : (AV.sl z sz [] t).un = .sl z sz [] t ∨ (AV.sl z sz [] t).un = .sl z sz [] .no := by cases t <;> simp [AV.un]
  rcases hun with e | e
  all_goals (
    simp -implicitDefEqProofs [r95, ha, e, rue, wrC, readC, -List.getD_eq_getElem?_getD, ru, ruc, rud, laid]
    refine LV.append (y := y) rfl hv (by decide) lenC T23 rfl T100 rfl (by decide) (by decide) hl fun v' h' hv' hf h1 h2 => ?_
    have ha' := hv'.all
    simp -implicitDefEqProofs [r95, ha, ha', rue, wrC, readC, -List.getD_eq_getElem?_getD, ru, ruc, rud, laid]
    exact hK v' h' hv' hf h1 h2)
end
end Go.Ab
end
section
/- Cutting a link, setting a timer, a tick. -/
set_option linter.unusedSimpArgs false
set_option linter.unusedVariables false
set_option maxRecDepth 100000
set_option maxHeartbeats 4000000
namespace Go.Ab

section
variable {C : CX} {h : List AObj} {K : AV → List AObj → Prop} {a b n : Int} {x : Net} {A B D : AV} {cid : Nat}
theorem Chg.setCuts {h' : List AObj} {B' : AV} {y : Net} (hc : Chg h cid x A B D) (hB : LV h' 2 Link.c B' y.cuts) (hf : Fr (vid B) h h') (hv : ∀ i ∈ vid B', i ∈ vid B ∨ h.length ≤ i) (e0 : y.way = x.way) (e2 : y.timers = x.timers) :
    Chg (h'.set cid (.cells [.int .i64 y.nodes, .int .i64 y.now, .int .i64 y.next, A, B', D] 6)) cid y A B' D := by
  obtain ⟨o1, o2, o3, o4, o5⟩ := hc.other
  have hcl := hc.clt
  have hne : ∀ i ∈ vid B', i ≠ cid := fun i hi e => by
    subst e
    rcases hv _ hi with h1 | h1
    · exact o2 h1
    · omega
  refine ⟨by rw [List.getElem?_set_self (Nat.lt_of_lt_of_le hcl hf.len)], ?_, hB.more fun i hi => List.getElem?_set_ne (Ne.symm (hne i hi)), ?_, ?_⟩
  · rw [e0]
    exact hc.way.more fun i hi => by
      rw [List.getElem?_set_ne (fun e => by subst e; exact o1 hi)]
      exact hf.same i (hc.way.lt i hi) fun hj => (o4 i hi).1 hj
  · rw [e2]
    exact hc.tims.more fun i hi => by
      rw [List.getElem?_set_ne (fun e => by subst e; exact o3 hi)]
      exact hf.same i (hc.tims.lt i hi) fun hj => o5 i hj hi
  · refine List.nodup_cons.2 ⟨?_, nd3 (fun i hi j hj e => ?_) (fun i hi j hj e => ?_) (fun i hi j hj e => ?_)⟩
    · simp only [List.mem_append, not_or]
      exact ⟨⟨o1, fun hi => hne _ hi rfl⟩, o3⟩
    · subst e
      rcases hv i hj with h1 | h1
      · exact (o4 i hi).1 h1
      · have := hc.way.lt i hi; omega
    · subst e
      exact (o4 i hi).2 hj
    · subst e
      rcases hv i hi with h1 | h1
      · exact o5 i h1 hj
      · have := hc.tims.lt i hj; omega
theorem Chg.setTims {h' : List AObj} {D' : AV} {y : Net} (hc : Chg h cid x A B D) (hD : LV h' 3 Timer.c D' y.timers) (hf : Fr (vid D) h h') (hv : ∀ i ∈ vid D', i ∈ vid D ∨ h.length ≤ i) (e0 : y.way = x.way) (e1 : y.cuts = x.cuts) :
    Chg (h'.set cid (.cells [.int .i64 y.nodes, .int .i64 y.now, .int .i64 y.next, A, B, D'] 6)) cid y A B D' := by
  obtain ⟨o1, o2, o3, o4, o5⟩ := hc.other
  have hcl := hc.clt
  have hne : ∀ i ∈ vid D', i ≠ cid := fun i hi e => by
    subst e
    rcases hv _ hi with h1 | h1
    · exact o3 h1
    · omega
  refine ⟨by rw [List.getElem?_set_self (Nat.lt_of_lt_of_le hcl hf.len)], ?_, ?_, hD.more fun i hi => List.getElem?_set_ne (Ne.symm (hne i hi)), ?_⟩
  · rw [e0]
    exact hc.way.more fun i hi => by
      rw [List.getElem?_set_ne (fun e => by subst e; exact o1 hi)]
      exact hf.same i (hc.way.lt i hi) fun hj => (o4 i hi).2 hj
  · rw [e1]
    exact hc.cuts.more fun i hi => by
      rw [List.getElem?_set_ne (fun e => by subst e; exact o2 hi)]
      exact hf.same i (hc.cuts.lt i hi) fun hj => o5 i hi hj
  · refine List.nodup_cons.2 ⟨?_, nd3 (fun i hi j hj e => ?_) (fun i hi j hj e => ?_) (fun i hi j hj e => ?_)⟩
    · simp only [List.mem_append, not_or]
      exact ⟨⟨o1, o2⟩, fun hi => hne _ hi rfl⟩
    · subst e
      exact (o4 i hi).1 hj
    · subst e
      rcases hv i hj with h1 | h1
      · exact (o4 i hi).2 h1
      · have := hc.way.lt i hi; omega
    · subst e
      rcases hv i hj with h1 | h1
      · exact o5 i hi h1
      · have := hc.cuts.lt i hi; omega

theorem nolC {p : Link} : AV.nol.nols (Link.c p) = true := rfl
theorem bsl23qc {p : Link} {K : AV → List AObj → Prop} : buildSliceK T false 23 1 [(0, .agg (Link.c p))] h K = K (.sl false 2 [Link.c p] .full) h := bsl23q1
end
end Go.Ab
end
section
/- Timers: finding, setting, ticks. -/
set_option linter.unusedSimpArgs false
set_option linter.unusedVariables false
set_option maxRecDepth 100000
set_option maxHeartbeats 4000000
namespace Go.Ab

section
variable {C : CX} {h : List AObj} {K : AV → List AObj → Prop} {a b : Int} {x : Net} {A B D : AV} {cid : Nat}
/-- slices.Insert of one element, at the end. -/
theorem insert100 {l : List Timer} {v : AV} {y : Timer} {n : Int} (hv : LV h 3 Timer.c v l) (hl : l.length < 1000000) (hn : n = l.length)
    (hK : ∀ v' h', LV h' 3 Timer.c v' (l ++ [y]) → Fr (vid v) h h' → (∀ i ∈ vid v', i ∈ vid v ∨ h.length ≤ i) → (∀ i ∈ vid v', i < h'.length) → K v' h') : ACall C Pg 100 [v, .int .i64 n, .sl false 3 [Timer.c y] .full] h K := by
  subst hn
  refine run100 ?_ (by have := hv.owns; simp [AV.owns, this] <;> exact this)
  have ha := hv.all
  have fin : ∀ v', sliceK T 24 v (some (.int .i64 l.length)) none none v' ∨ ¬ sliceK T 24 v (some (.int .i64 l.length)) none none v' := fun _ => Classical.em _
  have hs : ∀ Q : AV → Prop, (∀ z sz t, Q (.sl z sz [] t)) → sliceK T 24 v (some (.int .i64 l.length)) none none Q := fun Q hQ => by
    rcases hv with ⟨rfl, rfl | rfl⟩ | ⟨id, cs, m, rest, rfl, hid, hm, hcs⟩
    · simp [sliceK, T24, T86, boundsK, hQ]
    · simp [sliceK, T24, T86, boundsK, hQ]
    · exact slc_suf T24 rfl T86 rfl rfl (Nat.le_refl _) (fun h => absurd h (Nat.lt_irrefl _)) (fun _ => hQ _ _ _)
  simp -implicitDefEqProofs [b100, r100, ha, rue, wrC, readC, -List.getD_eq_getElem?_getD, ru, ruc, rud, laid]
  refine hs _ fun z sz t => ?_
  have hun : (AV.sl z sz [] t).un = .sl z sz [] t ∨ (AV.sl z sz [] t).un = .sl z sz [] .no := by cases t <;> simp [AV.un]
  rcases hun with e | e
  all_goals (
    simp -implicitDefEqProofs [r100, ha, e, rue, wrC, readC, -List.getD_eq_getElem?_getD, ru, ruc, rud, laid]
    refine LV.append (y := y) rfl hv (by decide) lenT T24 rfl T86 rfl (by decide) (by decide) hl fun v' h' hv' hf h1 h2 => ?_
    have ha' := hv'.all
    simp -implicitDefEqProofs [r100, ha, ha', rue, wrC, readC, -List.getD_eq_getElem?_getD, ru, ruc, rud, laid]
    exact hK v' h' hv' hf h1 h2)

def isTm (nd tg : Int) (t : Timer) : Bool := decide (t.nd = nd) && decide (t.tg = tg)
theorem timer120 {t : Timer} {i j n m : Nat} {nd tg : Int} (h1 : h[i]? = some (.cells [.int .i64 nd] n)) (h2 : h[j]? = some (.cells [.int .i64 tg] m)) (hK : K (.bool (isTm nd tg t)) h) : ACall C Pg 120 [.agg (Timer.c t), .mptr i 0, .mptr j 0] h K := by
  refine run120 ?_
  simp -implicitDefEqProofs [b120, r120, h1, h2, Timer.c, rue, wrC, readC, -List.getD_eq_getElem?_getD, ru, ruc, rud, laid]
  repeat' (first | (exact same_n rfl rfl (by repeat (first | exact Sk.refl | refine Sk.cons rfl ?_)) (by repeat (first | exact True.intro | refine And.intro rfl ?_))) | (first | exact step_1 rfl | exact step_2 rfl (by assumption)) | (refine guardV_split (fun g => ?_) (fun g => ?_) <;> try simp -implicitDefEqProofs [h1, h2, rue, wrC, readC, -List.getD_eq_getElem?_getD, ru, ruc, rud, laid]) | (refine condV_split (fun g => ?_) (fun g => ?_) <;> try simp -implicitDefEqProofs [h1, h2, rue, wrC, readC, -List.getD_eq_getElem?_getD, ru, ruc, rud, laid]) | (refine run120 ?_ <;> simp -implicitDefEqProofs [h1, h2, b120, r120, rue, wrC, readC, -List.getD_eq_getElem?_getD, ru, ruc, rud, laid]) | (intro _ <;> intros <;> simp -implicitDefEqProofs [h1, h2, *, rue, wrC, readC, -List.getD_eq_getElem?_getD, ru, ruc, rud, laid]) | (refine And.intro ?_ ?_) | simp -implicitDefEqProofs [h1, h2, rue, wrC, readC, -List.getD_eq_getElem?_getD, ru, ruc, rud, laid])
  all_goals simp_all [isTm]
theorem index119 {l : List Timer} {v : AV} {i j n m : Nat} {nd tg : Int} (hv : LV h 3 Timer.c v l) (hl : l.length < 1000000) (h1 : h[i]? = some (.cells [.int .i64 nd] n)) (h2 : h[j]? = some (.cells [.int .i64 tg] m))
    (hK1 : (∀ t ∈ l, isTm nd tg t = false) → K (.int .i64 (-1)) h) (hK2 : ∀ k (hk : k < l.length), isTm nd tg l[k] = true → (∀ t ∈ l.take k, isTm nd tg t = false) → K (.int .i64 (k : Nat)) h) : ACall C Pg 119 [v, .fn 120 [.mptr i 0, .mptr j 0]] h K := by
  refine run119 ?_ (by have := hv.owns; simp [AV.owns, this] <;> exact this)
  have ha := hv.all
  simp -implicitDefEqProofs [b119, r119, ha, rue, wrC, readC, -List.getD_eq_getElem?_getD, ru, ruc, rud, laid]
  refine lp119q0 (α := Nat) 0 (fun k => [(0, v), (1, .fn 120 [.mptr i 0, .mptr j 0]), (7, .int .i64 l.length), (8, .int .i64 k)]) (fun _ => []) (fun _ => h)
    (fun k => k ≤ l.length ∧ upTo (fun t => isTm nd tg t = false) l k) (fun k => l.length - k) 0 ⟨Nat.zero_le _, upTo.zero⟩ (fun _ => rfl) ?_ rfl rfl rfl ?_
  · simp [allIn, lk, AV.lb, AV.lb.lbs, hv.lb]
  · rintro k ⟨hk, hall⟩
    simp -implicitDefEqProofs [b119q0, r119, ha, rue, wrC, readC, -List.getD_eq_getElem?_getD, ru, ruc, rud, laid]
    refine condV_split (fun g => ?_) (fun g => ?_)
    · have hk' : k < l.length := by simpa using g
      simp -implicitDefEqProofs [r119, ha, rue, -List.getD_eq_getElem?_getD, ru, ruc, rud]
      refine LV.at lenT hv hk' rfl (fun id off hrd => ?_)
      simp -implicitDefEqProofs [r119, ha, rue, -List.getD_eq_getElem?_getD, ru, ruc, rud]
      refine hrd _ ?_
      simp -implicitDefEqProofs [r119, ha, Timer.c, rue, -List.getD_eq_getElem?_getD, ru, ruc, rud]
      refine timer120 (t := l[k]) h1 h2 ?_
      simp -implicitDefEqProofs [r119, ha, rue, -List.getD_eq_getElem?_getD, ru, ruc, rud]
      refine condV_split (fun g2 => ?_) (fun g2 => ?_)
      · simp -implicitDefEqProofs [r119, ha, rue, -List.getD_eq_getElem?_getD, ru, ruc, rud]
        refine hK2 k hk' g2 fun t ht => ?_
        obtain ⟨q, hq, rfl⟩ := List.mem_iff_getElem.1 ht
        rw [List.length_take] at hq
        rw [List.getElem_take]
        exact hall q (by omega) (by omega)
      · simp -implicitDefEqProofs [r119, ha, rue, -List.getD_eq_getElem?_getD, ru, ruc, rud]
        refine next_normal (k + 1) ⟨by omega, hall.succ hk' g2⟩ (by omega) rfl ?_ rfl rfl
        simp [allIn, lk, AV.lb, AV.lb.lbs, hv.lb, wrap_i (show k < 9223372036854775807 by omega)]
    · simp -implicitDefEqProofs [r119, ha, rue, -List.getD_eq_getElem?_getD, ru, ruc, rud]
      simp at g
      exact hK1 (hall.all (by omega))
theorem timer97 {nd tg : Int} (hc : Chg h cid x A B D) (hl : x.timers.length < 1000000)
    (hK1 : (∀ t ∈ x.timers, isTm nd tg t = false) → ∀ g, K (.int .i64 (-1)) (h ++ g)) (hK2 : ∀ k (hk : k < x.timers.length), isTm nd tg x.timers[k] = true → (∀ t ∈ x.timers.take k, isTm nd tg t = false) → ∀ g, K (.int .i64 (k : Nat)) (h ++ g)) : ACall C Pg 97 [.mptr cid 0, .int .i64 nd, .int .i64 tg] h K := by
  have ha := hc.all
  have hcl := hc.clt
  have hcell : (h ++ [AObj.cells [.int .i64 nd] 1, AObj.cells [.int .i64 tg] 1])[cid]? = some (.cells [.int .i64 x.nodes, .int .i64 x.now, .int .i64 x.next, A, B, D] 6) := by rw [List.getElem?_append_left hcl]; exact hc.cell
  refine run97 ?_
  simp -implicitDefEqProofs [b97, r97, ha, List.append_assoc, hcell, rue, wrC, readC, -List.getD_eq_getElem?_getD, ru, ruc, rud, laid]
  refine index119 (n := 1) (m := 1) (nd := nd) (tg := tg) hc.tims.app hl (by simp) (by simp) (fun h1 => ?_) (fun k hk h1 h2 => ?_)
  · simp -implicitDefEqProofs [r97, rue, wrC, readC, -List.getD_eq_getElem?_getD, ru, ruc, rud, laid]
    exact hK1 h1 _
  · simp -implicitDefEqProofs [r97, rue, wrC, readC, -List.getD_eq_getElem?_getD, ru, ruc, rud, laid]
    exact hK2 k hk h1 h2 _

def setOk (x : Net) (nd tg n : Int) : Prop := nodeOk x nd ∧ 0 ≤ tg ∧ tg ≤ 2147483647 ∧ 1 ≤ n ∧ n ≤ 1000
theorem Chg.app (hc : Chg h cid x A B D) (g : List AObj) : Chg (h ++ g) cid x A B D :=
  ⟨by rw [List.getElem?_append_left hc.clt]; exact hc.cell, hc.way.app, hc.cuts.app, hc.tims.app, hc.apart⟩
end
end Go.Ab
end
section
/- A tick. -/
set_option linter.unusedSimpArgs false
set_option linter.unusedVariables false
set_option maxRecDepth 100000
set_option maxHeartbeats 4000000
namespace Go.Ab

/-- A list of one's own that is built up. -/
def accV {α : Type} (sz : Nat) (c : α → List AV) (l : List α) : AV := if l.isEmpty then .sl true 0 [] .no else .sl false sz (l.map c) .own
def accU {α : Type} (sz : Nat) (c : α → List AV) (l : List α) : AV := if l.isEmpty then .sl true 0 [] .no else .sl false sz (l.map c) .no
theorem accV_un {α : Type} {sz : Nat} {c : α → List AV} {l : List α} : (accV sz c l).un = accU sz c l := by unfold accV accU; split <;> rfl
theorem accU_un {α : Type} {sz : Nat} {c : α → List AV} {l : List α} : (accU sz c l).un = accU sz c l := by unfold accU; split <;> rfl
theorem accV_nol {α : Type} {sz : Nat} {c : α → List AV} {l : List α} : (accV sz c l).nol = true := by unfold accV; split <;> rfl
theorem accU_nol {α : Type} {sz : Nat} {c : α → List AV} {l : List α} : (accU sz c l).nol = true := by unfold accU; split <;> rfl
theorem accV_lb {α : Type} {sz : Nat} {c : α → List AV} {l : List α} (m : Nat) : AV.lb m (accV sz c l) = true := by unfold accV; split <;> rfl
theorem accU_ow {α : Type} {sz : Nat} {c : α → List AV} {l : List α} : (accU sz c l).owns = false := by unfold accU; split <;> rfl
theorem accV_nil {α : Type} {sz : Nat} {c : α → List AV} : accV sz c ([] : List α) = .sl true 0 [] .no := rfl
theorem app_acc {α : Type} {sz t e : Nat} {c : α → List AV} {l : List α} {y : α} {ti ei : TI} {h : List AObj} {K : AV → List AObj → Prop} (hsz : sz ≠ 0) (h1 : T.get t = some ti) (h2 : ti.d = .slice e) (h3 : T.get e = some ei) (h4 : ei.size = sz) (hb : ei.bytes ≠ 0) (hb2 : ei.bytes ≤ 1000) (hl : l.length < 1000000)
    (hK : K (accV sz c (l ++ [y])) h) : appendK T false t t (accV sz c l) (.sl false sz [c y] .full) h K := by
  subst h4
  have hbd : (l.length + 1) * ei.bytes ≤ 140737488355328 := Nat.le_trans (Nat.mul_le_mul (show l.length + 1 ≤ 1000000 by omega) hb2) (by decide)
  unfold accV at hK ⊢
  have h0 : (l ++ [y]).isEmpty = false := by simp
  rw [h0] at hK
  cases l with
  | nil =>
    simp only [List.isEmpty_nil, if_true, appendK, srcK, h1, h2, h3]
    simp only [List.length_nil, Nat.zero_add, Nat.one_mul] at hbd
    simpa [resTip, hsz, hb, hbd] using hK
  | cons x l =>
    have hh : (x :: l).isEmpty = false := rfl
    rw [hh]
    simp only [Bool.false_eq_true, if_false, appendK, srcK, h1, h2, h3]
    simp only [List.length_cons] at hbd
    simpa [resTip, hsz, hb, hbd] using hK

theorem readC_sub {h : List AObj} {id off sz o s off' : Nat} {cells : List AV} (hrd : ∀ F : List AV → Prop, F cells → readC h id off sz F) (hl : cells.length = sz) (ho : off' = off + o) (h1 : o + s ≤ sz) {F : List AV → Prop} (hF : F ((cells.drop o).take s)) : readC h id off' s F := by
  subst ho
  have := hrd (fun c => c = cells) rfl
  unfold readC at this ⊢
  split at this
  · obtain ⟨h2, h3⟩ := this
    refine ⟨by omega, ?_⟩
    rename_i cs n _
    have e : (cs.drop (off + o)).take s = (cells.drop o).take s := by
      rw [← h3, List.drop_take, List.take_take, List.drop_drop, Nat.min_eq_left (by omega)]
    rw [e]
    exact hF
  · exact this.elim

section
variable {C : CX} {h : List AObj} {K : AV → List AObj → Prop} {a b : Int} {x : Net} {A B D : AV} {cid : Nat}
def tickTo (x : Net) (k : Nat) : Net := { x with now := x.now + 1, timers := x.timers.drop k }
theorem tick72 (hc : Chg h cid x A B D) (hn : 0 ≤ x.now ∧ x.now ≤ 1099511627776) (hl : x.timers.length < 1000000)
    (hK1 : x.now = 1099511627776 → K (.tup [.sl true 0 [] .no, .int .i64 3]) h)
    (hK : x.now ≠ 1099511627776 → ∀ k, k ≤ x.timers.length → (∀ t ∈ x.timers.take k, t.tm = x.now + 1) → (∀ (hk : k < x.timers.length), x.timers[k].tm ≠ x.now + 1) →
      ∀ h' D', Fr (cid :: vid D) h h' → Chg h' cid (tickTo x k) A B D' → vid D' = vid D → K (.tup [accU 3 Timer.c (x.timers.take k), .int .i64 0]) h') : ACall C Pg 72 [.mptr cid 0] h K := by
  have ha := hc.all
  have hcl := hc.clt
  obtain ⟨o1, o2, o3, o4, o5⟩ := hc.other
  refine run72 ?_
  simp -implicitDefEqProofs [b72, r72, ha, rue, wrC, readC, -List.getD_eq_getElem?_getD, ru, ruc, rud, laid]
  refine condV_split (fun g => ?_) (fun g => ?_)
  · simp -implicitDefEqProofs [r72, rue, wrC, readC, -List.getD_eq_getElem?_getD, ru, ruc, rud, laid]
    exact hK1 (by simpa using g)
  · have hne : x.now ≠ 1099511627776 := by simpa using g
    have hw := wrap_id (n := x.now + 1) (by omega) (by omega)
    have hset : ∀ o, (h.set cid o)[cid]? = some o := fun o => List.getElem?_set_self hcl
    simp -implicitDefEqProofs [r72, ha, hw, hset, rue, wrC, readC, -List.getD_eq_getElem?_getD, ru, ruc, rud, laid]
    have hc1 : Chg (h.set cid (.cells [.int .i64 x.nodes, .int .i64 (x.now + 1), .int .i64 x.next, A, B, D] 6)) cid (tickTo x 0) A B D := hc.setNum (y := tickTo x 0) rfl rfl (by simp [tickTo])
    refine lp72q0 (α := Nat × List AObj × AV) 0 (fun g => [(0, .mptr cid 0), (4, accV 3 Timer.c (x.timers.take g.1))]) (fun _ => []) (fun g => g.2.1)
      (fun g => g.1 ≤ x.timers.length ∧ (∀ t ∈ x.timers.take g.1, t.tm = x.now + 1) ∧ Fr (cid :: vid D) h g.2.1 ∧ Chg g.2.1 cid (tickTo x g.1) A B g.2.2 ∧ vid g.2.2 = vid D) (fun g => x.timers.length - g.1) (0, h.set cid (.cells [.int .i64 x.nodes, .int .i64 (x.now + 1), .int .i64 x.next, A, B, D] 6), D) ⟨Nat.zero_le _, by simp, Fr.set.sub (by simp), hc1, rfl⟩ (fun _ => rfl) ?_ rfl rfl rfl ?_
    · simp [allIn, lk, AV.lb, AV.lb.lbs, accV_nil, accV_lb]
    · rintro ⟨k, hh, D'⟩ ⟨hk, hall, hf, hck, hvd⟩
      simp only at hk hall hf hck hvd
      have hak := hck.all
      have hckl := hck.clt
      have hlen : (tickTo x k).timers.length = x.timers.length - k := by simp [tickTo]
      have hget : ∀ (h0 : 0 < (tickTo x k).timers.length) (hk' : k < x.timers.length), (tickTo x k).timers[0] = x.timers[k] := fun h0 hk' => by simp [tickTo]
      have hnow : (tickTo x k).now = x.now + 1 := rfl
      have hread : ∀ off sz K, readC hh cid off sz K = (off + sz ≤ 6 ∧ K (([AV.int .i64 x.nodes, .int .i64 (x.now + 1), .int .i64 x.next, A, B, D'].drop off).take sz)) := fun off sz K => by unfold readC; rw [hck.cell]; rfl
      simp -implicitDefEqProofs [b72q0, r72, hak, rue, wrC, readC, -List.getD_eq_getElem?_getD, ru, ruc, rud, laid]
      refine re72q0 ?_
      by_cases hkl : k < x.timers.length
      · have hd : decide (0 < x.timers.length - k) = true := by simp; omega
        have h0 : 0 < (tickTo x k).timers.length := by rw [hlen]; omega
        have hg0 := hget h0 hkl
        have her : (tickTo x k).timers.eraseIdx 0 = (tickTo x (k + 1)).timers := by simp [tickTo, List.eraseIdx_zero]
        have htake : x.timers.take (k + 1) = x.timers.take k ++ [x.timers[k]] := by rw [List.take_add_one, List.getElem?_eq_getElem hkl]; rfl
        obtain ⟨u1, u2, u3, u4, u5⟩ := hck.other
        simp -implicitDefEqProofs [g72q0, hak, hread, hlen, hd, rue, -List.getD_eq_getElem?_getD, ru, ruc, rud]
        repeat' (first | (refine guardV_split (fun g => ?_) (fun g => ?_) <;> try simp -implicitDefEqProofs [r72, hak, hread, hlen, hd, Timer.c, accV_un, accU_un, accU_ow, accU_nol, rue, -List.getD_eq_getElem?_getD, ru, ruc, rud]) | (refine condV_split (fun g => ?_) (fun g => ?_) <;> try simp -implicitDefEqProofs [r72, hak, hread, hlen, hd, Timer.c, accV_un, accU_un, accU_ow, accU_nol, rue, -List.getD_eq_getElem?_getD, ru, ruc, rud]) | (refine And.intro ?_ ?_ <;> try simp -implicitDefEqProofs [r72, hak, hread, hlen, hd, Timer.c, accV_un, accU_un, accU_ow, accU_nol, rue, -List.getD_eq_getElem?_getD, ru, ruc, rud]) | (refine LV.at (i := 0) lenT hck.tims (by rw [hlen]; omega) rfl (fun id off hrd => ?_) <;> try simp -implicitDefEqProofs [r72, hak, hread, hlen, hd, Timer.c, accV_un, accU_un, accU_ow, accU_nol, rue, -List.getD_eq_getElem?_getD, ru, ruc, rud]) | (refine readC_sub (o := 0) hrd (lenT _) rfl (by decide) ?_ <;> try simp -implicitDefEqProofs [r72, hak, hread, hlen, hd, Timer.c, accV_un, accU_un, accU_ow, accU_nol, rue, -List.getD_eq_getElem?_getD, ru, ruc, rud]))
        all_goals rw [hg0] at g
        all_goals first
          | (refine hK hne k hk hall (fun h1 => by simpa using g) _ D' hf hck hvd)
          | (refine without98 (l := (tickTo x k).timers) (by omega) hck.tims h0 rfl (fun D2 h2 hv2 hf2 hD2 => ?_)
             rw [her] at hD2
             rw [hg0]
             have hall2 := hD2.all
             have hcell2 : h2[cid]? = some (.cells [.int .i64 x.nodes, .int .i64 (x.now + 1), .int .i64 x.next, A, B, D'] 6) := (hf2.same cid hckl u3).trans hck.cell
             have hcl2 : cid < h2.length := Nat.lt_of_lt_of_le hckl hf2.len
             have hset2 : ∀ o, (h2.set cid o)[cid]? = some o := fun o => List.getElem?_set_self hcl2
             have hacc : (accV 3 Timer.c (x.timers.take k)).owns = true ∨ ¬ (accV 3 Timer.c (x.timers.take k)).owns = true := Classical.em _
             rcases hacc with hacc | hacc
             all_goals (
               simp -implicitDefEqProofs [r72, hak, hall2, hcell2, hset2, bsl24q1, Timer.c, hacc, accV_un, accU_ow, rue, wrC, readC, -List.getD_eq_getElem?_getD, ru, ruc, rud, laid]
               refine app_acc (y := x.timers[k]) (by decide) T24 rfl T86 rfl (by decide) (by decide) (by rw [List.length_take]; omega) ?_
               rw [← htake]
               have hacc2 : (accV 3 Timer.c (x.timers.take (k + 1))).owns = true ∨ ¬ (accV 3 Timer.c (x.timers.take (k + 1))).owns = true := Classical.em _
               rcases hacc2 with hacc2 | hacc2
               all_goals (
                 simp -implicitDefEqProofs [r72, hacc, hacc2, accV_un, rue, wrC, readC, -List.getD_eq_getElem?_getD, ru, ruc, rud, laid]
                 refine next_normal (k + 1, h2.set cid (.cells [.int .i64 x.nodes, .int .i64 (x.now + 1), .int .i64 x.next, A, B, D2] 6), D2) ?_ ?_ rfl ?_ rfl rfl
                 rotate_left
                 · simp only; omega
                 · simp [allIn, lk, AV.lb, AV.lb.lbs, accV_lb]
                 refine ⟨by simp only; omega, ?_, ?_, ?_, ?_⟩
                 · intro t ht
                   simp only at ht
                   rw [htake] at ht
                   rcases List.mem_append.1 ht with h3 | h3
                   · exact hall t h3
                   · simp only [List.mem_singleton] at h3
                     subst h3
                     simpa using g
                 · exact (hf.trans ((hf2.sub fun i hi => List.mem_cons_of_mem _ (hvd ▸ hi)))).trans (Fr.set.sub (by simp))
                 · exact hck.setTims (y := tickTo x (k + 1)) hD2 hf2 (fun i hi => .inl (hv2 ▸ hi)) rfl rfl
                 · exact hv2.trans hvd)))
      · have hd : decide (0 < x.timers.length - k) = false := by simp; omega
        simp -implicitDefEqProofs [g72q0, hak, hread, hlen, hd, rue, -List.getD_eq_getElem?_getD, ru, ruc, rud]
        repeat' (first | (refine guardV_split (fun g => ?_) (fun g => ?_) <;> try simp -implicitDefEqProofs [r72, hak, hread, hlen, hd, accV_un, accU_un, accU_ow, accU_nol, rue, -List.getD_eq_getElem?_getD, ru, ruc, rud]) | (refine condV_split (fun g => ?_) (fun g => ?_) <;> try simp -implicitDefEqProofs [r72, hak, hread, hlen, hd, accV_un, accU_un, accU_ow, accU_nol, rue, -List.getD_eq_getElem?_getD, ru, ruc, rud]) | (refine And.intro ?_ ?_ <;> try simp -implicitDefEqProofs [r72, hak, hread, hlen, hd, accV_un, accU_un, accU_ow, accU_nol, rue, -List.getD_eq_getElem?_getD, ru, ruc, rud]))
        all_goals exact hK hne k hk hall (fun h1 => absurd h1 hkl) _ D' hf hck hvd
end
end Go.Ab
end
section
/- The exported functions, told of no memory. -/
set_option linter.unusedSimpArgs false
set_option linter.unusedVariables false
set_option maxRecDepth 100000
set_option maxHeartbeats 4000000
namespace Go.Ab

section
variable {C : CX} {h : List AObj} {K : AV → List AObj → Prop} {a b : Int} {x : Net} {A B D : AV} {cid : Nat} {z1 z2 z3 : Bool} {s1 s2 s3 : Nat}
def zeroN : AV := .agg [.int .i64 0, .int .i64 0, .int .i64 0, .sl true 0 [] .no, .sl true 0 [] .no, .sl true 0 [] .no]
theorem frz3 {K : AV → List AObj → Prop} {r : AV} {h : List AObj} (hK : K r h) : frzK (frzK (frzK K)) r h := .inl (.inl (.inl hK))

theorem fin {K : AV → Prop} {rest : List AV} (hc : Chg h cid x A B D) (hd : AV.deep.deeps rest = true) (hr : ∀ id cs, AV.frz.frzs id cs rest = rest) (hw : AV.weak.weaks rest = rest)
    (hK : ∀ z1 s1 z2 s2 z3 s3, Nk z1 s1 z2 s2 z3 s3 x → K (.tup (.agg [.int .i64 x.nodes, .int .i64 x.now, .int .i64 x.next, .sl z1 s1 (x.way.map Letter.c) .no, .sl z2 s2 (x.cuts.map Link.c) .no, .sl z3 s3 (x.timers.map Timer.c) .no] :: rest))) :
    frzK (frzK (frzK fun r _ => r.weak.deep = true ∧ r.weak.owns = false ∧ K r.weak)) (.tup (.agg [.int .i64 x.nodes, .int .i64 x.now, .int .i64 x.next, A, B, D] :: rest)) h :=
  froz (K := fun r _ => r.deep = true ∧ r.owns = false ∧ K r) hc hr hw fun z1 s1 z2 s2 z3 s3 h' hk => ⟨by simp [AV.deep.deeps, AV.deep, deep_L, deep_C, deep_T, hd], rfl, hK z1 s1 z2 s2 z3 s3 hk⟩

theorem send42 {fr to : Int} {data : List UInt8} (hk : Nk z1 s1 z2 s2 z3 s3 x) (hc : x.cuts.length < 1000000)
    (h1 : ¬ WF x → K (.tup [zeroN, .int .i64 0, .int .i64 2]) h) (h2 : WF x → sendE x fr to data ≠ 0 → K (.tup [zeroN, .int .i64 0, .int .i64 (sendE x fr to data)]) h)
    (h3 : WF x → sendE x fr to data = 0 → ∀ z1 s1 z2 s2 z3 s3, Nk z1 s1 z2 s2 z3 s3 (sendX x fr to data) → K (.tup [.agg [.int .i64 (sendX x fr to data).nodes, .int .i64 (sendX x fr to data).now, .int .i64 (sendX x fr to data).next, .sl z1 s1 ((sendX x fr to data).way.map Letter.c) .no, .sl z2 s2 ((sendX x fr to data).cuts.map Link.c) .no, .sl z3 s3 ((sendX x fr to data).timers.map Timer.c) .no], .int .i64 x.next, .int .i64 0]) h) :
    ACall C Pg 42 [.agg [.int .i64 x.nodes, .int .i64 x.now, .int .i64 x.next, .sl z1 s1 (x.way.map Letter.c) .no, .sl z2 s2 (x.cuts.map Link.c) .no, .sl z3 s3 (x.timers.map Timer.c) .no], .int .i64 fr, .int .i64 to, .str data] h K := by
  refine ACall.closed (by simp [AV.deep.deeps, AV.deep, deep_L, deep_C, deep_T]) (ACall.weaken (ACall.freeze (ACall.freeze (ACall.freeze ?_))))
  refine run42 ?_
  simp -implicitDefEqProofs [b42, r42, rue, wrC, readC, -List.getD_eq_getElem?_getD, ru, ruc, rud, laid]
  refine changing45 hk hc (fun hw => ?_) (fun hw cid A B D g hcid hge hch => ?_)
  · simp -implicitDefEqProofs [r42, rue, wrC, readC, -List.getD_eq_getElem?_getD, ru, ruc, rud, laid]
    exact frz3 ⟨rfl, rfl, h1 hw⟩
  · have ha := hch.all
    simp -implicitDefEqProofs [r42, ha, rue, wrC, readC, -List.getD_eq_getElem?_getD, ru, ruc, rud, laid]
    refine send80 hch ⟨hw.x1, hw.x2⟩ (by have := hw.fl; omega) (fun he => ?_) (fun he h' A' hf hc2 hv => ?_)
    · simp -implicitDefEqProofs [r42, Letter.c, rue, wrC, readC, -List.getD_eq_getElem?_getD, ru, ruc, rud, laid]
      refine done73 hch (fun _ => ?_) (fun h0 => absurd h0 he)
      simp -implicitDefEqProofs [r42, rue, wrC, readC, -List.getD_eq_getElem?_getD, ru, ruc, rud, laid]
      refine re42q0 ?_
      simp -implicitDefEqProofs [g42q0, r42, rue, wrC, readC, -List.getD_eq_getElem?_getD, ru, ruc, rud, laid]
      repeat' (first | (refine And.intro ?_ ?_))
      all_goals exact frz3 ⟨rfl, rfl, h2 hw he⟩
    · have ha2 := hc2.all
      simp -implicitDefEqProofs [r42, Letter.c, sendL, rue, wrC, readC, -List.getD_eq_getElem?_getD, ru, ruc, rud, laid]
      refine done73 hc2 (fun h0 => absurd rfl h0) (fun _ => ?_)
      simp -implicitDefEqProofs [r42, ha2, rue, wrC, readC, -List.getD_eq_getElem?_getD, ru, ruc, rud, laid]
      refine re42q0 ?_
      simp -implicitDefEqProofs [g42q0, r42, ha2, rue, wrC, readC, -List.getD_eq_getElem?_getD, ru, ruc, rud, laid]
      repeat' (first | (refine And.intro ?_ ?_))
      all_goals (
        exact fin (K := fun r => K r h) hc2 (rest := [_, _]) rfl (fun _ _ => rfl) rfl fun z1 s1 z2 s2 z3 s3 hk2 => h3 hw he z1 s1 z2 s2 z3 s3 hk2)
end
end Go.Ab
end
section
/- The functions of one change; Tick. -/
set_option linter.unusedSimpArgs false
set_option linter.unusedVariables false
set_option maxRecDepth 100000
set_option maxHeartbeats 4000000
namespace Go.Ab
theorem ACall.mono {C : CX} {P : Program} {f : FuncId} {args : List AV} {h : List AObj} {K K' : AV → List AObj → Prop} (hc : ACall C P f args h K) (hk : ∀ r h', K r h' → K' r h') : ACall C P f args h K' := by
  refine ⟨fun X hC Γ w vs k hl => ?_⟩
  have conv : ∀ v w', CallPost X Γ K v w' → CallPost X Γ K' v w' := fun v w' hp => by
    obtain ⟨r, h', Γ', hK, rest⟩ := hp
    exact ⟨r, h', Γ', hk r h' hK, rest⟩
  rcases hc.run X hC Γ w vs k hl with ⟨h1, h2⟩ | ⟨v, w', h1, h2⟩
  · refine .inl ⟨h1, fun cs => ?_⟩
    obtain ⟨e, w', fr, r, rest⟩ := h2 cs
    refine ⟨e, w', fr, ?_, rest⟩
    cases e with
    | returned v => exact conv _ _ r
    | panicked c => exact r.elim
    | outgrown => exact r.elim
  · exact .inr ⟨v, w', h1, conv _ _ h2⟩
section
variable {C : CX} {h : List AObj} {K : AV → List AObj → Prop} {a b : Int} {x : Net} {A B D : AV} {cid : Nat} {z1 z2 z3 : Bool} {s1 s2 s3 : Nat}
def chgK (K : AV → List AObj → Prop) (cid : Nat) (r : AV) (h' : List AObj) : Prop := ∃ e x' A' B' D', r = .int .i64 e ∧ Chg h' cid x' A' B' D' ∧ (e ≠ 0 → K (.tup [zeroN, .int .i64 e]) h') ∧ (e = 0 → K (.tup [.agg [.int .i64 x'.nodes, .int .i64 x'.now, .int .i64 x'.next, A', B', D'], .int .i64 0]) h')
theorem changed58 {f : FuncId} {caps : List AV} (hk : Nk z1 s1 z2 s2 z3 s3 x) (hc : x.cuts.length < 1000000)
    (hn : AV.nol.nols caps = true) (h1 : ¬ WF x → K (.tup [zeroN, .int .i64 2]) h)
    (hK : WF x → ∀ cid A B D g, h.length ≤ cid → (∀ i ∈ vid A ++ vid B ++ vid D, h.length ≤ i) → Chg (h ++ g) cid x A B D →
      ACall C Pg f (.mptr cid 0 :: caps) (h ++ g) (chgK K cid)) :
    ACall C Pg 58 [.agg [.int .i64 x.nodes, .int .i64 x.now, .int .i64 x.next, .sl z1 s1 (x.way.map Letter.c) .no, .sl z2 s2 (x.cuts.map Link.c) .no, .sl z3 s3 (x.timers.map Timer.c) .no], .fn f caps] h K := by
  refine run58 ?_
  simp -implicitDefEqProofs [b58, r58, rue, wrC, readC, -List.getD_eq_getElem?_getD, ru, ruc, rud, laid]
  refine changing45 hk hc (fun hw => ?_) (fun hw cid A B D g hcid hge hch => ?_)
  · simp -implicitDefEqProofs [r58, rue, wrC, readC, -List.getD_eq_getElem?_getD, ru, ruc, rud, laid]
    exact h1 hw
  · have ha := hch.all
    simp -implicitDefEqProofs [r58, ha, rue, wrC, readC, -List.getD_eq_getElem?_getD, ru, ruc, rud, laid]
    refine ⟨hn, (hK hw cid A B D g hcid hge hch).mono fun r h' hr => ?_⟩
    obtain ⟨e, x', A', B', D', rfl, hch', k1, k2⟩ := hr
    have ha' := hch'.all
    simp -implicitDefEqProofs [r58, ha', rue, wrC, readC, -List.getD_eq_getElem?_getD, ru, ruc, rud, laid]
    refine done73 hch' (fun he => ?_) (fun he => ?_)
    · simp -implicitDefEqProofs [r58, rue, wrC, readC, -List.getD_eq_getElem?_getD, ru, ruc, rud, laid]
      exact k1 he
    · simp -implicitDefEqProofs [r58, ha', rue, wrC, readC, -List.getD_eq_getElem?_getD, ru, ruc, rud, laid]
      exact k2 he

/-- The way of the functions of one change. -/
theorem delay43 {ii d : Int} (hk : Nk z1 s1 z2 s2 z3 s3 x) (hc : x.cuts.length < 1000000)
    (h1 : ¬ WF x → K (.tup [zeroN, .int .i64 2]) h)
    (h2 : WF x → ¬ (0 ≤ ii ∧ ii < x.way.length) → K (.tup [zeroN, .int .i64 4]) h)
    (h3 : WF x → (0 ≤ ii ∧ ii < x.way.length) → (d < 0 ∨ 1000 < d) → K (.tup [zeroN, .int .i64 1]) h)
    (h4 : WF x → ∀ i (hi : i < x.way.length), ii = (i : Int) → 0 ≤ d → d ≤ 1000 → ∀ z1 s1 z2 s2 z3 s3, Nk z1 s1 z2 s2 z3 s3 (delayX x i hi d) → K (.tup [.agg [.int .i64 (delayX x i hi d).nodes, .int .i64 (delayX x i hi d).now, .int .i64 (delayX x i hi d).next, .sl z1 s1 ((delayX x i hi d).way.map Letter.c) .no, .sl z2 s2 ((delayX x i hi d).cuts.map Link.c) .no, .sl z3 s3 ((delayX x i hi d).timers.map Timer.c) .no], .int .i64 0]) h) :
    ACall C Pg 43 [.agg [.int .i64 x.nodes, .int .i64 x.now, .int .i64 x.next, .sl z1 s1 (x.way.map Letter.c) .no, .sl z2 s2 (x.cuts.map Link.c) .no, .sl z3 s3 (x.timers.map Timer.c) .no], .int .i64 ii, .int .i64 d] h K := by
  refine ACall.closed (by simp [AV.deep.deeps, AV.deep, deep_L, deep_C, deep_T]) (ACall.weaken (ACall.freeze (ACall.freeze (ACall.freeze ?_))))
  refine run43 ?_
  simp -implicitDefEqProofs [b43, r43, rue, wrC, readC, -List.getD_eq_getElem?_getD, ru, ruc, rud, laid]
  refine changed58 hk hc rfl (fun hw => ?_) (fun hw cid A B D g hcid hge hch => ?_)
  · simp -implicitDefEqProofs [r43, zeroN, rue, wrC, readC, -List.getD_eq_getElem?_getD, ru, ruc, rud, laid]
    exact frz3 ⟨rfl, rfl, h1 hw⟩
  · have lw : x.way.length < 1000000 := by have := hw.fl; omega
    have ha := hch.all
    refine run81 ?_
    simp -implicitDefEqProofs [b81, r81, ha, rue, wrC, readC, -List.getD_eq_getElem?_getD, ru, ruc, rud, laid]
    refine delay82 hch lw ⟨hw.w1, hw.w2⟩ (fun he => ?_) (fun he hd => ?_) (fun i hi hii hd1 hd2 h' A' hf hc2 hv => ?_)
    · simp -implicitDefEqProofs [r81, ha, Letter.c, rue, wrC, readC, -List.getD_eq_getElem?_getD, ru, ruc, rud, laid]
      refine ⟨4, x, A, B, D, rfl, hch, fun _ => ?_, fun h0 => by cases h0⟩
      simp -implicitDefEqProofs [r43, zeroN, rue, wrC, readC, -List.getD_eq_getElem?_getD, ru, ruc, rud, laid]
      exact frz3 ⟨rfl, rfl, h2 hw he⟩
    · simp -implicitDefEqProofs [r81, ha, Letter.c, rue, wrC, readC, -List.getD_eq_getElem?_getD, ru, ruc, rud, laid]
      refine ⟨1, x, A, B, D, rfl, hch, fun _ => ?_, fun h0 => by cases h0⟩
      simp -implicitDefEqProofs [r43, zeroN, rue, wrC, readC, -List.getD_eq_getElem?_getD, ru, ruc, rud, laid]
      exact frz3 ⟨rfl, rfl, h3 hw he hd⟩
    · have ha2 := hc2.all
      simp -implicitDefEqProofs [r81, ha2, Letter.c, rue, wrC, readC, -List.getD_eq_getElem?_getD, ru, ruc, rud, laid]
      refine ⟨0, _, A', B, D, rfl, hc2, fun h0 => absurd rfl h0, fun _ => ?_⟩
      simp -implicitDefEqProofs [r43, ha2, rue, wrC, readC, -List.getD_eq_getElem?_getD, ru, ruc, rud, laid]
      exact fin (K := fun r => K r h) hc2 (rest := [_]) rfl (fun _ _ => rfl) rfl fun z1 s1 z2 s2 z3 s3 hk2 => h4 hw i hi hii hd1 hd2 z1 s1 z2 s2 z3 s3 hk2

theorem accU_deepT {l : List Timer} : (accU 3 Timer.c l).deep = true := by
  unfold accU
  split
  · rfl
  · simp only [AV.deep]
    exact deep_T
theorem tick31 (hk : Nk z1 s1 z2 s2 z3 s3 x) (hc : x.cuts.length < 1000000)
    (h1 : ¬ WF x → K (.tup [zeroN, .sl true 0 [] .no, .int .i64 2]) h)
    (h2 : WF x → x.now = 1099511627776 → K (.tup [zeroN, .sl true 0 [] .no, .int .i64 3]) h)
    (h3 : WF x → x.now ≠ 1099511627776 → ∀ k, k ≤ x.timers.length → (∀ t ∈ x.timers.take k, t.tm = x.now + 1) → (∀ (hk : k < x.timers.length), x.timers[k].tm ≠ x.now + 1) →
      ∀ z1 s1 z2 s2 z3 s3, Nk z1 s1 z2 s2 z3 s3 (tickTo x k) → K (.tup [.agg [.int .i64 (tickTo x k).nodes, .int .i64 (tickTo x k).now, .int .i64 (tickTo x k).next, .sl z1 s1 ((tickTo x k).way.map Letter.c) .no, .sl z2 s2 ((tickTo x k).cuts.map Link.c) .no, .sl z3 s3 ((tickTo x k).timers.map Timer.c) .no], accU 3 Timer.c (x.timers.take k), .int .i64 0]) h) :
    ACall C Pg 31 [.agg [.int .i64 x.nodes, .int .i64 x.now, .int .i64 x.next, .sl z1 s1 (x.way.map Letter.c) .no, .sl z2 s2 (x.cuts.map Link.c) .no, .sl z3 s3 (x.timers.map Timer.c) .no]] h K := by
  refine ACall.closed (by simp [AV.deep.deeps, AV.deep, deep_L, deep_C, deep_T]) (ACall.weaken (ACall.freeze (ACall.freeze (ACall.freeze ?_))))
  refine run31 ?_
  simp -implicitDefEqProofs [b31, r31, rue, wrC, readC, -List.getD_eq_getElem?_getD, ru, ruc, rud, laid]
  refine changing45 hk hc (fun hw => ?_) (fun hw cid A B D g hcid hge hch => ?_)
  · simp -implicitDefEqProofs [r31, rue, wrC, readC, -List.getD_eq_getElem?_getD, ru, ruc, rud, laid]
    exact frz3 ⟨rfl, rfl, h1 hw⟩
  · have ha := hch.all
    simp -implicitDefEqProofs [r31, ha, rue, wrC, readC, -List.getD_eq_getElem?_getD, ru, ruc, rud, laid]
    refine tick72 hch ⟨hw.w1, hw.w2⟩ (by have := hw.tl; omega) (fun he => ?_) (fun he k hk1 hk2 hk3 h' D' hf hc2 hv => ?_)
    · simp -implicitDefEqProofs [r31, rue, wrC, readC, -List.getD_eq_getElem?_getD, ru, ruc, rud, laid]
      refine done73 hch (fun _ => ?_) (fun h0 => by cases h0)
      simp -implicitDefEqProofs [r31, rue, wrC, readC, -List.getD_eq_getElem?_getD, ru, ruc, rud, laid]
      exact frz3 ⟨rfl, rfl, h2 hw he⟩
    · have ha2 := hc2.all
      simp -implicitDefEqProofs [r31, accU_un, accU_nol, accU_ow, ha2, rue, wrC, readC, -List.getD_eq_getElem?_getD, ru, ruc, rud, laid]
      refine done73 hc2 (fun h0 => absurd rfl h0) (fun _ => ?_)
      simp -implicitDefEqProofs [r31, ha2, accU_un, accU_nol, accU_ow, rue, wrC, readC, -List.getD_eq_getElem?_getD, ru, ruc, rud, laid]
      exact fin (K := fun r => K r h) hc2 (rest := [_, _]) (by rw [AV.deep.deeps, AV.deep.deeps, AV.deep.deeps, accU_deepT]; rfl) (fun _ _ => by unfold accU; split <;> rfl) (by unfold accU; split <;> rfl) fun z1 s1 z2 s2 z3 s3 hk4 => h3 hw he k hk1 hk2 hk3 z1 s1 z2 s2 z3 s3 hk4
end
end Go.Ab
end
section
/- The letters that can be delivered: a function that is ranged over. -/
set_option linter.unusedSimpArgs false
set_option linter.unusedVariables false
set_option maxRecDepth 100000
set_option maxHeartbeats 4000000
namespace Go.Ab

theorem AYield.mono {C : CX} {P : Program} {l : Nat} {args : List AV} {h : List AObj} {K K' : AV → List AObj → Prop} (hc : AYield C P l args h K) (hk : ∀ r h', K r h' → K' r h') : AYield C P l args h K' := by
  refine ⟨fun X hC Γ w vs k hl b s hI => ?_⟩
  have conv : ∀ v w', CallPost X Γ K v w' → CallPost X Γ K' v w' := fun v w' hp => by
    obtain ⟨r, h', Γ', hK, rest⟩ := hp
    exact ⟨r, h', Γ', hk r h' hK, rest⟩
  obtain ⟨l', f, tmps, assign, body, h1, h2⟩ := hc.run X hC Γ w vs k hl b s hI
  refine ⟨l', f, tmps, assign, body, h1, h2.mono fun e w' he => ?_⟩
  cases e with
  | returned v => exact conv _ _ he
  | panicked c => exact he.elim
  | outgrown => exact he.elim
section
variable {C : CX} {h : List AObj} {a b : Int} {x : Net} {A B D : AV} {cid : Nat}
def linkK (t : Link) : AV × AV := (.agg [.int .i64 t.a, .int .i64 t.b], .bool true)
theorem afind_link {l : List Link} : afind T 100 (.agg [.int .i64 a, .int .i64 b]) (l.map linkK) = some (((l.findIdx? fun t => decide (a = t.a) && decide (b = t.b)).map fun i => (i, .bool true))) := by
  induction l with
  | nil => rfl
  | cons t l ih =>
    have e : aeq T 100 (.agg [.int .i64 a, .int .i64 b]) (linkK t).1 = some (decide (a = t.a) && decide (b = t.b)) := rfl
    simp only [List.map_cons, afind, e, ih, List.findIdx?_cons]
    cases hb : (decide (a = t.a) && decide (b = t.b)) with
    | true => simp [linkK]
    | false =>
      simp only [Bool.false_eq_true, if_false]
      cases l.findIdx? fun t => decide (a = t.a) && decide (b = t.b) <;> simp
theorem mapKey135 : mapKeyOK T 100 (.agg [.int .i64 a, .int .i64 b]) := ⟨by simp, rfl⟩
theorem any_link {l : List Link} : (l.any fun t => decide (a = t.a) && decide (b = t.b)) = decide (Link.mk a b ∈ l) := by
  rw [Bool.eq_iff_iff, List.any_eq_true, decide_eq_true_eq]
  constructor
  · rintro ⟨t, ht, h1⟩
    simp only [Bool.and_eq_true, decide_eq_true_eq] at h1
    obtain ⟨rfl, rfl⟩ := h1
    exact ht
  · intro h
    exact ⟨_, h, by simp⟩
theorem lkp135 {l : List Link} {id : Nat} {K : AV → Prop} (hh : h[id]? = some (.map (l.map linkK))) (hK : K (.bool (decide (Link.mk a b ∈ l)))) : lookupK T 135 (.map id) (.agg [.int .i64 a, .int .i64 b]) false h K := by
  refine ⟨mapKey135, rfl, _, hh, _, afind_link, ?_⟩
  rw [← any_link] at hK
  cases hf : l.findIdx? fun t => decide (a = t.a) && decide (b = t.b) with
  | none =>
    have : (l.any fun t => decide (a = t.a) && decide (b = t.b)) = false := by
      rw [List.findIdx?_eq_none_iff] at hf
      rw [List.any_eq_false]
      intro t ht; simpa using hf t ht
    rw [this] at hK
    exact hK
  | some i =>
    have : (l.any fun t => decide (a = t.a) && decide (b = t.b)) = true := by
      rw [List.findIdx?_eq_some_iff_getElem] at hf
      obtain ⟨hi, h1, _⟩ := hf
      rw [List.any_eq_true]
      exact ⟨l[i], List.getElem_mem hi, h1⟩
    rw [this] at hK
    exact hK
theorem mup135 {l : List Link} {id : Nat} {K : List AObj → Prop} (hh : h[id]? = some (.map (l.map linkK))) (hn : Link.mk a b ∉ l) (hK : K (h.set id (.map ((l ++ [Link.mk a b]).map linkK)))) : mapUpdateK T 135 (.map id) (.agg [.int .i64 a, .int .i64 b]) (.bool true) h K := by
  refine ⟨mapKey135, rfl, rfl, _, hh, _, afind_link, ?_⟩
  have : (l.findIdx? fun t => decide (a = t.a) && decide (b = t.b)) = none := by
    rw [List.findIdx?_eq_none_iff]
    intro t ht
    have h0 : (l.any fun t => decide (a = t.a) && decide (b = t.b)) = false := by rw [any_link]; simpa using hn
    have := List.any_eq_false.1 h0 t ht
    simpa using this
  rw [this]
  simpa [linkK] using hK

def mapO (l : List Link) (i : Nat) : AObj := .map ((l.take i).map linkK)
/-- A letter can be delivered now. -/
def canX (x : Net) (l : Letter) : Bool := decide (l.rdy ≤ x.now) && !decide (pairOf l.fr l.to ∈ x.cuts)

theorem ready87 {lid xid : Nat} (hd : x.cuts.Nodup) (hlw : x.way.length < 1000000) (hlc : x.cuts.length < 1000000) (hx : h[xid]? = some (.cells [.mptr cid 0] 1)) (hc : Chg h cid x A B D) (J : Nat → List AObj → Prop) {K : AV → List AObj → Prop}
    (hi : ∀ i h', J i h' → h'[h.length]? = some (mapO x.cuts x.cuts.length) ∧ h'[xid]? = some (.cells [.mptr cid 0] 1) ∧ Chg h' cid x A B D)
    (h0 : J 0 (h ++ [mapO x.cuts x.cuts.length]))
    (hn : ∀ i (hi : i < x.way.length) h', J i h' → canX x x.way[i] = false → J (i + 1) h')
    (hy : ∀ i (hi : i < x.way.length) h', J i h' → canX x x.way[i] = true → AYield C Pg lid [.int .i64 i] h' (fun r h' => (r = .bool true ∧ J (i + 1) h') ∨ (r = .bool false ∧ K (.tup []) h')))
    (hK : ∀ h', J x.way.length h' → K (.tup []) h') : ACall C Pg 87 [.yld lid, .mptr xid 0] h K := by
  have ha := hc.all
  have happ := (hc.app [.map []]).all
  refine run87 ?_
  simp -implicitDefEqProofs [b87, r87, makeMapK, rue, wrC, readC, -List.getD_eq_getElem?_getD, ru, ruc, rud, laid]
  have hx1 : (h ++ [AObj.map []])[xid]? = some (.cells [.mptr cid 0] 1) := by rw [List.getElem?_append_left (List.getElem?_eq_some_iff.1 hx).1]; exact hx
  simp -implicitDefEqProofs [r87, hx1, happ, rue, wrC, readC, -List.getD_eq_getElem?_getD, ru, ruc, rud, laid]
  refine lp87q0 (α := Nat) 0 (fun i => [(0, .yld lid), (1, .mptr xid 0), (3, .map h.length), (13, B), (14, .int .i64 x.cuts.length), (15, .int .i64 i)]) (fun _ => []) (fun i => h ++ [mapO x.cuts i])
    (fun i => i ≤ x.cuts.length) (fun i => x.cuts.length - i) 0 (Nat.zero_le _) (fun _ => rfl) ?_ rfl rfl rfl ?_
  · simp [allIn, lk, AV.lb, AV.lb.lbs, hc.cuts.lb]
  · rintro i hil
    have hB : LV (h ++ [mapO x.cuts i]) 2 Link.c B x.cuts := hc.cuts.app
    have hget : (h ++ [mapO x.cuts i])[h.length]? = some (mapO x.cuts i) := by simp
    have hset : ∀ o, (h ++ [mapO x.cuts i]).set h.length o = h ++ [o] := fun o => by simp
    have hx2 : (h ++ [mapO x.cuts i])[xid]? = some (.cells [.mptr cid 0] 1) := by rw [List.getElem?_append_left (List.getElem?_eq_some_iff.1 hx).1]; exact hx
    have ha2 := (hc.app [mapO x.cuts i]).all
    simp -implicitDefEqProofs [b87q0, r87, rue, wrC, readC, -List.getD_eq_getElem?_getD, ru, ruc, rud, laid]
    refine condV_split (fun g => ?_) (fun g => ?_)
    · have g' : i < x.cuts.length := by simpa using g
      simp -implicitDefEqProofs [r87, hc.cuts.all, rue, wrC, readC, -List.getD_eq_getElem?_getD, ru, ruc, rud, laid]
      refine hB.at lenC g' rfl (fun id off hrd => ?_)
      simp -implicitDefEqProofs [r87, ha2, rue, -List.getD_eq_getElem?_getD, ru, ruc, rud]
      refine hrd _ ?_
      simp -implicitDefEqProofs [r87, ha2, Link.c, rue, wrC, readC, -List.getD_eq_getElem?_getD, ru, ruc, rud, laid]
      refine mup135 hget ?_ ?_
      · intro hm
        rw [List.mem_take_iff_getElem] at hm
        obtain ⟨j, hj, e⟩ := hm
        exact List.pairwise_iff_getElem.1 hd j i _ _ (by omega) e
      · rw [hset]
        simp -implicitDefEqProofs [r87, rue, wrC, readC, -List.getD_eq_getElem?_getD, ru, ruc, rud, laid]
        refine next_normal (i + 1) g' (by omega) ?_ ?_ rfl rfl
        · unfold mapO
          rw [← List.map_take, List.take_add_one, List.getElem?_eq_getElem g', List.map_append]
          rfl
        · simp [allIn, lk, AV.lb, AV.lb.lbs, hc.cuts.lb, wrap_i (show i < 9223372036854775807 by omega)]
    · have g' : i = x.cuts.length := by simp at g; omega
      subst g'
      simp -implicitDefEqProofs [r87, hx2, ha2, rue, wrC, readC, -List.getD_eq_getElem?_getD, ru, ruc, rud, laid]
      refine lp87q1 (α := Nat × List AObj) 0 (fun g => [(0, .yld lid), (1, .mptr xid 0), (3, .map h.length), (26, A), (27, .int .i64 x.way.length), (28, .int .i64 g.1)]) (fun _ => []) (fun g => g.2)
        (fun g => g.1 ≤ x.way.length ∧ J g.1 g.2) (fun g => x.way.length - g.1) (0, _) ⟨Nat.zero_le _, h0⟩ (fun _ => rfl) ?_ rfl rfl rfl ?_
      · simp [allIn, lk, AV.lb, AV.lb.lbs, hc.way.lb]
      · rintro ⟨i, h1⟩ ⟨hil, hJ⟩
        obtain ⟨hm1, hx3, hc3⟩ := hi i h1 hJ
        have ha3 := hc3.all
        simp -implicitDefEqProofs [b87q1, r87, rue, wrC, readC, -List.getD_eq_getElem?_getD, ru, ruc, rud, laid]
        refine condV_split (fun g => ?_) (fun g => ?_)
        · have g' : i < x.way.length := by simpa using g
          simp -implicitDefEqProofs [r87, ha3, rue, wrC, readC, -List.getD_eq_getElem?_getD, ru, ruc, rud, laid]
          refine hc3.way.at lenL g' rfl (fun id off hrd => ?_)
          simp -implicitDefEqProofs [r87, ha3, rue, -List.getD_eq_getElem?_getD, ru, ruc, rud]
          refine hrd _ ?_
          simp -implicitDefEqProofs [r87, ha3, Letter.c, rue, wrC, readC, -List.getD_eq_getElem?_getD, ru, ruc, rud, laid]
          refine re87q0 ?_
          simp -implicitDefEqProofs [r87, ha3, hx3, g87q0, rue, wrC, readC, -List.getD_eq_getElem?_getD, ru, ruc, rud, laid]
          repeat' (first | (refine guardV_split (fun g => ?_) (fun g => ?_) <;> try simp -implicitDefEqProofs [r87, ha3, hx3, Link.c, rue, -List.getD_eq_getElem?_getD, ru, ruc, rud]) | (refine condV_split (fun g => ?_) (fun g => ?_) <;> try simp -implicitDefEqProofs [r87, ha3, hx3, Link.c, rue, -List.getD_eq_getElem?_getD, ru, ruc, rud]) | (refine link88 ?_ <;> try simp -implicitDefEqProofs [r87, ha3, hx3, Link.c, rue, -List.getD_eq_getElem?_getD, ru, ruc, rud]) | (refine lkp135 hm1 ?_ <;> try simp -implicitDefEqProofs [r87, ha3, hx3, Link.c, rue, -List.getD_eq_getElem?_getD, ru, ruc, rud]) | ((refine And.intro ?_ ?_) <;> try simp -implicitDefEqProofs [r87, ha3, hx3, Link.c, rue, -List.getD_eq_getElem?_getD, ru, ruc, rud]))
          all_goals first
            | (refine (hy i g' h1 hJ (by simp_all [canX])).mono fun r h' hr => ?_
               rcases hr with ⟨rfl, hJ'⟩ | ⟨rfl, hK'⟩
               · simp -implicitDefEqProofs [r87, rue, wrC, readC, -List.getD_eq_getElem?_getD, ru, ruc, rud, laid]
                 refine next_normal (i + 1, h') ⟨g', hJ'⟩ (by simp only; omega) rfl ?_ rfl rfl
                 simp [allIn, lk, AV.lb, AV.lb.lbs, hc.way.lb, wrap_i (show i < 9223372036854775807 by omega)]
               · simp -implicitDefEqProofs [r87, rue, wrC, readC, -List.getD_eq_getElem?_getD, ru, ruc, rud, laid]
                 exact hK')
            | (refine next_normal (i + 1, h1) ⟨g', hn i g' h1 hJ (by by_cases e : x.way[i].rdy ≤ x.now <;> simp_all [canX] <;> intro h9 <;> omega)⟩ (by simp only; omega) rfl ?_ rfl rfl
               simp [allIn, lk, AV.lb, AV.lb.lbs, hc.way.lb, wrap_i (show i < 9223372036854775807 by omega)])
        · have g' : i = x.way.length := by simp at g; simp at hil; omega
          subst g'
          simp -implicitDefEqProofs [r87, rue, wrC, readC, -List.getD_eq_getElem?_getD, ru, ruc, rud, laid]
          exact hK _ hJ
end
end Go.Ab
end
section
/- The letters that can be delivered now, as a list; delivering. -/
set_option linter.unusedSimpArgs false
set_option linter.unusedVariables false
set_option maxRecDepth 100000
set_option maxHeartbeats 4000000
namespace Go.Ab

theorem cmpC_lt {p q : Link} : cmpC p q < 0 ↔ p.a < q.a ∨ (p.a = q.a ∧ p.b < q.b) := by
  unfold cmpC cmpI
  simp only [orI]
  split <;> split <;> (try split) <;> (try split) <;> simp_all <;> omega
theorem cmpC_trans {p q r : Link} (h1 : cmpC p q < 0) (h2 : cmpC q r < 0) : cmpC p r < 0 := by
  rw [cmpC_lt] at *
  omega
theorem rises_lt {α : Type} {f : α → α → Int} (ht : ∀ p q r, f p q < 0 → f q r < 0 → f p r < 0) {l : List α} (hr : rises f l) : ∀ (d i : Nat) (h : i + d + 1 < l.length), f l[i] l[i + d + 1] < 0 := by
  intro d
  induction d with
  | zero => intro i h; exact hr i h
  | succ d ih => intro i h; exact ht _ _ _ (ih i (by omega)) (hr (i + d + 1) h)
theorem rises_lt' {α : Type} {f : α → α → Int} (ht : ∀ p q r, f p q < 0 → f q r < 0 → f p r < 0) {l : List α} (hr : rises f l) {i j : Nat} (hij : i < j) (hj : j < l.length) : f (l[i]'(by omega)) l[j] < 0 := by
  have := rises_lt ht hr (j - i - 1) i (by omega)
  have e : i + (j - i - 1) + 1 = j := by omega
  simp only [e] at this
  exact this
theorem cmpC_irr {p q : Link} (e : p = q) : ¬ cmpC p q < 0 := by
  subst e
  rw [cmpC_lt]
  omega
theorem nodup_of_rises {α : Type} {f : α → α → Int} (ht : ∀ p q r, f p q < 0 → f q r < 0 → f p r < 0) (hi : ∀ p q, p = q → ¬ f p q < 0) {l : List α} (hr : rises f l) : l.Nodup := by
  rw [List.Nodup, List.pairwise_iff_getElem]
  intro i j h1 h2 hij e
  exact hi _ _ e (rises_lt' ht hr hij h2)
theorem nodupC {l : List Link} (hr : rises cmpC l) : l.Nodup := nodup_of_rises (f := cmpC) (fun p q r h1 h2 => cmpC_trans h1 h2) (fun p q e => cmpC_irr e) hr
theorem cuts_nodup {x : Net} (hr : rises cmpC x.cuts) : x.cuts.Nodup := nodupC hr
theorem lk_owns {d : AV} (hd : d.owns = false) : ∀ {l : List (Nat × AV)}, (∀ p ∈ l, p.2.owns = false) → ∀ t, (lk d l t).owns = false
  | [], _, _ => hd
  | p :: l, h, t => by
    obtain ⟨k, v⟩ := p
    simp only [lk]
    split
    · exact h _ (List.mem_cons_self ..)
    · exact lk_owns hd (fun p hp => h p (List.mem_cons_of_mem _ hp)) t
section
variable {C : CX} {h : List AObj} {K : AV → List AObj → Prop} {d : AV} {n : Nat}
theorem AYield.of_runs {lid : Nat} {l l1 : List (Nat × AV)} {ps : Array Tmp} {A B : Code} {xs : List AV} {ann : Ann} {pl : List (Nat × Plan)} {ra rb : List It} (ca : compR T ann pl A = ra) (cb : compR T ann pl B = rb)
    (hps : ps.size = xs.length) (hh : h[lid]? = some (.loop none)) (ht : ∀ t ∈ ps.toList, t < n) (hd : d.owns = false) (hown : ∀ p ∈ (ps.toList.zip xs).reverse ++ l, p.2.owns = false)
    (ha : ∀ ro, Run (C.loop lid (ofL d n l) ps A B) Pg T ann ro ra (S d n ((ps.toList.zip xs).reverse ++ l) [] h) (fun e s' => e = .normal ∧ s' = S d n l1 [] h))
    (hb : ∀ ro, Run (C.loop lid (ofL d n l) ps A B) Pg T ann ro rb (S d n l1 [] (h.set lid .dead)) (roundK lid K)) : AYield (C.loop lid (ofL d n l) ps A B) Pg lid xs h K := by
  subst ca cb
  have e : setPs (ofL d n l) ps.toList xs = ofL d n ((ps.toList.zip xs).reverse ++ l) := ofL_setPs (by simpa using hps) ht
  refine AYield.of_round (s1 := S d n l1 [] h) hps hh ?_ (fun ro => ?_) (fun ro => ?_)
  · rw [e, List.all_eq_true]
    intro x hx
    simp only [ofL, List.mem_map] at hx
    obtain ⟨t, _, rfl⟩ := hx
    simp [lk_owns hd hown t]
  · rw [e]
    exact runR_sound T_ok (ann := ann) (pl := pl) A _ _ (Run_eq ▸ ha ro)
  · exact runR_sound T_ok (ann := ann) (pl := pl) B _ _ (Run_eq ▸ hb ro)

theorem AWp.rangeS {l l' : List (Nat × AV)} {bx : List (List AV)} {g : Operand} {gf : FuncId} {caps : List AV} {ps : Array Tmp} {A B : Code} {fn : Func} {K : Exit → ASt → Prop} (hf : Pg.funcs[gf]? = some fn) (hbd : fn.body.isSome = true) (hnm : (fn.name == "runtime.NumGoroutine") = false) (hg : ev (S d n l bx h) g = .fn gf caps) (hn : AV.nol.nols caps = true) (hd : roundV d = d) (hl : (l.map fun p => (p.1, roundV p.2)) = l')
    (hc : ACall (C.loop h.length (ofL d n l') ps A B) Pg gf (.yld h.length :: caps) (h ++ [.loop none]) (rangeK (S d n l bx h) K)) : AWp C Pg none (.rangeFunc g ps A B) (S d n l bx h) K := by
  refine AWp.range hf hbd hnm hg hn ?_
  rw [S_round hd, hl]
  exact hc
theorem rangeS_n {l : List (Nat × AV)} {bx : List (List AV)} {K : Exit → ASt → Prop} {r : AV} {h' : List AObj} (h1 : h'[h.length]? = some (.loop none)) (h2 : K .normal (S d n l bx (h'.set h.length .dead))) : rangeK (S d n l bx h) K r h' := ⟨none, h1, h2⟩
theorem rangeS_ret {l : List (Nat × AV)} {bx : List (List AV)} {K : Exit → ASt → Prop} {r : AV} {h' : List AObj} (h1 : h'[h.length]? = some (.loop (some .ret))) (h2 : K .ret (S d n l bx (h'.set h.length .dead))) : rangeK (S d n l bx h) K r h' := ⟨some .ret, h1, h2⟩
theorem roundS_n {lid : Nat} {l : List (Nat × AV)} {bx : List (List AV)} (h1 : h[lid]? = some .dead) (h2 : K (.bool true) (h.set lid (.loop none))) : roundK lid K .normal (S d n l bx h) := ⟨h1, h2⟩
theorem roundS_ret {lid : Nat} {l : List (Nat × AV)} {bx : List (List AV)} (h1 : h[lid]? = some .dead) (h2 : K (.bool false) (h.set lid (.loop (some .ret)))) : roundK lid K .ret (S d n l bx h) := ⟨h1, h2⟩
def readyTo (x : Net) (k : Nat) : List Int := ((List.range k).filter fun i => (x.way[i]?).any (canX x)).map Int.ofNat
theorem readyTo_succ {x : Net} {k : Nat} (hk : k < x.way.length) : readyTo x (k + 1) = if canX x x.way[k] then readyTo x k ++ [(k : Int)] else readyTo x k := by
  unfold readyTo
  rw [List.range_succ, List.filter_append, List.map_append]
  simp only [List.filter_cons, List.filter_nil, List.getElem?_eq_getElem hk, Option.any_some]
  split <;> simp
theorem readyTo_len {x : Net} {k : Nat} : (readyTo x k).length ≤ k := by
  unfold readyTo
  rw [List.length_map]
  have := List.length_filter_le (fun i => (x.way[i]?).any (canX x)) (List.range k)
  rwa [List.length_range] at this
end
section
variable {C : CX} {h : List AObj} {K : AV → List AObj → Prop} {a b : Int} {x : Net} {A B D : AV} {cid : Nat} {z1 z2 z3 : Bool} {s1 s2 s3 : Nat}
theorem Chg.keep (hc : Chg h cid x A B D) {h' : List AObj} (hs : ∀ j, j < h.length → h'[j]? = h[j]?) : Chg h' cid x A B D :=
  ⟨(hs _ hc.clt).trans hc.cell, hc.way.more fun i hi => hs _ (hc.way.lt i hi), hc.cuts.more fun i hi => hs _ (hc.cuts.lt i hi), hc.tims.more fun i hi => hs _ (hc.tims.lt i hi), hc.apart⟩
theorem Chg.moreS (hc : Chg h cid x A B D) {h' : List AObj} (hs : ∀ j ∈ cid :: (vid A ++ vid B ++ vid D), h'[j]? = h[j]?) : Chg h' cid x A B D :=
  ⟨(hs _ (by simp)).trans hc.cell, hc.way.more fun i hi => hs _ (by simp [hi]), hc.cuts.more fun i hi => hs _ (by simp [hi]), hc.tims.more fun i hi => hs _ (by simp [hi]), hc.apart⟩
theorem ready47 {v : AV} (hv : v = .mptr cid 0) (hK : K (.fn 87 [.mptr h.length 0]) (h ++ [.cells [.mptr cid 0] 1])) : ACall C Pg 47 [v] h K := by
  subst hv
  refine run47 ?_
  simp -implicitDefEqProofs [b47, r47, rue, wrC, readC, -List.getD_eq_getElem?_getD, ru, ruc, rud, laid]
  exact hK
theorem bsl37q1 {K : AV → List AObj → Prop} : buildSliceK T false 37 1 [(0, .int .i64 a)] h K = K (.sl false 1 [intc a] .full) h := by
  simp [buildSliceK, T37, T3, fillA, AV.cells, AV.one, AV.nol, chunks, intc]
theorem lenI (x : Int) : (intc x).length = 1 := rfl
theorem e86 : lp (bodyOf Go.Proofs.Try.f86) 0 = .rangeFunc (.tmp 6) #[7] (rfA (lp (bodyOf Go.Proofs.Try.f86) 0)) (rfB (lp (bodyOf Go.Proofs.Try.f86) 0)) := by kernel_rfl
structure J86 (h : List AObj) (x : Net) (i : Nat) (h' : List AObj) (v : AV) : Prop where
  cell : h'[h.length]? = some (.cells [v] 1)
  lv : LV h' 1 intc v (readyTo x i)
  lo : h'[h.length + 1]? = some (.loop none)
  mp : h'[h.length + 2]? = some (mapO x.cuts x.cuts.length)
  old : ∀ j, j < h.length → h'[j]? = h[j]?
  vid : ∀ j ∈ vid v, h.length + 3 ≤ j
theorem seq86 {xid : Nat} (hd : x.cuts.Nodup) (hlw : x.way.length < 1000000) (hlc : x.cuts.length < 1000000) (hx : h[xid]? = some (.cells [.mptr cid 0] 1)) (hc : Chg h cid x A B D)
    (hK : ∀ v h', LV h' 1 intc v (readyTo x x.way.length) → (∀ j, j < h.length → h'[j]? = h[j]?) → (∀ j ∈ vid v, h.length ≤ j) → K v h') : ACall C Pg 86 [.sl true 0 [] .no, .fn 87 [.mptr xid 0]] h K := by
  refine run86 ?_
  simp -implicitDefEqProofs [b86, r86, rue, wrC, readC, -List.getD_eq_getElem?_getD, ru, ruc, rud, laid]
  rw [e86]
  refine AWp.rangeS f87 (by kernel_rfl) (by kernel_rfl) (gf := 87) (caps := [.mptr xid 0]) (by simp -implicitDefEqProofs [r86, rue, wrC, readC, -List.getD_eq_getElem?_getD, ru, ruc, rud, laid]) rfl rfl (l' := [(6, .fn 87 [.mptr xid 0]), (4, .sl true 0 [] .no), (2, .mptr h.length 0), (0, .sl true 0 [] .no), (1, .fn 87 [.mptr xid 0])]) (by simp [roundV, AV.nol, AV.nol.nols, AV.un, un_fn, un_no, un_mptr]) ?_
  have hxl := (List.getElem?_eq_some_iff.1 hx).1
  have hcl := hc.clt
  have el : (h ++ [AObj.cells [AV.sl true 0 [] .no] 1]).length = h.length + 1 := by simp
  have el2 : (h ++ [AObj.cells [AV.sl true 0 [] .no] 1] ++ [AObj.loop none]).length = h.length + 2 := by simp
  have hx2 : (h ++ [AObj.cells [AV.sl true 0 [] .no] 1] ++ [AObj.loop none])[xid]? = some (.cells [.mptr cid 0] 1) := by
    rw [List.append_assoc, List.getElem?_append_left hxl]; exact hx
  rw [el]
  refine ready87 (J := fun i h' => ∃ v, J86 h x i h' v) hd hlw hlc hx2 ((hc.app _).app _) ?_ ?_ ?_ ?_ ?_
  · rintro i h' ⟨v, j⟩
    exact ⟨by rw [el2]; exact j.mp, (j.old _ hxl).trans hx, hc.keep j.old⟩
  · refine ⟨.sl true 0 [] .no, ?_, .inl ⟨rfl, .inl rfl⟩, ?_, ?_, ?_, by simp [vid]⟩
    · simp
    · simp
    · simp
    · intro j hj
      rw [List.append_assoc, List.append_assoc, List.getElem?_append_left hj]
  · rintro i hi h' ⟨v, j⟩ hcan
    exact ⟨v, { j with lv := by rw [readyTo_succ hi, hcan]; exact j.lv }⟩
  · rintro i hi h' ⟨v, j⟩ hcan
    have jv := j.lv.all
    refine AYield.of_runs xc86q0 yc86q0 rfl j.lo (by simp) rfl (by simp [AV.owns, ow_no]) (fun ro => ?_) (l1 := [(5, .int .i64 i), (7, .int .i64 i), (6, .fn 87 [.mptr xid 0]), (4, .sl true 0 [] .no), (2, .mptr h.length 0), (0, .sl true 0 [] .no), (1, .fn 87 [.mptr xid 0])]) (fun ro => ?_)
    · simp -implicitDefEqProofs [x86q0, rue, wrC, readC, -List.getD_eq_getElem?_getD, ru, ruc, rud, laid]
    · have hc1 : (h'.set (h.length + 1) .dead)[h.length]? = some (.cells [v] 1) := by rw [List.getElem?_set_ne (by omega)]; exact j.cell
      simp -implicitDefEqProofs [y86q0, hc1, jv, rue, wrC, readC, -List.getD_eq_getElem?_getD, ru, ruc, rud, laid]
      rw [bsl37q1]
      simp -implicitDefEqProofs [jv, rue, wrC, readC, -List.getD_eq_getElem?_getD, ru, ruc, rud, laid]
      refine (j.lv.more (h' := h'.set (h.length + 1) .dead) fun i hi => ?_).append (y := (i : Int)) rfl (by decide) (fun _ => rfl) T37 rfl T3 rfl (by decide) (by decide) (by have := readyTo_len (x := x) (k := i); omega) (fun v' h'' hv' hf hvv hlt => ?_)
      · have := j.vid i hi
        rw [List.getElem?_set_ne (by omega)]
      · have hall := hv'.all
        have l2 := (List.getElem?_eq_some_iff.1 j.mp).1
        have lhs : (h'.set (h.length + 1) AObj.dead).length = h'.length := by simp
        have hlen := hf.len
        rw [lhs] at hlen
        have nv : ∀ i, i ≤ h.length + 2 → i ∉ vid v := fun i hi hm => by have := j.vid i hm; omega
        have sm : ∀ i, i ≤ h.length + 2 → i ≠ h.length + 1 → h''[i]? = h'[i]? := fun i hi hne => by
          rw [hf.same i (by omega) (nv i hi), List.getElem?_set_ne (by omega)]
        have hcell : h''[h.length]? = some (.cells [v] 1) := (sm _ (by omega) (by omega)).trans j.cell
        have hdead : h''[h.length + 1]? = some .dead := by
          rw [hf.same _ (by omega) (nv _ (by omega)), List.getElem?_set_self (by omega)]
        simp -implicitDefEqProofs [hall, jv, hcell, rue, wrC, readC, -List.getD_eq_getElem?_getD, ru, ruc, rud, laid]
        refine roundS_n ?_ ?_
        · rw [List.getElem?_set_ne (by omega)]; exact hdead
        refine Or.inl ⟨rfl, v', ?_⟩
        refine ⟨?_, ?_, ?_, ?_, ?_, ?_⟩
        · rw [List.getElem?_set_ne (by omega), List.getElem?_set_self (by omega)]
        · rw [readyTo_succ hi, hcan]
          refine hv'.more fun i hi => ?_
          have := hvv i hi
          rw [List.getElem?_set_ne ?_, List.getElem?_set_ne ?_]
          all_goals
            rcases this with h1 | h1
            · have := j.vid i h1; omega
            · omega
        · rw [List.getElem?_set_self (by simp; omega)]
        · rw [List.getElem?_set_ne (by omega), List.getElem?_set_ne (by omega), sm _ (by omega) (by omega)]
          exact j.mp
        · intro i hi
          rw [List.getElem?_set_ne (by omega), List.getElem?_set_ne (by omega), sm _ (by omega) (by omega)]
          exact j.old i hi
        · intro i hi
          rcases hvv i hi with h1 | h1
          · exact j.vid i h1
          · omega
  · rintro h' ⟨v, j⟩
    have jv := j.lv.all
    refine rangeS_n (by rw [el]; exact j.lo) ?_
    have hc1 : (h'.set (h.length + 1) .dead)[h.length]? = some (.cells [v] 1) := by rw [List.getElem?_set_ne (by omega)]; exact j.cell
    rw [el]
    simp -implicitDefEqProofs [r86, hc1, jv, rue, wrC, readC, -List.getD_eq_getElem?_getD, ru, ruc, rud, laid]
    refine hK v _ (j.lv.more fun i hi => ?_) (fun i hi => ?_) (fun i hi => ?_)
    · have := j.vid i hi
      rw [List.getElem?_set_ne (by omega)]
    · rw [List.getElem?_set_ne (by omega)]
      exact j.old i hi
    · have := j.vid i hi
      omega

theorem collect46 {xid : Nat} (hd : x.cuts.Nodup) (hlw : x.way.length < 1000000) (hlc : x.cuts.length < 1000000) (hx : h[xid]? = some (.cells [.mptr cid 0] 1)) (hc : Chg h cid x A B D)
    (hK : ∀ v h', LV h' 1 intc v (readyTo x x.way.length) → (∀ j, j < h.length → h'[j]? = h[j]?) → (∀ j ∈ vid v, h.length ≤ j) → K v h') : ACall C Pg 46 [.fn 87 [.mptr xid 0]] h K := by
  refine run46 ?_
  simp -implicitDefEqProofs [b46, r46, rue, wrC, readC, -List.getD_eq_getElem?_getD, ru, ruc, rud, laid]
  refine seq86 hd hlw hlc hx hc fun v h' hv ho hl => ?_
  have hall := hv.all
  simp -implicitDefEqProofs [r46, hall, rue, wrC, readC, -List.getD_eq_getElem?_getD, ru, ruc, rud, laid]
  exact hK v h' hv ho hl
theorem ready16 (hk : Nk z1 s1 z2 s2 z3 s3 x) (hc : x.cuts.length < 1000000)
    (h1 : ¬ WF x → K (.tup [.sl true 0 [] .no, .int .i64 2]) h)
    (h2 : WF x → ∀ z s, Slk z s 1 (readyTo x x.way.length).length → K (.tup [.sl z s ((readyTo x x.way.length).map intc) .no, .int .i64 0]) h) :
    ACall C Pg 16 [.agg [.int .i64 x.nodes, .int .i64 x.now, .int .i64 x.next, .sl z1 s1 (x.way.map Letter.c) .no, .sl z2 s2 (x.cuts.map Link.c) .no, .sl z3 s3 (x.timers.map Timer.c) .no]] h K := by
  refine ACall.closed (by simp [AV.deep.deeps, AV.deep, deep_L, deep_C, deep_T]) (ACall.weaken (ACall.freeze ?_))
  refine run16 ?_
  simp -implicitDefEqProofs [b16, r16, rue, wrC, readC, -List.getD_eq_getElem?_getD, ru, ruc, rud, laid]
  refine changing45 hk hc (fun hw => ?_) (fun hw cid A B D g hcid hge hch => ?_)
  · simp -implicitDefEqProofs [r16, rue, wrC, readC, -List.getD_eq_getElem?_getD, ru, ruc, rud, laid]
    exact .inl ⟨rfl, rfl, h1 hw⟩
  · simp -implicitDefEqProofs [r16, rue, wrC, readC, -List.getD_eq_getElem?_getD, ru, ruc, rud, laid]
    refine ready47 rfl ?_
    simp -implicitDefEqProofs [r16, rue, wrC, readC, -List.getD_eq_getElem?_getD, ru, ruc, rud, laid]
    refine collect46 (cuts_nodup hw.cr) (by have := hw.fl; omega) hc (by simp) (hch.app _) fun v h' hv ho hl => ?_
    have hall := hv.all
    simp -implicitDefEqProofs [r16, hall, rue, wrC, readC, -List.getD_eq_getElem?_getD, ru, ruc, rud, laid]
    have := hv.frz lenI (Q := fun v h' => (AV.tup [v, .int .i64 0]).weak.deep = true ∧ (AV.tup [v, .int .i64 0]).weak.owns = false ∧ K (AV.tup [v, .int .i64 0]).weak h) (fun z s v' h' k3 e3 _ _ _ => by
      simp only [AV.weak, AV.weak.weaks, e3]
      exact ⟨by simp [AV.deep.deeps, AV.deep, deep_I], rfl, h2 hw z s k3⟩)
    rcases this with h3 | ⟨id, cs, n, _, hid, hlt, h3⟩
    · exact .inl h3
    · exact .inr ⟨id, cs, n, hid, hlt, h3⟩

theorem e76 : lp (bodyOf Go.Proofs.Try.f76) 0 = .rangeFunc (.tmp 13) #[14] (rfA (lp (bodyOf Go.Proofs.Try.f76) 0)) (rfB (lp (bodyOf Go.Proofs.Try.f76) 0)) := by kernel_rfl
theorem deliver76 {ii : Int} (hd : x.cuts.Nodup) (hlw : x.way.length < 1000000) (hlc : x.cuts.length < 1000000) (hc : Chg h cid x A B D)
    (hK1 : ¬ (0 ≤ ii ∧ ii < x.way.length) → ∀ g, K (.tup [.agg (Letter.c ⟨0, 0, 0, 0, []⟩), .int .i64 4]) (h ++ g))
    (hK2 : ∀ i (hi : i < x.way.length), ii = (i : Int) → canX x x.way[i] = false → ∀ g, K (.tup [.agg (Letter.c ⟨0, 0, 0, 0, []⟩), .int .i64 6]) (h ++ g))
    (hK : ∀ i (hi : i < x.way.length), ii = (i : Int) → canX x x.way[i] = true → ∀ h' A', Fr (cid :: vid A) h h' → Chg h' cid (dropX x i) A' B D → vid A' = vid A → K (.tup [.agg (Letter.c x.way[i]), .int .i64 0]) h') : ACall C Pg 76 [.mptr cid 0, .int .i64 ii] h K := by
  have ha := hc.all
  refine run76 ?_
  simp -implicitDefEqProofs [b76, r76, ha, rue, wrC, readC, -List.getD_eq_getElem?_getD, ru, ruc, rud, laid]
  have hB : ∀ g, Chg (h ++ g) cid x A B D := fun g => hc.app g
  have hsh : ∀ (a : AObj) (p : List AObj) (k : Nat), (h ++ p)[h.length + k]? = p[k]? := fun a p k => by rw [List.getElem?_append_right (by omega)]; congr 1; omega
  refine has112 (hB _) ?_
  simp -implicitDefEqProofs [r76, rue, wrC, readC, -List.getD_eq_getElem?_getD, ru, ruc, rud, laid]
  refine condV_split (fun g => ?_) (fun g => ?_)
  · simp -implicitDefEqProofs [r76, rue, wrC, readC, -List.getD_eq_getElem?_getD, ru, ruc, rud, laid]
    exact hK1 (by simp at g; omega) _
  · have g0 : 0 ≤ ii ∧ ii < x.way.length := by simpa using g
    obtain ⟨i, rfl⟩ := Int.eq_ofNat_of_zero_le g0.1
    have hi : i < x.way.length := by omega
    simp -implicitDefEqProofs [r76, rue, wrC, readC, -List.getD_eq_getElem?_getD, ru, ruc, rud, laid]
    refine ready47 rfl ?_
    simp -implicitDefEqProofs [r76, rue, wrC, readC, -List.getD_eq_getElem?_getD, ru, ruc, rud, laid]
    rw [e76]
    refine AWp.rangeS f87 (by kernel_rfl) (by kernel_rfl) (gf := 87) (caps := [.mptr (h.length + 4) 0]) (by simp -implicitDefEqProofs [r76, rue, wrC, readC, -List.getD_eq_getElem?_getD, ru, ruc, rud, laid]) rfl rfl (by simp [roundV, AV.nol, AV.nol.nols, AV.un, un_fn, un_no, un_mptr]; rfl) ?_
    generalize hP : [AObj.cells [AV.mptr cid 0] 1, AObj.cells [AV.int .i64 i] 1, AObj.cells [AV.int .i64 0, AV.int .i64 0, AV.int .i64 0, AV.int .i64 0, AV.str []] 5, AObj.cells [AV.int .i64 0] 1, AObj.cells [AV.mptr cid 0] 1] = P
    have eP : P.length = 5 := by rw [← hP]; rfl
    have el : (h ++ P).length = h.length + 5 := by simp [eP]
    have el2 : (h ++ P ++ [AObj.loop none]).length = h.length + 6 := by simp [eP]
    rw [el]
    have g4 : (h ++ P ++ [AObj.loop none])[h.length + 4]? = some (.cells [.mptr cid 0] 1) := by rw [← hP]; simp
    refine ready87 (J := fun k h' => h' = h ++ P ++ [AObj.loop none] ++ [mapO x.cuts x.cuts.length] ∧ ∀ j (hj : j < x.way.length), j < k → canX x x.way[j] = true → j ≠ i) hd hlw hlc g4 ((hB _).app _) ?_ ?_ ?_ ?_ ?_
    · rintro k h' ⟨rfl, _⟩
      refine ⟨by rw [el2]; simp [eP], ?_, ((hB _).app _).app _⟩
      rw [List.getElem?_append_left (by omega)]
      exact g4
    · exact ⟨rfl, fun j _ hj => by omega⟩
    · rintro k hk h' ⟨rfl, hj⟩ hcan
      refine ⟨rfl, fun j hj1 hj2 hj3 => ?_⟩
      by_cases e : j = k
      · subst e; rw [hcan] at hj3; cases hj3
      · exact hj j hj1 (by omega) hj3
    · rintro k hk h' ⟨rfl, hj⟩ hcan
      have hs : (h ++ P ++ [AObj.loop none] ++ [mapO x.cuts x.cuts.length]).set (h.length + 5) .dead = h ++ [AObj.cells [AV.mptr cid 0] 1, AObj.cells [AV.int .i64 i] 1, AObj.cells [AV.int .i64 0, AV.int .i64 0, AV.int .i64 0, AV.int .i64 0, AV.str []] 5, AObj.cells [AV.int .i64 0] 1, AObj.cells [AV.mptr cid 0] 1, AObj.dead, mapO x.cuts x.cuts.length] := by
        rw [← hP]; simp
      refine AYield.of_runs xc76q0 yc76q0 rfl (by rw [← hP]; simp) (by simp) rfl (by simp [AV.owns, ow_no]) (fun ro => ?_) (l1 := [(6, .int .i64 k), (14, .int .i64 k), (13, .fn 87 [.mptr (h.length + 4) 0]), (12, .mptr cid 0), (10, .bool false), (10, .bool !decide (i < x.way.length)), (9, .bool (decide (i < x.way.length))), (8, .int .i64 i), (7, .mptr cid 0), (5, .mptr (h.length + 3) 0), (4, .mptr (h.length + 2) 0), (3, .mptr (h.length + 1) 0), (2, .mptr h.length 0), (0, .mptr cid 0), (1, .int .i64 i)]) (fun ro => ?_)
      · simp -implicitDefEqProofs [x76q0, rue, wrC, readC, -List.getD_eq_getElem?_getD, ru, ruc, rud, laid]
      · rw [hs]
        simp -implicitDefEqProofs [y76q0, rue, wrC, readC, -List.getD_eq_getElem?_getD, ru, ruc, rud, laid]
        refine condV_split (fun g => ?_) (fun g => ?_)
        · have e : k = i := by have := of_decide_eq_true g; omega
          subst e
          simp -implicitDefEqProofs [r76, rue, wrC, readC, -List.getD_eq_getElem?_getD, ru, ruc, rud, laid]
          generalize hQ : [AObj.cells [AV.mptr cid 0] 1, AObj.cells [AV.int .i64 k] 1, AObj.cells [AV.int .i64 0, AV.int .i64 0, AV.int .i64 0, AV.int .i64 0, AV.str []] 5, AObj.cells [AV.int .i64 0] 1, AObj.cells [AV.mptr cid 0] 1, AObj.dead, mapO x.cuts x.cuts.length] = Q
          have eQ : Q.length = 7 := by rw [← hQ]; rfl
          refine lose78 (hB _) hlw (fun hn => absurd g0 hn) (fun j hj1 hj2 h2 A' hf hc2 hv => ?_)
          have e : j = k := by omega
          subst e
          have q2 : (h ++ Q)[h.length + 2]? = some (.cells [AV.int .i64 0, AV.int .i64 0, AV.int .i64 0, AV.int .i64 0, AV.str []] 5) := by rw [← hQ]; simp
          have q3 : (h ++ Q)[h.length + 3]? = some (.cells [AV.int .i64 0] 1) := by rw [← hQ]; simp
          have q5 : (h ++ Q)[h.length + 5]? = some .dead := by rw [← hQ]; simp
          have l2 := hf.len
          have lQ : (h ++ Q).length = h.length + 7 := by simp [eQ]
          rw [lQ] at l2
          have hcl := hc.clt
          have hal := hc.way.lt
          have hbl := hc.cuts.lt
          have hdl := hc.tims.lt
          have nn : ∀ i, h.length ≤ i → i ∉ cid :: vid A := fun i hi hm => by
            rcases List.mem_cons.1 hm with h1 | h1
            · omega
            · have := hal i h1; omega
          have r2 := (hf.same (h.length + 2) (by omega) (nn _ (by omega))).trans q2
          have r3 := (hf.same (h.length + 3) (by omega) (nn _ (by omega))).trans q3
          have r5 := (hf.same (h.length + 5) (by omega) (nn _ (by omega))).trans q5
          have r3' : ∀ o, (h2.set (h.length + 2) o)[h.length + 3]? = some (.cells [AV.int .i64 0] 1) := fun o => by rw [List.getElem?_set_ne (by omega)]; exact r3
          simp -implicitDefEqProofs [Letter.c, r2, r3, r3', rue, wrC, readC, -List.getD_eq_getElem?_getD, ru, ruc, rud, laid]
          refine roundS_ret ?_ ?_
          · rw [List.getElem?_set_ne (by omega), List.getElem?_set_ne (by omega)]; exact r5
          refine Or.inr ⟨rfl, ?_⟩
          refine rangeS_ret ?_ ?_
          · rw [el, List.getElem?_set_self (by simp; omega)]
          · rw [el]
            have f2 : ((((h2.set (h.length + 2) (.cells (Letter.c x.way[j]) 5)).set (h.length + 3) (.cells [.int .i64 0] 1)).set (h.length + 5) (.loop (some .ret))).set (h.length + 5) .dead)[h.length + 2]? = some (.cells (Letter.c x.way[j]) 5) := by
              rw [List.getElem?_set_ne (by omega), List.getElem?_set_ne (by omega), List.getElem?_set_ne (by omega), List.getElem?_set_self (by omega)]
            have f3 : ((((h2.set (h.length + 2) (.cells (Letter.c x.way[j]) 5)).set (h.length + 3) (.cells [.int .i64 0] 1)).set (h.length + 5) (.loop (some .ret))).set (h.length + 5) .dead)[h.length + 3]? = some (.cells [.int .i64 0] 1) := by
              rw [List.getElem?_set_ne (by omega), List.getElem?_set_ne (by omega), List.getElem?_set_self (by simp; omega)]
            have fo : ∀ i, i < h.length → ((((h2.set (h.length + 2) (.cells (Letter.c x.way[j]) 5)).set (h.length + 3) (.cells [.int .i64 0] 1)).set (h.length + 5) (.loop (some .ret))).set (h.length + 5) .dead)[i]? = h2[i]? := fun i hi => by
              rw [List.getElem?_set_ne (by omega), List.getElem?_set_ne (by omega), List.getElem?_set_ne (by omega), List.getElem?_set_ne (by omega)]
            have hk9 := hK j hi rfl hcan ((((h2.set (h.length + 2) (.cells (Letter.c x.way[j]) 5)).set (h.length + 3) (.cells [.int .i64 0] 1)).set (h.length + 5) (.loop (some .ret))).set (h.length + 5) .dead) A' ⟨by simp; omega, fun i hi hn => ?_⟩ (hc2.moreS fun i hi => ?_) hv
            · simp only [Letter.c] at f2 f3 hk9
              generalize ((((h2.set (h.length + 2) (AObj.cells [AV.int .i64 x.way[j].id, AV.int .i64 x.way[j].fr, AV.int .i64 x.way[j].to, AV.int .i64 x.way[j].rdy, AV.str x.way[j].data] 5)).set (h.length + 3) (.cells [.int .i64 0] 1)).set (h.length + 5) (.loop (some .ret))).set (h.length + 5) .dead) = F at f2 f3 hk9 ⊢
              simp -implicitDefEqProofs [r76, f2, f3, rue, wrC, readC, -List.getD_eq_getElem?_getD, ru, ruc, rud, laid]
              exact hk9
            · rw [fo i hi, hf.same i (by omega) hn, List.getElem?_append_left hi]
            · refine fo i ?_
              simp only [hv, List.mem_cons, List.mem_append] at hi
              rcases hi with h1 | (h1 | h1) | h1
              · omega
              · exact hal i h1
              · exact hbl i h1
              · exact hdl i h1
        · have e : k ≠ i := by have := of_decide_eq_false g; omega
          simp -implicitDefEqProofs [r76, rue, wrC, readC, -List.getD_eq_getElem?_getD, ru, ruc, rud, laid]
          refine roundS_n (by simp) (Or.inl ⟨rfl, ?_, fun j h1 h2 h3 => ?_⟩)
          · rw [← hP]; simp
          · by_cases e2 : j = k
            · omega
            · exact hj j h1 (by omega) h3
    · rintro h' ⟨rfl, hj⟩
      refine rangeS_n (by rw [el, ← hP]; simp) ?_
      rw [el]
      have hs : (h ++ P ++ [AObj.loop none] ++ [mapO x.cuts x.cuts.length]).set (h.length + 5) .dead = h ++ (P ++ [.dead, mapO x.cuts x.cuts.length]) := by
        rw [← hP]; simp
      rw [hs, ← hP]
      simp -implicitDefEqProofs [r76, rue, wrC, readC, -List.getD_eq_getElem?_getD, ru, ruc, rud, laid]
      refine hK2 i hi rfl ?_ _
      cases hcan : canX x x.way[i] with
      | false => rfl
      | true => exact absurd rfl (hj i hi hi hcan)

def zeroL : AV := .agg [.int .i64 0, .int .i64 0, .int .i64 0, .int .i64 0, .str []]
theorem deliver35 {ii : Int} (hk : Nk z1 s1 z2 s2 z3 s3 x) (hc : x.cuts.length < 1000000)
    (h1 : ¬ WF x → K (.tup [zeroN, zeroL, .int .i64 2]) h)
    (h2 : WF x → ¬ (0 ≤ ii ∧ ii < x.way.length) → K (.tup [zeroN, zeroL, .int .i64 4]) h)
    (h3 : WF x → ∀ i (hi : i < x.way.length), ii = (i : Int) → canX x x.way[i] = false → K (.tup [zeroN, zeroL, .int .i64 6]) h)
    (h4 : WF x → ∀ i (hi : i < x.way.length), ii = (i : Int) → canX x x.way[i] = true → ∀ z1 s1 z2 s2 z3 s3, Nk z1 s1 z2 s2 z3 s3 (dropX x i) → K (.tup [.agg [.int .i64 (dropX x i).nodes, .int .i64 (dropX x i).now, .int .i64 (dropX x i).next, .sl z1 s1 ((dropX x i).way.map Letter.c) .no, .sl z2 s2 ((dropX x i).cuts.map Link.c) .no, .sl z3 s3 ((dropX x i).timers.map Timer.c) .no], .agg (Letter.c x.way[i]), .int .i64 0]) h) :
    ACall C Pg 35 [.agg [.int .i64 x.nodes, .int .i64 x.now, .int .i64 x.next, .sl z1 s1 (x.way.map Letter.c) .no, .sl z2 s2 (x.cuts.map Link.c) .no, .sl z3 s3 (x.timers.map Timer.c) .no], .int .i64 ii] h K := by
  refine ACall.closed (by simp [AV.deep.deeps, AV.deep, deep_L, deep_C, deep_T]) (ACall.weaken (ACall.freeze (ACall.freeze (ACall.freeze ?_))))
  refine run35 ?_
  simp -implicitDefEqProofs [b35, r35, rue, wrC, readC, -List.getD_eq_getElem?_getD, ru, ruc, rud, laid]
  refine changing45 hk hc (fun hw => ?_) (fun hw cid A B D g hcid hge hch => ?_)
  · simp -implicitDefEqProofs [r35, rue, wrC, readC, -List.getD_eq_getElem?_getD, ru, ruc, rud, laid]
    exact frz3 ⟨rfl, rfl, h1 hw⟩
  · have ha := hch.all
    simp -implicitDefEqProofs [r35, ha, rue, wrC, readC, -List.getD_eq_getElem?_getD, ru, ruc, rud, laid]
    refine deliver76 (cuts_nodup hw.cr) (by have := hw.fl; omega) hc hch (fun he g2 => ?_) (fun i hi he hcan g2 => ?_) (fun i hi he hcan h' A' hf hc2 hv => ?_)
    · simp -implicitDefEqProofs [r35, Letter.c, rue, wrC, readC, -List.getD_eq_getElem?_getD, ru, ruc, rud, laid]
      refine done73 (hch.app g2) (fun _ => ?_) (fun h0 => by cases h0)
      simp -implicitDefEqProofs [r35, rue, wrC, readC, -List.getD_eq_getElem?_getD, ru, ruc, rud, laid]
      refine re35q0 ?_
      simp -implicitDefEqProofs [g35q0, r35, rue, wrC, readC, -List.getD_eq_getElem?_getD, ru, ruc, rud, laid]
      repeat' (first | (refine And.intro ?_ ?_))
      all_goals exact frz3 ⟨rfl, rfl, h2 hw he⟩
    · simp -implicitDefEqProofs [r35, Letter.c, rue, wrC, readC, -List.getD_eq_getElem?_getD, ru, ruc, rud, laid]
      refine done73 (hch.app g2) (fun _ => ?_) (fun h0 => by cases h0)
      simp -implicitDefEqProofs [r35, rue, wrC, readC, -List.getD_eq_getElem?_getD, ru, ruc, rud, laid]
      refine re35q0 ?_
      simp -implicitDefEqProofs [g35q0, r35, rue, wrC, readC, -List.getD_eq_getElem?_getD, ru, ruc, rud, laid]
      repeat' (first | (refine And.intro ?_ ?_))
      all_goals exact frz3 ⟨rfl, rfl, h3 hw i hi he hcan⟩
    · have ha2 := hc2.all
      simp -implicitDefEqProofs [r35, Letter.c, rue, wrC, readC, -List.getD_eq_getElem?_getD, ru, ruc, rud, laid]
      refine done73 hc2 (fun h0 => absurd rfl h0) (fun _ => ?_)
      simp -implicitDefEqProofs [r35, ha2, rue, wrC, readC, -List.getD_eq_getElem?_getD, ru, ruc, rud, laid]
      refine re35q0 ?_
      simp -implicitDefEqProofs [g35q0, r35, ha2, rue, wrC, readC, -List.getD_eq_getElem?_getD, ru, ruc, rud, laid]
      repeat' (first | (refine And.intro ?_ ?_))
      all_goals exact fin (K := fun r => K r h) hc2 (rest := [_, _]) rfl (fun _ _ => rfl) rfl fun z1 s1 z2 s2 z3 s3 hk2 => h4 hw i hi he hcan z1 s1 z2 s2 z3 s3 hk2
end
end Go.Ab
end
section
/- Acts. -/
set_option linter.unusedSimpArgs false
set_option linter.unusedVariables false
set_option maxRecDepth 100000
set_option maxHeartbeats 4000000
namespace Go.Ab

structure Act where
  (k a b n : Int) (data : List UInt8)
  deriving DecidableEq
def Act.c (a : Act) : List AV := [.int .i64 a.k, .int .i64 a.a, .int .i64 a.b, .int .i64 a.n, .str a.data]
def seenC (a : Act) (e now : Int) (l : Letter) (ts : AV) : List AV := [.int .i64 a.k, .int .i64 a.a, .int .i64 a.b, .int .i64 a.n, .str a.data, .int .i64 e, .int .i64 now, .int .i64 l.id, .int .i64 l.fr, .int .i64 l.to, .int .i64 l.rdy, .str l.data, ts]
def noAct : Act := ⟨0, 0, 0, 0, []⟩
def noLetter : Letter := ⟨0, 0, 0, 0, []⟩
def actN (k : Int) : FuncId := if k = 1 then 101 else if k = 2 then 102 else if k = 3 then 103 else if k = 4 then 104 else if k = 5 then 106 else if k = 6 then 107 else if k = 7 then 108 else if k = 8 then 109 else 110
def actT (k : Int) : TypeId := if 1 ≤ k ∧ k ≤ 5 then 149 else if k = 10 then 152 else 150
def actM (k : Int) : FuncId := if 1 ≤ k ∧ k ≤ 5 then 144 else if k = 10 then 146 else 145
def actF (id : Nat) (k : Int) : AV := if 1 ≤ k ∧ k ≤ 9 then .fn (actN k) [.mptr id 0] else if k = 10 then .agg [] else .fn 111 []
def actV (id : Nat) (k : Int) : AV := .iface (actT k) (actF id k)
def showsK (k : Int) : Bool := decide (1 ≤ k ∧ k ≤ 5 ∨ k = 10)
theorem m149 : AMethod Pg 149 "understory/net.does" 144 := ⟨fun v w => by kernel_rfl⟩
theorem m150 : AMethod Pg 150 "understory/net.does" 145 := ⟨fun v w => by kernel_rfl⟩
theorem m152 : AMethod Pg 152 "understory/net.does" 146 := ⟨fun v w => by kernel_rfl⟩
theorem actM_ok (k : Int) : AMethod Pg (actT k) "understory/net.does" (actM k) := by
  unfold actT actM
  split
  · exact m149
  · split
    · exact m152
    · exact m150
theorem actF_un {id : Nat} {k : Int} : (actF id k).un = actF id k := by
  unfold actF
  split
  · rfl
  · split <;> rfl
theorem actF_nol {id : Nat} {k : Int} : (actF id k).nol = true := by
  unfold actF
  split
  · rfl
  · split <;> rfl
theorem bld152 {K : AV → Prop} : agK (abuild T 152 []) K = K (.agg []) := rfl
theorem accU_all {α : Type} {sz : Nat} {c : α → List AV} {l : List α} : (accU sz c l).un = accU sz c l ∧ (accU sz c l).nol = true ∧ (accU sz c l).one = true ∧ (accU sz c l).owns = false ∧ (accU sz c l).cells = [accU sz c l] ∧ (accU sz c l).scells = [accU sz c l] := by
  unfold accU
  split <;> exact ⟨rfl, rfl, rfl, rfl, rfl, rfl⟩

section
variable {C : CX} {h : List AObj} {K : AV → List AObj → Prop} {x : Net} {A B D : AV} {cid : Nat} {z1 z2 z3 : Bool} {s1 s2 s3 : Nat}
theorem bld55q13 {K : AV → Prop} {e a b c d : Int} {y : List UInt8} : agK (abuild T 55 [(1, .int .i64 e), (3, .agg [.int .i64 a, .int .i64 b, .int .i64 c, .int .i64 d, .str y])]) K = K (.agg [.int .i64 0, .int .i64 0, .int .i64 0, .int .i64 0, .str [], .int .i64 e, .int .i64 0, .int .i64 a, .int .i64 b, .int .i64 c, .int .i64 d, .str y, .sl true 0 [] .own]) := rfl
theorem bld55q1 {K : AV → Prop} {e : Int} : agK (abuild T 55 [(1, .int .i64 e)]) K = K (.agg [.int .i64 0, .int .i64 0, .int .i64 0, .int .i64 0, .str [], .int .i64 e, .int .i64 0, .int .i64 0, .int .i64 0, .int .i64 0, .int .i64 0, .str [], .sl true 0 [] .own]) := rfl
theorem bld55q0 {K : AV → Prop} : agK (abuild T 55 []) K = K (.agg [.int .i64 0, .int .i64 0, .int .i64 0, .int .i64 0, .str [], .int .i64 0, .int .i64 0, .int .i64 0, .int .i64 0, .int .i64 0, .int .i64 0, .str [], .sl true 0 [] .own]) := rfl

theorem actOf74 {a : Act} (hK : K (actV h.length a.k) (h ++ [.cells (Act.c a) 5])) : ACall C Pg 74 [.agg (Act.c a)] h K := by
  refine run74 ?_
  simp -implicitDefEqProofs [b74, r74, Act.c, rue, wrC, readC, -List.getD_eq_getElem?_getD, ru, ruc, rud, laid]
  repeat' (first | (refine guardV_split (fun g => ?_) (fun g => ?_) <;> try simp -implicitDefEqProofs [r74, bld152, Act.c, rue, -List.getD_eq_getElem?_getD, ru, ruc, rud]) | (refine condV_split (fun g => ?_) (fun g => ?_) <;> try simp -implicitDefEqProofs [r74, bld152, Act.c, rue, -List.getD_eq_getElem?_getD, ru, ruc, rud]))
  all_goals simp only [decide_eq_true_eq, decide_eq_false_iff_not] at *
  all_goals simp only [actV, Act.c] at hK
  all_goals first
    | (simp_all [actT, actF, actN]; done)
    | (have n1 : ¬ (1 ≤ a.k ∧ a.k ≤ 5) := by omega
       have n2 : ¬ a.k = 10 := by omega
       have n3 : ¬ (1 ≤ a.k ∧ a.k ≤ 9) := by omega
       simp only [actT, actF, if_neg n1, if_neg n2, if_neg n3] at hK
       exact hK)
theorem T149 : T.get 149 = some (TI.mk .func 1 8 [.nilf] []) := rfl
theorem T152 : T.get 152 = some (TI.mk (.struct []) 0 0 [] []) := rfl
theorem ldc55 {bx : List (List AV)} {i off : Nat} {K : AV → Prop} : loadK T 55 (.lptr i off) bx h K = getBx bx i (loadC 13 off K) := by simp only [loadK, show T.get 55 = some _ from rfl, getBx]; cases bx[i]? <;> simp [TD.known, TD.isAgg, loadC]
theorem shows75 {id : Nat} {k : Int} (hK : K (.bool (showsK k)) h) : ACall C Pg 75 [actV id k] h K := by
  refine run75 ?_ rfl
  by_cases h1 : 1 ≤ k ∧ k ≤ 5
  · have hs : showsK k = true := by simp [showsK, h1]
    rw [hs] at hK
    simp -implicitDefEqProofs [b75, r75, T149, T152, TD.isAgg, actV, actF_un, actT, tasK, h1, and_self, if_true, rue, wrC, readC, -List.getD_eq_getElem?_getD, ru, ruc, rud, laid]
    exact hK
  · by_cases h2 : k = 10
    · have hs : showsK k = true := by simp [showsK, h2]
      rw [hs] at hK
      subst h2
      simp -implicitDefEqProofs [b75, r75, T149, T152, TD.isAgg, actV, actF_un, actT, tasK, rue, wrC, readC, -List.getD_eq_getElem?_getD, ru, ruc, rud, laid]
      exact hK
    · have hs : showsK k = false := by simp [showsK, h2]; omega
      rw [hs] at hK
      simp -implicitDefEqProofs [b75, r75, T149, T152, TD.isAgg, actV, actF_un, actT, tasK, if_neg h1, if_neg h2, rue, wrC, readC, -List.getD_eq_getElem?_getD, ru, ruc, rud, laid]
      exact hK
def seenK (K : AV → List AObj → Prop) (r : AV) (h' : List AObj) : Prop := ∃ l e, r = .tup [.agg (Letter.c l), .int .i64 e] ∧ K (.agg (seenC noAct e 0 l (.sl true 0 [] .no))) h'
theorem does144 {f : FuncId} {aid : Nat} (hc : ACall C Pg f [.mptr cid 0, .mptr aid 0] h (seenK K)) : ACall C Pg 144 [.fn f [.mptr aid 0], .mptr cid 0] h K := by
  refine run144 ?_
  simp -implicitDefEqProofs [b144, r144, rue, wrC, readC, -List.getD_eq_getElem?_getD, ru, ruc, rud, laid]
  refine hc.mono fun r h' hr => ?_
  obtain ⟨l, e, rfl, hK⟩ := hr
  simp -implicitDefEqProofs [r144, Letter.c, bld55q13, ldc55, rue, wrC, readC, -List.getD_eq_getElem?_getD, ru, ruc, rud, laid]
  exact hK
end
end Go.Ab
end
section
/- The laws' arguments: networks, acts, logs. -/
set_option linter.unusedSimpArgs false
set_option linter.unusedVariables false
set_option maxRecDepth 100000
set_option maxHeartbeats 4000000
namespace Go.Ab

def inI (n : Int) : Prop := -9223372036854775808 ≤ n ∧ n ≤ 9223372036854775807
section
variable {P : Program} {m t e : Nat} {avs : List AV}
theorem isT_int (hu : P.underlying t = some (.int .i64)) (h : isT P (m + 1) t avs) : ∃ n, avs = [.int .i64 n] ∧ inI n := by
  unfold isT at h
  rw [hu] at h
  obtain ⟨n, rfl, hw⟩ := h
  refine ⟨n, rfl, ?_⟩
  have h1 : (IntKind.min .i64) = -9223372036854775808 := by decide
  have h2 : (IntKind.max .i64) = 9223372036854775807 := by decide
  unfold Lit.wf at hw
  rw [Bool.and_eq_true, decide_eq_true_eq, decide_eq_true_eq, h1, h2] at hw
  exact hw
theorem isT_str (hu : P.underlying t = some .string) (h : isT P (m + 1) t avs) : ∃ s, avs = [.str s] ∧ s.length ≤ maxLen := by
  unfold isT at h
  rw [hu] at h
  exact h
theorem isT_slice {α : Type} {c : α → List AV} {p : α → Prop} (hu : P.underlying t = some (.slice e)) (hc : ∀ a, isT P m e a → ∃ x, a = c x ∧ p x) (h : isT P (m + 1) t avs) :
    ∃ (z : Bool) (s : Nat) (l : List α), avs = [.sl z s (l.map c) .no] ∧ Slk z s (P.cellsOf e) l.length ∧ l.length ≤ maxLen ∧ ∀ x ∈ l, p x := by
  unfold isT at h
  rw [hu] at h
  obtain ⟨z, s, es, rfl, h1, h2, h3, h4⟩ := h
  have : ∃ l : List α, es = l.map c ∧ ∀ x ∈ l, p x := by
    clear h1 h3
    induction es with
    | nil => exact ⟨[], rfl, by simp⟩
    | cons a r ih =>
      obtain ⟨x, rfl, hx⟩ := hc a (h4 a (by simp))
      obtain ⟨l, rfl, hl⟩ := ih (fun y hy => h4 y (by simp [hy]))
      exact ⟨x :: l, rfl, by simpa using ⟨hx, hl⟩⟩
  obtain ⟨l, rfl, hl⟩ := this
  refine ⟨z, s, l, rfl, ⟨fun hz => ?_, h2⟩, by simpa using h3, hl⟩
  have := h1 hz
  simpa using this
theorem isT_struct {fs : Array Field} (hu : P.underlying t = some (.struct fs)) (h : isT P (m + 1) t avs) : fieldsT (isT P m) fs.toList avs := by
  unfold isT at h
  rw [hu] at h
  exact h
theorem isT_f {F : Nat → List AV → Prop} {f : Field} {r : List Field} (h : fieldsT F (f :: r) avs) : ∃ a b, avs = a ++ b ∧ F f.type a ∧ fieldsT F r b := h
theorem isT_n {F : Nat → List AV → Prop} (h : fieldsT F [] avs) : avs = [] := h
end
def Letter.inI (l : Letter) : Prop := Go.Ab.inI l.id ∧ Go.Ab.inI l.fr ∧ Go.Ab.inI l.to ∧ Go.Ab.inI l.rdy
def Link.inI (l : Link) : Prop := Go.Ab.inI l.a ∧ Go.Ab.inI l.b
def Timer.inI (l : Timer) : Prop := Go.Ab.inI l.tm ∧ Go.Ab.inI l.nd ∧ Go.Ab.inI l.tg
def Act.inI (l : Act) : Prop := Go.Ab.inI l.k ∧ Go.Ab.inI l.a ∧ Go.Ab.inI l.b ∧ Go.Ab.inI l.n
structure Net.inI (x : Net) : Prop where
  nodes : Go.Ab.inI x.nodes
  now : Go.Ab.inI x.now
  next : Go.Ab.inI x.next
  way : ∀ l ∈ x.way, l.inI
  cuts : ∀ l ∈ x.cuts, l.inI
  timers : ∀ l ∈ x.timers, l.inI
section
variable {m : Nat} {avs : List AV}
open Go.Proofs
theorem u9 : Pg.underlying 9 = some .string := by kernel_rfl
theorem u3 : Pg.underlying 3 = some (.int .i64) := by kernel_rfl
theorem isAct (h : isT Pg (m + 2) 53 avs) : ∃ l : Act, avs = Act.c l ∧ l.inI := by
  have := isT_struct Try.underlying53 h
  obtain ⟨a1, r1, rfl, h1, this⟩ := isT_f this
  obtain ⟨a2, r2, rfl, h2, this⟩ := isT_f this
  obtain ⟨a3, r3, rfl, h3, this⟩ := isT_f this
  obtain ⟨a4, r4, rfl, h4, this⟩ := isT_f this
  obtain ⟨a5, r5, rfl, h5, this⟩ := isT_f this
  obtain rfl := isT_n this
  obtain ⟨n1, rfl, w1⟩ := isT_int u3 h1
  obtain ⟨n2, rfl, w2⟩ := isT_int u3 h2
  obtain ⟨n3, rfl, w3⟩ := isT_int u3 h3
  obtain ⟨n4, rfl, w4⟩ := isT_int u3 h4
  obtain ⟨s, rfl, _⟩ := isT_str u9 h5
  exact ⟨⟨n1, n2, n3, n4, s⟩, rfl, w1, w2, w3, w4⟩
end
theorem spot_none {P : Program} {w : World} {r : Reach} {b u : Nat} {a : Addr} {l c : Nat} (h : Cell.okWide P w r b u (.slice (some a) l c)) : a.spot = none := by
  unfold Cell.okWide at h
  split at h
  all_goals first
    | (rename_i heq; cases heq; done)
    | skip
  unfold Cell.ok at h
  split at h
  all_goals first
    | (rename_i heq; cases heq; done)
    | exact h.elim
    | skip
  · rename_i heq
    cases heq
    exact h.2.2.2.1
end Go.Ab
end
section
/- The laws' arguments: slices. -/
set_option linter.unusedSimpArgs false
set_option linter.unusedVariables false
namespace Go.Ab
theorem slice_spots {P : Program} {w : World} {r : Reach} {b t e : Nat} {v : Value} (hu : P.underlying t = some (.slice e)) (h : Value.okWide P w r b t v) : ∀ a l c, Value.slice (some a) l c ∈ [v] → a.spot = none := by
  intro a l c hm
  rw [List.mem_singleton] at hm
  subst hm
  unfold Value.okWide at h
  rw [hu] at h
  exact spot_none h
theorem slice_cells {P : Program} {w : World} {r : Reach} {b t e : Nat} {v : Value} (hu : P.underlying t = some (.slice e)) (h : Value.okWide P w r b t v) : v.cells.toList = [v] := by
  unfold Value.okWide at h
  rw [hu] at h
  cases v
  case agg cs => simp [Cell.okWide, Cell.ok, hu] at h
  all_goals rfl
theorem isT_single {P : Program} {m t e : Nat} {avs : List AV} (hu : P.underlying t = some (.slice e)) (h : isT P (m + 1) t avs) : ∃ av, avs = [av] := by
  unfold isT at h
  rw [hu] at h
  obtain ⟨z, s, es, rfl, _⟩ := h
  exact ⟨_, rfl⟩
end Go.Ab
end
section
/- The specification's side: what can be delivered. -/
set_option linter.unusedSimpArgs false
set_option linter.unusedVariables false
set_option maxRecDepth 100000
set_option maxHeartbeats 4000000
namespace Go.Ab

section
variable {C : CX} {h : List AObj} {K : AV → List AObj → Prop} {a b c d e n : Int} {z z' z1 z2 z3 z1' z2' z3' : Bool} {s s' s1 s2 s3 s1' s2' s3' : Nat} {x y : Net}

end
end Go.Ab
end
section
/- slices.Insert of one element at any place: what append and copy lead to. -/
set_option linter.unusedSimpArgs false
set_option linter.unusedVariables false
set_option maxRecDepth 100000
set_option maxHeartbeats 4000000
namespace Go.Ab

def insAt {α : Type} (l : List α) (i : Nat) (y : α) : List α := l.take i ++ y :: l.drop i
theorem insAt_len {α : Type} {l : List α} {i : Nat} {y : α} : (insAt l i y).length = l.length + 1 := by
  simp only [insAt, List.length_append, List.length_cons, List.length_take, List.length_drop]
  omega
theorem insAt_end {α : Type} {l : List α} {y : α} : insAt l l.length y = l ++ [y] := by simp [insAt]

section
variable {α : Type} {h : List AObj} {sz t t2 e : Nat} {c : α → List AV} {v : AV} {l : List α} {ti t2i ei : TI} {id n : Nat} {cs rest : List AV} {i : Nat} {k : IntKind}

theorem ins_grow {K : AV → List AObj → Prop} {b : Int} {mu : Bool} (hsz : sz ≠ 0) (hc : ∀ x, (c x).length = sz) (h1 : T.get t = some ti) (h2 : ti.d = .slice e) (h3 : T.get e = some ei) (h4 : ei.size = sz) (hz : ei.zero.length = sz) (hb : ei.bytes ≠ 0) (hb2 : ei.bytes ≤ 1000) (h5 : T.get t2 = some t2i) (h6 : t2i.d = .int k) (hl : l.length < 1000000)
    (hid : h[id]? = some (.cells cs n)) (hcs : cs = (l.map c).flatten ++ rest) (hi : i < l.length) (hgr : n < (l.length + 1) * sz) (hbb : b = ((l.length + 1 - i : Nat) : Int))
    (hK : ∀ n' r, (((l.take i).map c).flatten ++ r).length = n' → (l.length + 1) * sz ≤ n' → K (.msl h.length sz 0 (l.length + 1)) (h ++ [.cells (((l.take i).map c).flatten ++ r) n'])) :
    appendK T mu t t2 (.msl id sz 0 i) (.int k b) h K := by
  subst h4 hbb
  have hfl := flat_len hc l
  have hft := flat_len hc (l.take i)
  rw [List.length_take, Nat.min_eq_left (Nat.le_of_lt hi)] at hft
  have hsum : i + (l.length + 1 - i) = l.length + 1 := by omega
  have hle : i * ei.size ≤ l.length * ei.size := Nat.mul_le_mul_right _ (Nat.le_of_lt hi)
  have hb47 : (l.length + 1) * ei.bytes ≤ 140737488355328 := Nat.le_trans (Nat.mul_le_mul (show l.length + 1 ≤ 1000000 by omega) hb2) (by decide)
  have hb48 : (l.length + 1 - i) * ei.bytes ≤ 140737488355328 := Nat.le_trans (Nat.mul_le_mul_right _ (by omega)) hb47
  simp only [appendK, srcK, h1, h2, h3, h5, h6]
  refine ⟨hsz, hb, by omega, (by have h9 := Int.ofNat_le.2 hb48; rw [Int.natCast_mul] at h9; exact h9), hb, hsz, ?_, trivial, ?_, cs, n, hid, ?_, fun hin => ?_, fun _ n' hn' => ?_⟩
  · intro e0; rw [e0] at hz; simp at hz; omega
  · rw [List.length_replicate, Int.toNat_natCast, hsum]; exact hb47
  · rw [hcs, List.length_append, hfl]; omega
  · exfalso
    rw [List.length_replicate, Int.toNat_natCast, hsum] at hin
    omega
  · rw [List.length_replicate, Int.toNat_natCast, hsum] at hn' ⊢
    have et : (cs.drop 0).take (i * ei.size) = ((l.take i).map c).flatten := by
      rw [List.drop_zero, hcs, List.take_append_of_le_length (by rw [hfl]; exact hle), flat_take hc l i (Nat.le_of_lt hi)]
    rw [et, List.append_assoc]
    refine hK n' _ ?_ hn'
    rw [List.length_append, hft, List.length_append, List.length_replicate, List.length_flatten, List.map_replicate, List.sum_replicate_nat, hz]
    have : (l.length + 1 - i) * ei.size + i * ei.size = (l.length + 1) * ei.size := by rw [← Nat.add_mul, Nat.sub_add_cancel (by omega)]
    omega

/-- One element is laid over a place. -/
theorem cpy_one {K : AV → List AObj → Prop} {A B y : List AV} {off len : Nat} {tip : Tip} (hy : y.length = sz) (h1 : T.get t = some ti) (h2 : ti.d = .slice e) (h3 : T.get e = some ei) (h4 : ei.size = sz)
    (hid : h[id]? = some (.cells (A ++ B) n)) (ho : off = A.length) (hlen : 1 ≤ len) (hK : K (.int .i64 1) (h.set id (.cells (A ++ y ++ B.drop sz) n))) :
    copyK T t t (.msl id sz off len) (.sl false sz [y] tip) h K := by
  subst h4 ho
  simp only [copyK, srcK, h1, h2, h3]
  refine ⟨trivial, trivial, fun _ => trivial, _, n, hid, by simp, ?_⟩
  have e1 : ([y].take len).flatten = y := by cases len with | zero => omega | succ m => simp
  rw [e1, laid_mid rfl, hy]
  have e2 : ((min [y].length len : Nat) : Int) = 1 := by simp; omega
  rw [e2]
  exact hK
/-- Elements of an object are laid over a place. -/
theorem cpy_obj {K : AV → List AObj → Prop} {A B A2 B2 : List AV} {off len off2 len2 id2 n2 : Nat} {ws : List (List AV)} (h1 : T.get t = some ti) (h2 : ti.d = .slice e) (h3 : T.get e = some ei) (h4 : ei.size = sz)
    (hid2 : h[id2]? = some (.cells (A2 ++ (ws.flatten ++ B2)) n2)) (ho2 : off2 = A2.length) (hws : ∀ w ∈ ws, w.length = sz) (hl2 : ws.length = len2)
    (hid : h[id]? = some (.cells (A ++ B) n)) (ho : off = A.length) (hK : ∀ m, K (.int .i64 m) (h.set id (.cells (A ++ (ws.take len).flatten ++ B.drop (ws.take len).flatten.length) n))) :
    copyK T t t (.msl id sz off len) (.msl id2 sz off2 len2) h K := by
  subst h4 ho ho2 hl2
  simp only [copyK, srcK, h1, h2, h3]
  refine ⟨trivial, trivial, trivial, ws, rfl, hws, ⟨_, n2, hid2, ?_, ?_⟩, _, n, hid, by simp, ?_⟩
  · simp only [List.length_append]; omega
  · rw [List.drop_left' rfl, List.take_left' rfl]
  · rw [laid_mid rfl]
    exact hK _
theorem ovr_pre {K : AV → Prop} {b : Int} {m u : Nat} (hsz : sz ≠ 0) (h1 : T.get t = some ti) (h2 : ti.d = .slice e) (h3 : T.get e = some ei) (h4 : ei.size = sz) (hid : h[id]? = some (.cells cs n)) (hb : b = (u : Int)) (hn : u * sz ≤ n) (hK : K (.msl id sz 0 u)) : overK T t (.msl id sz 0 m) none (some (.int .i64 b)) h K := by
  subst hb h4
  simp only [overK, h1, h2, h3, boundsK]
  have : u ≤ (n - 0) / ei.size := by rw [Nat.le_div_iff_mul_le (by omega)]; simpa using hn
  refine ⟨trivial, hsz, cs, n, hid, rfl, by omega, Int.ofNat_le.2 this, .inl trivial, ?_⟩
  simpa using hK
theorem cap_msl {K : AV → Prop} {m : Nat} (hsz : sz ≠ 0) (h1 : T.get t = some ti) (h2 : ti.d = .slice e) (hid : h[id]? = some (.cells cs n)) (hK : K (.int .i64 ((n / sz : Nat) : Int))) : capK T t (.msl id sz 0 m) h K := by
  simp only [capK, h1, h2]
  exact ⟨cs, n, hid, hsz, by simpa using hK⟩
end
end Go.Ab
end
section
/- slices.Insert of one element at any place. -/
set_option linter.unusedSimpArgs false
set_option linter.unusedVariables false
set_option maxRecDepth 100000
set_option maxHeartbeats 4000000
namespace Go.Ab

/-- The memory of an object of the call's own is no other slice's. -/
theorem run_overlaps_own {P : Program} (w : World) (tS tR e : TypeId) (ht : P.underlying tS = some (.slice e)) (size : Nat) (hz : ∀ w, (Go.sizeOf e).run P w = .ok size w)
    (a b : Addr) (la ca lb cb : Nat) (hne : a.block ≠ b.block) (tA tB : TypeId) (kA kB : Nat)
    (hsa : w.shape? a.block = some (tA, kA)) (hkA : kA ≠ 0) (hsb : w.shape? b.block = some (tB, kB))
    (hfb : w.frozen? b = false) (hfe : w.frozen? { block := b.block, off := kB } = false) :
    (Extern.SlicesOverlaps.overlaps #[tS, tS] #[tR] #[.slice (some a) la ca, .slice (some b) lb cb]).run P w = .ok (.bool false) w := by
  have hnb : (a.block != b.block) = true := by simpa using hne
  have hnb' : (a.block == b.block) = false := by simpa using hne
  change Sem.run P (α := Value) (do
    let some t := (#[tS, tS] : Array TypeId)[0]? | stuck "slices.overlaps: no parameter types"
    let .slice elem ← underlying t | stuck "slices.overlaps: slice type expected"
    let size ← sizeOf elem
    match (some a : Option Addr), (some b : Option Addr) with
    | some a, some b =>
      if la = 0 ∨ lb = 0 ∨ size = 0 then pure (Value.bool false)
      else if a.block != b.block && (← frozen a) && (← frozen b) then unsupported .addressObserved
      else do
        if a.block != b.block then do
          noView a; noView b
          if ← mayBeOne a b then return Value.bool ((← choose (.extern "sameAddr.stringBytes" 2)) == 1)
        pure (Value.bool (a.block == b.block && a.off < b.off + lb * size && b.off < a.off + la * size))
    | _, _ => pure (Value.bool false)) w = _
  by_cases h0 : la = 0 ∨ lb = 0 ∨ size = 0
  · simp [run_underlying ht, hz, h0]
  · cases kA with
    | zero => exact absurd rfl hkA
    | succ kA =>
      cases hfa : w.frozen? a <;> cases hfa2 : w.frozen? { block := a.block, off := kA + 1 } <;>
        simp [run_underlying ht, hz, h0, hnb, hnb', frozen, noView, viewAt, mayBeOne, stringish, shape, Sem.run, hsa, hsb, hfb, hfe, hfa, hfa2]

section
variable {C : CX} {h : List AObj} {K : AV → List AObj → Prop} {id n : Nat} {cs : List AV}
theorem overlaps_own {f : FuncId} {fn : Func} {tS tR e sz s off len : Nat} {y : List AV} {tip : Tip} (hf : Pg.funcs[f]? = some fn) (hname : (fn.name == "runtime.NumGoroutine") = false) (hb : fn.body.isNone = true) (hn : Extern.findNext fn = none)
    (he : Extern.find fn = some (Extern.SlicesOverlaps.overlaps #[tS, tS] #[tR])) (ht : Pg.underlying tS = some (.slice e)) (size : Nat) (hz : ∀ w, (Go.sizeOf e).run Pg w = .ok size w)
    (hy : y ≠ []) (hid : h[id]? = some (.cells cs n)) (hK : K (.bool false) h) : ACall C Pg f [.sl false s [y] tip, .msl id sz off len] h K := by
  refine ⟨fun X _ Γ w vs k hl => .inr ⟨.bool false, w, ?_, .bool false, h, Γ, hK, k, Ext.refl Γ, rfl, ownOK_of_not rfl⟩⟩
  rw [run_callFunc_extern hf hname hb hn he]
  simp only [lrel, vrel] at hl
  obtain ⟨v0, r0, e0, ⟨b, o, cap, rfl, hcap, _, hel⟩, v1, r1, rfl, ⟨b', q, cap', hI, rfl, _⟩, rfl⟩ := hl
  obtain ⟨a, r, rfl⟩ := List.exists_cons_of_ne_nil hy
  simp only [elemsAt, flatAt] at hel
  obtain ⟨_, ⟨⟨v, hF, _⟩, _⟩, _⟩ := hel
  have hcell := (k.F b o v hF).1
  obtain ⟨_, _, c, t, hblk, hcs⟩ := k.objSize hI hid
  have hO := k.Ilive id b' q hI (by simp [live, hid, AObj.live])
  have hne : b ≠ b' := fun eb => by
    subst eb
    have := k.O b
    simp only [BlockOK, hO] at this
    obtain ⟨s', o', hI', ho', hobj⟩ := this
    rw [hid] at ho'
    cases ho'
    have := hobj.2.2 o
    rw [hF] at this
    cases this
  obtain ⟨tA, kA, hsa, hkA⟩ : ∃ tA kA, w.shape? b = some (tA, kA) ∧ kA ≠ 0 := by
    simp only [World.cell?] at hcell
    split at hcell
    · rename_i c2 t2 fz hb2
      refine ⟨t2, c2.size, by simp [World.shape?, hb2], fun h0 => ?_⟩
      have := Array.getElem?_eq_some_iff.1 (by simpa using hcell)
      obtain ⟨h1, _⟩ := this
      omega
    · cases hcell
  obtain rfl : vs = #[.slice (some ⟨b, o, none⟩) 1 cap, .slice (some ⟨b', off, none⟩) len cap'] := by
    cases vs
    simpa using e0
  rw [run_overlaps_own w tS tR e ht size hz ⟨b, o, none⟩ ⟨b', off, none⟩ 1 cap len cap' hne tA t kA c.size hsa hkA (by simp [World.shape?, hblk]) (by simp [World.frozen?, hblk]) (by simp [World.frozen?, hblk])]
  rfl
theorem f116 : Pg.funcs[116]? = some Go.Proofs.Try.f116 := by kernel_rfl
theorem f122 : Pg.funcs[122]? = some Go.Proofs.Try.f122 := by kernel_rfl
theorem overlaps116 {off len : Nat} {y : List AV} {tip : Tip} (hy : y ≠ []) (hid : h[id]? = some (.cells cs n)) (hK : K (.bool false) h) : ACall C Pg 116 [.sl false 2 [y] tip, .msl id 2 off len] h K :=
  overlaps_own (tS := 23) (tR := 4) (e := 100) f116 (by kernel_rfl) (by kernel_rfl) (by kernel_rfl) (by kernel_rfl) (by kernel_rfl) 2 (fun w => by kernel_rfl) hy hid hK
theorem overlaps122 {off len : Nat} {y : List AV} {tip : Tip} (hy : y ≠ []) (hid : h[id]? = some (.cells cs n)) (hK : K (.bool false) h) : ACall C Pg 122 [.sl false 3 [y] tip, .msl id 3 off len] h K :=
  overlaps_own (tS := 24) (tR := 4) (e := 86) f122 (by kernel_rfl) (by kernel_rfl) (by kernel_rfl) (by kernel_rfl) (by kernel_rfl) 3 (fun w => by kernel_rfl) hy hid hK
end
end Go.Ab
end
section
/- slices.Insert of one element at any place: the functions. -/
set_option linter.unusedSimpArgs false
set_option linter.unusedVariables false
set_option maxRecDepth 100000
set_option maxHeartbeats 4000000
namespace Go.Ab

section
variable {C : CX} {h : List AObj} {K : AV → List AObj → Prop} {i : Nat}
theorem insert95g {l : List Link} {v : AV} {y : Link} {ii : Int} (hv : LV h 2 Link.c v l) (hl : l.length < 1000000) (hi : i ≤ l.length) (hii : ii = (i : Int))
    (hK : ∀ v' h', LV h' 2 Link.c v' (insAt l i y) → Fr (vid v) h h' → (∀ j ∈ vid v', j ∈ vid v ∨ h.length ≤ j) → (∀ j ∈ vid v', j < h'.length) → K v' h') : ACall C Pg 95 [v, .int .i64 ii, .sl false 2 [Link.c y] .full] h K := by
  subst hii
  by_cases hie : i = l.length
  · subst hie
    refine insert95 hv hl rfl fun v' h' h1 => hK v' h' ?_
    rw [insAt_end]
    exact h1
  have hi' : i < l.length := by omega
  obtain ⟨id, n, rest, rfl, hid, hnn⟩ := hv.obj hi'
  have hlt := (List.getElem?_eq_some_iff.1 hid).1
  have hfl := flat_len lenC l
  have hft := flat_len lenC (l.take i)
  have hfd := flat_len lenC (l.drop i)
  simp only [List.length_take, List.length_drop, Nat.min_eq_left (Nat.le_of_lt hi')] at hft hfd
  rw [List.length_append, hfl] at hnn
  refine run95 ?_
  simp -implicitDefEqProofs [b95, r95, rue, wrC, readC, -List.getD_eq_getElem?_getD, ru, ruc, rud, laid]
  refine slc_suf T23 rfl T100 rfl rfl (by omega) (fun _ => ?_) (fun h => absurd h (by omega))
  have d1 : decide ((i : Int) = (l.length : Int)) = false := by simp; omega
  have w1 : IntKind.i64.wrap ((l.length : Int) + 1) = (l.length : Int) + 1 := wrap_id (by omega) (by omega)
  have w2 : IntKind.i64.wrap ((l.length : Int) + 1 - (i : Int)) = (l.length : Int) + 1 - (i : Int) := wrap_id (by omega) (by omega)
  have w3 : IntKind.i64.wrap ((i : Int) + 1) = (i : Int) + 1 := wrap_id (by omega) (by omega)
  simp -implicitDefEqProofs [r95, d1, w1, rue, wrC, readC, -List.getD_eq_getElem?_getD, ru, ruc, rud, laid]
  refine cap_msl (n := n) (by decide) T23 rfl hid ?_
  simp -implicitDefEqProofs [r95, d1, w1, rue, wrC, readC, -List.getD_eq_getElem?_getD, ru, ruc, rud, laid]
  refine condV_split (fun g => ?_) (fun g => ?_)
  · have hgr : n < (l.length + 1) * 2 := by simp at g; omega
    simp -implicitDefEqProofs [r95, d1, w1, rue, wrC, readC, -List.getD_eq_getElem?_getD, ru, ruc, rud, laid]
    refine slc_pre T23 rfl T100 rfl (by omega) ?_
    simp -implicitDefEqProofs [r95, w1, w2, rue, wrC, readC, -List.getD_eq_getElem?_getD, ru, ruc, rud, laid]
    refine ins_grow (by decide) lenC T23 rfl T100 rfl (by decide) (by decide) (by decide) T3 rfl hl hid rfl hi' hgr (by omega) fun n' r hr hn' => ?_
    have hr' : 2 * (l.length + 1 - i) ≤ r.length := by
      rw [List.length_append, hft] at hr
      omega
    generalize hh1 : h ++ [AObj.cells (((l.take i).map Link.c).flatten ++ r) n'] = h1
    have hlen1 : h1.length = h.length + 1 := by rw [← hh1]; simp
    have hget1 : h1[h.length]? = some (.cells (((l.take i).map Link.c).flatten ++ r) n') := by rw [← hh1]; simp
    have hold1 : ∀ j, j < h.length → h1[j]? = h[j]? := fun j hj => by rw [← hh1]; exact List.getElem?_append_left hj
    simp -implicitDefEqProofs [r95, w1, rue, wrC, readC, -List.getD_eq_getElem?_getD, ru, ruc, rud, laid]
    refine slc_suf (i := i) T23 rfl T100 rfl rfl (by omega) (fun _ => ?_) (fun h => absurd h (by omega))
    simp -implicitDefEqProofs [r95, rue, wrC, readC, -List.getD_eq_getElem?_getD, ru, ruc, rud, laid]
    refine cpy_one (A := ((l.take i).map Link.c).flatten) (B := r) (n := n') (lenC y) T23 rfl T100 rfl hget1 hft.symm (by omega) ?_
    generalize hh2 : h1.set h.length (AObj.cells (((l.take i).map Link.c).flatten ++ Link.c y ++ r.drop 2) n') = h2
    have hlen2 : h2.length = h.length + 1 := by rw [← hh2, List.length_set, hlen1]
    have hget2 : h2[h.length]? = some (.cells ((((l.take i).map Link.c).flatten ++ Link.c y) ++ r.drop 2) n') := by rw [← hh2, List.getElem?_set_self (by omega)]
    have hold2 : ∀ j, j < h.length → h2[j]? = h[j]? := fun j hj => by rw [← hh2, List.getElem?_set_ne (by omega)]; exact hold1 j hj
    have hid2 : h2[id]? = some (.cells (((l.take i).map Link.c).flatten ++ (((l.drop i).map Link.c).flatten ++ rest)) n) := by
      rw [hold2 id hlt, hid, ← List.append_assoc, ← List.flatten_append, ← List.map_append, List.take_append_drop]
    simp -implicitDefEqProofs [r95, rue, wrC, readC, -List.getD_eq_getElem?_getD, ru, ruc, rud, laid]
    refine re95q0 ?_
    simp -implicitDefEqProofs [g95q0, r95, w3, rue, wrC, readC, -List.getD_eq_getElem?_getD, ru, ruc, rud, laid]
    refine slc_suf (i := i + 1) T23 rfl T100 rfl (by omega) (by omega) (fun _ => ?_) (fun h => absurd h (by omega))
    simp -implicitDefEqProofs [r95, rue, wrC, readC, -List.getD_eq_getElem?_getD, ru, ruc, rud, laid]
    refine slc_suf (i := i) T23 rfl T100 rfl rfl (by omega) (fun _ => ?_) (fun h => absurd h (by omega))
    simp -implicitDefEqProofs [r95, rue, wrC, readC, -List.getD_eq_getElem?_getD, ru, ruc, rud, laid]
    refine cpy_obj (ws := (l.drop i).map Link.c) (A := ((l.take i).map Link.c).flatten ++ Link.c y) (B := r.drop 2) (A2 := ((l.take i).map Link.c).flatten) (B2 := rest) T23 rfl T100 rfl hid2 hft.symm (fun w hw => by obtain ⟨x, _, rfl⟩ := List.mem_map.1 hw; exact lenC x) (by simp) hget2 (by rw [List.length_append, hft, lenC]; omega) fun m => ?_
    have htk : ((l.drop i).map Link.c).take (l.length - i) = (l.drop i).map Link.c := List.take_of_length_le (by simp)
    rw [htk]
    have hcells : ((l.take i).map Link.c).flatten ++ Link.c y ++ ((l.drop i).map Link.c).flatten = ((insAt l i y).map Link.c).flatten := by
      simp only [insAt, List.map_append, List.map_cons, List.flatten_append, List.flatten_cons, List.append_assoc]
    generalize hrr : (r.drop 2).drop (((l.drop i).map Link.c).flatten.length) = r2
    have hr2 : (l.length + 1) * 2 + r2.length = n' := by
      rw [← hrr, List.length_drop, List.length_drop, hfd]
      rw [List.length_append, hft] at hr
      omega
    rw [hcells]
    generalize hh3 : h2.set h.length (AObj.cells (((insAt l i y).map Link.c).flatten ++ r2) n') = h3
    have hlen3 : h3.length = h.length + 1 := by rw [← hh3, List.length_set, hlen2]
    have hget3 : h3[h.length]? = some (.cells (((insAt l i y).map Link.c).flatten ++ r2) n') := by rw [← hh3, List.getElem?_set_self (by omega)]
    have hold3 : ∀ j, j < h.length → h3[j]? = h[j]? := fun j hj => by rw [← hh3, List.getElem?_set_ne (by omega)]; exact hold2 j hj
    simp -implicitDefEqProofs [r95, rue, wrC, readC, -List.getD_eq_getElem?_getD, ru, ruc, rud, laid]
    refine hK _ h3 (.inr ⟨h.length, _, n', r2, by rw [insAt_len], hget3, ?_, rfl⟩) ⟨by omega, fun j hj _ => hold3 j hj⟩ (fun j hj => .inr ?_) (fun j hj => ?_)
    · rw [List.length_append, flat_len lenC, insAt_len]
      exact hr2
    · simp only [vid, List.mem_singleton] at hj; omega
    · simp only [vid, List.mem_singleton] at hj; omega
  · have hroom : (l.length + 1) * 2 ≤ n := by simp at g; omega
    have hre : 2 ≤ rest.length := by omega
    simp -implicitDefEqProofs [r95, d1, w1, rue, wrC, readC, -List.getD_eq_getElem?_getD, ru, ruc, rud, laid]
    refine ovr_pre (u := l.length + 1) (by decide) T23 rfl T100 rfl hid (by omega) hroom ?_
    simp -implicitDefEqProofs [r95, w1, w3, rue, wrC, readC, -List.getD_eq_getElem?_getD, ru, ruc, rud, laid]
    refine slc_suf (i := i + 1) T23 rfl T100 rfl (by omega) (by omega) (fun _ => ?_) (fun h => absurd h (by omega))
    simp -implicitDefEqProofs [r95, rue, wrC, readC, -List.getD_eq_getElem?_getD, ru, ruc, rud, laid]
    refine overlaps116 (by simp [Link.c]) hid ?_
    simp -implicitDefEqProofs [r95, rue, wrC, readC, -List.getD_eq_getElem?_getD, ru, ruc, rud, laid]
    refine re95q1 ?_
    simp -implicitDefEqProofs [g95q1, r95, w3, rue, wrC, readC, -List.getD_eq_getElem?_getD, ru, ruc, rud, laid]
    refine slc_suf (i := i + 1) T23 rfl T100 rfl (by omega) (by omega) (fun _ => ?_) (fun h => absurd h (by omega))
    simp -implicitDefEqProofs [r95, rue, wrC, readC, -List.getD_eq_getElem?_getD, ru, ruc, rud, laid]
    refine slc_suf (i := i) T23 rfl T100 rfl rfl (by omega) (fun _ => ?_) (fun h => absurd h (by omega))
    simp -implicitDefEqProofs [r95, rue, wrC, readC, -List.getD_eq_getElem?_getD, ru, ruc, rud, laid]
    have hti : ((l.take i).map Link.c).flatten ++ Link.c l[i] = ((l.take (i + 1)).map Link.c).flatten := by
      rw [List.take_add_one, List.getElem?_eq_getElem hi']
      simp only [Option.toList_some, List.map_append, List.map_cons, List.map_nil, List.flatten_append, List.flatten_cons, List.flatten_nil, List.append_nil]
    have hdi : Link.c l[i] ++ ((l.drop (i + 1)).map Link.c).flatten = ((l.drop i).map Link.c).flatten := by
      rw [List.drop_eq_getElem_cons hi']
      simp only [List.map_cons, List.flatten_cons]
    have hfd1 := flat_len lenC (l.drop (i + 1))
    rw [List.length_drop] at hfd1
    have hidD : h[id]? = some (.cells ((((l.take i).map Link.c).flatten ++ Link.c l[i]) ++ (((l.drop (i + 1)).map Link.c).flatten ++ rest)) n) := by
      rw [hid, hti, ← List.append_assoc, ← List.flatten_append, ← List.map_append, List.take_append_drop]
    have hwf : (((l.drop i).map Link.c) ++ [rest.take 2]).flatten = ((l.drop i).map Link.c).flatten ++ rest.take 2 := by simp
    have hidS : h[id]? = some (.cells (((l.take i).map Link.c).flatten ++ ((((l.drop i).map Link.c) ++ [rest.take 2]).flatten ++ rest.drop 2)) n) := by
      rw [hid, hwf, List.append_assoc, List.take_append_drop, ← List.append_assoc, ← List.flatten_append, ← List.map_append, List.take_append_drop]
    refine cpy_obj (ws := ((l.drop i).map Link.c) ++ [rest.take 2]) (A := ((l.take i).map Link.c).flatten ++ Link.c l[i]) (B := ((l.drop (i + 1)).map Link.c).flatten ++ rest) (A2 := ((l.take i).map Link.c).flatten) (B2 := rest.drop 2) T23 rfl T100 rfl hidS hft.symm (fun w hw => ?_) (by simp; omega) hidD (by rw [List.length_append, hft, lenC]; omega) fun m => ?_
    · rcases List.mem_append.1 hw with hw | hw
      · obtain ⟨x, _, rfl⟩ := List.mem_map.1 hw
        exact lenC x
      · rw [List.mem_singleton.1 hw, List.length_take]
        omega
    have htk : (((l.drop i).map Link.c) ++ [rest.take 2]).take (l.length - i) = (l.drop i).map Link.c := List.take_left' (by simp)
    rw [htk]
    generalize hrr : (((l.drop (i + 1)).map Link.c).flatten ++ rest).drop (((l.drop i).map Link.c).flatten.length) = r2
    have hr2 : (l.length + 1) * 2 + r2.length = n := by
      rw [← hrr, List.length_drop, List.length_append, hfd, hfd1]
      omega
    generalize hh1 : h.set id (AObj.cells (((l.take i).map Link.c).flatten ++ Link.c l[i] ++ ((l.drop i).map Link.c).flatten ++ r2) n) = h1
    have hlen1 : h1.length = h.length := by rw [← hh1, List.length_set]
    have hget1 : h1[id]? = some (.cells (((l.take i).map Link.c).flatten ++ (Link.c l[i] ++ (((l.drop i).map Link.c).flatten ++ r2))) n) := by rw [← hh1, List.getElem?_set_self hlt, List.append_assoc, List.append_assoc]
    have hold1 : ∀ j, j ≠ id → h1[j]? = h[j]? := fun j hj => by rw [← hh1, List.getElem?_set_ne (by omega)]
    simp -implicitDefEqProofs [r95, rue, wrC, readC, -List.getD_eq_getElem?_getD, ru, ruc, rud, laid]
    refine slc_suf (i := i) T23 rfl T100 rfl rfl (by omega) (fun _ => ?_) (fun h => absurd h (by omega))
    simp -implicitDefEqProofs [r95, rue, wrC, readC, -List.getD_eq_getElem?_getD, ru, ruc, rud, laid]
    refine cpy_one (A := ((l.take i).map Link.c).flatten) (B := Link.c l[i] ++ (((l.drop i).map Link.c).flatten ++ r2)) (n := n) (lenC y) T23 rfl T100 rfl hget1 hft.symm (by omega) ?_
    rw [List.drop_left' (lenC _)]
    have hcells : ((l.take i).map Link.c).flatten ++ Link.c y ++ (((l.drop i).map Link.c).flatten ++ r2) = ((insAt l i y).map Link.c).flatten ++ r2 := by
      simp only [insAt, List.map_append, List.map_cons, List.flatten_append, List.flatten_cons, List.append_assoc]
    rw [hcells]
    generalize hh2 : h1.set id (AObj.cells (((insAt l i y).map Link.c).flatten ++ r2) n) = h2
    have hlen2 : h2.length = h.length := by rw [← hh2, List.length_set, hlen1]
    have hget2 : h2[id]? = some (.cells (((insAt l i y).map Link.c).flatten ++ r2) n) := by rw [← hh2, List.getElem?_set_self (by omega)]
    have hold2 : ∀ j, j ≠ id → h2[j]? = h[j]? := fun j hj => by rw [← hh2, List.getElem?_set_ne (by omega)]; exact hold1 j hj
    simp -implicitDefEqProofs [r95, rue, wrC, readC, -List.getD_eq_getElem?_getD, ru, ruc, rud, laid]
    refine hK _ h2 (.inr ⟨id, _, n, r2, by rw [insAt_len], hget2, ?_, rfl⟩) ⟨by omega, fun j hj hn => hold2 j (fun e => hn (by simp [vid, e]))⟩ (fun j hj => .inl hj) (fun j hj => ?_)
    · rw [List.length_append, flat_len lenC, insAt_len]
      exact hr2
    · simp only [vid, List.mem_singleton] at hj; omega
theorem insert100g {l : List Timer} {v : AV} {y : Timer} {ii : Int} (hv : LV h 3 Timer.c v l) (hl : l.length < 1000000) (hi : i ≤ l.length) (hii : ii = (i : Int))
    (hK : ∀ v' h', LV h' 3 Timer.c v' (insAt l i y) → Fr (vid v) h h' → (∀ j ∈ vid v', j ∈ vid v ∨ h.length ≤ j) → (∀ j ∈ vid v', j < h'.length) → K v' h') : ACall C Pg 100 [v, .int .i64 ii, .sl false 3 [Timer.c y] .full] h K := by
  subst hii
  by_cases hie : i = l.length
  · subst hie
    refine insert100 hv hl rfl fun v' h' h1 => hK v' h' ?_
    rw [insAt_end]
    exact h1
  have hi' : i < l.length := by omega
  obtain ⟨id, n, rest, rfl, hid, hnn⟩ := hv.obj hi'
  have hlt := (List.getElem?_eq_some_iff.1 hid).1
  have hfl := flat_len lenT l
  have hft := flat_len lenT (l.take i)
  have hfd := flat_len lenT (l.drop i)
  simp only [List.length_take, List.length_drop, Nat.min_eq_left (Nat.le_of_lt hi')] at hft hfd
  rw [List.length_append, hfl] at hnn
  refine run100 ?_
  simp -implicitDefEqProofs [b100, r100, rue, wrC, readC, -List.getD_eq_getElem?_getD, ru, ruc, rud, laid]
  refine slc_suf T24 rfl T86 rfl rfl (by omega) (fun _ => ?_) (fun h => absurd h (by omega))
  have d1 : decide ((i : Int) = (l.length : Int)) = false := by simp; omega
  have w1 : IntKind.i64.wrap ((l.length : Int) + 1) = (l.length : Int) + 1 := wrap_id (by omega) (by omega)
  have w2 : IntKind.i64.wrap ((l.length : Int) + 1 - (i : Int)) = (l.length : Int) + 1 - (i : Int) := wrap_id (by omega) (by omega)
  have w3 : IntKind.i64.wrap ((i : Int) + 1) = (i : Int) + 1 := wrap_id (by omega) (by omega)
  simp -implicitDefEqProofs [r100, d1, w1, rue, wrC, readC, -List.getD_eq_getElem?_getD, ru, ruc, rud, laid]
  refine cap_msl (n := n) (by decide) T24 rfl hid ?_
  simp -implicitDefEqProofs [r100, d1, w1, rue, wrC, readC, -List.getD_eq_getElem?_getD, ru, ruc, rud, laid]
  refine condV_split (fun g => ?_) (fun g => ?_)
  · have hgr : n < (l.length + 1) * 3 := by simp at g; omega
    simp -implicitDefEqProofs [r100, d1, w1, rue, wrC, readC, -List.getD_eq_getElem?_getD, ru, ruc, rud, laid]
    refine slc_pre T24 rfl T86 rfl (by omega) ?_
    simp -implicitDefEqProofs [r100, w1, w2, rue, wrC, readC, -List.getD_eq_getElem?_getD, ru, ruc, rud, laid]
    refine ins_grow (by decide) lenT T24 rfl T86 rfl (by decide) (by decide) (by decide) T3 rfl hl hid rfl hi' hgr (by omega) fun n' r hr hn' => ?_
    have hr' : 3 * (l.length + 1 - i) ≤ r.length := by
      rw [List.length_append, hft] at hr
      omega
    generalize hh1 : h ++ [AObj.cells (((l.take i).map Timer.c).flatten ++ r) n'] = h1
    have hlen1 : h1.length = h.length + 1 := by rw [← hh1]; simp
    have hget1 : h1[h.length]? = some (.cells (((l.take i).map Timer.c).flatten ++ r) n') := by rw [← hh1]; simp
    have hold1 : ∀ j, j < h.length → h1[j]? = h[j]? := fun j hj => by rw [← hh1]; exact List.getElem?_append_left hj
    simp -implicitDefEqProofs [r100, w1, rue, wrC, readC, -List.getD_eq_getElem?_getD, ru, ruc, rud, laid]
    refine slc_suf (i := i) T24 rfl T86 rfl rfl (by omega) (fun _ => ?_) (fun h => absurd h (by omega))
    simp -implicitDefEqProofs [r100, rue, wrC, readC, -List.getD_eq_getElem?_getD, ru, ruc, rud, laid]
    refine cpy_one (A := ((l.take i).map Timer.c).flatten) (B := r) (n := n') (lenT y) T24 rfl T86 rfl hget1 hft.symm (by omega) ?_
    generalize hh2 : h1.set h.length (AObj.cells (((l.take i).map Timer.c).flatten ++ Timer.c y ++ r.drop 3) n') = h2
    have hlen2 : h2.length = h.length + 1 := by rw [← hh2, List.length_set, hlen1]
    have hget2 : h2[h.length]? = some (.cells ((((l.take i).map Timer.c).flatten ++ Timer.c y) ++ r.drop 3) n') := by rw [← hh2, List.getElem?_set_self (by omega)]
    have hold2 : ∀ j, j < h.length → h2[j]? = h[j]? := fun j hj => by rw [← hh2, List.getElem?_set_ne (by omega)]; exact hold1 j hj
    have hid2 : h2[id]? = some (.cells (((l.take i).map Timer.c).flatten ++ (((l.drop i).map Timer.c).flatten ++ rest)) n) := by
      rw [hold2 id hlt, hid, ← List.append_assoc, ← List.flatten_append, ← List.map_append, List.take_append_drop]
    simp -implicitDefEqProofs [r100, rue, wrC, readC, -List.getD_eq_getElem?_getD, ru, ruc, rud, laid]
    refine re100q0 ?_
    simp -implicitDefEqProofs [g100q0, r100, w3, rue, wrC, readC, -List.getD_eq_getElem?_getD, ru, ruc, rud, laid]
    refine slc_suf (i := i + 1) T24 rfl T86 rfl (by omega) (by omega) (fun _ => ?_) (fun h => absurd h (by omega))
    simp -implicitDefEqProofs [r100, rue, wrC, readC, -List.getD_eq_getElem?_getD, ru, ruc, rud, laid]
    refine slc_suf (i := i) T24 rfl T86 rfl rfl (by omega) (fun _ => ?_) (fun h => absurd h (by omega))
    simp -implicitDefEqProofs [r100, rue, wrC, readC, -List.getD_eq_getElem?_getD, ru, ruc, rud, laid]
    refine cpy_obj (ws := (l.drop i).map Timer.c) (A := ((l.take i).map Timer.c).flatten ++ Timer.c y) (B := r.drop 3) (A2 := ((l.take i).map Timer.c).flatten) (B2 := rest) T24 rfl T86 rfl hid2 hft.symm (fun w hw => by obtain ⟨x, _, rfl⟩ := List.mem_map.1 hw; exact lenT x) (by simp) hget2 (by rw [List.length_append, hft, lenT]; omega) fun m => ?_
    have htk : ((l.drop i).map Timer.c).take (l.length - i) = (l.drop i).map Timer.c := List.take_of_length_le (by simp)
    rw [htk]
    have hcells : ((l.take i).map Timer.c).flatten ++ Timer.c y ++ ((l.drop i).map Timer.c).flatten = ((insAt l i y).map Timer.c).flatten := by
      simp only [insAt, List.map_append, List.map_cons, List.flatten_append, List.flatten_cons, List.append_assoc]
    generalize hrr : (r.drop 3).drop (((l.drop i).map Timer.c).flatten.length) = r2
    have hr2 : (l.length + 1) * 3 + r2.length = n' := by
      rw [← hrr, List.length_drop, List.length_drop, hfd]
      rw [List.length_append, hft] at hr
      omega
    rw [hcells]
    generalize hh3 : h2.set h.length (AObj.cells (((insAt l i y).map Timer.c).flatten ++ r2) n') = h3
    have hlen3 : h3.length = h.length + 1 := by rw [← hh3, List.length_set, hlen2]
    have hget3 : h3[h.length]? = some (.cells (((insAt l i y).map Timer.c).flatten ++ r2) n') := by rw [← hh3, List.getElem?_set_self (by omega)]
    have hold3 : ∀ j, j < h.length → h3[j]? = h[j]? := fun j hj => by rw [← hh3, List.getElem?_set_ne (by omega)]; exact hold2 j hj
    simp -implicitDefEqProofs [r100, rue, wrC, readC, -List.getD_eq_getElem?_getD, ru, ruc, rud, laid]
    refine hK _ h3 (.inr ⟨h.length, _, n', r2, by rw [insAt_len], hget3, ?_, rfl⟩) ⟨by omega, fun j hj _ => hold3 j hj⟩ (fun j hj => .inr ?_) (fun j hj => ?_)
    · rw [List.length_append, flat_len lenT, insAt_len]
      exact hr2
    · simp only [vid, List.mem_singleton] at hj; omega
    · simp only [vid, List.mem_singleton] at hj; omega
  · have hroom : (l.length + 1) * 3 ≤ n := by simp at g; omega
    have hre : 3 ≤ rest.length := by omega
    simp -implicitDefEqProofs [r100, d1, w1, rue, wrC, readC, -List.getD_eq_getElem?_getD, ru, ruc, rud, laid]
    refine ovr_pre (u := l.length + 1) (by decide) T24 rfl T86 rfl hid (by omega) hroom ?_
    simp -implicitDefEqProofs [r100, w1, w3, rue, wrC, readC, -List.getD_eq_getElem?_getD, ru, ruc, rud, laid]
    refine slc_suf (i := i + 1) T24 rfl T86 rfl (by omega) (by omega) (fun _ => ?_) (fun h => absurd h (by omega))
    simp -implicitDefEqProofs [r100, rue, wrC, readC, -List.getD_eq_getElem?_getD, ru, ruc, rud, laid]
    refine overlaps122 (by simp [Timer.c]) hid ?_
    simp -implicitDefEqProofs [r100, rue, wrC, readC, -List.getD_eq_getElem?_getD, ru, ruc, rud, laid]
    refine re100q1 ?_
    simp -implicitDefEqProofs [g100q1, r100, w3, rue, wrC, readC, -List.getD_eq_getElem?_getD, ru, ruc, rud, laid]
    refine slc_suf (i := i + 1) T24 rfl T86 rfl (by omega) (by omega) (fun _ => ?_) (fun h => absurd h (by omega))
    simp -implicitDefEqProofs [r100, rue, wrC, readC, -List.getD_eq_getElem?_getD, ru, ruc, rud, laid]
    refine slc_suf (i := i) T24 rfl T86 rfl rfl (by omega) (fun _ => ?_) (fun h => absurd h (by omega))
    simp -implicitDefEqProofs [r100, rue, wrC, readC, -List.getD_eq_getElem?_getD, ru, ruc, rud, laid]
    have hti : ((l.take i).map Timer.c).flatten ++ Timer.c l[i] = ((l.take (i + 1)).map Timer.c).flatten := by
      rw [List.take_add_one, List.getElem?_eq_getElem hi']
      simp only [Option.toList_some, List.map_append, List.map_cons, List.map_nil, List.flatten_append, List.flatten_cons, List.flatten_nil, List.append_nil]
    have hdi : Timer.c l[i] ++ ((l.drop (i + 1)).map Timer.c).flatten = ((l.drop i).map Timer.c).flatten := by
      rw [List.drop_eq_getElem_cons hi']
      simp only [List.map_cons, List.flatten_cons]
    have hfd1 := flat_len lenT (l.drop (i + 1))
    rw [List.length_drop] at hfd1
    have hidD : h[id]? = some (.cells ((((l.take i).map Timer.c).flatten ++ Timer.c l[i]) ++ (((l.drop (i + 1)).map Timer.c).flatten ++ rest)) n) := by
      rw [hid, hti, ← List.append_assoc, ← List.flatten_append, ← List.map_append, List.take_append_drop]
    have hwf : (((l.drop i).map Timer.c) ++ [rest.take 3]).flatten = ((l.drop i).map Timer.c).flatten ++ rest.take 3 := by simp
    have hidS : h[id]? = some (.cells (((l.take i).map Timer.c).flatten ++ ((((l.drop i).map Timer.c) ++ [rest.take 3]).flatten ++ rest.drop 3)) n) := by
      rw [hid, hwf, List.append_assoc, List.take_append_drop, ← List.append_assoc, ← List.flatten_append, ← List.map_append, List.take_append_drop]
    refine cpy_obj (ws := ((l.drop i).map Timer.c) ++ [rest.take 3]) (A := ((l.take i).map Timer.c).flatten ++ Timer.c l[i]) (B := ((l.drop (i + 1)).map Timer.c).flatten ++ rest) (A2 := ((l.take i).map Timer.c).flatten) (B2 := rest.drop 3) T24 rfl T86 rfl hidS hft.symm (fun w hw => ?_) (by simp; omega) hidD (by rw [List.length_append, hft, lenT]; omega) fun m => ?_
    · rcases List.mem_append.1 hw with hw | hw
      · obtain ⟨x, _, rfl⟩ := List.mem_map.1 hw
        exact lenT x
      · rw [List.mem_singleton.1 hw, List.length_take]
        omega
    have htk : (((l.drop i).map Timer.c) ++ [rest.take 3]).take (l.length - i) = (l.drop i).map Timer.c := List.take_left' (by simp)
    rw [htk]
    generalize hrr : (((l.drop (i + 1)).map Timer.c).flatten ++ rest).drop (((l.drop i).map Timer.c).flatten.length) = r2
    have hr2 : (l.length + 1) * 3 + r2.length = n := by
      rw [← hrr, List.length_drop, List.length_append, hfd, hfd1]
      omega
    generalize hh1 : h.set id (AObj.cells (((l.take i).map Timer.c).flatten ++ Timer.c l[i] ++ ((l.drop i).map Timer.c).flatten ++ r2) n) = h1
    have hlen1 : h1.length = h.length := by rw [← hh1, List.length_set]
    have hget1 : h1[id]? = some (.cells (((l.take i).map Timer.c).flatten ++ (Timer.c l[i] ++ (((l.drop i).map Timer.c).flatten ++ r2))) n) := by rw [← hh1, List.getElem?_set_self hlt, List.append_assoc, List.append_assoc]
    have hold1 : ∀ j, j ≠ id → h1[j]? = h[j]? := fun j hj => by rw [← hh1, List.getElem?_set_ne (by omega)]
    simp -implicitDefEqProofs [r100, rue, wrC, readC, -List.getD_eq_getElem?_getD, ru, ruc, rud, laid]
    refine slc_suf (i := i) T24 rfl T86 rfl rfl (by omega) (fun _ => ?_) (fun h => absurd h (by omega))
    simp -implicitDefEqProofs [r100, rue, wrC, readC, -List.getD_eq_getElem?_getD, ru, ruc, rud, laid]
    refine cpy_one (A := ((l.take i).map Timer.c).flatten) (B := Timer.c l[i] ++ (((l.drop i).map Timer.c).flatten ++ r2)) (n := n) (lenT y) T24 rfl T86 rfl hget1 hft.symm (by omega) ?_
    rw [List.drop_left' (lenT _)]
    have hcells : ((l.take i).map Timer.c).flatten ++ Timer.c y ++ (((l.drop i).map Timer.c).flatten ++ r2) = ((insAt l i y).map Timer.c).flatten ++ r2 := by
      simp only [insAt, List.map_append, List.map_cons, List.flatten_append, List.flatten_cons, List.append_assoc]
    rw [hcells]
    generalize hh2 : h1.set id (AObj.cells (((insAt l i y).map Timer.c).flatten ++ r2) n) = h2
    have hlen2 : h2.length = h.length := by rw [← hh2, List.length_set, hlen1]
    have hget2 : h2[id]? = some (.cells (((insAt l i y).map Timer.c).flatten ++ r2) n) := by rw [← hh2, List.getElem?_set_self (by omega)]
    have hold2 : ∀ j, j ≠ id → h2[j]? = h[j]? := fun j hj => by rw [← hh2, List.getElem?_set_ne (by omega)]; exact hold1 j hj
    simp -implicitDefEqProofs [r100, rue, wrC, readC, -List.getD_eq_getElem?_getD, ru, ruc, rud, laid]
    refine hK _ h2 (.inr ⟨id, _, n, r2, by rw [insAt_len], hget2, ?_, rfl⟩) ⟨by omega, fun j hj hn => hold2 j (fun e => hn (by simp [vid, e]))⟩ (fun j hj => .inl hj) (fun j hj => ?_)
    · rw [List.length_append, flat_len lenT, insAt_len]
      exact hr2
    · simp only [vid, List.mem_singleton] at hj; omega
end
end Go.Ab
end
section
/- The specification's network, well-formed; its other functions. -/
set_option linter.unusedSimpArgs false
set_option linter.unusedVariables false
set_option maxRecDepth 100000
set_option maxHeartbeats 4000000
namespace Go.Ab

section
variable {C : CX} {h : List AObj} {K : AV → List AObj → Prop} {a b c d e n : Int} {z1 z2 z3 : Bool} {s1 s2 s3 : Nat} {x y : Net}

theorem orI_cons {l : List Int} : orI (a :: l) = if a = 0 then orI l else a := by
  unfold orI
  by_cases h : a = 0 <;> simp [h]
theorem orI_nil : orI [] = 0 := rfl
theorem cmpI_zero : cmpI a b = 0 ↔ a = b := by unfold cmpI; split <;> (try split) <;> omega
theorem cmpI_neg : cmpI a b < 0 ↔ a < b := by unfold cmpI; split <;> (try split) <;> omega
theorem cmpT_lt {p q : Timer} : cmpT p q < 0 ↔ p.tm < q.tm ∨ (p.tm = q.tm ∧ (p.nd < q.nd ∨ (p.nd = q.nd ∧ p.tg < q.tg))) := by
  simp only [cmpT, orI_cons, orI_nil, cmpI_zero]
  split <;> (try split) <;> (try split) <;> (try rw [cmpI_neg]) <;> omega
end
end Go.Ab
end
section
/- Plain laws: ordered lists; what each act does to a network. -/
set_option linter.unusedSimpArgs false
set_option linter.unusedVariables false
set_option maxRecDepth 100000
set_option maxHeartbeats 4000000
namespace Go.Ab

section
variable {α : Type}
theorem takeWhile_len {p : α → Bool} : ∀ {l : List α} {i : Nat}, i ≤ l.length → (∀ j (hj : j < l.length), j < i → p l[j] = true) → (∀ hi : i < l.length, p l[i] = false) → (l.takeWhile p).length = i
  | [], i, h, _, _ => by simp at h; simp [h]
  | x :: l, 0, _, _, h2 => by
    have := h2 (by simp)
    simp only [List.getElem_cons_zero] at this
    simp [List.takeWhile_cons, this]
  | x :: l, i + 1, h, h1, h2 => by
    have h0 := h1 0 (by simp) (by omega)
    simp only [List.getElem_cons_zero] at h0
    have := takeWhile_len (p := p) (l := l) (i := i) (by simpa using h) (fun j hj hlt => h1 (j + 1) (by simpa using hj) (by omega)) (fun hi => h2 (by simpa using hi))
    simp [List.takeWhile_cons, h0, this]
/-- Where an element stands in a list that rises. -/
theorem PosOf.len {f : α → α → Int} (ht : ∀ p q r, f p q < 0 → f q r < 0 → f p r < 0) {l : List α} (hr : rises f l) {t : α} {i : Nat} (hp : PosOf f l t i) : (l.takeWhile fun q => decide (f q t < 0)).length = i := by
  refine takeWhile_len hp.le (fun j hj hlt => ?_) (fun hi => ?_)
  · rw [decide_eq_true_eq]
    have h0 : 0 < i := by omega
    have := hp.lo h0 (by have := hp.le; omega)
    rcases Nat.lt_or_ge j (i - 1) with h1 | h1
    · exact ht _ _ _ (rises_lt' ht hr h1 (by have := hp.le; omega)) this
    · have : j = i - 1 := by omega
      subst this
      assumption
  · rw [decide_eq_false_iff_not]
    have := hp.hi hi
    omega
theorem PosOf.mem {f : α → α → Int} (ht : ∀ p q r, f p q < 0 → f q r < 0 → f p r < 0) (hz : ∀ p q, f p q = 0 ↔ p = q) {l : List α} (hr : rises f l) {t : α} {i : Nat} (hp : PosOf f l t i) : (∃ hi : i < l.length, f l[i] t = 0) ↔ t ∈ l := by
  constructor
  · rintro ⟨hi, h⟩
    rw [← (hz _ _).1 h]
    exact List.getElem_mem hi
  · intro hm
    obtain ⟨j, hj, rfl⟩ := List.mem_iff_getElem.1 hm
    have hii : f l[j] l[j] = 0 := (hz _ _).2 rfl
    rcases Nat.lt_trichotomy i j with h1 | h1 | h1
    · have := hp.hi (by omega)
      have := rises_lt' ht hr h1 hj
      omega
    · subst h1
      exact ⟨hj, hii⟩
    · exfalso
      have h0 := hp.lo (by omega) (by have := hp.le; omega)
      rcases Nat.lt_or_ge j (i - 1) with h2 | h2
      · have := ht _ _ _ (rises_lt' ht hr h2 (by have := hp.le; omega)) h0
        omega
      · have : j = i - 1 := by omega
        subst this
        omega
end
theorem cmpC_zero {p q : Link} : cmpC p q = 0 ↔ p = q := by
  have : cmpC p q = 0 ↔ p.a = q.a ∧ p.b = q.b := by
    simp only [cmpC, orI_cons, orI_nil, cmpI_zero]
    split <;> (try split) <;> (try rw [cmpI_zero]) <;> omega
  rw [this]
  cases p; cases q; simp
theorem cmpT_trans {p q r : Timer} (h1 : cmpT p q < 0) (h2 : cmpT q r < 0) : cmpT p r < 0 := by
  rw [cmpT_lt] at *
  omega
theorem posC {l : List Link} {t : Link} {i : Nat} (hr : rises cmpC l) (hp : PosOf cmpC l t i) : (l.takeWhile fun q => decide (cmpC q t < 0)).length = i := PosOf.len (f := cmpC) (fun p q r h1 h2 => cmpC_trans h1 h2) hr hp
theorem posT {l : List Timer} {t : Timer} {i : Nat} (hr : rises cmpT l) (hp : PosOf cmpT l t i) : (l.takeWhile fun q => decide (cmpT q t < 0)).length = i := PosOf.len (f := cmpT) (fun p q r h1 h2 => cmpT_trans h1 h2) hr hp
theorem foundC {l : List Link} {t : Link} {i : Nat} (hr : rises cmpC l) (hp : PosOf cmpC l t i) : (∃ hi : i < l.length, cmpC l[i] t = 0) ↔ t ∈ l := PosOf.mem (f := cmpC) (fun p q r h1 h2 => cmpC_trans h1 h2) (fun p q => cmpC_zero) hr hp
/-- What the acts do. -/
def insC (l : List Link) (p : Link) : List Link := insAt l (l.takeWhile fun q => decide (cmpC q p < 0)).length p
def insT (l : List Timer) (p : Timer) : List Timer := insAt l (l.takeWhile fun q => decide (cmpT q p < 0)).length p
def dropT (l : List Timer) (nd tg : Int) : List Timer := l.filter fun t => !isTm nd tg t
def pairP (x : Net) (a b : Int) : Prop := nodeOk x a ∧ nodeOk x b ∧ a ≠ b
instance pairDec (x : Net) (a b : Int) : Decidable (pairP x a b) := by unfold pairP; infer_instance
instance setDec (x : Net) (nd tg n : Int) : Decidable (setOk x nd tg n) := by unfold setOk; infer_instance
def tagOk (x : Net) (nd tg : Int) : Prop := nodeOk x nd ∧ 0 ≤ tg ∧ tg ≤ 2147483647
instance tagDec (x : Net) (nd tg : Int) : Decidable (tagOk x nd tg) := by unfold tagOk; infer_instance
def atOk (x : Net) (i : Int) : Prop := 0 ≤ i ∧ i < x.way.length
instance atDec (x : Net) (i : Int) : Decidable (atOk x i) := by unfold atOk; infer_instance
def atL (x : Net) (i : Int) : Letter := x.way.getD i.toNat noLetter
def cutE (x : Net) (a b : Int) : Int := if ¬ pairP x a b then 1 else if pairOf a b ∈ x.cuts then 5 else 0
def cutG (x : Net) (a b : Int) : Net := { x with cuts := insC x.cuts (pairOf a b) }
def healE (x : Net) (a b : Int) : Int := if ¬ pairP x a b then 1 else if pairOf a b ∈ x.cuts then 0 else 4
def healG (x : Net) (a b : Int) : Net := { x with cuts := x.cuts.filter fun c => !decide (c = pairOf a b) }
def setE (x : Net) (nd tg n : Int) : Int := if ¬ setOk x nd tg n then 1 else if (dropT x.timers nd tg).length = 64 then 7 else 0
def setG (x : Net) (nd tg n : Int) : Net := { x with timers := insT (dropT x.timers nd tg) ⟨x.now + n, nd, tg⟩ }
def stopE (x : Net) (nd tg : Int) : Int := if ¬ tagOk x nd tg then 1 else if x.timers.any (isTm nd tg) then 0 else 4
def stopG (x : Net) (nd tg : Int) : Net := { x with timers := dropT x.timers nd tg }
def tickE (x : Net) : Int := if x.now = 1099511627776 then 3 else 0
def tickG (x : Net) : Net := { x with now := x.now + 1, timers := x.timers.filter fun t => !decide (t.tm = x.now + 1) }
def tickF (x : Net) : List Timer := x.timers.filter fun t => decide (t.tm = x.now + 1)
def deliverE (x : Net) (i : Int) : Int := if ¬ atOk x i then 4 else if canX x (atL x i) then 0 else 6
def loseE (x : Net) (i : Int) : Int := if ¬ atOk x i then 4 else 0
def loseG (x : Net) (i : Int) : Net := { x with way := x.way.eraseIdx i.toNat }
def doubleE (x : Net) (i : Int) : Int := if ¬ atOk x i then 4 else if x.way.length = 200 then 7 else 0
def doubleG (x : Net) (i : Int) : Net := { x with way := x.way ++ [atL x i] }
def delayE (x : Net) (i d : Int) : Int := if ¬ atOk x i then 4 else if d < 0 ∨ 1000 < d then 1 else 0
def delayG (x : Net) (i d : Int) : Net := { x with way := x.way.set i.toNat (setRdy (atL x i) (x.now + d)) }
theorem atL_eq {x : Net} {i : Nat} (hi : i < x.way.length) : atL x (i : Int) = x.way[i] := by simp [atL, hi]

/-- One element taken out of a list in which it stands once. -/
theorem erase_filter {α : Type} {p : α → Bool} : ∀ {l : List α} {k : Nat} (hk : k < l.length), p l[k] = true → (∀ j (hj : j < l.length), j ≠ k → p l[j] = false) → l.eraseIdx k = l.filter fun t => !p t
  | x :: l, 0, _, h, ho => by
    simp only [List.getElem_cons_zero] at h
    have : ∀ y ∈ l, p y = false := fun y hy => by
      obtain ⟨j, hj, rfl⟩ := List.mem_iff_getElem.1 hy
      exact ho (j + 1) (by simpa using hj) (by omega)
    simp only [List.eraseIdx_cons_zero, List.filter_cons, h, Bool.not_true, Bool.false_eq_true, if_false]
    exact (List.filter_eq_self.2 fun y hy => by simp [this y hy]).symm
  | x :: l, k + 1, hk, h, ho => by
    have h0 := ho 0 (by simp) (by omega)
    simp only [List.getElem_cons_zero] at h0
    have := erase_filter (p := p) (l := l) (k := k) (by simpa using hk) (by simpa using h) (fun j hj hne => ho (j + 1) (by simpa using hj) (by omega))
    simp only [List.eraseIdx_cons_succ, List.filter_cons, h0, Bool.not_false, if_true, this]
theorem eraseC {l : List Link} (hr : rises cmpC l) {p : Link} {i : Nat} (hi : i < l.length) (hp : l[i] = p) : l.eraseIdx i = l.filter fun c => !decide (c = p) := by
  have hn := nodupC hr
  refine erase_filter (p := fun c => decide (c = p)) hi (by simp [hp]) fun j hj hne => ?_
  rw [decide_eq_false_iff_not]
  intro e
  rw [List.Nodup, List.pairwise_iff_getElem] at hn
  rcases Nat.lt_or_ge j i with h1 | h1
  · exact hn j i hj hi h1 (by rw [e, hp])
  · exact hn i j hi hj (by omega) (by rw [e, hp])
theorem eraseT {x : Net} (w : WF x) {nd tg : Int} {k : Nat} (hk : k < x.timers.length) (hp : isTm nd tg x.timers[k] = true) : x.timers.eraseIdx k = dropT x.timers nd tg := by
  refine erase_filter (p := isTm nd tg) hk hp fun j hj hne => ?_
  rw [← Bool.not_eq_true]
  intro e
  simp only [isTm, Bool.and_eq_true, decide_eq_true_eq] at e hp
  rcases Nat.lt_or_ge j k with h1 | h1
  · exact w.ow k j hk h1 ⟨by omega, by omega⟩
  · exact w.ow j k hj (by omega) ⟨by omega, by omega⟩
theorem dropT_none {l : List Timer} {nd tg : Int} (h : ∀ t ∈ l, isTm nd tg t = false) : dropT l nd tg = l := List.filter_eq_self.2 fun t ht => by simp [h t ht]
theorem rises_filter {α : Type} {f : α → α → Int} (ht : ∀ p q r, f p q < 0 → f q r < 0 → f p r < 0) {l : List α} (hr : rises f l) (p : α → Bool) : rises f (l.filter p) := by
  have h1 : l.Pairwise fun a b => f a b < 0 := by
    rw [List.pairwise_iff_getElem]
    exact fun i j _ hj hij => rises_lt' ht hr hij hj
  have h2 := h1.filter p
  rw [List.pairwise_iff_getElem] at h2
  exact fun i hi => h2 i (i + 1) (by omega) hi (by omega)
/-- The timers that fire stand in front. -/
theorem fired_take {x : Net} (w : WF x) {k : Nat} (hk : k ≤ x.timers.length) (h1 : ∀ t ∈ x.timers.take k, t.tm = x.now + 1) (h2 : ∀ hk : k < x.timers.length, x.timers[k].tm ≠ x.now + 1) : x.timers.take k = tickF x ∧ tickTo x k = tickG x := by
  have hd : ∀ t ∈ x.timers.drop k, t.tm ≠ x.now + 1 := fun t ht => by
    obtain ⟨j, hj, rfl⟩ := List.mem_iff_getElem.1 ht
    rw [List.length_drop] at hj
    rw [List.getElem_drop]
    have hk' : k < x.timers.length := by omega
    have h3 := h2 hk'
    have h4 := w.to _ (List.getElem_mem hk')
    have h5 : x.now < x.timers[k].tm := h4.2.2.2.1
    rcases Nat.eq_zero_or_pos j with rfl | h0
    · simpa using h3
    · have h6 : cmpT x.timers[k] x.timers[k + j] < 0 := rises_lt' (f := cmpT) (fun p q r a b => cmpT_trans a b) w.tr (by omega) (by omega)
      rw [cmpT_lt] at h6
      omega
  have e1 : tickF x = x.timers.take k := by
    unfold tickF
    conv => lhs; rw [← List.take_append_drop k x.timers]
    rw [List.filter_append, List.filter_eq_self.2 (fun t ht => by simpa using h1 t ht), List.filter_eq_nil_iff.2 (fun t ht => by simpa using hd t ht), List.append_nil]
  have e2 : (x.timers.filter fun t => !decide (t.tm = x.now + 1)) = x.timers.drop k := by
    conv => lhs; rw [← List.take_append_drop k x.timers]
    rw [List.filter_append, List.filter_eq_nil_iff.2 (fun t ht => by simpa using h1 t ht), List.filter_eq_self.2 (fun t ht => by simpa using hd t ht), List.nil_append]
  refine ⟨e1.symm, ?_⟩
  simp only [tickTo, tickG, e2]
end Go.Ab
end
section
/- The program's functions as lists of items. -/
set_option maxRecDepth 100000
namespace Go.Ab
section
variable {C : CX} {d : AV} {l : List (Nat × AV)} {bx bx' : List (List AV)} {h h' : List AObj} {s : ASt} {K : Exit → ASt → Prop}
noncomputable def b65 : List It := [.o (some 6) (.tk (.const (.int .i64 0))) none, .o (some 9) (.mv (.t 0)) none, .o (some 10) (.mv (.t 1)) none, .o (some 11) (.mv (.t 2)) none, .o (some 12) (.call 93 [.t 9, .t 10, .t 11]) none, .o (some 13) (.not (.t 12)) none, .cond (.tmp 13) [.o (some 6) (.tk (.const (.int .i64 1))) none, .ret] [], .rf (rg (bodyOf Go.Proofs.Try.f65) 0), .o (some 26) (.mv (.t 8)) none, .o (some 27) (.not (.t 26)) none, .cond (.tmp 27) [.o (some 6) (.tk (.const (.int .i64 4))) none, .ret] [], .o (some 29) (.mv (.t 0)) none, .o (some 30) (.mv (.t 0)) none, .o (some 31) (.nilck (.t 30)) none, .o (some 32) (.fa 0 (.t 31)) none, .o (some 33) (.fa 4 (.t 32)) none, .o (some 34) (.ld1 (.slice 100) (.t 33)) none, .o (some 35) (.mv (.t 7)) none, .o (some 36) (.call 96 [.t 34, .t 35]) none, .o (some 28) (.mv (.t 36)) none, .o (some 37) (.ext (.t 28) 0) none, .o (some 38) (.ext (.t 28) 1) none, .o (some 39) (.nilck (.t 29)) none, .o (some 40) (.fa 0 (.t 39)) none, .o (some 41) (.fa 4 (.t 40)) none, .o none (.st 1 (.t 41) (.tmp 37)) none, .o (some 6) (.tk (.const (.int .i64 0))) none, .ret]
theorem c65 : compR T {} pl65 (bodyOf Go.Proofs.Try.f65) = b65 := by kernel_rfl
noncomputable def g65q0 : List It := [.o (some 15) (.mv (.t 0)) none, .o (some 16) (.nilck (.t 15)) none, .o (some 17) (.fa 0 (.t 16)) none, .o (some 18) (.fa 4 (.t 17)) none, .o (some 20) (.mv (.t 1)) none, .o (some 21) (.mv (.t 2)) none, .alts [[.o (some 19) (.ld1 (.slice 100) (.t 18)) none, .alts [[.o (some 22) (.call 88 [.t 20, .t 21]) none, .alts [[.o (some 23) (.call 94 [.t 19, .t 22, .c (.fn 52 [])]) none, .o (some 14) (.mv (.t 23)) none, .o (some 24) (.ext (.t 14) 0) none, .o (some 25) (.ext (.t 14) 1) none, .o (some 7) (.tk (.tmp 24)) none, .o (some 8) (.tk (.tmp 25)) none]]]]], [.o (some 22) (.call 88 [.t 20, .t 21]) none, .alts [[.o (some 19) (.ld1 (.slice 100) (.t 18)) none, .alts [[.o (some 23) (.call 94 [.t 19, .t 22, .c (.fn 52 [])]) none, .o (some 14) (.mv (.t 23)) none, .o (some 24) (.ext (.t 14) 0) none, .o (some 25) (.ext (.t 14) 1) none, .o (some 7) (.tk (.tmp 24)) none, .o (some 8) (.tk (.tmp 25)) none]]]]]]]
theorem gc65q0 : compC T {} pl65 (rg (bodyOf Go.Proofs.Try.f65) 0) = g65q0 := by kernel_rfl
theorem go65q0 : okCode {} none pl65 (rg (bodyOf Go.Proofs.Try.f65) 0) = true := by kernel_rfl
theorem re65q0 (h1 : Run C Pg T {} none g65q0 s K) : AWp C Pg none (rg (bodyOf Go.Proofs.Try.f65) 0) s K := AWp.eachR T_ok mixed {} pl65 go65q0 gc65q0 h1
theorem n65 : Go.Proofs.Try.f65.ntmps = 42 := by kernel_rfl
theorem r65 : Go.Proofs.Try.f65.results.toList = [.tmp 6] := by kernel_rfl
theorem f65 : Pg.funcs[65]? = some Go.Proofs.Try.f65 := by kernel_rfl
theorem run65 {args : List AV} {K : AV → List AObj → Prop} (hv : Run C Pg T {} none b65 (S (.tup []) 42 (enumL 0 args) [] h) (bodyK T Go.Proofs.Try.f65 K)) (hown : args.all (fun a => !a.owns) = true := by first | rfl | simp [AV.owns]) (hl : args.length ≤ 42 := by exact Nat.le_of_ble_eq_true rfl) : ACall C Pg 65 args h K := ACall.of_runR T_ok {} pl65 (c := bodyOf Go.Proofs.Try.f65) f65 (by kernel_rfl) (by kernel_rfl) c65 n65 hown hl hv
noncomputable def b71 : List It := [.o (some 6) (.tk (.const (.int .i64 0))) none, .o (some 8) (.mv (.t 0)) none, .o (some 9) (.nilck (.t 8)) none, .o (some 10) (.fa 0 (.t 9)) none, .o (some 11) (.ldA 6 [.int .i64, .int .i64, .int .i64, .slice 33, .slice 100, .slice 86] (.t 10)) none, .o (some 12) (.mv (.t 1)) none, .o (some 13) (.call 56 [.t 11, .t 12]) none, .o (some 14) (.not (.t 13)) none, .o (some 15) (.mv (.t 14)) none, .o (some 16) (.mv (.t 2)) (some (some 15, false)), .o (some 17) (.ar .lss (.t 16) (.c (.int .i64 0))) (some (some 15, false)), .o (some 18) (.pick (.t 15) (.c (.bool true)) (.t 17)) none, .o (some 19) (.mv (.t 18)) none, .o (some 20) (.mv (.t 2)) (some (some 19, false)), .o (some 21) (.ar .gtr (.t 20) (.c (.int .i64 2147483647))) (some (some 19, false)), .o (some 22) (.pick (.t 19) (.c (.bool true)) (.t 21)) none, .cond (.tmp 22) [.o (some 6) (.tk (.const (.int .i64 1))) none, .ret] [], .o (some 23) (.mv (.t 0)) none, .o (some 24) (.mv (.t 1)) none, .o (some 25) (.mv (.t 2)) none, .o (some 26) (.call 97 [.t 23, .t 24, .t 25]) none, .o (some 7) (.tk (.tmp 26)) none, .o (some 27) (.mv (.t 7)) none, .o (some 28) (.ar .lss (.t 27) (.c (.int .i64 0))) none, .cond (.tmp 28) [.o (some 6) (.tk (.const (.int .i64 4))) none, .ret] [], .o (some 30) (.mv (.t 0)) none, .o (some 31) (.mv (.t 0)) none, .o (some 32) (.nilck (.t 31)) none, .o (some 33) (.fa 0 (.t 32)) none, .o (some 34) (.fa 5 (.t 33)) none, .o (some 35) (.ld1 (.slice 86) (.t 34)) none, .o (some 36) (.mv (.t 7)) none, .o (some 37) (.call 98 [.t 35, .t 36]) none, .o (some 29) (.mv (.t 37)) none, .o (some 38) (.ext (.t 29) 0) none, .o (some 39) (.ext (.t 29) 1) none, .o (some 40) (.nilck (.t 30)) none, .o (some 41) (.fa 0 (.t 40)) none, .o (some 42) (.fa 5 (.t 41)) none, .o none (.st 1 (.t 42) (.tmp 38)) none, .o (some 6) (.tk (.const (.int .i64 0))) none, .ret]
theorem c71 : compR T {} [] (bodyOf Go.Proofs.Try.f71) = b71 := by kernel_rfl
theorem n71 : Go.Proofs.Try.f71.ntmps = 43 := by kernel_rfl
theorem r71 : Go.Proofs.Try.f71.results.toList = [.tmp 6] := by kernel_rfl
theorem f71 : Pg.funcs[71]? = some Go.Proofs.Try.f71 := by kernel_rfl
theorem run71 {args : List AV} {K : AV → List AObj → Prop} (hv : Run C Pg T {} none b71 (S (.tup []) 43 (enumL 0 args) [] h) (bodyK T Go.Proofs.Try.f71 K)) (hown : args.all (fun a => !a.owns) = true := by first | rfl | simp [AV.owns]) (hl : args.length ≤ 43 := by exact Nat.le_of_ble_eq_true rfl) : ACall C Pg 71 args h K := ACall.of_runR T_ok {} [] (c := bodyOf Go.Proofs.Try.f71) f71 (by kernel_rfl) (by kernel_rfl) c71 n71 hown hl hv
noncomputable def b103 : List It := [.o (some 3) (.alloc false [.int .i64 0, .int .i64 0, .int .i64 0, .int .i64 0, .str []]) none, .o (some 4) (.tk (.const (.int .i64 0))) none, .o (some 5) (.mv (.t 0)) none, .o (some 6) (.fa 3 (.t 1)) none, .o (some 7) (.ld1 (.int .i64) (.t 6)) none, .o (some 8) (.call 78 [.t 5, .t 7]) none, .o (some 9) (.ext (.t 8) 0) none, .o (some 10) (.ext (.t 8) 1) none, .o none (.st 5 (.t 3) (.tmp 9)) none, .o (some 4) (.tk (.tmp 10)) none, .ret]
theorem c103 : compR T {} [] (bodyOf Go.Proofs.Try.f103) = b103 := by kernel_rfl
theorem n103 : Go.Proofs.Try.f103.ntmps = 11 := by kernel_rfl
theorem r103 : Go.Proofs.Try.f103.results.toList = [.cell 3 33, .tmp 4] := by kernel_rfl
theorem f103 : Pg.funcs[103]? = some Go.Proofs.Try.f103 := by kernel_rfl
theorem run103 {args : List AV} {K : AV → List AObj → Prop} (hv : Run C Pg T {} none b103 (S (.tup []) 11 (enumL 0 args) [] h) (bodyK T Go.Proofs.Try.f103 K)) (hown : args.all (fun a => !a.owns) = true := by first | rfl | simp [AV.owns]) (hl : args.length ≤ 11 := by exact Nat.le_of_ble_eq_true rfl) : ACall C Pg 103 args h K := ACall.of_runR T_ok {} [] (c := bodyOf Go.Proofs.Try.f103) f103 (by kernel_rfl) (by kernel_rfl) c103 n103 hown hl hv
noncomputable def b106 : List It := [.o (some 3) (.alloc false [.int .i64 0, .int .i64 0, .int .i64 0, .int .i64 0, .str []]) none, .o (some 4) (.tk (.const (.int .i64 0))) none, .o (some 5) (.mv (.t 0)) none, .o (some 6) (.fa 3 (.t 1)) none, .o (some 7) (.ld1 (.int .i64) (.t 6)) none, .o (some 8) (.fa 2 (.t 1)) none, .o (some 9) (.ld1 (.int .i64) (.t 8)) none, .o (some 10) (.call 82 [.t 5, .t 7, .t 9]) none, .o (some 11) (.ext (.t 10) 0) none, .o (some 12) (.ext (.t 10) 1) none, .o none (.st 5 (.t 3) (.tmp 11)) none, .o (some 4) (.tk (.tmp 12)) none, .ret]
theorem c106 : compR T {} [] (bodyOf Go.Proofs.Try.f106) = b106 := by kernel_rfl
theorem n106 : Go.Proofs.Try.f106.ntmps = 13 := by kernel_rfl
theorem r106 : Go.Proofs.Try.f106.results.toList = [.cell 3 33, .tmp 4] := by kernel_rfl
theorem f106 : Pg.funcs[106]? = some Go.Proofs.Try.f106 := by kernel_rfl
theorem run106 {args : List AV} {K : AV → List AObj → Prop} (hv : Run C Pg T {} none b106 (S (.tup []) 13 (enumL 0 args) [] h) (bodyK T Go.Proofs.Try.f106 K)) (hown : args.all (fun a => !a.owns) = true := by first | rfl | simp [AV.owns]) (hl : args.length ≤ 13 := by exact Nat.le_of_ble_eq_true rfl) : ACall C Pg 106 args h K := ACall.of_runR T_ok {} [] (c := bodyOf Go.Proofs.Try.f106) f106 (by kernel_rfl) (by kernel_rfl) c106 n106 hown hl hv
noncomputable def b107 : List It := [.o (some 3) (.tk (.const (.int .i64 0))) none, .o (some 4) (.mv (.t 0)) none, .o (some 5) (.fa 1 (.t 1)) none, .o (some 6) (.ld1 (.int .i64) (.t 5)) none, .o (some 7) (.fa 2 (.t 1)) none, .o (some 8) (.ld1 (.int .i64) (.t 7)) none, .o (some 9) (.call 60 [.t 4, .t 6, .t 8]) none, .o (some 3) (.tk (.tmp 9)) none, .ret]
theorem c107 : compR T {} [] (bodyOf Go.Proofs.Try.f107) = b107 := by kernel_rfl
theorem n107 : Go.Proofs.Try.f107.ntmps = 10 := by kernel_rfl
theorem r107 : Go.Proofs.Try.f107.results.toList = [.tmp 3] := by kernel_rfl
theorem f107 : Pg.funcs[107]? = some Go.Proofs.Try.f107 := by kernel_rfl
theorem run107 {args : List AV} {K : AV → List AObj → Prop} (hv : Run C Pg T {} none b107 (S (.tup []) 10 (enumL 0 args) [] h) (bodyK T Go.Proofs.Try.f107 K)) (hown : args.all (fun a => !a.owns) = true := by first | rfl | simp [AV.owns]) (hl : args.length ≤ 10 := by exact Nat.le_of_ble_eq_true rfl) : ACall C Pg 107 args h K := ACall.of_runR T_ok {} [] (c := bodyOf Go.Proofs.Try.f107) f107 (by kernel_rfl) (by kernel_rfl) c107 n107 hown hl hv
noncomputable def b108 : List It := [.o (some 3) (.tk (.const (.int .i64 0))) none, .o (some 4) (.mv (.t 0)) none, .o (some 5) (.fa 1 (.t 1)) none, .o (some 6) (.ld1 (.int .i64) (.t 5)) none, .o (some 7) (.fa 2 (.t 1)) none, .o (some 8) (.ld1 (.int .i64) (.t 7)) none, .o (some 9) (.call 65 [.t 4, .t 6, .t 8]) none, .o (some 3) (.tk (.tmp 9)) none, .ret]
theorem c108 : compR T {} [] (bodyOf Go.Proofs.Try.f108) = b108 := by kernel_rfl
theorem n108 : Go.Proofs.Try.f108.ntmps = 10 := by kernel_rfl
theorem r108 : Go.Proofs.Try.f108.results.toList = [.tmp 3] := by kernel_rfl
theorem f108 : Pg.funcs[108]? = some Go.Proofs.Try.f108 := by kernel_rfl
theorem run108 {args : List AV} {K : AV → List AObj → Prop} (hv : Run C Pg T {} none b108 (S (.tup []) 10 (enumL 0 args) [] h) (bodyK T Go.Proofs.Try.f108 K)) (hown : args.all (fun a => !a.owns) = true := by first | rfl | simp [AV.owns]) (hl : args.length ≤ 10 := by exact Nat.le_of_ble_eq_true rfl) : ACall C Pg 108 args h K := ACall.of_runR T_ok {} [] (c := bodyOf Go.Proofs.Try.f108) f108 (by kernel_rfl) (by kernel_rfl) c108 n108 hown hl hv
noncomputable def b109 : List It := [.o (some 3) (.tk (.const (.int .i64 0))) none, .o (some 4) (.mv (.t 0)) none, .o (some 5) (.fa 1 (.t 1)) none, .o (some 6) (.ld1 (.int .i64) (.t 5)) none, .o (some 7) (.fa 2 (.t 1)) none, .o (some 8) (.ld1 (.int .i64) (.t 7)) none, .o (some 9) (.fa 3 (.t 1)) none, .o (some 10) (.ld1 (.int .i64) (.t 9)) none, .o (some 11) (.call 67 [.t 4, .t 6, .t 8, .t 10]) none, .o (some 3) (.tk (.tmp 11)) none, .ret]
theorem c109 : compR T {} [] (bodyOf Go.Proofs.Try.f109) = b109 := by kernel_rfl
theorem n109 : Go.Proofs.Try.f109.ntmps = 12 := by kernel_rfl
theorem r109 : Go.Proofs.Try.f109.results.toList = [.tmp 3] := by kernel_rfl
theorem f109 : Pg.funcs[109]? = some Go.Proofs.Try.f109 := by kernel_rfl
theorem run109 {args : List AV} {K : AV → List AObj → Prop} (hv : Run C Pg T {} none b109 (S (.tup []) 12 (enumL 0 args) [] h) (bodyK T Go.Proofs.Try.f109 K)) (hown : args.all (fun a => !a.owns) = true := by first | rfl | simp [AV.owns]) (hl : args.length ≤ 12 := by exact Nat.le_of_ble_eq_true rfl) : ACall C Pg 109 args h K := ACall.of_runR T_ok {} [] (c := bodyOf Go.Proofs.Try.f109) f109 (by kernel_rfl) (by kernel_rfl) c109 n109 hown hl hv
noncomputable def b110 : List It := [.o (some 3) (.tk (.const (.int .i64 0))) none, .o (some 4) (.mv (.t 0)) none, .o (some 5) (.fa 1 (.t 1)) none, .o (some 6) (.ld1 (.int .i64) (.t 5)) none, .o (some 7) (.fa 2 (.t 1)) none, .o (some 8) (.ld1 (.int .i64) (.t 7)) none, .o (some 9) (.call 71 [.t 4, .t 6, .t 8]) none, .o (some 3) (.tk (.tmp 9)) none, .ret]
theorem c110 : compR T {} [] (bodyOf Go.Proofs.Try.f110) = b110 := by kernel_rfl
theorem n110 : Go.Proofs.Try.f110.ntmps = 10 := by kernel_rfl
theorem r110 : Go.Proofs.Try.f110.results.toList = [.tmp 3] := by kernel_rfl
theorem f110 : Pg.funcs[110]? = some Go.Proofs.Try.f110 := by kernel_rfl
theorem run110 {args : List AV} {K : AV → List AObj → Prop} (hv : Run C Pg T {} none b110 (S (.tup []) 10 (enumL 0 args) [] h) (bodyK T Go.Proofs.Try.f110 K)) (hown : args.all (fun a => !a.owns) = true := by first | rfl | simp [AV.owns]) (hl : args.length ≤ 10 := by exact Nat.le_of_ble_eq_true rfl) : ACall C Pg 110 args h K := ACall.of_runR T_ok {} [] (c := bodyOf Go.Proofs.Try.f110) f110 (by kernel_rfl) (by kernel_rfl) c110 n110 hown hl hv
noncomputable def b111 : List It := [.o (some 2) (.tk (.const (.int .i64 0))) none, .o (some 2) (.tk (.const (.int .i64 1))) none, .ret]
theorem c111 : compR T {} [] (bodyOf Go.Proofs.Try.f111) = b111 := by kernel_rfl
theorem n111 : Go.Proofs.Try.f111.ntmps = 3 := by kernel_rfl
theorem r111 : Go.Proofs.Try.f111.results.toList = [.tmp 2] := by kernel_rfl
theorem f111 : Pg.funcs[111]? = some Go.Proofs.Try.f111 := by kernel_rfl
theorem run111 {args : List AV} {K : AV → List AObj → Prop} (hv : Run C Pg T {} none b111 (S (.tup []) 3 (enumL 0 args) [] h) (bodyK T Go.Proofs.Try.f111 K)) (hown : args.all (fun a => !a.owns) = true := by first | rfl | simp [AV.owns]) (hl : args.length ≤ 3 := by exact Nat.le_of_ble_eq_true rfl) : ACall C Pg 111 args h K := ACall.of_runR T_ok {} [] (c := bodyOf Go.Proofs.Try.f111) f111 (by kernel_rfl) (by kernel_rfl) c111 n111 hown hl hv
noncomputable def b145 : List It := [.o (some 4) (.alloc false [.int .i64 0, .int .i64 0, .int .i64 0, .int .i64 0, .str [], .int .i64 0, .int .i64 0, .int .i64 0, .int .i64 0, .int .i64 0, .int .i64 0, .str [], .sl true 0 [] .own]) none, .o (some 5) (.mv (.t 0)) none, .o (some 6) (.mv (.t 1)) none, .o (some 7) (.callv (.t 5) [.t 6]) none, .o (some 8) (.bld 55 [(1, .t 7)]) none, .o none (.st 13 (.t 4) (.tmp 8)) none, .ret]
theorem c145 : compR T {} [] (bodyOf Go.Proofs.Try.f145) = b145 := by kernel_rfl
theorem n145 : Go.Proofs.Try.f145.ntmps = 9 := by kernel_rfl
theorem r145 : Go.Proofs.Try.f145.results.toList = [.cell 4 55] := by kernel_rfl
theorem f145 : Pg.funcs[145]? = some Go.Proofs.Try.f145 := by kernel_rfl
theorem run145 {args : List AV} {K : AV → List AObj → Prop} (hv : Run C Pg T {} none b145 (S (.tup []) 9 (enumL 0 args) [] h) (bodyK T Go.Proofs.Try.f145 K)) (hown : args.all (fun a => !a.owns) = true := by first | rfl | simp [AV.owns]) (hl : args.length ≤ 9 := by exact Nat.le_of_ble_eq_true rfl) : ACall C Pg 145 args h K := ACall.of_runR T_ok {} [] (c := bodyOf Go.Proofs.Try.f145) f145 (by kernel_rfl) (by kernel_rfl) c145 n145 hown hl hv
noncomputable def b146 : List It := [.o (some 2) (.box false (.t 0)) none, .o (some 4) (.alloc false [.int .i64 0, .int .i64 0, .int .i64 0, .int .i64 0, .str [], .int .i64 0, .int .i64 0, .int .i64 0, .int .i64 0, .int .i64 0, .int .i64 0, .str [], .sl true 0 [] .own]) none, .o (some 8) (.mv (.t 1)) none, .o (some 9) (.call 72 [.t 8]) none, .o (some 7) (.mv (.t 9)) none, .o (some 10) (.ext (.t 7) 0) none, .o (some 11) (.ext (.t 7) 1) none, .o (some 5) (.tk (.tmp 10)) none, .o (some 6) (.tk (.tmp 11)) none, .o (some 12) (.mv (.t 6)) none, .o (some 13) (.mv (.t 5)) none, .o (some 14) (.bld 55 [(1, .t 12), (4, .t 13)]) none, .o none (.st 13 (.t 4) (.tmp 14)) none, .ret]
theorem c146 : compR T {} [] (bodyOf Go.Proofs.Try.f146) = b146 := by kernel_rfl
theorem n146 : Go.Proofs.Try.f146.ntmps = 15 := by kernel_rfl
theorem r146 : Go.Proofs.Try.f146.results.toList = [.cell 4 55] := by kernel_rfl
theorem f146 : Pg.funcs[146]? = some Go.Proofs.Try.f146 := by kernel_rfl
theorem run146 {args : List AV} {K : AV → List AObj → Prop} (hv : Run C Pg T {} none b146 (S (.tup []) 15 (enumL 0 args) [] h) (bodyK T Go.Proofs.Try.f146 K)) (hown : args.all (fun a => !a.owns) = true := by first | rfl | simp [AV.owns]) (hl : args.length ≤ 15 := by exact Nat.le_of_ble_eq_true rfl) : ACall C Pg 146 args h K := ACall.of_runR T_ok {} [] (c := bodyOf Go.Proofs.Try.f146) f146 (by kernel_rfl) (by kernel_rfl) c146 n146 hown hl hv
end
end Go.Ab
end
section
/- Changes, for all networks: cutting, restoring, setting and stopping timers. -/
set_option linter.unusedSimpArgs false
set_option linter.unusedVariables false
set_option maxRecDepth 100000
set_option maxHeartbeats 4000000
namespace Go.Ab

section
variable {C : CX} {h : List AObj} {K : AV → List AObj → Prop} {a b : Int} {x : Net} {A B D : AV} {cid i : Nat} {ii : Int}
theorem without96 {l : List Link} {v : AV} (hl : l.length < 1000000) (hv : LV h 2 Link.c v l) (hi : i < l.length) (hii : ii = (i : Int))
    (hK : ∀ v' h', vid v' = vid v → Fr (vid v) h h' → LV h' 2 Link.c v' (l.eraseIdx i) → K (.tup [v', .agg (Link.c l[i])]) h') : ACall C Pg 96 [v, .int .i64 ii] h K := by
  subst hii
  obtain ⟨id, n, rest, rfl, hid, hn⟩ := hv.obj hi
  refine run96 ?_
  simp -implicitDefEqProofs [b96, r96, rue, -List.getD_eq_getElem?_getD, ru, ruc, rud]
  refine ⟨by omega, readC_at (l := l) lenC hid hi ?_⟩
  simp -implicitDefEqProofs [r96, Link.c, rue, wrC, readC, -List.getD_eq_getElem?_getD, ru, ruc, rud, laid]
  refine re96q0 ?_
  simp -implicitDefEqProofs [g96q0, wrap_id, rue, wrC, readC, -List.getD_eq_getElem?_getD, ru, ruc, rud, laid]
  refine ⟨?_, ?_⟩
  all_goals (
    refine delete118 hl hid hn rfl hi rfl (by rw [wrap_id (by omega) (by omega)]) fun h' hf hv' => ?_
    simp -implicitDefEqProofs [r96, rue, wrC, readC, -List.getD_eq_getElem?_getD, ru, ruc, rud, laid]
    exact hK _ h' rfl hf hv')

theorem cut60g (w : WF x) (hc : Chg h cid x A B D) (hl : x.cuts.length < 1000000)
    (hK : ∀ h' y A' B' D', Chg h' cid y A' B' D' → (cutE x a b = 0 → y = cutG x a b) → K (.int .i64 (cutE x a b)) h') : ACall C Pg 60 [.mptr cid 0, .int .i64 a, .int .i64 b] h K := by
  have ha := hc.all
  have hcl := hc.clt
  obtain ⟨o1, o2, o3, o4, o5⟩ := hc.other
  refine run60 ?_
  simp -implicitDefEqProofs [b60, r60, ha, rue, wrC, readC, -List.getD_eq_getElem?_getD, ru, ruc, rud, laid]
  refine two93 hc fun r hr => ?_
  cases r with
  | false =>
    have he : cutE x a b = 1 := if_pos fun h1 => by have := hr.2 h1; cases this
    simp -implicitDefEqProofs [r60, ha, rue, wrC, readC, -List.getD_eq_getElem?_getD, ru, ruc, rud, laid]
    have := hK h x A B D hc (fun h0 => by rw [he] at h0; cases h0)
    rwa [he] at this
  | true =>
    have h0 : pairP x a b := hr.1 rfl
    simp -implicitDefEqProofs [r60, ha, rue, wrC, readC, -List.getD_eq_getElem?_getD, ru, ruc, rud, laid]
    refine re60q0 ?_
    simp -implicitDefEqProofs [g60q0, ha, rue, wrC, readC, -List.getD_eq_getElem?_getD, ru, ruc, rud, laid]
    repeat' (first | (exact same_n rfl rfl (by repeat (first | exact Sk.refl | refine Sk.cons rfl ?_)) (by repeat (first | exact True.intro | refine And.intro rfl ?_))) | (first | exact step_1 rfl | exact step_2 rfl (by assumption)) | (refine link88 ?_ <;> try simp -implicitDefEqProofs [ha, nolC, rue, wrC, readC, -List.getD_eq_getElem?_getD, ru, ruc, rud, laid]) | (refine search94 (t := pairOf a b) hc.cuts hl (fun i r2 hP hr2 => ?_) <;> try simp -implicitDefEqProofs [ha, nolC, rue, wrC, readC, -List.getD_eq_getElem?_getD, ru, ruc, rud, laid]) | (refine guardV_split (fun g => ?_) (fun g => ?_) <;> try simp -implicitDefEqProofs [ha, nolC, rue, wrC, readC, -List.getD_eq_getElem?_getD, ru, ruc, rud, laid]) | (refine condV_split (fun g => ?_) (fun g => ?_) <;> try simp -implicitDefEqProofs [ha, nolC, rue, wrC, readC, -List.getD_eq_getElem?_getD, ru, ruc, rud, laid]) | (refine run60 ?_ <;> simp -implicitDefEqProofs [ha, nolC, b60, r60, rue, wrC, readC, -List.getD_eq_getElem?_getD, ru, ruc, rud, laid]) | (intro _ <;> intros <;> simp -implicitDefEqProofs [ha, nolC, *, rue, wrC, readC, -List.getD_eq_getElem?_getD, ru, ruc, rud, laid]) | (refine And.intro ?_ ?_) | simp -implicitDefEqProofs [ha, nolC, rue, wrC, readC, -List.getD_eq_getElem?_getD, ru, ruc, rud, laid])
    all_goals try (
      have g2 : r2 = true := by assumption
      have hm := (foundC w.cr hP).1 (hr2.1 g2)
      have he : cutE x a b = 5 := by simp [cutE, h0, hm]
      have := hK h x A B D hc (fun h0 => by rw [he] at h0; cases h0)
      rwa [he] at this)
    all_goals (
      have g2 : r2 = false := by assumption
      have hm : pairOf a b ∉ x.cuts := fun hm => by
        have := hr2.2 ((foundC w.cr hP).2 hm)
        rw [g2] at this
        cases this
      have he : cutE x a b = 0 := by simp [cutE, h0, hm]
      have hpos := posC w.cr hP
      refine re60q1 ?_
      simp -implicitDefEqProofs [g60q1, ha, nolC, rue, wrC, readC, -List.getD_eq_getElem?_getD, ru, ruc, rud, laid]
      repeat' (first | (exact same_n rfl rfl (by repeat (first | exact Sk.refl | refine Sk.cons rfl ?_)) (by repeat (first | exact True.intro | refine And.intro rfl ?_))) | (first | exact step_1 rfl | exact step_2 rfl (by assumption)) | (refine link88 ?_ <;> try simp -implicitDefEqProofs [ha, nolC, bsl23qc, rue, wrC, readC, -List.getD_eq_getElem?_getD, ru, ruc, rud, laid]) | (refine insert95g (i := i) (y := pairOf a b) hc.cuts hl hP.le rfl (fun B' h' hB' hf hv hlt => ?_); have hall := hB'.all; have hcell := (hf.same cid hcl o2).trans hc.cell; have hcl' : cid < h'.length := Nat.lt_of_lt_of_le hcl hf.len; have hset : ∀ o, (h'.set cid o)[cid]? = some o := fun o => List.getElem?_set_self hcl'; simp -implicitDefEqProofs [r60, ha, hall, hcell, hset, List.set_set, rue, wrC, readC, -List.getD_eq_getElem?_getD, ru, ruc, rud, laid]; have hres := hK _ (cutG x a b) A B' D (hc.setCuts (y := cutG x a b) (by simp only [cutG, insC, hpos]; exact hB') hf hv rfl rfl) (fun _ => rfl); rw [he] at hres; exact hres <;> try simp -implicitDefEqProofs [ha, nolC, bsl23qc, rue, wrC, readC, -List.getD_eq_getElem?_getD, ru, ruc, rud, laid]) | (refine guardV_split (fun g => ?_) (fun g => ?_) <;> try simp -implicitDefEqProofs [ha, nolC, bsl23qc, rue, wrC, readC, -List.getD_eq_getElem?_getD, ru, ruc, rud, laid]) | (refine condV_split (fun g => ?_) (fun g => ?_) <;> try simp -implicitDefEqProofs [ha, nolC, bsl23qc, rue, wrC, readC, -List.getD_eq_getElem?_getD, ru, ruc, rud, laid]) | (refine run60 ?_ <;> simp -implicitDefEqProofs [ha, nolC, bsl23qc, b60, r60, rue, wrC, readC, -List.getD_eq_getElem?_getD, ru, ruc, rud, laid]) | (intro _ <;> intros <;> simp -implicitDefEqProofs [ha, nolC, bsl23qc, *, rue, wrC, readC, -List.getD_eq_getElem?_getD, ru, ruc, rud, laid]) | (refine And.intro ?_ ?_) | simp -implicitDefEqProofs [ha, nolC, bsl23qc, rue, wrC, readC, -List.getD_eq_getElem?_getD, ru, ruc, rud, laid]))

theorem heal65 (w : WF x) (hc : Chg h cid x A B D) (hl : x.cuts.length < 1000000)
    (hK : ∀ h' y A' B' D', Chg h' cid y A' B' D' → (healE x a b = 0 → y = healG x a b) → K (.int .i64 (healE x a b)) h') : ACall C Pg 65 [.mptr cid 0, .int .i64 a, .int .i64 b] h K := by
  have ha := hc.all
  have hcl := hc.clt
  obtain ⟨o1, o2, o3, o4, o5⟩ := hc.other
  refine run65 ?_
  simp -implicitDefEqProofs [b65, r65, ha, rue, wrC, readC, -List.getD_eq_getElem?_getD, ru, ruc, rud, laid]
  refine two93 hc fun r hr => ?_
  cases r with
  | false =>
    have he : healE x a b = 1 := if_pos fun h1 => by have := hr.2 h1; cases this
    simp -implicitDefEqProofs [r65, ha, rue, wrC, readC, -List.getD_eq_getElem?_getD, ru, ruc, rud, laid]
    have := hK h x A B D hc (fun h0 => by rw [he] at h0; cases h0)
    rwa [he] at this
  | true =>
    have h0 : pairP x a b := hr.1 rfl
    simp -implicitDefEqProofs [r65, ha, rue, wrC, readC, -List.getD_eq_getElem?_getD, ru, ruc, rud, laid]
    refine re65q0 ?_
    simp -implicitDefEqProofs [g65q0, ha, rue, wrC, readC, -List.getD_eq_getElem?_getD, ru, ruc, rud, laid]
    repeat' (first | (exact same_n rfl rfl (by repeat (first | exact Sk.refl | refine Sk.cons rfl ?_)) (by repeat (first | exact True.intro | refine And.intro rfl ?_))) | (first | exact step_1 rfl | exact step_2 rfl (by assumption)) | (refine link88 ?_ <;> try simp -implicitDefEqProofs [ha, nolC, rue, wrC, readC, -List.getD_eq_getElem?_getD, ru, ruc, rud, laid]) | (refine search94 (t := pairOf a b) hc.cuts hl (fun i r2 hP hr2 => ?_) <;> try simp -implicitDefEqProofs [ha, nolC, rue, wrC, readC, -List.getD_eq_getElem?_getD, ru, ruc, rud, laid]) | (refine guardV_split (fun g => ?_) (fun g => ?_) <;> try simp -implicitDefEqProofs [ha, nolC, rue, wrC, readC, -List.getD_eq_getElem?_getD, ru, ruc, rud, laid]) | (refine condV_split (fun g => ?_) (fun g => ?_) <;> try simp -implicitDefEqProofs [ha, nolC, rue, wrC, readC, -List.getD_eq_getElem?_getD, ru, ruc, rud, laid]) | (refine run65 ?_ <;> simp -implicitDefEqProofs [ha, nolC, b65, r65, rue, wrC, readC, -List.getD_eq_getElem?_getD, ru, ruc, rud, laid]) | (intro _ <;> intros <;> simp -implicitDefEqProofs [ha, nolC, *, rue, wrC, readC, -List.getD_eq_getElem?_getD, ru, ruc, rud, laid]) | (refine And.intro ?_ ?_) | simp -implicitDefEqProofs [ha, nolC, rue, wrC, readC, -List.getD_eq_getElem?_getD, ru, ruc, rud, laid])
    all_goals try (
      have g3 : (!r2) = true := by assumption
      have g2 : r2 = false := by simpa using g3
      have hm : pairOf a b ∉ x.cuts := fun hm => by
        have := hr2.2 ((foundC w.cr hP).2 hm)
        rw [g2] at this
        cases this
      have he : healE x a b = 4 := by simp [healE, h0, hm]
      have := hK h x A B D hc (fun h0 => by rw [he] at h0; cases h0)
      rwa [he] at this)
    all_goals (
      have g3 : (!r2) = false := by assumption
      have g2 : r2 = true := by simpa using g3
      obtain ⟨hi, hz⟩ := hr2.1 g2
      have hpe := cmpC_zero.1 hz
      have hm := (foundC w.cr hP).1 (hr2.1 g2)
      have he : healE x a b = 0 := by simp [healE, h0, hm]
      refine without96 hl hc.cuts hi rfl fun B' h' hvv hf hB' => ?_
      have hall := hB'.all
      have hcell := (hf.same cid hcl o2).trans hc.cell
      have hcl' : cid < h'.length := Nat.lt_of_lt_of_le hcl hf.len
      have hset : ∀ o, (h'.set cid o)[cid]? = some o := fun o => List.getElem?_set_self hcl'
      simp -implicitDefEqProofs [r65, ha, hall, hcell, hset, List.set_set, rue, wrC, readC, -List.getD_eq_getElem?_getD, ru, ruc, rud, laid]
      have hres := hK _ (healG x a b) A B' D (hc.setCuts (y := healG x a b) (by simp only [healG]; rw [← eraseC w.cr hi hpe]; exact hB') hf (fun j hj => by rw [hvv] at hj; exact .inl hj) rfl rfl) (fun _ => rfl)
      rw [he] at hres
      exact hres)

theorem stop71 {nd tg : Int} (w : WF x) (hc : Chg h cid x A B D)
    (hK : ∀ h' y A' B' D', Chg h' cid y A' B' D' → (stopE x nd tg = 0 → y = stopG x nd tg) → K (.int .i64 (stopE x nd tg)) h') : ACall C Pg 71 [.mptr cid 0, .int .i64 nd, .int .i64 tg] h K := by
  have ha := hc.all
  have hcl := hc.clt
  have hl := w.tl
  refine run71 ?_
  simp -implicitDefEqProofs [b71, r71, ha, rue, wrC, readC, -List.getD_eq_getElem?_getD, ru, ruc, rud, laid]
  refine isNode56v hc.way.trio hc.cuts.trio hc.tims.trio ?_
  repeat' (first | (exact same_n rfl rfl (by repeat (first | exact Sk.refl | refine Sk.cons rfl ?_)) (by repeat (first | exact True.intro | refine And.intro rfl ?_))) | (first | exact step_1 rfl | exact step_2 rfl (by assumption)) | (done <;> try simp -implicitDefEqProofs [ha, rue, wrC, readC, -List.getD_eq_getElem?_getD, ru, ruc, rud, laid]) | (refine guardV_split (fun g => ?_) (fun g => ?_) <;> try simp -implicitDefEqProofs [ha, rue, wrC, readC, -List.getD_eq_getElem?_getD, ru, ruc, rud, laid]) | (refine condV_split (fun g => ?_) (fun g => ?_) <;> try simp -implicitDefEqProofs [ha, rue, wrC, readC, -List.getD_eq_getElem?_getD, ru, ruc, rud, laid]) | (refine run71 ?_ <;> simp -implicitDefEqProofs [ha, b71, r71, rue, wrC, readC, -List.getD_eq_getElem?_getD, ru, ruc, rud, laid]) | (intro _ <;> intros <;> simp -implicitDefEqProofs [ha, *, rue, wrC, readC, -List.getD_eq_getElem?_getD, ru, ruc, rud, laid]) | (refine And.intro ?_ ?_) | simp -implicitDefEqProofs [ha, rue, wrC, readC, -List.getD_eq_getElem?_getD, ru, ruc, rud, laid])
  all_goals try (
    have he : stopE x nd tg = 1 := if_pos fun o => by
      simp only [tagOk, nodeOk] at o
      simp only [Bool.or_eq_true, Bool.not_eq_true', decide_eq_false_iff_not, Bool.or_eq_false_iff, Bool.not_eq_false', decide_eq_true_eq] at *
      omega
    have := hK h x A B D hc (fun h0 => by rw [he] at h0; cases h0)
    rw [he] at this
    exact this)
  have ok : tagOk x nd tg := by
    simp only [tagOk, nodeOk]
    simp only [Bool.or_eq_true, Bool.not_eq_true', decide_eq_false_iff_not, Bool.or_eq_false_iff, Bool.not_eq_false', decide_eq_true_eq] at *
    omega
  refine timer97 hc (by omega) (fun hn g => ?_) (fun k hk htm hbe g => ?_)
  · have he : stopE x nd tg = 4 := by
      have : x.timers.any (isTm nd tg) = false := by
        rw [List.any_eq_false]
        intro t ht
        simp [hn t ht]
      simp [stopE, ok, this]
    simp -implicitDefEqProofs [r71, rue, wrC, readC, -List.getD_eq_getElem?_getD, ru, ruc, rud, laid]
    have := hK _ x A B D (hc.app g) (fun h0 => by rw [he] at h0; cases h0)
    rw [he] at this
    exact this
  · have hc2 := hc.app g
    have ha2 := hc2.all
    have hcl2 := hc2.clt
    obtain ⟨o1, o2, o3, o4, o5⟩ := hc2.other
    have he : stopE x nd tg = 0 := by
      have : x.timers.any (isTm nd tg) = true := List.any_eq_true.2 ⟨_, List.getElem_mem hk, htm⟩
      simp [stopE, ok, this]
    have dk : decide ((k : Int) < 0) = false := by simp
    simp -implicitDefEqProofs [r71, dk, ha2, rue, wrC, readC, -List.getD_eq_getElem?_getD, ru, ruc, rud, laid]
    refine without98 (by omega) hc2.tims hk rfl fun D' h' hvv hf hD' => ?_
    have hall := hD'.all
    have hcell := (hf.same cid hcl2 o3).trans hc2.cell
    have hcl' : cid < h'.length := Nat.lt_of_lt_of_le hcl2 hf.len
    have hset : ∀ o, (h'.set cid o)[cid]? = some o := fun o => List.getElem?_set_self hcl'
    simp -implicitDefEqProofs [r71, ha2, hall, hcell, hset, List.set_set, rue, wrC, readC, -List.getD_eq_getElem?_getD, ru, ruc, rud, laid]
    have hres := hK _ (stopG x nd tg) A B D' (hc2.setTims (y := stopG x nd tg) (by simp only [stopG]; rw [← eraseT w hk htm]; exact hD') hf (fun j hj => by rw [hvv] at hj; exact .inl hj) rfl rfl) (fun _ => rfl)
    rw [he] at hres
    exact hres

theorem set67g {nd tg n : Int} (w : WF x) (hc : Chg h cid x A B D)
    (hK : ∀ h' y A' B' D', Chg h' cid y A' B' D' → (setE x nd tg n = 0 → y = setG x nd tg n) → K (.int .i64 (setE x nd tg n)) h') : ACall C Pg 67 [.mptr cid 0, .int .i64 nd, .int .i64 tg, .int .i64 n] h K := by
  have ha := hc.all
  have hcl := hc.clt
  have hl := w.tl
  have hw1 := w.w1
  have hw2 := w.w2
  refine run67 ?_
  simp -implicitDefEqProofs [b67, r67, ha, rue, wrC, readC, -List.getD_eq_getElem?_getD, ru, ruc, rud, laid]
  refine isNode56v hc.way.trio hc.cuts.trio hc.tims.trio ?_
  repeat' (first | (exact same_n rfl rfl (by repeat (first | exact Sk.refl | refine Sk.cons rfl ?_)) (by repeat (first | exact True.intro | refine And.intro rfl ?_))) | (first | exact step_1 rfl | exact step_2 rfl (by assumption)) | (done <;> try simp -implicitDefEqProofs [ha, rue, wrC, readC, -List.getD_eq_getElem?_getD, ru, ruc, rud, laid]) | (refine guardV_split (fun g => ?_) (fun g => ?_) <;> try simp -implicitDefEqProofs [ha, rue, wrC, readC, -List.getD_eq_getElem?_getD, ru, ruc, rud, laid]) | (refine condV_split (fun g => ?_) (fun g => ?_) <;> try simp -implicitDefEqProofs [ha, rue, wrC, readC, -List.getD_eq_getElem?_getD, ru, ruc, rud, laid]) | (refine run67 ?_ <;> simp -implicitDefEqProofs [ha, b67, r67, rue, wrC, readC, -List.getD_eq_getElem?_getD, ru, ruc, rud, laid]) | (intro _ <;> intros <;> simp -implicitDefEqProofs [ha, *, rue, wrC, readC, -List.getD_eq_getElem?_getD, ru, ruc, rud, laid]) | (refine And.intro ?_ ?_) | simp -implicitDefEqProofs [ha, rue, wrC, readC, -List.getD_eq_getElem?_getD, ru, ruc, rud, laid])
  all_goals try (
    have he : setE x nd tg n = 1 := if_pos fun o => by
      simp only [setOk, nodeOk] at o
      simp only [Bool.or_eq_true, Bool.not_eq_true', decide_eq_false_iff_not, Bool.or_eq_false_iff, Bool.not_eq_false', decide_eq_true_eq] at *
      omega
    have := hK h x A B D hc (fun h0 => by rw [he] at h0; cases h0)
    rw [he] at this
    exact this)
  have ok : setOk x nd tg n := by
    simp only [setOk, nodeOk]
    simp only [Bool.or_eq_true, Bool.not_eq_true', decide_eq_false_iff_not, Bool.or_eq_false_iff, Bool.not_eq_false', decide_eq_true_eq] at *
    omega
  have hb : 1 ≤ n ∧ n ≤ 1000 := ⟨ok.2.2.2.1, ok.2.2.2.2⟩
  have hw := wrap_id (n := x.now + n) (by omega) (by omega)
  have hrs : rises cmpT (dropT x.timers nd tg) := rises_filter (f := cmpT) (fun p q r h1 h2 => cmpT_trans h1 h2) w.tr _
  have hlen : (dropT x.timers nd tg).length ≤ 64 := Nat.le_trans (List.length_filter_le ..) hl
  -- what follows, from any state in which the timer is out
  refine timer97 hc (by omega) (fun hn g => ?_) (fun k hk htm hbe g => ?_)
  · have hc2 := hc.app g
    have ha2 := hc2.all
    have hcl2 := hc2.clt
    obtain ⟨o1, o2, o3, o4, o5⟩ := hc2.other
    have hdr := dropT_none hn
    rw [hdr] at hrs hlen
    have hdl : (dropT x.timers nd tg).length = x.timers.length := by rw [hdr]
    have hc3 := hc2
    have q3 := o3
    simp -implicitDefEqProofs [r67, ha2, hw, rue, wrC, readC, -List.getD_eq_getElem?_getD, ru, ruc, rud, laid]
    refine condV_split (fun g9 => ?_) (fun g9 => ?_)
    · have he : setE x nd tg n = 7 := by
        have : (dropT x.timers nd tg).length = 64 := by rw [hdl]; simp at g9; omega
        simp [setE, ok, this]
      simp -implicitDefEqProofs [r67, ha2, rue, wrC, readC, -List.getD_eq_getElem?_getD, ru, ruc, rud, laid]
      have := hK _ x A B D hc3 (fun h0 => by rw [he] at h0; cases h0)
      rw [he] at this
      exact this
    · have he : setE x nd tg n = 0 := by
        have : (dropT x.timers nd tg).length ≠ 64 := by rw [hdl]; simp at g9; omega
        simp [setE, ok, this]
      simp -implicitDefEqProofs [r67, ha2, hw, rue, wrC, readC, -List.getD_eq_getElem?_getD, ru, ruc, rud, laid]
      refine re67q0 ?_
      simp -implicitDefEqProofs [g67q0, ha2, rue, wrC, readC, -List.getD_eq_getElem?_getD, ru, ruc, rud, laid]
      refine And.intro ?_ ?_
      all_goals (
        refine search99 (t := ⟨x.now + n, nd, tg⟩) hc3.tims (by omega) (fun i r2 hP hr2 => ?_)
        have hpos := posT hrs hP
        simp -implicitDefEqProofs [r67, ha2, rue, wrC, readC, -List.getD_eq_getElem?_getD, ru, ruc, rud, laid]
        refine re67q1 ?_
        simp -implicitDefEqProofs [g67q1, ha2, rue, wrC, readC, -List.getD_eq_getElem?_getD, ru, ruc, rud, laid]
        repeat' (first | (exact same_n rfl rfl (by repeat (first | exact Sk.refl | refine Sk.cons rfl ?_)) (by repeat (first | exact True.intro | refine And.intro rfl ?_))) | (first | exact step_1 rfl | exact step_2 rfl (by assumption)) | (refine insert100g (i := i) (y := ⟨x.now + n, nd, tg⟩) hc3.tims (by omega) hP.le rfl (fun D9 h9 hD9 hf9 hv9 hlt9 => ?_); have hall9 := hD9.all; have hcell9 := (hf9.same cid hc3.clt q3).trans hc3.cell; have hcl9 : cid < h9.length := Nat.lt_of_lt_of_le hc3.clt hf9.len; have hset9 : ∀ o, (h9.set cid o)[cid]? = some o := fun o => List.getElem?_set_self hcl9; simp -implicitDefEqProofs [r67, ha2, hall9, hcell9, hset9, List.set_set, rue, wrC, readC, -List.getD_eq_getElem?_getD, ru, ruc, rud, laid]; have hres := hK _ (setG x nd tg n) A B D9 (by exact hc3.setTims (y := setG x nd tg n) (by simp only [setG, insT, hpos, hdr]; exact hD9) hf9 hv9 rfl rfl) (fun _ => rfl); rw [he] at hres; exact hres <;> try simp -implicitDefEqProofs [ha2, bsl24q1, rue, wrC, readC, -List.getD_eq_getElem?_getD, ru, ruc, rud, laid]) | (refine guardV_split (fun g => ?_) (fun g => ?_) <;> try simp -implicitDefEqProofs [ha2, bsl24q1, rue, wrC, readC, -List.getD_eq_getElem?_getD, ru, ruc, rud, laid]) | (refine condV_split (fun g => ?_) (fun g => ?_) <;> try simp -implicitDefEqProofs [ha2, bsl24q1, rue, wrC, readC, -List.getD_eq_getElem?_getD, ru, ruc, rud, laid]) | (refine run67 ?_ <;> simp -implicitDefEqProofs [ha2, bsl24q1, b67, r67, rue, wrC, readC, -List.getD_eq_getElem?_getD, ru, ruc, rud, laid]) | (intro _ <;> intros <;> simp -implicitDefEqProofs [ha2, bsl24q1, *, rue, wrC, readC, -List.getD_eq_getElem?_getD, ru, ruc, rud, laid]) | (refine And.intro ?_ ?_) | simp -implicitDefEqProofs [ha2, bsl24q1, rue, wrC, readC, -List.getD_eq_getElem?_getD, ru, ruc, rud, laid]))
  · have hc2 := hc.app g
    have ha2 := hc2.all
    have hcl2 := hc2.clt
    obtain ⟨o1, o2, o3, o4, o5⟩ := hc2.other
    have dk : decide ((0 : Int) ≤ (k : Int)) = true := by simp
    simp -implicitDefEqProofs [r67, dk, ha2, rue, wrC, readC, -List.getD_eq_getElem?_getD, ru, ruc, rud, laid]
    refine without98 (by omega) hc2.tims hk rfl fun D' h' hvv hf hD' => ?_
    have hall := hD'.all
    have hcell := (hf.same cid hcl2 o3).trans hc2.cell
    have hcl' : cid < h'.length := Nat.lt_of_lt_of_le hcl2 hf.len
    have hset : ∀ o, (h'.set cid o)[cid]? = some o := fun o => List.getElem?_set_self hcl'
    have hc3 := hc2.setTims (y := stopG x nd tg) (by simp only [stopG]; rw [← eraseT w hk htm]; exact hD') hf (fun j hj => by rw [hvv] at hj; exact .inl hj) rfl rfl
    have ha3 := hc3.all
    have q3 := hc3.other.2.2.1
    have hdl : (dropT x.timers nd tg).length = (x.timers.eraseIdx k).length := by rw [eraseT w hk htm]
    simp only [stopG] at ha3
    simp -implicitDefEqProofs [r67, ha2, hall, hcell, hset, List.set_set, hw, ha3, rue, wrC, readC, -List.getD_eq_getElem?_getD, ru, ruc, rud, laid]
    refine condV_split (fun g9 => ?_) (fun g9 => ?_)
    · have he : setE x nd tg n = 7 := by
        have : (dropT x.timers nd tg).length = 64 := by rw [hdl]; simp at g9; omega
        simp [setE, ok, this]
      simp -implicitDefEqProofs [r67, ha3, rue, wrC, readC, -List.getD_eq_getElem?_getD, ru, ruc, rud, laid]
      have := hK _ (stopG x nd tg) A B D' hc3 (fun h0 => by rw [he] at h0; cases h0)
      rw [he] at this
      exact this
    · have he : setE x nd tg n = 0 := by
        have : (dropT x.timers nd tg).length ≠ 64 := by rw [hdl]; simp at g9; omega
        simp [setE, ok, this]
      simp -implicitDefEqProofs [r67, ha3, hw, rue, wrC, readC, -List.getD_eq_getElem?_getD, ru, ruc, rud, laid]
      refine re67q0 ?_
      simp -implicitDefEqProofs [g67q0, ha3, rue, wrC, readC, -List.getD_eq_getElem?_getD, ru, ruc, rud, laid]
      refine And.intro ?_ ?_
      all_goals (
        refine search99 (t := ⟨x.now + n, nd, tg⟩) hc3.tims (by show (dropT x.timers nd tg).length < 1000000; omega) (fun i r2 hP hr2 => ?_)
        have hpos := posT hrs hP
        simp -implicitDefEqProofs [r67, ha3, rue, wrC, readC, -List.getD_eq_getElem?_getD, ru, ruc, rud, laid]
        refine re67q1 ?_
        simp -implicitDefEqProofs [g67q1, ha3, rue, wrC, readC, -List.getD_eq_getElem?_getD, ru, ruc, rud, laid]
        repeat' (first | (exact same_n rfl rfl (by repeat (first | exact Sk.refl | refine Sk.cons rfl ?_)) (by repeat (first | exact True.intro | refine And.intro rfl ?_))) | (first | exact step_1 rfl | exact step_2 rfl (by assumption)) | (refine insert100g (i := i) (y := ⟨x.now + n, nd, tg⟩) hc3.tims (by show (dropT x.timers nd tg).length < 1000000; omega) hP.le rfl (fun D9 h9 hD9 hf9 hv9 hlt9 => ?_); have hall9 := hD9.all; have hcell9 := (hf9.same cid hc3.clt q3).trans hc3.cell; have hcl9 : cid < h9.length := Nat.lt_of_lt_of_le hc3.clt hf9.len; have hset9 : ∀ o, (h9.set cid o)[cid]? = some o := fun o => List.getElem?_set_self hcl9; simp -implicitDefEqProofs [r67, ha3, hall9, hcell9, hset9, List.set_set, rue, wrC, readC, -List.getD_eq_getElem?_getD, ru, ruc, rud, laid]; have hres := hK _ (setG x nd tg n) A B D9 (by exact hc3.setTims (y := setG x nd tg n) (by simp only [setG, insT, hpos]; exact hD9) hf9 hv9 rfl rfl) (fun _ => rfl); rw [he] at hres; exact hres <;> try simp -implicitDefEqProofs [ha3, bsl24q1, rue, wrC, readC, -List.getD_eq_getElem?_getD, ru, ruc, rud, laid]) | (refine guardV_split (fun g => ?_) (fun g => ?_) <;> try simp -implicitDefEqProofs [ha3, bsl24q1, rue, wrC, readC, -List.getD_eq_getElem?_getD, ru, ruc, rud, laid]) | (refine condV_split (fun g => ?_) (fun g => ?_) <;> try simp -implicitDefEqProofs [ha3, bsl24q1, rue, wrC, readC, -List.getD_eq_getElem?_getD, ru, ruc, rud, laid]) | (refine run67 ?_ <;> simp -implicitDefEqProofs [ha3, bsl24q1, b67, r67, rue, wrC, readC, -List.getD_eq_getElem?_getD, ru, ruc, rud, laid]) | (intro _ <;> intros <;> simp -implicitDefEqProofs [ha3, bsl24q1, *, rue, wrC, readC, -List.getD_eq_getElem?_getD, ru, ruc, rud, laid]) | (refine And.intro ?_ ?_) | simp -implicitDefEqProofs [ha3, bsl24q1, rue, wrC, readC, -List.getD_eq_getElem?_getD, ru, ruc, rud, laid]))
end
end Go.Ab
end
section
/- Do. -/
set_option linter.unusedSimpArgs false
set_option linter.unusedVariables false
set_option maxRecDepth 100000
set_option maxHeartbeats 4000000
namespace Go.Ab

section
variable {C : CX} {h : List AObj} {K : AV → List AObj → Prop} {x : Net} {A B D : AV} {cid : Nat} {z1 z2 z3 : Bool} {s1 s2 s3 : Nat}
theorem accU_frz {α : Type} {sz : Nat} {c : α → List AV} {l : List α} {id : Nat} {cs : List AV} : (accU sz c l).frz id cs = accU sz c l := by unfold accU; split <;> rfl
theorem accU_weak {α : Type} {sz : Nat} {c : α → List AV} {l : List α} : (accU sz c l).weak = accU sz c l := by unfold accU; split <;> rfl
theorem seen_frz {a : Act} {e n m : Int} {l : Letter} {ts : List Timer} {id : Nat} {cs : List AV} : AV.frz.frzs id cs [.agg (seenC a e n l (accU 3 Timer.c ts)), .int .i64 m] = [.agg (seenC a e n l (accU 3 Timer.c ts)), .int .i64 m] := by
  simp [AV.frz, AV.frz.frzs, seenC, accU_frz]
theorem seen_weak {a : Act} {e n m : Int} {l : Letter} {ts : List Timer} : AV.weak.weaks [.agg (seenC a e n l (accU 3 Timer.c ts)), .int .i64 m] = [.agg (seenC a e n l (accU 3 Timer.c ts)), .int .i64 m] := by
  simp [AV.weak, AV.weak.weaks, seenC, accU_weak]
theorem seen_deep {a : Act} {e n m : Int} {l : Letter} {ts : List Timer} : AV.deep.deeps [.agg (seenC a e n l (accU 3 Timer.c ts)), .int .i64 m] = true := by
  simp [AV.deep, AV.deep.deeps, seenC, accU_deepT]
end
end Go.Ab
end
section
/- Play. -/
set_option linter.unusedSimpArgs false
set_option linter.unusedVariables false
set_option maxRecDepth 100000
set_option maxHeartbeats 4000000
namespace Go.Ab

structure StepR where
  (e : Int) (x : Net) (l : Letter) (ts : List Timer)
structure Seen where
  (a : Act) (e now : Int) (l : Letter) (ts : List Timer)
  deriving DecidableEq
def Seen.c (s : Seen) : List AV := seenC s.a s.e s.now s.l (accU 3 Timer.c s.ts)
def afterX (r : StepR) (x : Net) : Net := if r.e = 0 then r.x else x
def seenOf (r : StepR) (x : Net) (a : Act) : Seen := if r.e = 0 then ⟨a, 0, r.x.now, r.l, r.ts⟩ else ⟨a, r.e, x.now, noLetter, []⟩
def playR (step : Net → Act → StepR) : Net → List Act → Net × List Seen
  | x, [] => (x, [])
  | x, a :: r => ((playR step (afterX (step x a) x) r).1, seenOf (step x a) x a :: (playR step (afterX (step x a) x) r).2)
theorem playR_append {step : Net → Act → StepR} {a : Act} : ∀ {l : List Act} {x : Net}, playR step x (l ++ [a]) = (afterX (step (playR step x l).1 a) (playR step x l).1, (playR step x l).2 ++ [seenOf (step (playR step x l).1 a) (playR step x l).1 a])
  | [], x => rfl
  | b :: l, x => by
    simp only [List.cons_append, playR, playR_append]
theorem playR_len {step : Net → Act → StepR} : ∀ {l : List Act} {x : Net}, (playR step x l).2.length = l.length
  | [], x => rfl
  | b :: l, x => by simp [playR, playR_len]
def zeroNet (n : Int) : Net := ⟨n, 0, 0, [], [], []⟩
def playX (step : Net → Act → StepR) (n : Int) (l : List Act) : Net := (playR step (zeroNet n) l).1
def playL (step : Net → Act → StepR) (n : Int) (l : List Act) : List Seen := (playR step (zeroNet n) l).2
theorem lenS (s : Seen) : (Seen.c s).length = 13 := rfl

section
variable {C : CX} {h : List AObj} {K : AV → List AObj → Prop} {x : Net} {A B D : AV} {cid : Nat} {z1 z2 z3 za : Bool} {s1 s2 s3 sa : Nat}
theorem ixA {z : Bool} {s : Nat} {t : Tip} {n : Int} {i : Nat} {K : AV → Prop} {l : List Act} (hk : Slk z s 5 l.length) (hn : n = i) (hi : i < l.length) (hK : K (.eptr (Act.c l[i]))) : ixsK 5 [.int .i64, .int .i64, .int .i64, .int .i64, .str] (.sl z s (l.map Act.c) t) (.int .i64 n) K := by
  subst hn
  cases z with
  | true => have := hk.nil rfl; omega
  | false =>
    refine ⟨rfl, (hk.sz rfl).symm, by omega, l[i].k, l[i].a, l[i].b, l[i].n, l[i].data, ?_, hK⟩
    simp [Act.c, hi]
theorem T48 : T.get 48 = some (TI.mk (.slice 55) 1 24 [.sl true 0 [] .own] []) := rfl
theorem T55 : T.get 55 = some (TI.mk (.struct [(0, 53), (5, 29), (6, 3), (7, 33), (12, 24)]) 13 136 [.int .i64 0, .int .i64 0, .int .i64 0, .int .i64 0, .str [], .int .i64 0, .int .i64 0, .int .i64 0, .int .i64 0, .int .i64 0, .int .i64 0, .str [], .sl true 0 [] .own] []) := rfl
theorem bsl48q1 {s : Seen} {K : AV → List AObj → Prop} : buildSliceK T false 48 1 [(0, .agg (Seen.c s))] h K = K (.sl false 13 [Seen.c s] .full) h := by
  have ht := accU_all (sz := 3) (c := Timer.c) (l := s.ts)
  have n1 : ∀ k n, (AV.int k n).nol = true := fun _ _ => rfl
  have n2 : ∀ s, (AV.str s).nol = true := fun _ => rfl
  simp [buildSliceK, T48, T55, fillA, chunks, Seen.c, seenC, ht, ce_int, ce_str, on_int, on_str, ce_agg, AV.nol.nols, n1, n2]

end
end Go.Ab
end
section
/- Each act does what the plain function says. -/
set_option linter.unusedSimpArgs false
set_option linter.unusedVariables false
set_option maxRecDepth 100000
set_option maxHeartbeats 4000000
namespace Go.Ab

def StepG (x : Net) (a : Act) (r : StepR) : Prop :=
  ∀ (C : CX) (h : List AObj) (cid aid : Nat) (A B D : AV) (K : AV → List AObj → Prop), Chg h cid x A B D → h[aid]? = some (.cells (Act.c a) 5) →
    (∀ h' y A' B' D' l ts, Chg h' cid y A' B' D' → (r.e = 0 → y = r.x ∧ l = r.l ∧ ts = r.ts) → K (.agg (seenC noAct r.e 0 l (accU 3 Timer.c ts))) h') → ACall C Pg (actM a.k) [actF aid a.k, .mptr cid 0] h K
def stepF (x : Net) (a : Act) : StepR :=
  if a.k = 1 then ⟨sendE x a.a a.b a.data, sendX x a.a a.b a.data, sendL x a.a a.b a.data, []⟩
  else if a.k = 2 then ⟨deliverE x a.n, loseG x a.n, atL x a.n, []⟩
  else if a.k = 3 then ⟨loseE x a.n, loseG x a.n, atL x a.n, []⟩
  else if a.k = 4 then ⟨doubleE x a.n, doubleG x a.n, atL x a.n, []⟩
  else if a.k = 5 then ⟨delayE x a.n a.b, delayG x a.n a.b, setRdy (atL x a.n) (x.now + a.b), []⟩
  else if a.k = 6 then ⟨cutE x a.a a.b, cutG x a.a a.b, noLetter, []⟩
  else if a.k = 7 then ⟨healE x a.a a.b, healG x a.a a.b, noLetter, []⟩
  else if a.k = 8 then ⟨setE x a.a a.b a.n, setG x a.a a.b a.n, noLetter, []⟩
  else if a.k = 9 then ⟨stopE x a.a a.b, stopG x a.a a.b, noLetter, []⟩
  else if a.k = 10 then ⟨tickE x, tickG x, noLetter, tickF x⟩
  else ⟨1, x, noLetter, []⟩

section
variable {C : CX} {h : List AObj} {K : AV → List AObj → Prop} {x : Net} {A B D : AV} {cid : Nat} {i d : Int}
theorem deliver76g (w : WF x) (hl : x.cuts.length < 1000000) (hc : Chg h cid x A B D)
    (hK : ∀ h' y A' l, Chg h' cid y A' B D → (deliverE x i = 0 → y = loseG x i ∧ l = atL x i) → K (.tup [.agg (Letter.c l), .int .i64 (deliverE x i)]) h') : ACall C Pg 76 [.mptr cid 0, .int .i64 i] h K := by
  refine deliver76 (cuts_nodup w.cr) (by have := w.fl; omega) hl hc (fun h0 g => ?_) (fun j hj h0 h1 g => ?_) (fun j hj h0 h1 h' A' hf hc2 hv => ?_)
  · have he : deliverE x i = 4 := if_pos h0
    have := hK _ x A noLetter (hc.app g) (fun h0 => by rw [he] at h0; cases h0)
    rwa [he] at this
  · subst h0
    have he : deliverE x j = 6 := by
      simp only [deliverE, atL_eq hj, h1]
      rw [if_neg (fun h2 => h2 ⟨by omega, by omega⟩)]
      rfl
    have := hK _ x A noLetter (hc.app g) (fun h0 => by rw [he] at h0; cases h0)
    rwa [he] at this
  · subst h0
    have he : deliverE x j = 0 := by
      simp only [deliverE, atL_eq hj, h1]
      rw [if_neg (fun h2 => h2 ⟨by omega, by omega⟩)]
      rfl
    have := hK h' (dropX x j) A' x.way[j] hc2 (fun _ => ⟨by simp [dropX, loseG], (atL_eq hj).symm⟩)
    rwa [he] at this
theorem lose78g (w : WF x) (hc : Chg h cid x A B D)
    (hK : ∀ h' y A' l, Chg h' cid y A' B D → (loseE x i = 0 → y = loseG x i ∧ l = atL x i) → K (.tup [.agg (Letter.c l), .int .i64 (loseE x i)]) h') : ACall C Pg 78 [.mptr cid 0, .int .i64 i] h K := by
  refine lose78 hc (by have := w.fl; omega) (fun h0 => ?_) (fun j hj h0 h' A' hf hc2 hv => ?_)
  · have he : loseE x i = 4 := if_pos h0
    have := hK _ x A noLetter hc (fun h0 => by rw [he] at h0; cases h0)
    rwa [he] at this
  · subst h0
    have he : loseE x j = 0 := if_neg (fun h2 => h2 ⟨by omega, by omega⟩)
    have := hK h' (dropX x j) A' x.way[j] hc2 (fun _ => ⟨by simp [dropX, loseG], (atL_eq hj).symm⟩)
    rwa [he] at this
theorem double105g (w : WF x) (hc : Chg h cid x A B D)
    (hK : ∀ h' y A' l, Chg h' cid y A' B D → (doubleE x i = 0 → y = doubleG x i ∧ l = atL x i) → K (.tup [.agg (Letter.c l), .int .i64 (doubleE x i)]) h') : ACall C Pg 105 [.mptr cid 0, .int .i64 i] h K := by
  refine double105 hc (by have := w.fl; omega) (fun h0 => ?_) (fun h0 h1 => ?_) (fun j hj h0 h1 h' A' hf hc2 hv => ?_)
  · have he : doubleE x i = 4 := if_pos h0
    have := hK _ x A noLetter hc (fun h0 => by rw [he] at h0; cases h0)
    rwa [he] at this
  · have he : doubleE x i = 7 := by
      unfold doubleE
      rw [if_neg (fun h2 => h2 h0), if_pos h1]
    have := hK _ x A noLetter hc (fun h0 => by rw [he] at h0; cases h0)
    rwa [he] at this
  · subst h0
    have he : doubleE x j = 0 := by
      unfold doubleE
      rw [if_neg (fun h2 => h2 ⟨by omega, by omega⟩), if_neg h1]
    have := hK h' (doubleX x j hj) A' x.way[j] hc2 (fun _ => ⟨by simp only [doubleX, doubleG, atL_eq hj], (atL_eq hj).symm⟩)
    rwa [he] at this
theorem delay82g (w : WF x) (hc : Chg h cid x A B D)
    (hK : ∀ h' y A' l, Chg h' cid y A' B D → (delayE x i d = 0 → y = delayG x i d ∧ l = setRdy (atL x i) (x.now + d)) → K (.tup [.agg (Letter.c l), .int .i64 (delayE x i d)]) h') : ACall C Pg 82 [.mptr cid 0, .int .i64 i, .int .i64 d] h K := by
  refine delay82 hc (by have := w.fl; omega) ⟨w.w1, w.w2⟩ (fun h0 => ?_) (fun h0 h1 => ?_) (fun j hj h0 h1 h2 h' A' hf hc2 hv => ?_)
  · have he : delayE x i d = 4 := if_pos h0
    have := hK _ x A noLetter hc (fun h0 => by rw [he] at h0; cases h0)
    rwa [he] at this
  · have he : delayE x i d = 1 := by
      unfold delayE
      rw [if_neg (fun h2 => h2 h0), if_pos h1]
    have := hK _ x A noLetter hc (fun h0 => by rw [he] at h0; cases h0)
    rwa [he] at this
  · subst h0
    have he : delayE x j d = 0 := by
      unfold delayE
      rw [if_neg (fun h2 => h2 ⟨by omega, by omega⟩), if_neg (by omega)]
    have := hK h' (delayX x j hj d) A' (setRdy x.way[j] (x.now + d)) hc2 (fun _ => ⟨by simp only [delayX, delayG, atL_eq hj, Int.toNat_natCast], by rw [atL_eq hj]⟩)
    rwa [he] at this
theorem tick72g (w : WF x) (hc : Chg h cid x A B D)
    (hK : ∀ h' y D' ts, Chg h' cid y A B D' → (tickE x = 0 → y = tickG x ∧ ts = tickF x) → (tickE x ≠ 0 → ts = []) → K (.tup [accU 3 Timer.c ts, .int .i64 (tickE x)]) h') : ACall C Pg 72 [.mptr cid 0] h K := by
  refine tick72 hc ⟨w.w1, w.w2⟩ (by have := w.tl; omega) (fun h0 => ?_) (fun h0 k hk h1 h2 h' D' hf hc2 hv => ?_)
  · have he : tickE x = 3 := if_pos h0
    have := hK _ x D [] hc (fun h0 => by rw [he] at h0; cases h0) (fun _ => rfl)
    rwa [he] at this
  · have he : tickE x = 0 := if_neg h0
    obtain ⟨f1, f2⟩ := fired_take w hk h1 h2
    have := hK h' (tickTo x k) D' (x.timers.take k) hc2 (fun _ => ⟨f2, f1⟩) (fun h3 => absurd he h3)
    rwa [he] at this

theorem does145 {f : FuncId} {caps : List AV} {e : Int} {Q : List AObj → Prop} (hu : caps = [] ∨ ∃ aid, caps = [.mptr aid 0]) (hc : ACall C Pg f (.mptr cid 0 :: caps) h (fun r h' => r = .int .i64 e ∧ Q h')) (hK : ∀ h', Q h' → K (.agg (seenC noAct e 0 noLetter (accU 3 Timer.c []))) h') : ACall C Pg 145 [.fn f caps, .mptr cid 0] h K := by
  rcases hu with rfl | ⟨aid, rfl⟩
  all_goals (
    refine run145 ?_
    simp -implicitDefEqProofs [b145, r145, rue, wrC, readC, -List.getD_eq_getElem?_getD, ru, ruc, rud, laid]
    refine hc.mono fun r h' hr => ?_
    obtain ⟨rfl, hq⟩ := hr
    simp -implicitDefEqProofs [r145, bld55q1, ldc55, rue, wrC, readC, -List.getD_eq_getElem?_getD, ru, ruc, rud, laid]
    exact hK h' hq)
theorem bld55q14 {K : AV → Prop} {e : Int} {ts : List Timer} : agK (abuild T 55 [(1, .int .i64 e), (4, accU 3 Timer.c ts)]) K = K (.agg [.int .i64 0, .int .i64 0, .int .i64 0, .int .i64 0, .str [], .int .i64 e, .int .i64 0, .int .i64 0, .int .i64 0, .int .i64 0, .int .i64 0, .str [], accU 3 Timer.c ts]) := by
  unfold accU
  split <;> rfl
theorem does146 (w : WF x) (hc : Chg h cid x A B D)
    (hK : ∀ h' y D' ts, Chg h' cid y A B D' → (tickE x = 0 → y = tickG x ∧ ts = tickF x) → K (.agg (seenC noAct (tickE x) 0 noLetter (accU 3 Timer.c ts))) h') : ACall C Pg 146 [.agg [], .mptr cid 0] h K := by
  refine run146 ?_
  simp -implicitDefEqProofs [b146, r146, rue, wrC, readC, -List.getD_eq_getElem?_getD, ru, ruc, rud, laid]
  refine tick72g w hc fun h' y D' ts h1 h2 _ => ?_
  have ht : ∀ (ts : List Timer), (accU 3 Timer.c ts).un = accU 3 Timer.c ts ∧ (accU 3 Timer.c ts).nol = true ∧ (accU 3 Timer.c ts).one = true ∧ (accU 3 Timer.c ts).owns = false ∧ (accU 3 Timer.c ts).cells = [accU 3 Timer.c ts] ∧ (accU 3 Timer.c ts).scells = [accU 3 Timer.c ts] := fun _ => accU_all
  simp -implicitDefEqProofs [r146, bld55q14, ldc55, ht, rue, wrC, readC, -List.getD_eq_getElem?_getD, ru, ruc, rud, laid]
  exact hK h' y D' ts h1 h2
end
end Go.Ab
end
section
/- The acts of Do, all of them; Do. -/
set_option linter.unusedSimpArgs false
set_option linter.unusedVariables false
set_option maxRecDepth 100000
set_option maxHeartbeats 4000000
namespace Go.Ab

section
variable {x : Net} {a : Act}
theorem stepG1 (w : WF x) (hl : x.cuts.length < 1000000) (hk : a.k = 1) : StepG x a ⟨sendE x a.a a.b a.data, sendX x a.a a.b a.data, sendL x a.a a.b a.data, []⟩ := by
  intro C h cid aid A B D K hc ha hK
  have e1 : actM a.k = 144 := by rw [hk]; rfl
  have e2 : actF aid a.k = .fn 101 [.mptr aid 0] := by rw [hk]; rfl
  rw [e1, e2]
  refine does144 ?_
  refine run101 ?_
  simp -implicitDefEqProofs [b101, r101, ha, Act.c, rue, wrC, readC, -List.getD_eq_getElem?_getD, ru, ruc, rud, laid]
  refine send80 hc ⟨w.x1, w.x2⟩ (by have := w.fl; omega) (fun h0 => ?_) (fun h0 h' A' hf hc2 hv => ?_)
  · simp -implicitDefEqProofs [r101, Letter.c, rue, wrC, readC, -List.getD_eq_getElem?_getD, ru, ruc, rud, laid]
    exact ⟨noLetter, _, rfl, hK h x A B D noLetter [] hc (fun h1 => absurd h1 h0)⟩
  · simp -implicitDefEqProofs [r101, Letter.c, rue, wrC, readC, -List.getD_eq_getElem?_getD, ru, ruc, rud, laid]
    refine ⟨sendL x a.a a.b a.data, 0, rfl, ?_⟩
    have := hK h' _ A' B D _ [] hc2 (fun _ => ⟨rfl, rfl, rfl⟩)
    simp only [h0] at this
    exact this
theorem stepG2 (w : WF x) (hl : x.cuts.length < 1000000) (hk : a.k = 2) : StepG x a ⟨deliverE x a.n, loseG x a.n, atL x a.n, []⟩ := by
  intro C h cid aid A B D K hc ha hK
  have e1 : actM a.k = 144 := by rw [hk]; rfl
  have e2 : actF aid a.k = .fn 102 [.mptr aid 0] := by rw [hk]; rfl
  rw [e1, e2]
  refine does144 ?_
  refine run102 ?_
  simp -implicitDefEqProofs [b102, r102, ha, Act.c, rue, wrC, readC, -List.getD_eq_getElem?_getD, ru, ruc, rud, laid]
  refine deliver76g w hl hc fun h' y A' l hc2 h1 => ?_
  simp -implicitDefEqProofs [r102, Letter.c, rue, wrC, readC, -List.getD_eq_getElem?_getD, ru, ruc, rud, laid]
  exact ⟨l, _, rfl, hK h' y A' B D l [] hc2 (fun h0 => ⟨(h1 h0).1, (h1 h0).2, rfl⟩)⟩
theorem stepG3 (w : WF x) (hl : x.cuts.length < 1000000) (hk : a.k = 3) : StepG x a ⟨loseE x a.n, loseG x a.n, atL x a.n, []⟩ := by
  intro C h cid aid A B D K hc ha hK
  have e1 : actM a.k = 144 := by rw [hk]; rfl
  have e2 : actF aid a.k = .fn 103 [.mptr aid 0] := by rw [hk]; rfl
  rw [e1, e2]
  refine does144 ?_
  refine run103 ?_
  simp -implicitDefEqProofs [b103, r103, ha, Act.c, rue, wrC, readC, -List.getD_eq_getElem?_getD, ru, ruc, rud, laid]
  refine lose78g w hc fun h' y A' l hc2 h1 => ?_
  simp -implicitDefEqProofs [r103, Letter.c, rue, wrC, readC, -List.getD_eq_getElem?_getD, ru, ruc, rud, laid]
  exact ⟨l, _, rfl, hK h' y A' B D l [] hc2 (fun h0 => ⟨(h1 h0).1, (h1 h0).2, rfl⟩)⟩
theorem stepG4 (w : WF x) (hl : x.cuts.length < 1000000) (hk : a.k = 4) : StepG x a ⟨doubleE x a.n, doubleG x a.n, atL x a.n, []⟩ := by
  intro C h cid aid A B D K hc ha hK
  have e1 : actM a.k = 144 := by rw [hk]; rfl
  have e2 : actF aid a.k = .fn 104 [.mptr aid 0] := by rw [hk]; rfl
  rw [e1, e2]
  refine does144 ?_
  refine run104 ?_
  simp -implicitDefEqProofs [b104, r104, ha, Act.c, rue, wrC, readC, -List.getD_eq_getElem?_getD, ru, ruc, rud, laid]
  refine double105g w hc fun h' y A' l hc2 h1 => ?_
  simp -implicitDefEqProofs [r104, Letter.c, rue, wrC, readC, -List.getD_eq_getElem?_getD, ru, ruc, rud, laid]
  exact ⟨l, _, rfl, hK h' y A' B D l [] hc2 (fun h0 => ⟨(h1 h0).1, (h1 h0).2, rfl⟩)⟩
theorem stepG5 (w : WF x) (hl : x.cuts.length < 1000000) (hk : a.k = 5) : StepG x a ⟨delayE x a.n a.b, delayG x a.n a.b, setRdy (atL x a.n) (x.now + a.b), []⟩ := by
  intro C h cid aid A B D K hc ha hK
  have e1 : actM a.k = 144 := by rw [hk]; rfl
  have e2 : actF aid a.k = .fn 106 [.mptr aid 0] := by rw [hk]; rfl
  rw [e1, e2]
  refine does144 ?_
  refine run106 ?_
  simp -implicitDefEqProofs [b106, r106, ha, Act.c, rue, wrC, readC, -List.getD_eq_getElem?_getD, ru, ruc, rud, laid]
  refine delay82g w hc fun h' y A' l hc2 h1 => ?_
  simp -implicitDefEqProofs [r106, Letter.c, rue, wrC, readC, -List.getD_eq_getElem?_getD, ru, ruc, rud, laid]
  exact ⟨l, _, rfl, hK h' y A' B D l [] hc2 (fun h0 => ⟨(h1 h0).1, (h1 h0).2, rfl⟩)⟩
theorem stepG6 (w : WF x) (hl : x.cuts.length < 1000000) (hk : a.k = 6) : StepG x a ⟨cutE x a.a a.b, cutG x a.a a.b, noLetter, []⟩ := by
  intro C h cid aid A B D K hc ha hK
  have e1 : actM a.k = 145 := by rw [hk]; rfl
  have e2 : actF aid a.k = .fn 107 [.mptr aid 0] := by rw [hk]; rfl
  rw [e1, e2]
  refine does145 (e := cutE x a.a a.b) (Q := fun h' => ∃ y A' B' D', Chg h' cid y A' B' D' ∧ (cutE x a.a a.b = 0 → y = cutG x a.a a.b)) (.inr ⟨aid, rfl⟩) ?_ (fun h' hq => ?_)
  · refine run107 ?_
    simp -implicitDefEqProofs [b107, r107, ha, Act.c, rue, wrC, readC, -List.getD_eq_getElem?_getD, ru, ruc, rud, laid]
    refine cut60g w hc hl fun h' y A' B' D' hc2 h1 => ?_
    simp -implicitDefEqProofs [r107, rue, wrC, readC, -List.getD_eq_getElem?_getD, ru, ruc, rud, laid]
    exact ⟨y, ⟨A', B', D', hc2⟩, h1⟩
  · obtain ⟨y, A', B', D', hc2, h1⟩ := hq
    exact hK h' y A' B' D' noLetter [] hc2 (fun h0 => ⟨h1 h0, rfl, rfl⟩)
theorem stepG7 (w : WF x) (hl : x.cuts.length < 1000000) (hk : a.k = 7) : StepG x a ⟨healE x a.a a.b, healG x a.a a.b, noLetter, []⟩ := by
  intro C h cid aid A B D K hc ha hK
  have e1 : actM a.k = 145 := by rw [hk]; rfl
  have e2 : actF aid a.k = .fn 108 [.mptr aid 0] := by rw [hk]; rfl
  rw [e1, e2]
  refine does145 (e := healE x a.a a.b) (Q := fun h' => ∃ y A' B' D', Chg h' cid y A' B' D' ∧ (healE x a.a a.b = 0 → y = healG x a.a a.b)) (.inr ⟨aid, rfl⟩) ?_ (fun h' hq => ?_)
  · refine run108 ?_
    simp -implicitDefEqProofs [b108, r108, ha, Act.c, rue, wrC, readC, -List.getD_eq_getElem?_getD, ru, ruc, rud, laid]
    refine heal65 w hc hl fun h' y A' B' D' hc2 h1 => ?_
    simp -implicitDefEqProofs [r108, rue, wrC, readC, -List.getD_eq_getElem?_getD, ru, ruc, rud, laid]
    exact ⟨y, ⟨A', B', D', hc2⟩, h1⟩
  · obtain ⟨y, A', B', D', hc2, h1⟩ := hq
    exact hK h' y A' B' D' noLetter [] hc2 (fun h0 => ⟨h1 h0, rfl, rfl⟩)
theorem stepG8 (w : WF x) (hl : x.cuts.length < 1000000) (hk : a.k = 8) : StepG x a ⟨setE x a.a a.b a.n, setG x a.a a.b a.n, noLetter, []⟩ := by
  intro C h cid aid A B D K hc ha hK
  have e1 : actM a.k = 145 := by rw [hk]; rfl
  have e2 : actF aid a.k = .fn 109 [.mptr aid 0] := by rw [hk]; rfl
  rw [e1, e2]
  refine does145 (e := setE x a.a a.b a.n) (Q := fun h' => ∃ y A' B' D', Chg h' cid y A' B' D' ∧ (setE x a.a a.b a.n = 0 → y = setG x a.a a.b a.n)) (.inr ⟨aid, rfl⟩) ?_ (fun h' hq => ?_)
  · refine run109 ?_
    simp -implicitDefEqProofs [b109, r109, ha, Act.c, rue, wrC, readC, -List.getD_eq_getElem?_getD, ru, ruc, rud, laid]
    refine set67g w hc fun h' y A' B' D' hc2 h1 => ?_
    simp -implicitDefEqProofs [r109, rue, wrC, readC, -List.getD_eq_getElem?_getD, ru, ruc, rud, laid]
    exact ⟨y, ⟨A', B', D', hc2⟩, h1⟩
  · obtain ⟨y, A', B', D', hc2, h1⟩ := hq
    exact hK h' y A' B' D' noLetter [] hc2 (fun h0 => ⟨h1 h0, rfl, rfl⟩)
theorem stepG9 (w : WF x) (hl : x.cuts.length < 1000000) (hk : a.k = 9) : StepG x a ⟨stopE x a.a a.b, stopG x a.a a.b, noLetter, []⟩ := by
  intro C h cid aid A B D K hc ha hK
  have e1 : actM a.k = 145 := by rw [hk]; rfl
  have e2 : actF aid a.k = .fn 110 [.mptr aid 0] := by rw [hk]; rfl
  rw [e1, e2]
  refine does145 (e := stopE x a.a a.b) (Q := fun h' => ∃ y A' B' D', Chg h' cid y A' B' D' ∧ (stopE x a.a a.b = 0 → y = stopG x a.a a.b)) (.inr ⟨aid, rfl⟩) ?_ (fun h' hq => ?_)
  · refine run110 ?_
    simp -implicitDefEqProofs [b110, r110, ha, Act.c, rue, wrC, readC, -List.getD_eq_getElem?_getD, ru, ruc, rud, laid]
    refine stop71 w hc fun h' y A' B' D' hc2 h1 => ?_
    simp -implicitDefEqProofs [r110, rue, wrC, readC, -List.getD_eq_getElem?_getD, ru, ruc, rud, laid]
    exact ⟨y, ⟨A', B', D', hc2⟩, h1⟩
  · obtain ⟨y, A', B', D', hc2, h1⟩ := hq
    exact hK h' y A' B' D' noLetter [] hc2 (fun h0 => ⟨h1 h0, rfl, rfl⟩)
theorem stepG10 (w : WF x) (hk : a.k = 10) : StepG x a ⟨tickE x, tickG x, noLetter, tickF x⟩ := by
  intro C h cid aid A B D K hc ha hK
  have e1 : actM a.k = 146 := by rw [hk]; rfl
  have e2 : actF aid a.k = .agg [] := by rw [hk]; rfl
  rw [e1, e2]
  exact does146 w hc fun h' y D' ts h1 h2 => hK h' y A B D' noLetter ts h1 (fun h0 => ⟨(h2 h0).1, rfl, (h2 h0).2⟩)
theorem stepG11 (hk : ¬ (1 ≤ a.k ∧ a.k ≤ 10)) : StepG x a ⟨1, x, noLetter, []⟩ := by
  intro C h cid aid A B D K hc ha hK
  have e1 : actM a.k = 145 := by unfold actM; rw [if_neg (by omega), if_neg (by omega)]
  have e2 : actF aid a.k = .fn 111 [] := by unfold actF; rw [if_neg (by omega), if_neg (by omega)]
  rw [e1, e2]
  refine does145 (e := 1) (Q := fun h' => h' = h) (.inl rfl) ?_ (fun h' hq => ?_)
  · refine run111 ?_
    simp -implicitDefEqProofs [b111, r111, rue, wrC, readC, -List.getD_eq_getElem?_getD, ru, ruc, rud, laid]
  · subst hq
    exact hK h' x A B D noLetter [] hc (fun h0 => by cases h0)
theorem stepG (w : WF x) (hl : x.cuts.length < 1000000) (a : Act) : StepG x a (stepF x a) := by
  unfold stepF
  split
  · exact stepG1 w hl (by assumption)
  split
  · exact stepG2 w hl (by assumption)
  split
  · exact stepG3 w hl (by assumption)
  split
  · exact stepG4 w hl (by assumption)
  split
  · exact stepG5 w hl (by assumption)
  split
  · exact stepG6 w hl (by assumption)
  split
  · exact stepG7 w hl (by assumption)
  split
  · exact stepG8 w hl (by assumption)
  split
  · exact stepG9 w hl (by assumption)
  split
  · exact stepG10 w (by assumption)
  · exact stepG11 (by omega)
/-- What an act that shows nothing leads to. -/
theorem stepF_shows (h : showsK a.k = false) : (stepF x a).l = noLetter ∧ (stepF x a).ts = [] ∨ (stepF x a).e ≠ 0 := by
  simp only [showsK, decide_eq_false_iff_not] at h
  unfold stepF
  rw [if_neg (by omega), if_neg (by omega), if_neg (by omega), if_neg (by omega), if_neg (by omega)]
  split
  · exact .inl ⟨rfl, rfl⟩
  split
  · exact .inl ⟨rfl, rfl⟩
  split
  · exact .inl ⟨rfl, rfl⟩
  split
  · exact .inl ⟨rfl, rfl⟩
  rw [if_neg (by omega)]
  exact .inl ⟨rfl, rfl⟩
end

section
variable {C : CX} {h : List AObj} {K : AV → List AObj → Prop} {x : Net} {z1 z2 z3 : Bool} {s1 s2 s3 : Nat}
theorem do34g {a : Act} (hk : Nk z1 s1 z2 s2 z3 s3 x) (hc : x.cuts.length < 1000000)
    (h1 : ¬ WF x → K (.tup [zeroN, .agg (seenC noAct 0 0 noLetter (.sl true 0 [] .no)), .int .i64 2]) h)
    (h2 : WF x → ∀ z1 s1 z2 s2 z3 s3, Nk z1 s1 z2 s2 z3 s3 (afterX (stepF x a) x) → K (.tup [.agg [.int .i64 (afterX (stepF x a) x).nodes, .int .i64 (afterX (stepF x a) x).now, .int .i64 (afterX (stepF x a) x).next, .sl z1 s1 ((afterX (stepF x a) x).way.map Letter.c) .no, .sl z2 s2 ((afterX (stepF x a) x).cuts.map Link.c) .no, .sl z3 s3 ((afterX (stepF x a) x).timers.map Timer.c) .no], .agg (Seen.c (seenOf (stepF x a) x a)), .int .i64 0]) h) :
    ACall C Pg 34 [.agg [.int .i64 x.nodes, .int .i64 x.now, .int .i64 x.next, .sl z1 s1 (x.way.map Letter.c) .no, .sl z2 s2 (x.cuts.map Link.c) .no, .sl z3 s3 (x.timers.map Timer.c) .no], .agg (Act.c a)] h K := by
  refine ACall.closed (by simp [AV.deep.deeps, AV.deep, deep_L, deep_C, deep_T, Act.c]) (ACall.weaken (ACall.freeze (ACall.freeze (ACall.freeze ?_))))
  refine run34 ?_
  simp -implicitDefEqProofs [b34, r34, Act.c, bld55q0, rue, wrC, readC, -List.getD_eq_getElem?_getD, ru, ruc, rud, laid]
  refine changing45 hk hc (fun hw => ?_) (fun hw cid A B D g hcid hge hch => ?_)
  · simp -implicitDefEqProofs [r34, bld55q0, ldc55, rue, wrC, readC, -List.getD_eq_getElem?_getD, ru, ruc, rud, laid]
    exact frz3 ⟨rfl, rfl, h1 hw⟩
  · have ha := hch.all
    have h3 := h2 hw
    clear h1 h2
    simp -implicitDefEqProofs [r34, rue, wrC, readC, -List.getD_eq_getElem?_getD, ru, ruc, rud, laid]
    refine actOf74 ?_
    simp -implicitDefEqProofs [r34, actV, rue, wrC, readC, -List.getD_eq_getElem?_getD, ru, ruc, rud, laid]
    refine ⟨by simp [AV.nol.nols, AV.nol, actF_un, actF_nol, un_mptr], actM a.k, actM_ok a.k, ?_⟩
    rw [actF_un]
    have haid : (g ++ [AObj.cells (Act.c a) 5])[g.length]? = some (.cells (Act.c a) 5) := by simp
    have hshow := stepF_shows (x := x) (a := a)
    have hstep := stepG hw hc a
    generalize hr : stepF x a = r at hstep hshow h3
    obtain ⟨e, x', l, ts⟩ := r
    refine hstep _ _ _ _ _ _ _ _ (hch.app _) haid (fun h' y A' B' D' ll tt hc2 hres => ?_)
    have ha2 := hc2.all
    have ht : ∀ (ts : List Timer), (accU 3 Timer.c ts).un = accU 3 Timer.c ts ∧ (accU 3 Timer.c ts).nol = true ∧ (accU 3 Timer.c ts).one = true ∧ (accU 3 Timer.c ts).owns = false ∧ (accU 3 Timer.c ts).cells = [accU 3 Timer.c ts] ∧ (accU 3 Timer.c ts).scells = [accU 3 Timer.c ts] := fun _ => accU_all
    simp -implicitDefEqProofs [r34, ht, seenC, rue, wrC, readC, -List.getD_eq_getElem?_getD, ru, ruc, rud, laid]
    simp only at hres
    by_cases he : e = 0
    · subst he
      obtain ⟨rfl, rfl, rfl⟩ := hres rfl
      simp only [afterX, seenOf, if_pos, Seen.c] at h3
      simp -implicitDefEqProofs [r34, ht, seenC, rue, wrC, readC, -List.getD_eq_getElem?_getD, ru, ruc, rud, laid]
      refine ⟨actF_nol, shows75 (id := g.length) (k := a.k) ?_⟩
      cases hsh : showsK a.k with
      | true =>
        simp -implicitDefEqProofs [r34, ht, seenC, rue, wrC, readC, -List.getD_eq_getElem?_getD, ru, ruc, rud, laid]
        refine re34q0 ?_
        simp -implicitDefEqProofs [r34, g34q0, ht, ha2, rue, wrC, readC, -List.getD_eq_getElem?_getD, ru, ruc, rud, laid]
        repeat' (first | (refine And.intro ?_ ?_))
        all_goals (
          refine re34q1 ?_
          simp -implicitDefEqProofs [r34, g34q1, ht, ha2, ldc55, rue, wrC, readC, -List.getD_eq_getElem?_getD, ru, ruc, rud, laid])
        all_goals repeat' (first | (refine And.intro ?_ ?_))
        all_goals exact fin (K := fun r => K r h) hc2 (rest := [.agg (seenC a 0 y.now ll (accU 3 Timer.c tt)), .int .i64 0]) seen_deep (fun _ _ => seen_frz) seen_weak fun z1 s1 z2 s2 z3 s3 hk2 => h3 z1 s1 z2 s2 z3 s3 hk2
      | false =>
        obtain ⟨rfl, rfl⟩ : ll = noLetter ∧ tt = [] := by
          rcases hshow hsh with h4 | h4
          · exact h4
          · exact absurd rfl h4
        simp -implicitDefEqProofs [r34, ht, seenC, bld55q1, rue, wrC, readC, -List.getD_eq_getElem?_getD, ru, ruc, rud, laid]
        refine re34q0 ?_
        simp -implicitDefEqProofs [r34, g34q0, ht, ha2, rue, wrC, readC, -List.getD_eq_getElem?_getD, ru, ruc, rud, laid]
        repeat' (first | (refine And.intro ?_ ?_))
        all_goals (
          refine re34q1 ?_
          simp -implicitDefEqProofs [r34, g34q1, ht, ha2, ldc55, rue, wrC, readC, -List.getD_eq_getElem?_getD, ru, ruc, rud, laid])
        all_goals repeat' (first | (refine And.intro ?_ ?_))
        all_goals exact fin (K := fun r => K r h) hc2 (rest := [.agg (seenC a 0 y.now noLetter (accU 3 Timer.c [])), .int .i64 0]) seen_deep (fun _ _ => seen_frz) seen_weak fun z1 s1 z2 s2 z3 s3 hk2 => h3 z1 s1 z2 s2 z3 s3 hk2
    · have hd : decide (e = 0) = false := by simp [he]
      simp only [afterX, seenOf, if_neg he, Seen.c] at h3
      simp -implicitDefEqProofs [r34, ht, seenC, hd, rue, wrC, readC, -List.getD_eq_getElem?_getD, ru, ruc, rud, laid]
      refine changing45 hk hc (fun hn => absurd hw hn) (fun _ cid2 A2 B2 D2 g2 _ _ hch2 => ?_)
      have ha3 := hch2.all
      simp -implicitDefEqProofs [r34, ht, seenC, hd, bld55q1, ha3, rue, wrC, readC, -List.getD_eq_getElem?_getD, ru, ruc, rud, laid]
      refine re34q0 ?_
      simp -implicitDefEqProofs [r34, g34q0, ht, hd, ha3, rue, wrC, readC, -List.getD_eq_getElem?_getD, ru, ruc, rud, laid]
      repeat' (first | (refine And.intro ?_ ?_))
      all_goals (
        refine re34q1 ?_
        simp -implicitDefEqProofs [r34, g34q1, ht, ha3, ldc55, rue, wrC, readC, -List.getD_eq_getElem?_getD, ru, ruc, rud, laid])
      all_goals repeat' (first | (refine And.intro ?_ ?_))
      all_goals exact fin (K := fun r => K r h) hch2 (rest := [.agg (seenC a e x.now noLetter (accU 3 Timer.c [])), .int .i64 0]) seen_deep (fun _ _ => seen_frz) seen_weak fun z1 s1 z2 s2 z3 s3 hk2 => h3 z1 s1 z2 s2 z3 s3 hk2
end
end Go.Ab
end
section
/- Plain laws: acts keep a network well-formed. -/
set_option linter.unusedSimpArgs false
set_option linter.unusedVariables false
set_option maxRecDepth 100000
set_option maxHeartbeats 1000000
namespace Go.Ab

section
variable {α : Type} {f : α → α → Int}
theorem rises_pair (ht : ∀ p q r, f p q < 0 → f q r < 0 → f p r < 0) {l : List α} : rises f l ↔ l.Pairwise fun a b => f a b < 0 := by
  rw [List.pairwise_iff_getElem]
  exact ⟨fun hr i j _ hj hij => rises_lt' ht hr hij hj, fun h i hi => h i (i + 1) (by omega) hi (by omega)⟩
theorem take_tw {p : α → Bool} : ∀ {l : List α}, l.take (l.takeWhile p).length = l.takeWhile p
  | [] => rfl
  | x :: l => by
    by_cases h : p x = true
    · simp [List.takeWhile_cons, h, take_tw (l := l)]
    · simp [List.takeWhile_cons, h]
theorem drop_tw {p : α → Bool} : ∀ {l : List α}, l.drop (l.takeWhile p).length = l.dropWhile p
  | [] => rfl
  | x :: l => by
    by_cases h : p x = true
    · simp [List.takeWhile_cons, List.dropWhile_cons, h, drop_tw (l := l)]
    · simp [List.takeWhile_cons, List.dropWhile_cons, h]
theorem insAt_tw {p : α → Bool} {l : List α} {y : α} : insAt l (l.takeWhile p).length y = l.takeWhile p ++ y :: l.dropWhile p := by
  simp only [insAt, take_tw, drop_tw]
theorem mem_insAt {l : List α} {i : Nat} {y z : α} : z ∈ insAt l i y ↔ z = y ∨ z ∈ l := by
  conv => rhs; rw [← List.take_append_drop i l]
  simp only [insAt, List.mem_append, List.mem_cons]
  constructor
  · rintro (h | h | h)
    · exact .inr (.inl h)
    · exact .inl h
    · exact .inr (.inr h)
  · rintro (h | h | h)
    · exact .inr (.inl h)
    · exact .inl h
    · exact .inr (.inr h)
theorem tw_mem {p : α → Bool} : ∀ {l : List α} {x : α}, x ∈ l.takeWhile p → p x = true
  | [], x, h => by simp at h
  | a :: l, x, h => by
    by_cases h1 : p a = true
    · rw [List.takeWhile_cons, if_pos h1] at h
      rcases List.mem_cons.1 h with rfl | h
      · exact h1
      · exact tw_mem h
    · rw [List.takeWhile_cons, if_neg h1] at h
      cases h
theorem dw_mem (ht : ∀ p q r, f p q < 0 → f q r < 0 → f p r < 0) {y : α} (h3 : ∀ q, ¬ f q y < 0 → q = y ∨ f y q < 0) : ∀ {l : List α} (hs : l.Pairwise fun a b => f a b < 0) (hy : y ∉ l), ∀ x ∈ l.dropWhile (fun q => decide (f q y < 0)), f y x < 0
  | [], _, _ => by simp
  | a :: l, hs, hy => by
    intro x hx
    rw [List.dropWhile_cons] at hx
    rw [List.pairwise_cons] at hs
    split at hx
    · exact dw_mem ht h3 hs.2 (fun h => hy (List.mem_cons_of_mem _ h)) x hx
    · rename_i h1
      have h2 : f y a < 0 := (h3 a (by simpa using h1)).resolve_left fun e => hy (by rw [← e]; exact List.mem_cons_self ..)
      rcases List.mem_cons.1 hx with rfl | hx
      · exact h2
      · exact ht _ _ _ h2 (hs.1 x hx)
theorem pair_ins (ht : ∀ p q r, f p q < 0 → f q r < 0 → f p r < 0) {y : α} (h3 : ∀ q, ¬ f q y < 0 → q = y ∨ f y q < 0) {l : List α} (hs : l.Pairwise fun a b => f a b < 0) (hy : y ∉ l) : (insAt l (l.takeWhile fun q => decide (f q y < 0)).length y).Pairwise fun a b => f a b < 0 := by
  rw [insAt_tw]
  have h1 : ∀ x ∈ l.takeWhile (fun q => decide (f q y < 0)), f x y < 0 := fun x hx => by simpa using tw_mem hx
  have h2 := dw_mem ht h3 hs hy
  have hs2 := hs
  rw [← List.takeWhile_append_dropWhile (p := fun q => decide (f q y < 0)) (l := l), List.pairwise_append] at hs2
  rw [List.pairwise_append]
  refine ⟨hs2.1, ?_, ?_⟩
  · rw [List.pairwise_cons]
    exact ⟨h2, hs2.2.1⟩
  · intro a ha b hb
    rcases List.mem_cons.1 hb with rfl | hb
    · exact h1 a ha
    · exact hs2.2.2 a ha b hb
end
theorem riseC {l : List Link} : rises cmpC l ↔ l.Pairwise fun a b => cmpC a b < 0 := rises_pair (f := cmpC) fun p q r h1 h2 => cmpC_trans h1 h2
theorem riseT {l : List Timer} : rises cmpT l ↔ l.Pairwise fun a b => cmpT a b < 0 := rises_pair (f := cmpT) fun p q r h1 h2 => cmpT_trans h1 h2
theorem cmpC_tri {p q : Link} (h : ¬ cmpC p q < 0) : p = q ∨ cmpC q p < 0 := by
  rw [cmpC_lt] at h ⊢
  cases p; cases q
  simp only [Link.mk.injEq] at h ⊢
  omega
theorem cmpT_tri {p q : Timer} (h : ¬ cmpT p q < 0) : p = q ∨ cmpT q p < 0 := by
  rw [cmpT_lt] at h ⊢
  cases p; cases q
  simp only [Timer.mk.injEq] at h ⊢
  omega
theorem pairC {l : List Link} {p : Link} (hs : rises cmpC l) (hp : p ∉ l) : rises cmpC (insC l p) := riseC.2 (pair_ins (f := cmpC) (fun p q r h1 h2 => cmpC_trans h1 h2) (fun q h => cmpC_tri h) (riseC.1 hs) hp)
theorem pairT {l : List Timer} {p : Timer} (hs : rises cmpT l) (hp : p ∉ l) : rises cmpT (insT l p) := riseT.2 (pair_ins (f := cmpT) (fun p q r h1 h2 => cmpT_trans h1 h2) (fun q h => cmpT_tri h) (riseT.1 hs) hp)
theorem filterC {l : List Link} (hs : rises cmpC l) (p : Link → Bool) : rises cmpC (l.filter p) := rises_filter (f := cmpC) (fun p q r h1 h2 => cmpC_trans h1 h2) hs p
theorem filterT {l : List Timer} (hs : rises cmpT l) (p : Timer → Bool) : rises cmpT (l.filter p) := rises_filter (f := cmpT) (fun p q r h1 h2 => cmpT_trans h1 h2) hs p

/-- Timers of different owners. -/
def apartT (s t : Timer) : Prop := ¬ (s.nd = t.nd ∧ s.tg = t.tg)
theorem owns_pair {l : List Timer} : (∀ i j (hi : i < l.length) (hj : j < i), ¬ (l[j].nd = l[i].nd ∧ l[j].tg = l[i].tg)) ↔ l.Pairwise apartT := by
  rw [List.pairwise_iff_getElem]
  exact ⟨fun h i j h1 h2 h3 => h j i h2 h3, fun h i j h1 h2 => h j i (by omega) h1 h2⟩
section
variable {x : Net}
theorem WF.cl (w : WF x) : x.cuts.length ≤ 256 := by
  have key : ∀ i (hi : i < x.cuts.length), (i : Int) ≤ x.cuts[i].a * 16 + x.cuts[i].b := by
    intro i
    induction i with
    | zero =>
      intro hi
      have := w.co _ (List.getElem_mem hi)
      simp only [cutOk, nodeOk] at this
      omega
    | succ i ih =>
      intro hi
      have h1 := ih (by omega)
      have h2 := w.cr i hi
      rw [cmpC_lt] at h2
      have h3 := w.co _ (List.getElem_mem hi)
      have h4 := w.co _ (List.getElem_mem (show i < x.cuts.length by omega))
      simp only [cutOk, nodeOk] at h3 h4
      have := w.n2
      omega
  rcases Nat.eq_zero_or_pos x.cuts.length with h | h
  · omega
  · have h1 := key (x.cuts.length - 1) (by omega)
    have h3 := w.co _ (List.getElem_mem (show x.cuts.length - 1 < x.cuts.length by omega))
    simp only [cutOk, nodeOk] at h3
    have := w.n2
    omega
theorem WF.cb (w : WF x) : x.cuts.length < 1000000 := by have := w.cl; omega
theorem WF.send (w : WF x) {fr to : Int} {data : List UInt8} (h : sendE x fr to data = 0) : WF (sendX x fr to data) := by
  unfold sendE at h
  split at h
  · cases h
  split at h
  · cases h
  split at h
  · cases h
  rename_i g1 g2 g3
  have w1 := w.w1; have w2 := w.w2; have x1 := w.x1; have x2 := w.x2; have fl := w.fl
  refine { n1 := w.n1, n2 := w.n2, w1 := w1, w2 := w2, x1 := by simp only [sendX]; omega, x2 := by simp only [sendX]; omega, fl := by simp only [sendX, List.length_append, List.length_singleton]; omega, tl := w.tl, cr := w.cr, tr := w.tr, lo := fun l hl => ?_, co := w.co, to := w.to, ow := w.ow }
  simp only [sendX, List.mem_append, List.mem_singleton] at hl
  rcases hl with hl | rfl
  · have := w.lo l hl
    simp only [letterOk, nodeOk, sendX] at this ⊢
    omega
  · simp only [nodeOk] at g1
    simp only [letterOk, nodeOk, sendX, sendL]
    omega
theorem WF.sub (w : WF x) {way : List Letter} (h : ∀ l ∈ way, l ∈ x.way) (hl : way.length ≤ 200) : WF { x with way := way } :=
  { n1 := w.n1, n2 := w.n2, w1 := w.w1, w2 := w.w2, x1 := w.x1, x2 := w.x2, fl := hl, tl := w.tl, cr := w.cr, tr := w.tr, lo := fun l hl => w.lo l (h l hl), co := w.co, to := w.to, ow := w.ow }
theorem WF.lose (w : WF x) {i : Int} : WF (loseG x i) := by
  refine w.sub (fun l hl => List.mem_of_mem_eraseIdx hl) ?_
  have := w.fl
  have := List.length_eraseIdx_le x.way i.toNat
  omega
theorem atL_mem {i : Int} (h : atOk x i) : atL x i ∈ x.way := by
  unfold atOk at h
  unfold atL
  rw [List.getD_eq_getElem?_getD, List.getElem?_eq_getElem (by omega)]
  exact List.getElem_mem _
theorem WF.double (w : WF x) {i : Int} (h : doubleE x i = 0) : WF (doubleG x i) := by
  unfold doubleE at h
  split at h
  · cases h
  split at h
  · cases h
  rename_i g1 g2
  refine w.sub (fun l hl => ?_) (by have := w.fl; simp only [List.length_append, List.length_singleton]; omega)
  rcases List.mem_append.1 hl with hl | hl
  · exact hl
  · rw [List.mem_singleton.1 hl]
    exact atL_mem (by simpa using g1)
theorem WF.delay (w : WF x) {i d : Int} (h : delayE x i d = 0) : WF (delayG x i d) := by
  unfold delayE at h
  split at h
  · cases h
  split at h
  · cases h
  rename_i g1 g2
  have w1 := w.w1; have w2 := w.w2
  have hm := w.lo _ (atL_mem (x := x) (i := i) (by simpa using g1))
  refine { n1 := w.n1, n2 := w.n2, w1 := w1, w2 := w2, x1 := w.x1, x2 := w.x2, fl := by simp only [delayG, List.length_set]; exact w.fl, tl := w.tl, cr := w.cr, tr := w.tr, lo := fun l hl => ?_, co := w.co, to := w.to, ow := w.ow }
  simp only [delayG] at hl
  rcases List.mem_or_eq_of_mem_set hl with hl | rfl
  · exact w.lo l hl
  · simp only [letterOk, nodeOk, setRdy, delayG] at hm ⊢
    omega
theorem pairOf_ok {a b : Int} (h : pairP x a b) : cutOk x (pairOf a b) := by
  simp only [pairP, nodeOk] at h
  unfold pairOf
  split <;> simp only [cutOk, nodeOk] <;> omega
theorem WF.cut (w : WF x) {a b : Int} (h : cutE x a b = 0) : WF (cutG x a b) := by
  unfold cutE at h
  split at h
  · cases h
  split at h
  · cases h
  rename_i g1 g2
  refine { n1 := w.n1, n2 := w.n2, w1 := w.w1, w2 := w.w2, x1 := w.x1, x2 := w.x2, fl := w.fl, tl := w.tl, cr := pairC w.cr g2, tr := w.tr, lo := w.lo, co := fun c hc => ?_, to := w.to, ow := w.ow }
  rcases mem_insAt.1 hc with rfl | hc
  · exact (pairOf_ok (x := x) (by simpa using g1) : cutOk x (pairOf a b))
  · exact w.co c hc
theorem WF.heal (w : WF x) {a b : Int} : WF (healG x a b) :=
  { n1 := w.n1, n2 := w.n2, w1 := w.w1, w2 := w.w2, x1 := w.x1, x2 := w.x2, fl := w.fl, tl := w.tl, cr := filterC w.cr _, tr := w.tr, lo := w.lo, co := fun c hc => w.co c (List.mem_filter.1 hc).1, to := w.to, ow := w.ow }
theorem WF.tims (w : WF x) (p : Timer → Bool) : WF { x with timers := x.timers.filter p } :=
  { n1 := w.n1, n2 := w.n2, w1 := w.w1, w2 := w.w2, x1 := w.x1, x2 := w.x2, fl := w.fl, tl := Nat.le_trans (List.length_filter_le ..) w.tl, cr := w.cr, tr := filterT w.tr p, lo := w.lo, co := w.co, to := fun t ht => w.to t (List.mem_filter.1 ht).1, ow := owns_pair.2 ((owns_pair.1 w.ow).filter p) }
theorem WF.stop (w : WF x) {nd tg : Int} : WF (stopG x nd tg) := w.tims _
theorem WF.set (w : WF x) {nd tg n : Int} (h : setE x nd tg n = 0) : WF (setG x nd tg n) := by
  unfold setE at h
  split at h
  · cases h
  split at h
  · cases h
  rename_i g1 g2
  have w1 := w.w1; have w2 := w.w2
  have ws := w.stop (nd := nd) (tg := tg)
  have g1' : setOk x nd tg n := by simpa using g1
  have hno : ∀ t ∈ dropT x.timers nd tg, ¬ (t.nd = nd ∧ t.tg = tg) := fun t ht => by
    have := (List.mem_filter.1 ht).2
    intro hh
    rw [show isTm nd tg t = true by simp [isTm, hh.1, hh.2]] at this
    cases this
  have hnew : (⟨x.now + n, nd, tg⟩ : Timer) ∉ dropT x.timers nd tg := fun hm => hno _ hm ⟨rfl, rfl⟩
  have hlen : (dropT x.timers nd tg).length ≤ 64 := ws.tl
  refine { n1 := w.n1, n2 := w.n2, w1 := w1, w2 := w2, x1 := w.x1, x2 := w.x2, fl := w.fl, tl := ?_, cr := w.cr, tr := pairT ws.tr hnew, lo := w.lo, co := w.co, to := fun t ht => ?_, ow := owns_pair.2 ?_ }
  · simp only [setG, insT, insAt_len]
    omega
  · rcases mem_insAt.1 ht with rfl | ht
    · simp only [setOk, nodeOk] at g1'
      simp only [timerOk, nodeOk, setG]
      omega
    · exact ws.to t ht
  · have hp : (dropT x.timers nd tg).Pairwise apartT := owns_pair.1 ws.ow
    simp only [setG, insT, insAt]
    rw [List.pairwise_append, List.pairwise_cons]
    rw [← List.take_append_drop ((dropT x.timers nd tg).takeWhile fun q => decide (cmpT q ⟨x.now + n, nd, tg⟩ < 0)).length (dropT x.timers nd tg), List.pairwise_append] at hp
    refine ⟨hp.1, ⟨fun t ht h => hno t (List.mem_of_mem_drop ht) ⟨h.1.symm, h.2.symm⟩, hp.2.1⟩, fun a ha b hb => ?_⟩
    rcases List.mem_cons.1 hb with rfl | hb
    · exact fun h => hno a (List.mem_of_mem_take ha) h
    · exact hp.2.2 a ha b hb
theorem WF.tick (w : WF x) (h : tickE x = 0) : WF (tickG x) := by
  unfold tickE at h
  split at h
  · cases h
  have w1 := w.w1; have w2 := w.w2
  have ws := w.tims fun t => !decide (t.tm = x.now + 1)
  refine { n1 := w.n1, n2 := w.n2, w1 := by simp only [tickG]; omega, w2 := by simp only [tickG]; omega, x1 := w.x1, x2 := w.x2, fl := w.fl, tl := ws.tl, cr := w.cr, tr := ws.tr, lo := w.lo, co := w.co, to := fun t ht => ?_, ow := ws.ow }
  have h1 := w.to t (List.mem_filter.1 ht).1
  have h2 := (List.mem_filter.1 ht).2
  simp only [Bool.not_eq_true', decide_eq_false_iff_not] at h2
  simp only [timerOk, nodeOk, tickG] at h1 ⊢
  omega
theorem WF.step (w : WF x) {a : Act} (h : (stepF x a).e = 0) : WF (stepF x a).x := by
  revert h
  unfold stepF
  split
  · exact fun h => w.send h
  split
  · exact fun _ => w.lose
  split
  · exact fun _ => w.lose
  split
  · exact fun h => w.double h
  split
  · exact fun h => w.delay h
  split
  · exact fun h => w.cut h
  split
  · exact fun _ => w.heal
  split
  · exact fun h => w.set h
  split
  · exact fun _ => w.stop
  split
  · exact fun h => w.tick h
  · exact fun h => by cases h
theorem WF.after (w : WF x) (a : Act) : WF (afterX (stepF x a) x) := by
  unfold afterX
  split
  · exact w.step (by assumption)
  · exact w
theorem WF.zero {n : Int} (h : 1 ≤ n ∧ n ≤ 16) : WF (zeroNet n) :=
  ⟨h.1, h.2, by simp [zeroNet], by simp [zeroNet], by simp [zeroNet], by simp [zeroNet], by simp [zeroNet], by simp [zeroNet], fun i hi => by simp [zeroNet] at hi, fun i hi => by simp [zeroNet] at hi, by simp [zeroNet], by simp [zeroNet], by simp [zeroNet], fun i j hi hj => by simp [zeroNet] at hi⟩
theorem WF.plays : ∀ (l : List Act) {x : Net}, WF x → WF (playR stepF x l).1
  | [], _, w => w
  | a :: l, _, w => WF.plays l (w.after a)
theorem WF.play {n : Int} (h : 1 ≤ n ∧ n ≤ 16) (l : List Act) : WF (playX stepF n l) := WF.plays l (WF.zero h)
end
end Go.Ab
end
section
/- The exported functions of one change, for all networks; Play. -/
set_option linter.unusedSimpArgs false
set_option linter.unusedVariables false
set_option maxRecDepth 100000
set_option maxHeartbeats 4000000
namespace Go.Ab

section
variable {C : CX} {h : List AObj} {K : AV → List AObj → Prop} {a b nd tg n : Int} {x : Net} {A B D : AV} {cid : Nat} {z1 z2 z3 : Bool} {s1 s2 s3 : Nat}
theorem cut23g (hk : Nk z1 s1 z2 s2 z3 s3 x) (hc : x.cuts.length < 1000000)
    (h1 : ¬ WF x → K (.tup [zeroN, .int .i64 2]) h)
    (h2 : WF x → cutE x a b ≠ 0 → K (.tup [zeroN, .int .i64 (cutE x a b)]) h)
    (h3 : WF x → cutE x a b = 0 → ∀ z1 s1 z2 s2 z3 s3, Nk z1 s1 z2 s2 z3 s3 (cutG x a b) → K (.tup [.agg [.int .i64 (cutG x a b).nodes, .int .i64 (cutG x a b).now, .int .i64 (cutG x a b).next, .sl z1 s1 ((cutG x a b).way.map Letter.c) .no, .sl z2 s2 ((cutG x a b).cuts.map Link.c) .no, .sl z3 s3 ((cutG x a b).timers.map Timer.c) .no], .int .i64 0]) h) :
    ACall C Pg 23 [.agg [.int .i64 x.nodes, .int .i64 x.now, .int .i64 x.next, .sl z1 s1 (x.way.map Letter.c) .no, .sl z2 s2 (x.cuts.map Link.c) .no, .sl z3 s3 (x.timers.map Timer.c) .no], .int .i64 a, .int .i64 b] h K := by
  refine ACall.closed (by simp [AV.deep.deeps, AV.deep, deep_L, deep_C, deep_T]) (ACall.weaken (ACall.freeze (ACall.freeze (ACall.freeze ?_))))
  refine run23 ?_
  simp -implicitDefEqProofs [b23, r23, rue, wrC, readC, -List.getD_eq_getElem?_getD, ru, ruc, rud, laid]
  refine changed58 hk hc rfl (fun hw => ?_) (fun hw cid A B D g hcid hge hch => ?_)
  · simp -implicitDefEqProofs [r23, zeroN, rue, wrC, readC, -List.getD_eq_getElem?_getD, ru, ruc, rud, laid]
    exact frz3 ⟨rfl, rfl, h1 hw⟩
  · have ha := hch.all
    refine run59 ?_
    simp -implicitDefEqProofs [b59, r59, ha, rue, wrC, readC, -List.getD_eq_getElem?_getD, ru, ruc, rud, laid]
    refine (cut60g hw hch hc fun h' y A' B' D' hc2 hy => ?_)
    simp -implicitDefEqProofs [r59, Letter.c, rue, wrC, readC, -List.getD_eq_getElem?_getD, ru, ruc, rud, laid]
    refine ⟨cutE x a b, y, A', B', D', rfl, hc2, fun h0 => ?_, fun h0 => ?_⟩
    · simp -implicitDefEqProofs [r23, zeroN, rue, wrC, readC, -List.getD_eq_getElem?_getD, ru, ruc, rud, laid]
      exact frz3 ⟨rfl, rfl, h2 hw h0⟩
    · have e := hy h0
      subst e
      have ha2 := hc2.all
      simp -implicitDefEqProofs [r23, ha2, rue, wrC, readC, -List.getD_eq_getElem?_getD, ru, ruc, rud, laid]
      exact fin (K := fun r => K r h) hc2 (rest := [_]) rfl (fun _ _ => rfl) rfl fun z1 s1 z2 s2 z3 s3 hk2 => h3 hw h0 z1 s1 z2 s2 z3 s3 hk2
theorem set27g (hk : Nk z1 s1 z2 s2 z3 s3 x) (hc : x.cuts.length < 1000000)
    (h1 : ¬ WF x → K (.tup [zeroN, .int .i64 2]) h)
    (h2 : WF x → setE x nd tg n ≠ 0 → K (.tup [zeroN, .int .i64 (setE x nd tg n)]) h)
    (h3 : WF x → setE x nd tg n = 0 → ∀ z1 s1 z2 s2 z3 s3, Nk z1 s1 z2 s2 z3 s3 (setG x nd tg n) → K (.tup [.agg [.int .i64 (setG x nd tg n).nodes, .int .i64 (setG x nd tg n).now, .int .i64 (setG x nd tg n).next, .sl z1 s1 ((setG x nd tg n).way.map Letter.c) .no, .sl z2 s2 ((setG x nd tg n).cuts.map Link.c) .no, .sl z3 s3 ((setG x nd tg n).timers.map Timer.c) .no], .int .i64 0]) h) :
    ACall C Pg 27 [.agg [.int .i64 x.nodes, .int .i64 x.now, .int .i64 x.next, .sl z1 s1 (x.way.map Letter.c) .no, .sl z2 s2 (x.cuts.map Link.c) .no, .sl z3 s3 (x.timers.map Timer.c) .no], .int .i64 nd, .int .i64 tg, .int .i64 n] h K := by
  refine ACall.closed (by simp [AV.deep.deeps, AV.deep, deep_L, deep_C, deep_T]) (ACall.weaken (ACall.freeze (ACall.freeze (ACall.freeze ?_))))
  refine run27 ?_
  simp -implicitDefEqProofs [b27, r27, rue, wrC, readC, -List.getD_eq_getElem?_getD, ru, ruc, rud, laid]
  refine changed58 hk hc rfl (fun hw => ?_) (fun hw cid A B D g hcid hge hch => ?_)
  · simp -implicitDefEqProofs [r27, zeroN, rue, wrC, readC, -List.getD_eq_getElem?_getD, ru, ruc, rud, laid]
    exact frz3 ⟨rfl, rfl, h1 hw⟩
  · have ha := hch.all
    refine run66 ?_
    simp -implicitDefEqProofs [b66, r66, ha, rue, wrC, readC, -List.getD_eq_getElem?_getD, ru, ruc, rud, laid]
    refine (set67g hw hch fun h' y A' B' D' hc2 hy => ?_)
    simp -implicitDefEqProofs [r66, Letter.c, rue, wrC, readC, -List.getD_eq_getElem?_getD, ru, ruc, rud, laid]
    refine ⟨setE x nd tg n, y, A', B', D', rfl, hc2, fun h0 => ?_, fun h0 => ?_⟩
    · simp -implicitDefEqProofs [r27, zeroN, rue, wrC, readC, -List.getD_eq_getElem?_getD, ru, ruc, rud, laid]
      exact frz3 ⟨rfl, rfl, h2 hw h0⟩
    · have e := hy h0
      subst e
      have ha2 := hc2.all
      simp -implicitDefEqProofs [r27, ha2, rue, wrC, readC, -List.getD_eq_getElem?_getD, ru, ruc, rud, laid]
      exact fin (K := fun r => K r h) hc2 (rest := [_]) rfl (fun _ _ => rfl) rfl fun z1 s1 z2 s2 z3 s3 hk2 => h3 hw h0 z1 s1 z2 s2 z3 s3 hk2
theorem play22g {za : Bool} {sa : Nat} {ta : Tip} {acts : List Act} (hz : Slk za sa 5 acts.length) (hta : ta = .no ∨ ta = .full) (hl : acts.length < 1000000)
    (h1 : n < 1 ∨ 16 < n → K (.tup [zeroN, .sl true 0 [] .no, .int .i64 1]) h)
    (h2 : 1 ≤ n ∧ n ≤ 16 → ∀ z1 s1 z2 s2 z3 s3, Nk z1 s1 z2 s2 z3 s3 (playX stepF n acts) → K (.tup [.agg [.int .i64 (playX stepF n acts).nodes, .int .i64 (playX stepF n acts).now, .int .i64 (playX stepF n acts).next, .sl z1 s1 ((playX stepF n acts).way.map Letter.c) .no, .sl z2 s2 ((playX stepF n acts).cuts.map Link.c) .no, .sl z3 s3 ((playX stepF n acts).timers.map Timer.c) .no], accU 13 Seen.c (playL stepF n acts), .int .i64 0]) h) :
    ACall C Pg 22 [.int .i64 n, .sl za sa (acts.map Act.c) ta] h K := by
  have hu : (AV.sl za sa (acts.map Act.c) ta).un = .sl za sa (acts.map Act.c) ta := by rcases hta with rfl | rfl <;> rfl
  have how : (AV.sl za sa (acts.map Act.c) ta).owns = false := by rcases hta with rfl | rfl <;> exact (by cases za <;> rfl)
  refine run22 ?_ (by simp [how, ow_int])
  simp -implicitDefEqProofs [b22, r22, hu, how, rue, wrC, readC, -List.getD_eq_getElem?_getD, ru, ruc, rud, laid]
  refine new14 ?_
  by_cases hn : n < 1 ∨ 16 < n
  · rw [if_pos hn]
    simp -implicitDefEqProofs [r22, hu, how, rue, wrC, readC, -List.getD_eq_getElem?_getD, ru, ruc, rud, laid]
    exact h1 hn
  · rw [if_neg hn]
    have hn' : 1 ≤ n ∧ n ≤ 16 := by omega
    simp -implicitDefEqProofs [r22, hu, how, rue, wrC, readC, -List.getD_eq_getElem?_getD, ru, ruc, rud, laid]
    refine lp22q0 (α := Nat × (Bool × Nat × Bool × Nat × Bool × Nat)) 2 (fun g => [(4, .lptr 0 0), (7, .lptr 1 0), (9, accV 13 Seen.c (playL stepF n (acts.take g.1))), (22, .sl za sa (acts.map Act.c) ta), (23, .int .i64 acts.length), (24, .int .i64 g.1)])
      (fun g => [[.int .i64 0, .int .i64 0, .int .i64 0, .sl true 0 [] .no, .sl true 0 [] .no, .sl true 0 [] .no], [.int .i64 (playX stepF n (acts.take g.1)).nodes, .int .i64 (playX stepF n (acts.take g.1)).now, .int .i64 (playX stepF n (acts.take g.1)).next, .sl g.2.1 g.2.2.1 ((playX stepF n (acts.take g.1)).way.map Letter.c) .no, .sl g.2.2.2.1 g.2.2.2.2.1 ((playX stepF n (acts.take g.1)).cuts.map Link.c) .no, .sl g.2.2.2.2.2.1 g.2.2.2.2.2.2 ((playX stepF n (acts.take g.1)).timers.map Timer.c) .no]])
      (fun _ => h) (fun g => g.1 ≤ acts.length ∧ Nk g.2.1 g.2.2.1 g.2.2.2.1 g.2.2.2.2.1 g.2.2.2.2.2.1 g.2.2.2.2.2.2 (playX stepF n (acts.take g.1))) (fun g => acts.length - g.1) (0, (true, 0, true, 0, true, 0)) ?_ (fun _ => rfl) ?_ ?_ ?_ rfl ?_
    · refine ⟨Nat.zero_le _, ?_⟩
      refine Nk.of ?_
      simp [playX, playR, zeroNet]
    · simp [allIn, lk, AV.lb, AV.lb.lbs, playL, playR, accV]
    · rfl
    · rfl
    · rintro ⟨i, f1, f2, f3, f4, f5, f6⟩ ⟨hi, hk⟩
      simp only at hi hk
      have ha : (accV 13 Seen.c (playL stepF n (acts.take i))).owns = true ∨ ¬ (accV 13 Seen.c (playL stepF n (acts.take i))).owns = true := Classical.em _
      simp -implicitDefEqProofs [b22q0, r22, hu, how, List.length_map, accV_un, rue, wrC, readC, -List.getD_eq_getElem?_getD, ru, ruc, rud, laid]
      refine condV_split (fun g => ?_) (fun g => ?_)
      · have g' : i < acts.length := by simpa using g
        have hw : WF (playX stepF n (acts.take i)) := WF.play hn' _
        generalize hX : playX stepF n (acts.take i) = X at hk hw
        have hx1 : playX stepF n (acts.take (i + 1)) = afterX (stepF X acts[i]) X := by
          rw [List.take_add_one, List.getElem?_eq_getElem g', ← hX]
          simp only [playX, Option.toList_some, playR_append]
        have hl1 : playL stepF n (acts.take (i + 1)) = playL stepF n (acts.take i) ++ [seenOf (stepF X acts[i]) X acts[i]] := by
          rw [List.take_add_one, List.getElem?_eq_getElem g', ← hX]
          simp only [playL, playX, Option.toList_some, playR_append]
        simp -implicitDefEqProofs only [r22, hu, how, ru, ruc, rud, ru5, Nat.reduceLT, Nat.reduceEqDiff, reduceIte, Nat.reduceAdd, Nat.reduceLeDiff, Int.reduceEq, Int.reduceLT, Int.reduceLE, Int.reduceNeg]
        refine ixA hz rfl g' ?_
        simp -implicitDefEqProofs [hu, how, r22, Act.c, rue, wrC, readC, -List.getD_eq_getElem?_getD, ru, ruc, rud, laid]
        have ht : ∀ (ts : List Timer), (accU 3 Timer.c ts).un = accU 3 Timer.c ts ∧ (accU 3 Timer.c ts).nol = true ∧ (accU 3 Timer.c ts).one = true ∧ (accU 3 Timer.c ts).owns = false ∧ (accU 3 Timer.c ts).cells = [accU 3 Timer.c ts] ∧ (accU 3 Timer.c ts).scells = [accU 3 Timer.c ts] := fun _ => accU_all
        refine do34g (a := acts[i]) hk hw.cb (fun h0 => absurd hw h0) (fun _ y1 t1 y2 t2 y3 t3 hk2 => ?_)
        generalize hS : seenOf (stepF X acts[i]) X acts[i] = sn at hl1
        generalize hY : afterX (stepF X acts[i]) X = Y at hk2 hx1
        have hlen : (playL stepF n (acts.take i)).length < 1000000 := by
          unfold playL
          rw [playR_len, List.length_take]
          omega
        have hacc2 : (accV 13 Seen.c (playL stepF n (acts.take (i + 1)))).owns = true ∨ ¬ (accV 13 Seen.c (playL stepF n (acts.take (i + 1)))).owns = true := Classical.em _
        rcases ha with ha | ha
        all_goals (
          simp -implicitDefEqProofs [hu, how, r22, ha, Seen.c, seenC, ht, accV_un, accU_ow, rue, wrC, readC, -List.getD_eq_getElem?_getD, ru, ruc, rud, laid]
          refine Eq.mpr (bsl48q1 (s := sn)) ?_
          simp -implicitDefEqProofs [hu, how, r22, ha, accV_un, accU_ow, rue, wrC, readC, -List.getD_eq_getElem?_getD, ru, ruc, rud, laid]
          refine app_acc (y := sn) (by decide) T48 rfl T55 rfl (by decide) (by decide) hlen ?_
          rw [← hl1]
          rcases hacc2 with hacc2 | hacc2
          all_goals (
            simp -implicitDefEqProofs [hu, how, r22, ha, hacc2, accV_un, rue, wrC, readC, -List.getD_eq_getElem?_getD, ru, ruc, rud, laid]
            refine next_normal (i + 1, (y1, t1, y2, t2, y3, t3)) ⟨g', by simp only; rw [hx1]; exact hk2⟩ (by simp only; omega) rfl ?_ ?_ rfl
            · simp [allIn, lk, AV.lb, AV.lb.lbs, accV_lb, wrap_i (show i < 9223372036854775807 by omega)]
            · simp only [hx1]
              rfl))
      · have g' : i = acts.length := by simp at g; omega
        subst g'
        rw [List.take_length] at ha hk
        rcases ha with ha | ha
        all_goals (
          simp -implicitDefEqProofs [hu, how, r22, ha, accV_un, accV_nol, accU_un, accU_nol, accU_ow, rue, wrC, readC, -List.getD_eq_getElem?_getD, ru, ruc, rud, laid]
          exact h2 hn' f1 f2 f3 f4 f5 f6 hk)
end
end Go.Ab
end
section
/- The specification's Check and Ready; networks compared; small networks. -/
set_option linter.unusedSimpArgs false
set_option linter.unusedVariables false
set_option maxRecDepth 100000
set_option maxHeartbeats 4000000
namespace Go.Ab

section
variable {C : CX} {h : List AObj} {K : AV → List AObj → Prop} {a b c d e n : Int} {z1 z2 z3 z1' z2' z3' : Bool} {s1 s2 s3 s1' s2' s3' : Nat} {x y : Net}

end
end Go.Ab
end
section
/- NetChecks. -/
set_option linter.unusedSimpArgs false
set_option linter.unusedVariables false
set_option maxRecDepth 100000
set_option maxHeartbeats 4000000
namespace Go.Ab

section
variable {C : CX} {h : List AObj} {K : AV → List AObj → Prop} {a b c d e n : Int} {z1 z2 z3 z1' z2' z3' : Bool} {s1 s2 s3 s1' s2' s3' : Nat} {x y : Net}
theorem accU_sl {α : Type} (sz : Nat) (c : α → List AV) (l : List α) : ∃ z s, accU sz c l = .sl z s (l.map c) .no ∧ Slk z s sz l.length := by
  unfold accU
  cases l with
  | nil => exact ⟨true, 0, rfl, by simp, by simp⟩
  | cons x l => exact ⟨false, sz, rfl, by simp, by simp⟩
def readyIs (x : Net) (L : List Int) (e : Int) : Prop := (WF x ∧ e = 0 ∧ L = readyTo x x.way.length) ∨ (¬ WF x ∧ e = 2 ∧ L = [])
theorem readyIs.len {L : List Int} (h : readyIs x L e) : L.length ≤ x.way.length := by
  rcases h with ⟨_, _, rfl⟩ | ⟨_, _, rfl⟩
  · exact readyTo_len
  · simp
end
end Go.Ab
end
section
/- What a change returns, told in one; NetLinks. -/
set_option linter.unusedSimpArgs false
set_option linter.unusedVariables false
set_option maxRecDepth 100000
set_option maxHeartbeats 4000000
namespace Go.Ab

def zN : Net := ⟨0, 0, 0, [], [], []⟩
def resOf (x : Net) (e : Int) (g : Net) (y : Net) (ee : Int) : Prop := (¬ WF x ∧ ee = 2 ∧ y = zN) ∨ (WF x ∧ e ≠ 0 ∧ ee = e ∧ y = zN) ∨ (WF x ∧ e = 0 ∧ ee = 0 ∧ y = g)
theorem resOf.lens {x g y : Net} {e ee : Int} (h : resOf x e g y ee) (hg : WF x → e = 0 → WF g) : y.way.length < 1000000 ∧ y.cuts.length < 1000000 ∧ y.timers.length < 1000000 := by
  rcases h with ⟨_, _, rfl⟩ | ⟨_, _, _, rfl⟩ | ⟨w, he, _, rfl⟩
  · simp [zN]
  · simp [zN]
  · have w2 := hg w he
    have := w2.fl; have := w2.cl; have := w2.tl
    omega
section
variable {C : CX} {h : List AObj} {K : AV → List AObj → Prop} {a b nd tg n ee : Int} {z1 z2 z3 : Bool} {s1 s2 s3 : Nat} {x y : Net}
theorem nkZ : Nk true 0 true 0 true 0 zN := Nk.of (by simp [zN])
theorem cut23u (hk : Nk z1 s1 z2 s2 z3 s3 x) (hc : x.cuts.length < 1000000) (hr : resOf x (cutE x a b) (cutG x a b) y ee)
    (hK : ∀ z1 s1 z2 s2 z3 s3, Nk z1 s1 z2 s2 z3 s3 y → K (.tup [.agg [.int .i64 y.nodes, .int .i64 y.now, .int .i64 y.next, .sl z1 s1 (y.way.map Letter.c) .no, .sl z2 s2 (y.cuts.map Link.c) .no, .sl z3 s3 (y.timers.map Timer.c) .no], .int .i64 ee]) h) : ACall C Pg 23 [.agg [.int .i64 x.nodes, .int .i64 x.now, .int .i64 x.next, .sl z1 s1 (x.way.map Letter.c) .no, .sl z2 s2 (x.cuts.map Link.c) .no, .sl z3 s3 (x.timers.map Timer.c) .no], .int .i64 a, .int .i64 b] h K := by
  refine cut23g hk hc (fun w => ?_) (fun w he => ?_) (fun w he z1 s1 z2 s2 z3 s3 hk2 => ?_)
  · rcases hr with ⟨_, rfl, rfl⟩ | ⟨w2, _⟩ | ⟨w2, _⟩
    · exact hK _ _ _ _ _ _ nkZ
    · exact absurd w2 w
    · exact absurd w2 w
  · rcases hr with ⟨w2, _⟩ | ⟨_, _, rfl, rfl⟩ | ⟨_, h0, _⟩
    · exact absurd w w2
    · exact hK _ _ _ _ _ _ nkZ
    · exact absurd h0 he
  · rcases hr with ⟨w2, _⟩ | ⟨_, h0, _⟩ | ⟨_, _, rfl, rfl⟩
    · exact absurd w w2
    · exact absurd he h0
    · exact hK _ _ _ _ _ _ hk2
end
end Go.Ab
end
