/- One text out of several: see the remark at the head of each part. -/
import Derived.Test.YtpjcpmmcaccgiaaYa3
set_option linter.all false
section
/- Play. -/
set_option linter.unusedSimpArgs false
set_option linter.unusedVariables false
set_option maxRecDepth 100000
namespace Go.Ab

structure StepR where
  (e : Int) (x : Net) (l : Letter) (ts : List Timer)
structure Seen where
  (a : Act) (e now : Int) (l : Letter) (ts : List Timer)
  deriving DecidableEq
def Seen.c (s : Seen) : List AV := seenC s.a s.e s.now s.l (accU 3 Timer.c s.ts)
def afterX (r : StepR) (x : Net) : Net := if r.e = 0 then r.x else x
def seenOf (r : StepR) (x : Net) (a : Act) : Seen := if r.e = 0 then ⟨a, 0, r.x.now, r.l, r.ts⟩ else ⟨a, r.e, x.now, noLetter, []⟩
def playR (step : Net → Act → StepR) : Net → List Act → Net × List Seen
  | x, [] => (x, [])
  | x, a :: r => ((playR step (afterX (step x a) x) r).1, seenOf (step x a) x a :: (playR step (afterX (step x a) x) r).2)
theorem playR_append {step : Net → Act → StepR} {a : Act} : ∀ {l : List Act} {x : Net}, playR step x (l ++ [a]) = (afterX (step (playR step x l).1 a) (playR step x l).1, (playR step x l).2 ++ [seenOf (step (playR step x l).1 a) (playR step x l).1 a])
  | [], x => rfl
  | b :: l, x => by
    simp only [List.cons_append, playR, playR_append]
theorem playR_len {step : Net → Act → StepR} : ∀ {l : List Act} {x : Net}, (playR step x l).2.length = l.length
  | [], x => rfl
  | b :: l, x => by simp [playR, playR_len]
def zeroNet (n : Int) : Net := ⟨n, 0, 0, [], [], []⟩
def playX (step : Net → Act → StepR) (n : Int) (l : List Act) : Net := (playR step (zeroNet n) l).1
def playL (step : Net → Act → StepR) (n : Int) (l : List Act) : List Seen := (playR step (zeroNet n) l).2
theorem lenS (s : Seen) : (Seen.c s).length = 13 := rfl

section
variable {C : CX} {h : List AObj} {K : AV → List AObj → Prop} {x : Net} {A B D : AV} {cid : Nat} {z1 z2 z3 za : Bool} {s1 s2 s3 sa : Nat}
theorem ixA {z : Bool} {s : Nat} {t : Tip} {n : Int} {i : Nat} {K : AV → Prop} {l : List Act} (hk : Slk z s 5 l.length) (hn : n = i) (hi : i < l.length) (hK : K (.eptr (Act.c l[i]))) : ixsK 5 [.int .i64, .int .i64, .int .i64, .int .i64, .str] (.sl z s (l.map Act.c) t) (.int .i64 n) K := by
  subst hn
  cases z with
  | true => have := hk.nil rfl; omega
  | false =>
    refine ⟨rfl, (hk.sz rfl).symm, by omega, l[i].k, l[i].a, l[i].b, l[i].n, l[i].data, ?_, hK⟩
    simp [Act.c, hi]
theorem T48 : T.get 48 = some (TI.mk (.slice 55) 1 24 [.sl true 0 [] .own] []) := rfl
theorem T55 : T.get 55 = some (TI.mk (.struct [(0, 53), (5, 29), (6, 3), (7, 33), (12, 24)]) 13 136 [.int .i64 0, .int .i64 0, .int .i64 0, .int .i64 0, .str [], .int .i64 0, .int .i64 0, .int .i64 0, .int .i64 0, .int .i64 0, .int .i64 0, .str [], .sl true 0 [] .own] []) := rfl
theorem bsl48_1 {s : Seen} {K : AV → List AObj → Prop} : buildSliceK T false 48 1 [(0, .agg (Seen.c s))] h K = K (.sl false 13 [Seen.c s] .full) h := by
  have ht := accU_all (sz := 3) (c := Timer.c) (l := s.ts)
  have n1 : ∀ k n, (AV.int k n).nol = true := fun _ _ => rfl
  have n2 : ∀ s, (AV.str s).nol = true := fun _ => rfl
  simp [buildSliceK, T48, T55, fillA, chunks, Seen.c, seenC, ht, ce_int, ce_str, on_int, on_str, ce_agg, AV.nol.nols, n1, n2]

theorem play22 {ta : Tip} {n : Int} {acts : List Act} {step : Net → Act → StepR} (hz : Slk za sa 5 acts.length) (hta : ta = .no ∨ ta = .full) (hl : acts.length < 1000000)
    (hs : 1 ≤ n ∧ n ≤ 16 → ∀ i (hi : i < acts.length), let X := playX step n (acts.take i)
      WF X ∧ X.cuts.length < 1000000 ∧ StepOK X acts[i] (step X acts[i]).e (step X acts[i]).x (step X acts[i]).l (step X acts[i]).ts ∧ (showsK acts[i].k = false → (step X acts[i]).e = 0 → (step X acts[i]).l = noLetter ∧ (step X acts[i]).ts = []))
    (h1 : n < 1 ∨ 16 < n → K (.tup [zeroN, .sl true 0 [] .no, .int .i64 1]) h)
    (h2 : 1 ≤ n ∧ n ≤ 16 → ∀ z1 s1 z2 s2 z3 s3, Nk z1 s1 z2 s2 z3 s3 (playX step n acts) → K (.tup [.agg [.int .i64 (playX step n acts).nodes, .int .i64 (playX step n acts).now, .int .i64 (playX step n acts).next, .sl z1 s1 ((playX step n acts).way.map Letter.c) .no, .sl z2 s2 ((playX step n acts).cuts.map Link.c) .no, .sl z3 s3 ((playX step n acts).timers.map Timer.c) .no], accU 13 Seen.c (playL step n acts), .int .i64 0]) h) :
    ACall C Pg 22 [.int .i64 n, .sl za sa (acts.map Act.c) ta] h K := by
  have hu : (AV.sl za sa (acts.map Act.c) ta).un = .sl za sa (acts.map Act.c) ta := by rcases hta with rfl | rfl <;> rfl
  have how : (AV.sl za sa (acts.map Act.c) ta).owns = false := by rcases hta with rfl | rfl <;> exact (by cases za <;> rfl)
  refine run22 ?_ (by simp [how, ow_int])
  simp -implicitDefEqProofs [b22, r22, hu, how, bld125, ld1_e, ld1_l, ld1_m, ldA_e, ldA_l, ldA_m, ldcm33, ldcm29, ixs_l, ixs_m, st_m, st_l, wrC, readC, getE, fits, TD.fit, optO, runN_succ, more_n, more_exit, more_ret, -List.getD_eq_getElem?_getD, ru, ruc, vK, putU, putK, arithK, intK, faK, hd1, ofV, lenSK, AV.nol, enumL, AV.nol.nols, loadC, loadS, extK, extK.extL, notK, nilckK, callvK, laid]
  refine new14 ?_
  by_cases hn : n < 1 ∨ 16 < n
  · rw [if_pos hn]
    simp -implicitDefEqProofs [r22, hu, how, bld125, ld1_e, ld1_l, ld1_m, ldA_e, ldA_l, ldA_m, ldcm33, ldcm29, ixs_l, ixs_m, st_m, st_l, wrC, readC, getE, fits, TD.fit, optO, runN_succ, more_n, more_exit, more_ret, -List.getD_eq_getElem?_getD, ru, ruc, vK, putU, putK, arithK, intK, faK, hd1, ofV, lenSK, AV.nol, enumL, AV.nol.nols, loadC, loadS, extK, extK.extL, notK, nilckK, callvK, laid]
    exact h1 hn
  · rw [if_neg hn]
    have hn' : 1 ≤ n ∧ n ≤ 16 := by omega
    simp -implicitDefEqProofs [r22, hu, how, bld125, ld1_e, ld1_l, ld1_m, ldA_e, ldA_l, ldA_m, ldcm33, ldcm29, ixs_l, ixs_m, st_m, st_l, wrC, readC, getE, fits, TD.fit, optO, runN_succ, more_n, more_exit, more_ret, -List.getD_eq_getElem?_getD, ru, ruc, vK, putU, putK, arithK, intK, faK, hd1, ofV, lenSK, AV.nol, enumL, AV.nol.nols, loadC, loadS, extK, extK.extL, notK, nilckK, callvK, laid]
    refine lp22_0 (α := Nat × (Bool × Nat × Bool × Nat × Bool × Nat)) 2 (fun g => [(4, .lptr 0 0), (7, .lptr 1 0), (9, accV 13 Seen.c (playL step n (acts.take g.1))), (22, .sl za sa (acts.map Act.c) ta), (23, .int .i64 acts.length), (24, .int .i64 g.1)])
      (fun g => [[.int .i64 0, .int .i64 0, .int .i64 0, .sl true 0 [] .no, .sl true 0 [] .no, .sl true 0 [] .no], [.int .i64 (playX step n (acts.take g.1)).nodes, .int .i64 (playX step n (acts.take g.1)).now, .int .i64 (playX step n (acts.take g.1)).next, .sl g.2.1 g.2.2.1 ((playX step n (acts.take g.1)).way.map Letter.c) .no, .sl g.2.2.2.1 g.2.2.2.2.1 ((playX step n (acts.take g.1)).cuts.map Link.c) .no, .sl g.2.2.2.2.2.1 g.2.2.2.2.2.2 ((playX step n (acts.take g.1)).timers.map Timer.c) .no]])
      (fun _ => h) (fun g => g.1 ≤ acts.length ∧ Nk g.2.1 g.2.2.1 g.2.2.2.1 g.2.2.2.2.1 g.2.2.2.2.2.1 g.2.2.2.2.2.2 (playX step n (acts.take g.1))) (fun g => acts.length - g.1) (0, (true, 0, true, 0, true, 0)) ?_ (fun _ => rfl) ?_ ?_ ?_ rfl ?_
    · refine ⟨Nat.zero_le _, ?_⟩
      refine Nk.of ?_
      simp [playX, playR, zeroNet]
    · simp [allIn, lk, AV.lb, AV.lb.lbs, playL, playR, accV]
    · rfl
    · rfl
    · rintro ⟨i, f1, f2, f3, f4, f5, f6⟩ ⟨hi, hk⟩
      simp only at hi hk
      have ha : (accV 13 Seen.c (playL step n (acts.take i))).owns = true ∨ ¬ (accV 13 Seen.c (playL step n (acts.take i))).owns = true := Classical.em _
      simp -implicitDefEqProofs [b22_0, r22, hu, how, List.length_map, accV_un, bld125, ld1_e, ld1_l, ld1_m, ldA_e, ldA_l, ldA_m, ldcm33, ldcm29, ixs_l, ixs_m, st_m, st_l, wrC, readC, getE, fits, TD.fit, optO, runN_succ, more_n, more_exit, more_ret, -List.getD_eq_getElem?_getD, ru, ruc, vK, putU, putK, arithK, intK, faK, hd1, ofV, lenSK, AV.nol, enumL, AV.nol.nols, loadC, loadS, extK, extK.extL, notK, nilckK, callvK, laid]
      refine condV_split (fun g => ?_) (fun g => ?_)
      · have g' : i < acts.length := by simpa using g
        have hsi := hs hn' i g'
        generalize hX : playX step n (acts.take i) = X at hk hsi
        simp only at hsi
        obtain ⟨hw, hcu, hst, hsq⟩ := hsi
        have hx1 : playX step n (acts.take (i + 1)) = afterX (step X acts[i]) X := by
          rw [List.take_add_one, List.getElem?_eq_getElem g', ← hX]
          simp only [playX, Option.toList_some, playR_append]
        have hl1 : playL step n (acts.take (i + 1)) = playL step n (acts.take i) ++ [seenOf (step X acts[i]) X acts[i]] := by
          rw [List.take_add_one, List.getElem?_eq_getElem g', ← hX]
          simp only [playL, playX, Option.toList_some, playR_append]
        simp -implicitDefEqProofs only [r22, hu, how, ru, ruc, Nat.reduceLT, Nat.reduceEqDiff, reduceIte, Nat.reduceAdd, Nat.reduceLeDiff, Int.reduceEq, Int.reduceLT, Int.reduceLE, Int.reduceNeg, vK, putU, putK, arithK, intK, faK, hd1, ofV, lenSK, AV.nol, enumL, AV.nol.nols, loadC, loadS, extK, extK.extL, notK, nilckK, callvK, ld1K, ldAK, stK, laid]
        refine ixA hz rfl g' ?_
        simp -implicitDefEqProofs [hu, how, r22, Act.c, bld125, ld1_e, ld1_l, ld1_m, ldA_e, ldA_l, ldA_m, ldcm33, ldcm29, ixs_l, ixs_m, st_m, st_l, wrC, readC, getE, fits, TD.fit, optO, runN_succ, more_n, more_exit, more_ret, -List.getD_eq_getElem?_getD, ru, ruc, vK, putU, putK, arithK, intK, faK, hd1, ofV, lenSK, AV.nol, enumL, AV.nol.nols, loadC, loadS, extK, extK.extL, notK, nilckK, callvK, laid]
        have ht : ∀ (ts : List Timer), (accU 3 Timer.c ts).un = accU 3 Timer.c ts ∧ (accU 3 Timer.c ts).nol = true ∧ (accU 3 Timer.c ts).one = true ∧ (accU 3 Timer.c ts).owns = false ∧ (accU 3 Timer.c ts).cells = [accU 3 Timer.c ts] ∧ (accU 3 Timer.c ts).scells = [accU 3 Timer.c ts] := fun _ => accU_all
        refine do34 (a := acts[i]) hk hcu (fun _ => hst) hsq (fun h0 => absurd hw h0) (fun _ he y1 t1 y2 t2 y3 t3 hk2 => ?_) (fun _ he y1 t1 y2 t2 y3 t3 hk2 => ?_)
        · have hs1 : seenOf (step X acts[i]) X acts[i] = ⟨acts[i], (step X acts[i]).e, X.now, noLetter, []⟩ := by simp [seenOf, he]
          have hx2 : afterX (step X acts[i]) X = X := by simp [afterX, he]
          rw [hs1] at hl1
          rw [hx2] at hx1
          have hlen : (playL step n (acts.take i)).length < 1000000 := by
            unfold playL
            rw [playR_len, List.length_take]
            omega
          have hacc2 : (accV 13 Seen.c (playL step n (acts.take (i + 1)))).owns = true ∨ ¬ (accV 13 Seen.c (playL step n (acts.take (i + 1)))).owns = true := Classical.em _
          rcases ha with ha | ha
          all_goals (
            simp -implicitDefEqProofs [hu, how, r22, ha, seenC, ht, accV_un, accU_ow, bld125, ld1_e, ld1_l, ld1_m, ldA_e, ldA_l, ldA_m, ldcm33, ldcm29, ixs_l, ixs_m, st_m, st_l, wrC, readC, getE, fits, TD.fit, optO, runN_succ, more_n, more_exit, more_ret, -List.getD_eq_getElem?_getD, ru, ruc, vK, putU, putK, arithK, intK, faK, hd1, ofV, lenSK, AV.nol, enumL, AV.nol.nols, loadC, loadS, extK, extK.extL, notK, nilckK, callvK, laid]
            refine Eq.mpr (bsl48_1 (s := ⟨acts[i], (step X acts[i]).e, X.now, noLetter, []⟩)) ?_
            simp -implicitDefEqProofs [hu, how, r22, ha, accV_un, accU_ow, bld125, ld1_e, ld1_l, ld1_m, ldA_e, ldA_l, ldA_m, ldcm33, ldcm29, ixs_l, ixs_m, st_m, st_l, wrC, readC, getE, fits, TD.fit, optO, runN_succ, more_n, more_exit, more_ret, -List.getD_eq_getElem?_getD, ru, ruc, vK, putU, putK, arithK, intK, faK, hd1, ofV, lenSK, AV.nol, enumL, AV.nol.nols, loadC, loadS, extK, extK.extL, notK, nilckK, callvK, laid]
            refine app_acc (y := ⟨acts[i], (step X acts[i]).e, X.now, noLetter, []⟩) (by decide) T48 rfl T55 rfl (by decide) (by decide) hlen ?_
            rw [← hl1]
            rcases hacc2 with hacc2 | hacc2
            all_goals (
              simp -implicitDefEqProofs [hu, how, r22, ha, hacc2, accV_un, bld125, ld1_e, ld1_l, ld1_m, ldA_e, ldA_l, ldA_m, ldcm33, ldcm29, ixs_l, ixs_m, st_m, st_l, wrC, readC, getE, fits, TD.fit, optO, runN_succ, more_n, more_exit, more_ret, -List.getD_eq_getElem?_getD, ru, ruc, vK, putU, putK, arithK, intK, faK, hd1, ofV, lenSK, AV.nol, enumL, AV.nol.nols, loadC, loadS, extK, extK.extL, notK, nilckK, callvK, laid]
              refine next_normal (i + 1, (y1, t1, y2, t2, y3, t3)) ⟨g', by simp only; rw [hx1]; exact hk2⟩ (by simp only; omega) rfl ?_ ?_ rfl
              · simp [allIn, lk, AV.lb, AV.lb.lbs, accV_lb, wrap_i (show i < 9223372036854775807 by omega)]
              · simp only [hx1]
                rfl))
        · have hs1 : seenOf (step X acts[i]) X acts[i] = ⟨acts[i], 0, (step X acts[i]).x.now, (step X acts[i]).l, (step X acts[i]).ts⟩ := by simp [seenOf, he]
          have hx2 : afterX (step X acts[i]) X = (step X acts[i]).x := by simp [afterX, he]
          rw [hs1] at hl1
          rw [hx2] at hx1
          have hlen : (playL step n (acts.take i)).length < 1000000 := by
            unfold playL
            rw [playR_len, List.length_take]
            omega
          have hacc2 : (accV 13 Seen.c (playL step n (acts.take (i + 1)))).owns = true ∨ ¬ (accV 13 Seen.c (playL step n (acts.take (i + 1)))).owns = true := Classical.em _
          rcases ha with ha | ha
          all_goals (
            simp -implicitDefEqProofs [hu, how, r22, ha, seenC, ht, accV_un, accU_ow, bld125, ld1_e, ld1_l, ld1_m, ldA_e, ldA_l, ldA_m, ldcm33, ldcm29, ixs_l, ixs_m, st_m, st_l, wrC, readC, getE, fits, TD.fit, optO, runN_succ, more_n, more_exit, more_ret, -List.getD_eq_getElem?_getD, ru, ruc, vK, putU, putK, arithK, intK, faK, hd1, ofV, lenSK, AV.nol, enumL, AV.nol.nols, loadC, loadS, extK, extK.extL, notK, nilckK, callvK, laid]
            refine Eq.mpr (bsl48_1 (s := ⟨acts[i], 0, (step X acts[i]).x.now, (step X acts[i]).l, (step X acts[i]).ts⟩)) ?_
            simp -implicitDefEqProofs [hu, how, r22, ha, accV_un, accU_ow, bld125, ld1_e, ld1_l, ld1_m, ldA_e, ldA_l, ldA_m, ldcm33, ldcm29, ixs_l, ixs_m, st_m, st_l, wrC, readC, getE, fits, TD.fit, optO, runN_succ, more_n, more_exit, more_ret, -List.getD_eq_getElem?_getD, ru, ruc, vK, putU, putK, arithK, intK, faK, hd1, ofV, lenSK, AV.nol, enumL, AV.nol.nols, loadC, loadS, extK, extK.extL, notK, nilckK, callvK, laid]
            refine app_acc (y := ⟨acts[i], 0, (step X acts[i]).x.now, (step X acts[i]).l, (step X acts[i]).ts⟩) (by decide) T48 rfl T55 rfl (by decide) (by decide) hlen ?_
            rw [← hl1]
            rcases hacc2 with hacc2 | hacc2
            all_goals (
              simp -implicitDefEqProofs [hu, how, r22, ha, hacc2, accV_un, bld125, ld1_e, ld1_l, ld1_m, ldA_e, ldA_l, ldA_m, ldcm33, ldcm29, ixs_l, ixs_m, st_m, st_l, wrC, readC, getE, fits, TD.fit, optO, runN_succ, more_n, more_exit, more_ret, -List.getD_eq_getElem?_getD, ru, ruc, vK, putU, putK, arithK, intK, faK, hd1, ofV, lenSK, AV.nol, enumL, AV.nol.nols, loadC, loadS, extK, extK.extL, notK, nilckK, callvK, laid]
              refine next_normal (i + 1, (y1, t1, y2, t2, y3, t3)) ⟨g', by simp only; rw [hx1]; exact hk2⟩ (by simp only; omega) rfl ?_ ?_ rfl
              · simp [allIn, lk, AV.lb, AV.lb.lbs, accV_lb, wrap_i (show i < 9223372036854775807 by omega)]
              · simp only [hx1]
                rfl))
      · have g' : i = acts.length := by simp at g; omega
        subst g'
        rw [List.take_length] at ha hk
        rcases ha with ha | ha
        all_goals (
          simp -implicitDefEqProofs [hu, how, r22, ha, accV_un, accV_nol, accU_un, accU_nol, accU_ow, bld125, ld1_e, ld1_l, ld1_m, ldA_e, ldA_l, ldA_m, ldcm33, ldcm29, ixs_l, ixs_m, st_m, st_l, wrC, readC, getE, fits, TD.fit, optO, runN_succ, more_n, more_exit, more_ret, -List.getD_eq_getElem?_getD, ru, ruc, vK, putU, putK, arithK, intK, faK, hd1, ofV, lenSK, AV.nol, enumL, AV.nol.nols, loadC, loadS, extK, extK.extL, notK, nilckK, callvK, laid]
          exact h2 hn' f1 f2 f3 f4 f5 f6 hk)
end
end Go.Ab
end
section
/- The examples of the chapter. -/
set_option linter.unusedSimpArgs false
set_option linter.unusedVariables false
set_option maxRecDepth 100000
namespace Go.Ab
section
variable {C : CX} {h : List AObj} {K : AV → List AObj → Prop}
def netA : Net := ⟨3, 0, 0, [], [], []⟩
def netB : Net := ⟨3, 0, 1, [⟨0, 0, 2, 0, [97]⟩], [], []⟩
def netC : Net := ⟨3, 0, 1, [], [], []⟩
def netD : Net := ⟨3, 0, 1, [⟨0, 0, 2, 2, [97]⟩], [], []⟩
def netE : Net := ⟨3, 0, 1, [⟨0, 0, 2, 0, [97]⟩], [⟨0, 2⟩], []⟩
def netF : Net := ⟨3, 0, 0, [], [], [⟨2, 1, 7⟩]⟩
def netG : Net := ⟨3, 1, 0, [], [], [⟨2, 1, 7⟩]⟩
def netH : Net := ⟨3, 2, 0, [], [], []⟩
def netI : Net := ⟨2, 0, 0, [], [], []⟩
def netJ : Net := ⟨2, 0, 1, [⟨0, 0, 1, 0, []⟩], [], []⟩
def netL : Net := ⟨2, 0, 1, [⟨0, 0, 1, 0, []⟩, ⟨0, 0, 1, 0, []⟩], [], []⟩
theorem wfA : WF netA := ⟨by decide, by decide, by decide, by decide, by decide, by decide, by decide, by decide, fun i hi => by simp [netA] at hi, fun i hi => by simp [netA] at hi, by simp [netA], by simp [netA], by simp [netA], fun i j hi hj => by simp [netA] at hi⟩
theorem wfB : WF netB := ⟨by decide, by decide, by decide, by decide, by decide, by decide, by decide, by decide, fun i hi => by simp [netB] at hi, fun i hi => by simp [netB] at hi, by simp [netB, letterOk, nodeOk], by simp [netB], by simp [netB], fun i j hi hj => by simp [netB] at hi⟩
theorem wfC : WF netC := ⟨by decide, by decide, by decide, by decide, by decide, by decide, by decide, by decide, fun i hi => by simp [netC] at hi, fun i hi => by simp [netC] at hi, by simp [netC, letterOk, nodeOk], by simp [netC], by simp [netC], fun i j hi hj => by simp [netC] at hi⟩
theorem wfD : WF netD := ⟨by decide, by decide, by decide, by decide, by decide, by decide, by decide, by decide, fun i hi => by simp [netD] at hi, fun i hi => by simp [netD] at hi, by simp [netD, letterOk, nodeOk], by simp [netD], by simp [netD], fun i j hi hj => by simp [netD] at hi⟩
theorem wfE : WF netE := ⟨by decide, by decide, by decide, by decide, by decide, by decide, by decide, by decide, fun i hi => by simp [netE] at hi, fun i hi => by simp [netE] at hi, by simp [netE, letterOk, nodeOk], by simp [netE, cutOk, nodeOk], by simp [netE], fun i j hi hj => by simp [netE] at hi⟩
theorem wfF : WF netF := ⟨by decide, by decide, by decide, by decide, by decide, by decide, by decide, by decide, fun i hi => by simp [netF] at hi, fun i hi => by simp [netF] at hi, by simp [netF, letterOk, nodeOk], by simp [netF], by simp [netF, timerOk, nodeOk], fun i j hi hj => by simp [netF] at hi; omega⟩
theorem wfG : WF netG := ⟨by decide, by decide, by decide, by decide, by decide, by decide, by decide, by decide, fun i hi => by simp [netG] at hi, fun i hi => by simp [netG] at hi, by simp [netG, letterOk, nodeOk], by simp [netG], by simp [netG, timerOk, nodeOk], fun i j hi hj => by simp [netG] at hi; omega⟩
theorem wfI : WF netI := ⟨by decide, by decide, by decide, by decide, by decide, by decide, by decide, by decide, fun i hi => by simp [netI] at hi, fun i hi => by simp [netI] at hi, by simp [netI], by simp [netI], by simp [netI], fun i j hi hj => by simp [netI] at hi⟩
theorem wfJ : WF netJ := ⟨by decide, by decide, by decide, by decide, by decide, by decide, by decide, by decide, fun i hi => by simp [netJ] at hi, fun i hi => by simp [netJ] at hi, by simp [netJ, letterOk, nodeOk], by simp [netJ], by simp [netJ], fun i j hi hj => by simp [netJ] at hi⟩
theorem wfL : WF netL := ⟨by decide, by decide, by decide, by decide, by decide, by decide, by decide, by decide, fun i hi => by simp [netL] at hi, fun i hi => by simp [netL] at hi, by simp [netL, letterOk, nodeOk], by simp [netL], by simp [netL], fun i j hi hj => by simp [netL] at hi⟩

theorem bld53a {K : AV → Prop} {a b : Int} : agK (abuild T 53 [(0, .int .i64 a), (2, .int .i64 b)]) K = K (.agg [.int .i64 a, .int .i64 0, .int .i64 b, .int .i64 0, .str []]) := rfl
theorem bld53b {K : AV → Prop} {a : Int} : agK (abuild T 53 [(0, .int .i64 a)]) K = K (.agg [.int .i64 a, .int .i64 0, .int .i64 0, .int .i64 0, .str []]) := rfl
theorem bld53c {K : AV → Prop} {a b : Int} : agK (abuild T 53 [(0, .int .i64 a), (3, .int .i64 b)]) K = K (.agg [.int .i64 a, .int .i64 0, .int .i64 0, .int .i64 b, .str []]) := rfl
theorem T46 : T.get 46 = some (TI.mk (.slice 53) 1 24 [.sl true 0 [] .own] []) := rfl
theorem T53 : T.get 53 = some (TI.mk (.struct [(0, 3), (1, 3), (2, 3), (3, 3), (4, 9)]) 5 48 [.int .i64 0, .int .i64 0, .int .i64 0, .int .i64 0, .str []] [.int .i64, .int .i64, .int .i64, .int .i64, .str]) := rfl
theorem bsl46_3 {a b c : Act} {K : AV → List AObj → Prop} : buildSliceK T false 46 3 [(0, .agg (Act.c a)), (1, .agg (Act.c b)), (2, .agg (Act.c c))] h K = K (.sl false 5 ([a, b, c].map Act.c) .full) h := by
  simp [buildSliceK, T46, T53, fillA, AV.cells, AV.one, AV.nol, chunks, Act.c, AV.nol.nols]
def actsS : List Act := [⟨1, 0, 1, 0, []⟩, ⟨4, 0, 0, 0, []⟩, ⟨2, 0, 0, 1, []⟩]
def letS : Letter := ⟨0, 0, 1, 0, []⟩
def stepS (x : Net) (a : Act) : StepR := if a.k = 1 then ⟨0, netJ, letS, []⟩ else if a.k = 4 then ⟨0, netL, letS, []⟩ else ⟨0, netJ, letS, []⟩
theorem ok1 : StepOK netI ⟨1, 0, 1, 0, []⟩ 0 netJ letS [] := step_send (e := 0) rfl (by decide) (by decide) rfl
theorem ok2 : StepOK netJ ⟨4, 0, 0, 0, []⟩ 0 netL letS [] := step_double (i := 0) rfl (by decide) (by decide) rfl (by decide)
theorem ok3 : StepOK netL ⟨2, 0, 0, 1, []⟩ 0 netJ letS [] := step_deliver (i := 1) rfl (by simp [netL]) (by decide) (by decide) (by decide) rfl rfl
theorem sane13 (hK : K (.bool true) h) : ACall C Pg 13 [] h K := by
  refine run13 ?_
  simp -implicitDefEqProofs [b13, r13, bld125, ld1_e, ld1_l, ld1_m, ldA_e, ldA_l, ldA_m, ldcm33, ldcm29, ixs_l, ixs_m, st_m, st_l, wrC, readC, getE, fits, TD.fit, optO, runN_succ, more_n, more_exit, more_ret, -List.getD_eq_getElem?_getD, ru, ruc, vK, putU, putK, arithK, intK, faK, hd1, ofV, lenSK, AV.nol, enumL, AV.nol.nols, loadC, loadS, extK, extK.extL, notK, nilckK, callvK, laid]
  refine new14 ?_
  simp -implicitDefEqProofs [r13, bld125, ld1_e, ld1_l, ld1_m, ldA_e, ldA_l, ldA_m, ldcm33, ldcm29, ixs_l, ixs_m, st_m, st_l, wrC, readC, getE, fits, TD.fit, optO, runN_succ, more_n, more_exit, more_ret, -List.getD_eq_getElem?_getD, ru, ruc, vK, putU, putK, arithK, intK, faK, hd1, ofV, lenSK, AV.nol, enumL, AV.nol.nols, loadC, loadS, extK, extK.extL, notK, nilckK, callvK, laid]
  refine new14 ?_
  simp -implicitDefEqProofs [r13, bld125, ld1_e, ld1_l, ld1_m, ldA_e, ldA_l, ldA_m, ldcm33, ldcm29, ixs_l, ixs_m, st_m, st_l, wrC, readC, getE, fits, TD.fit, optO, runN_succ, more_n, more_exit, more_ret, -List.getD_eq_getElem?_getD, ru, ruc, vK, putU, putK, arithK, intK, faK, hd1, ofV, lenSK, AV.nol, enumL, AV.nol.nols, loadC, loadS, extK, extK.extL, notK, nilckK, callvK, laid]
  refine send42 (x := netA) (z1 := true) (s1 := 0) (z2 := true) (s2 := 0) (z3 := true) (s3 := 0) (Nk.of (by simp [netA])) (by decide) (fun hn => absurd wfA hn) (fun _ he => absurd (by decide) he) (fun _ _ b1 t1 b2 t2 b3 t3 hB => ?_)
  rw [show sendX netA 0 2 [97] = netB from rfl] at hB ⊢
  simp -implicitDefEqProofs [r13, netA, netB, Letter.c, bld125, ld1_e, ld1_l, ld1_m, ldA_e, ldA_l, ldA_m, ldcm33, ldcm29, ixs_l, ixs_m, st_m, st_l, wrC, readC, getE, fits, TD.fit, optO, runN_succ, more_n, more_exit, more_ret, -List.getD_eq_getElem?_getD, ru, ruc, vK, putU, putK, arithK, intK, faK, hd1, ofV, lenSK, AV.nol, enumL, AV.nol.nols, loadC, loadS, extK, extK.extL, notK, nilckK, callvK, laid]
  refine deliver35 (x := netB) (z1 := b1) (s1 := t1) (z2 := b2) (s2 := t2) (z3 := b3) (s3 := t3) hB (by decide) (fun hn => absurd wfB hn) (fun _ he => absurd (by decide) he) (fun _ i hi he hc => ?_) (fun _ i hi he _ c1 u1 c2 u2 c3 u3 hC => ?_)
  · obtain rfl : i = 0 := by omega
    have h9 : canX netB netB.way[0] = true := rfl
    rw [h9] at hc
    cases hc
  obtain rfl : i = 0 := by omega
  rw [show dropX netB 0 = netC from rfl] at hC ⊢
  simp -implicitDefEqProofs [r13, netA, netB, netC, Letter.c, bld125, ld1_e, ld1_l, ld1_m, ldA_e, ldA_l, ldA_m, ldcm33, ldcm29, ixs_l, ixs_m, st_m, st_l, wrC, readC, getE, fits, TD.fit, optO, runN_succ, more_n, more_exit, more_ret, -List.getD_eq_getElem?_getD, ru, ruc, vK, putU, putK, arithK, intK, faK, hd1, ofV, lenSK, AV.nol, enumL, AV.nol.nols, loadC, loadS, extK, extK.extL, notK, nilckK, callvK, laid]
  refine deliver35 (x := netC) (z1 := c1) (s1 := u1) (z2 := c2) (s2 := u2) (z3 := c3) (s3 := u3) hC (by decide) (fun hn => absurd wfC hn) (fun _ _ => ?_) (fun _ i hi _ _ => absurd hi (by simp [netC])) (fun _ i hi => absurd hi (by simp [netC]))
  simp -implicitDefEqProofs [r13, netA, netB, netC, zeroN, zeroL, Letter.c, bld125, ld1_e, ld1_l, ld1_m, ldA_e, ldA_l, ldA_m, ldcm33, ldcm29, ixs_l, ixs_m, st_m, st_l, wrC, readC, getE, fits, TD.fit, optO, runN_succ, more_n, more_exit, more_ret, -List.getD_eq_getElem?_getD, ru, ruc, vK, putU, putK, arithK, intK, faK, hd1, ofV, lenSK, AV.nol, enumL, AV.nol.nols, loadC, loadS, extK, extK.extL, notK, nilckK, callvK, laid]
  refine delay43 (x := netB) (z1 := b1) (s1 := t1) (z2 := b2) (s2 := t2) (z3 := b3) (s3 := t3) hB (by decide) (fun hn => absurd wfB hn) (fun _ he => absurd (by decide) he) (fun _ _ he => absurd he (by decide)) (fun _ i hi he _ _ d1 v1 d2 v2 d3 v3 hD => ?_)
  obtain rfl : i = 0 := by omega
  rw [show delayX netB 0 hi 2 = netD from rfl] at hD ⊢
  simp -implicitDefEqProofs [r13, netA, netB, netC, netD, zeroN, zeroL, Letter.c, bld125, ld1_e, ld1_l, ld1_m, ldA_e, ldA_l, ldA_m, ldcm33, ldcm29, ixs_l, ixs_m, st_m, st_l, wrC, readC, getE, fits, TD.fit, optO, runN_succ, more_n, more_exit, more_ret, -List.getD_eq_getElem?_getD, ru, ruc, vK, putU, putK, arithK, intK, faK, hd1, ofV, lenSK, AV.nol, enumL, AV.nol.nols, loadC, loadS, extK, extK.extL, notK, nilckK, callvK, laid]
  refine deliver35 (x := netD) (z1 := d1) (s1 := v1) (z2 := d2) (s2 := v2) (z3 := d3) (s3 := v3) hD (by decide) (fun hn => absurd wfD hn) (fun _ he => absurd (by decide) he) (fun _ i hi he hc => ?_) (fun _ i hi he hc => ?_)
  rotate_left
  · obtain rfl : i = 0 := by omega
    have h9 : canX netD netD.way[0] = false := rfl
    rw [h9] at hc
    cases hc
  simp -implicitDefEqProofs [r13, netA, netB, netC, netD, zeroN, zeroL, Letter.c, bld125, ld1_e, ld1_l, ld1_m, ldA_e, ldA_l, ldA_m, ldcm33, ldcm29, ixs_l, ixs_m, st_m, st_l, wrC, readC, getE, fits, TD.fit, optO, runN_succ, more_n, more_exit, more_ret, -List.getD_eq_getElem?_getD, ru, ruc, vK, putU, putK, arithK, intK, faK, hd1, ofV, lenSK, AV.nol, enumL, AV.nol.nols, loadC, loadS, extK, extK.extL, notK, nilckK, callvK, laid]
  have hp1 : pairOf 2 0 = ⟨0, 2⟩ := rfl
  have hp2 : pairOf 0 2 = ⟨0, 2⟩ := rfl
  refine cut23 (x := netB) (z1 := b1) (s1 := t1) (z2 := b2) (s2 := t2) (z3 := b3) (s3 := t3) hB (by decide) (fun hn => absurd wfB hn) (fun _ he => absurd (by decide) he) (fun _ _ i hi => absurd hi (by simp [netB])) (fun _ _ i hp _ => ⟨?_, fun e1 w1 e2 w2 e3 w3 hE => ?_⟩)
  · have := hp.le
    simp [netB] at this ⊢
    exact this
  rw [hp1, show cutX netB ⟨0, 2⟩ = netE from rfl] at hE ⊢
  simp -implicitDefEqProofs [r13, netA, netB, netC, netD, netE, zeroN, zeroL, Letter.c, Link.c, bld125, ld1_e, ld1_l, ld1_m, ldA_e, ldA_l, ldA_m, ldcm33, ldcm29, ixs_l, ixs_m, st_m, st_l, wrC, readC, getE, fits, TD.fit, optO, runN_succ, more_n, more_exit, more_ret, -List.getD_eq_getElem?_getD, ru, ruc, vK, putU, putK, arithK, intK, faK, hd1, ofV, lenSK, AV.nol, enumL, AV.nol.nols, loadC, loadS, extK, extK.extL, notK, nilckK, callvK, laid]
  refine cut23 (x := netE) (z1 := e1) (s1 := w1) (z2 := e2) (s2 := w2) (z3 := e3) (s3 := w3) hE (by decide) (fun hn => absurd wfE hn) (fun _ he => absurd (by decide) he) (fun _ _ i hi hq => ?_) (fun _ _ i hp hq => ?_)
  rotate_left
  · exfalso
    have h6 : i ≤ 1 := hp.le
    have h7 : (0 : Int) = cmpC ⟨0, 2⟩ ⟨0, 2⟩ := rfl
    rcases Nat.lt_or_ge i 1 with h8 | h8
    · obtain rfl : i = 0 := by omega
      exact hq ⟨Nat.one_pos, rfl⟩
    · obtain rfl : i = 1 := by omega
      have h9 : cmpC ⟨0, 2⟩ ⟨0, 2⟩ < 0 := hp.lo Nat.one_pos Nat.one_pos
      omega
  simp -implicitDefEqProofs [r13, netA, netB, netC, netD, netE, zeroN, zeroL, Letter.c, Link.c, bld125, ld1_e, ld1_l, ld1_m, ldA_e, ldA_l, ldA_m, ldcm33, ldcm29, ixs_l, ixs_m, st_m, st_l, wrC, readC, getE, fits, TD.fit, optO, runN_succ, more_n, more_exit, more_ret, -List.getD_eq_getElem?_getD, ru, ruc, vK, putU, putK, arithK, intK, faK, hd1, ofV, lenSK, AV.nol, enumL, AV.nol.nols, loadC, loadS, extK, extK.extL, notK, nilckK, callvK, laid]
  refine ready16 (x := netE) (z1 := e1) (s1 := w1) (z2 := e2) (s2 := w2) (z3 := e3) (s3 := w3) hE (by decide) (fun hn => absurd wfE hn) (fun _ y1 x1 hr => ?_)
  have hr0 : readyTo netE netE.way.length = [] := rfl
  rw [hr0] at hr ⊢
  simp -implicitDefEqProofs [r13, netA, netB, netC, netD, netE, zeroN, zeroL, Letter.c, Link.c, bld125, ld1_e, ld1_l, ld1_m, ldA_e, ldA_l, ldA_m, ldcm33, ldcm29, ixs_l, ixs_m, st_m, st_l, wrC, readC, getE, fits, TD.fit, optO, runN_succ, more_n, more_exit, more_ret, -List.getD_eq_getElem?_getD, ru, ruc, vK, putU, putK, arithK, intK, faK, hd1, ofV, lenSK, AV.nol, enumL, AV.nol.nols, loadC, loadS, extK, extK.extL, notK, nilckK, callvK, laid]
  refine set27 (x := netA) (z1 := true) (s1 := 0) (z2 := true) (s2 := 0) (z3 := true) (s3 := 0) (nd := 1) (tg := 7) (n := 2) (Nk.of (by simp [netA])) (by decide) rfl (fun hn => absurd wfA hn) (fun _ he => absurd (by simp [setOk, nodeOk, netA]) he) (fun _ _ f1 g1 f2 g2 f3 g3 hF => ?_)
  rw [show setX netA ⟨netA.now + 2, 1, 7⟩ = netF from rfl] at hF ⊢
  simp -implicitDefEqProofs [r13, netA, netB, netC, netD, netE, netF, zeroN, zeroL, Letter.c, Link.c, Timer.c, bld125, ld1_e, ld1_l, ld1_m, ldA_e, ldA_l, ldA_m, ldcm33, ldcm29, ixs_l, ixs_m, st_m, st_l, wrC, readC, getE, fits, TD.fit, optO, runN_succ, more_n, more_exit, more_ret, -List.getD_eq_getElem?_getD, ru, ruc, vK, putU, putK, arithK, intK, faK, hd1, ofV, lenSK, AV.nol, enumL, AV.nol.nols, loadC, loadS, extK, extK.extL, notK, nilckK, callvK, laid]
  refine tick31 (x := netF) (z1 := f1) (s1 := g1) (z2 := f2) (s2 := g2) (z3 := f3) (s3 := g3) hF (by decide) (fun hn => absurd wfF hn) (fun _ he => absurd he (by decide)) (fun _ _ k hk1 hk2 hk3 i1 j1 i2 j2 i3 j3 hG => ?_)
  obtain rfl : k = 0 := by
    have h6 : k ≤ 1 := hk1
    rcases Nat.lt_or_ge k 1 with h8 | h8
    · omega
    · obtain rfl : k = 1 := by omega
      have := hk2 ⟨2, 1, 7⟩ (by simp [netF])
      simp [netF] at this
  rw [show tickTo netF 0 = netG from rfl] at hG ⊢
  rw [show accU 3 Timer.c (netF.timers.take 0) = .sl true 0 [] .no from rfl]
  simp -implicitDefEqProofs [r13, netA, netB, netC, netD, netE, netF, netG, zeroN, zeroL, Letter.c, Link.c, Timer.c, bld125, ld1_e, ld1_l, ld1_m, ldA_e, ldA_l, ldA_m, ldcm33, ldcm29, ixs_l, ixs_m, st_m, st_l, wrC, readC, getE, fits, TD.fit, optO, runN_succ, more_n, more_exit, more_ret, -List.getD_eq_getElem?_getD, ru, ruc, vK, putU, putK, arithK, intK, faK, hd1, ofV, lenSK, AV.nol, enumL, AV.nol.nols, loadC, loadS, extK, extK.extL, notK, nilckK, callvK, laid]
  refine tick31 (x := netG) (z1 := i1) (s1 := j1) (z2 := i2) (s2 := j2) (z3 := i3) (s3 := j3) hG (by decide) (fun hn => absurd wfG hn) (fun _ he => absurd he (by decide)) (fun _ _ k hk1 hk2 hk3 k1 l1 k2 l2 k3 l3 hH => ?_)
  obtain rfl : k = 1 := by
    have h6 : k ≤ 1 := hk1
    rcases Nat.lt_or_ge k 1 with h8 | h8
    · obtain rfl : k = 0 := by omega
      exact absurd rfl (hk3 Nat.one_pos)
    · omega
  rw [show tickTo netG 1 = netH from rfl] at hH ⊢
  rw [show accU 3 Timer.c (netG.timers.take 1) = .sl false 3 [[.int .i64 2, .int .i64 1, .int .i64 7]] .no from rfl]
  simp -implicitDefEqProofs [r13, netA, netB, netC, netD, netE, netF, netG, netH, zeroN, zeroL, Letter.c, Link.c, Timer.c, bld125, ld1_e, ld1_l, ld1_m, ldA_e, ldA_l, ldA_m, ldcm33, ldcm29, ixs_l, ixs_m, st_m, st_l, wrC, readC, getE, fits, TD.fit, optO, runN_succ, more_n, more_exit, more_ret, -List.getD_eq_getElem?_getD, ru, ruc, vK, putU, putK, arithK, intK, faK, hd1, ofV, lenSK, AV.nol, enumL, AV.nol.nols, loadC, loadS, extK, extK.extL, notK, nilckK, callvK, laid]
  refine send42 (x := netA) (z1 := true) (s1 := 0) (z2 := true) (s2 := 0) (z3 := true) (s3 := 0) (Nk.of (by simp [netA])) (by decide) (fun hn => absurd wfA hn) (fun _ _ => ?_) (fun _ he => absurd he (by decide))
  rw [show sendE netA 1 1 [] = 1 from rfl]
  simp -implicitDefEqProofs [r13, netA, netB, netC, netD, netE, netF, netG, netH, zeroN, zeroL, Letter.c, Link.c, Timer.c, bld125, ld1_e, ld1_l, ld1_m, ldA_e, ldA_l, ldA_m, ldcm33, ldcm29, ixs_l, ixs_m, st_m, st_l, wrC, readC, getE, fits, TD.fit, optO, runN_succ, more_n, more_exit, more_ret, -List.getD_eq_getElem?_getD, ru, ruc, vK, putU, putK, arithK, intK, faK, hd1, ofV, lenSK, AV.nol, enumL, AV.nol.nols, loadC, loadS, extK, extK.extL, notK, nilckK, callvK, laid]
  rw [bld53a]
  simp -implicitDefEqProofs [r13, bld125, ld1_e, ld1_l, ld1_m, ldA_e, ldA_l, ldA_m, ldcm33, ldcm29, ixs_l, ixs_m, st_m, st_l, wrC, readC, getE, fits, TD.fit, optO, runN_succ, more_n, more_exit, more_ret, -List.getD_eq_getElem?_getD, ru, ruc, vK, putU, putK, arithK, intK, faK, hd1, ofV, lenSK, AV.nol, enumL, AV.nol.nols, loadC, loadS, extK, extK.extL, notK, nilckK, callvK, laid]
  rw [bld53b]
  simp -implicitDefEqProofs [r13, bld125, ld1_e, ld1_l, ld1_m, ldA_e, ldA_l, ldA_m, ldcm33, ldcm29, ixs_l, ixs_m, st_m, st_l, wrC, readC, getE, fits, TD.fit, optO, runN_succ, more_n, more_exit, more_ret, -List.getD_eq_getElem?_getD, ru, ruc, vK, putU, putK, arithK, intK, faK, hd1, ofV, lenSK, AV.nol, enumL, AV.nol.nols, loadC, loadS, extK, extK.extL, notK, nilckK, callvK, laid]
  rw [bld53c]
  simp -implicitDefEqProofs [r13, bld125, ld1_e, ld1_l, ld1_m, ldA_e, ldA_l, ldA_m, ldcm33, ldcm29, ixs_l, ixs_m, st_m, st_l, wrC, readC, getE, fits, TD.fit, optO, runN_succ, more_n, more_exit, more_ret, -List.getD_eq_getElem?_getD, ru, ruc, vK, putU, putK, arithK, intK, faK, hd1, ofV, lenSK, AV.nol, enumL, AV.nol.nols, loadC, loadS, extK, extK.extL, notK, nilckK, callvK, laid]
  refine Eq.mpr (bsl46_3 (a := ⟨1, 0, 1, 0, []⟩) (b := ⟨4, 0, 0, 0, []⟩) (c := ⟨2, 0, 0, 1, []⟩)) ?_
  simp -implicitDefEqProofs [r13, Act.c, bld125, ld1_e, ld1_l, ld1_m, ldA_e, ldA_l, ldA_m, ldcm33, ldcm29, ixs_l, ixs_m, st_m, st_l, wrC, readC, getE, fits, TD.fit, optO, runN_succ, more_n, more_exit, more_ret, -List.getD_eq_getElem?_getD, ru, ruc, vK, putU, putK, arithK, intK, faK, hd1, ofV, lenSK, AV.nol, enumL, AV.nol.nols, loadC, loadS, extK, extK.extL, notK, nilckK, callvK, laid]
  refine play22 (n := 2) (acts := actsS) (step := stepS) (za := false) (sa := 5) (ta := .full) ⟨by decide, fun _ => rfl⟩ (.inr rfl) (by decide) (fun _ i hi => ?_) (fun he => absurd he (by decide)) (fun _ m1 n1 m2 n2 m3 n3 hM => ?_)
  · have hi' : i = 0 ∨ i = 1 ∨ i = 2 := by
      have : i < 3 := hi
      omega
    rcases hi' with rfl | rfl | rfl
    · exact ⟨wfI, by decide, ok1, fun h0 => by rw [show showsK actsS[0].k = true from rfl] at h0; cases h0⟩
    · exact ⟨wfJ, by decide, ok2, fun h0 => by rw [show showsK actsS[1].k = true from rfl] at h0; cases h0⟩
    · exact ⟨wfL, by decide, ok3, fun h0 => by rw [show showsK actsS[2].k = true from rfl] at h0; cases h0⟩
  rw [show playX stepS 2 actsS = netJ from rfl]
  rw [show playL stepS 2 actsS = [⟨⟨1, 0, 1, 0, []⟩, 0, 0, letS, []⟩, ⟨⟨4, 0, 0, 0, []⟩, 0, 0, letS, []⟩, ⟨⟨2, 0, 0, 1, []⟩, 0, 0, letS, []⟩] from rfl]
  rw [show ∀ (a b c : Seen), accU 13 Seen.c [a, b, c] = .sl false 13 [Seen.c a, Seen.c b, Seen.c c] .no from fun _ _ _ => rfl]
  simp -implicitDefEqProofs [r13, netA, netB, netC, netD, netE, netF, netG, netH, netJ, zeroN, zeroL, Letter.c, Link.c, Timer.c, T86, bld125, ld1_e, ld1_l, ld1_m, ldA_e, ldA_l, ldA_m, ldcm33, ldcm29, ixs_l, ixs_m, st_m, st_l, wrC, readC, getE, fits, TD.fit, optO, runN_succ, more_n, more_exit, more_ret, -List.getD_eq_getElem?_getD, ru, ruc, vK, putU, putK, arithK, intK, faK, hd1, ofV, lenSK, AV.nol, enumL, AV.nol.nols, loadC, loadS, extK, extK.extL, notK, nilckK, callvK, laid]
  refine Eq.mpr (eqt86 (a := ⟨2, 1, 7⟩) (b := ⟨2, 1, 7⟩)) ?_
  simp -implicitDefEqProofs [r13, bld125, ld1_e, ld1_l, ld1_m, ldA_e, ldA_l, ldA_m, ldcm33, ldcm29, ixs_l, ixs_m, st_m, st_l, wrC, readC, getE, fits, TD.fit, optO, runN_succ, more_n, more_exit, more_ret, -List.getD_eq_getElem?_getD, ru, ruc, vK, putU, putK, arithK, intK, faK, hd1, ofV, lenSK, AV.nol, enumL, AV.nol.nols, loadC, loadS, extK, extK.extL, notK, nilckK, callvK, laid]
  exact hK
end
end Go.Ab
end
section
/- The specification's side: what can be delivered. -/
set_option linter.unusedSimpArgs false
set_option linter.unusedVariables false
set_option maxRecDepth 100000
namespace Go.Ab

section
variable {C : CX} {h : List AObj} {K : AV → List AObj → Prop} {a b c d e n : Int} {z z' z1 z2 z3 z1' z2' z3' : Bool} {s s' s1 s2 s3 s1' s2' s3' : Nat} {x y : Net}

def isCut (x : Net) (a b : Int) : Prop := pairOf a b ∈ x.cuts
theorem cut62 (hk : Nk z1 s1 z2 s2 z3 s3 x) (hc : x.cuts.length < 1000000) (hK : ∀ r, (r = true ↔ isCut x a b) → K (.bool r) h) : ACall C Pg 62 [.agg [.int .i64 x.nodes, .int .i64 x.now, .int .i64 x.next, .sl z1 s1 (x.way.map Letter.c) .no, .sl z2 s2 (x.cuts.map Link.c) .no, .sl z3 s3 (x.timers.map Timer.c) .no], .int .i64 a, .int .i64 b] h K := by
  refine run62 ?_; simp -implicitDefEqProofs only [b62, r62, ru, ruc, Nat.reduceLT, Nat.reduceEqDiff, reduceIte, Nat.reduceAdd, Nat.reduceLeDiff, Int.reduceEq, Int.reduceLT, Int.reduceLE, Int.reduceNeg, vK, putU, putK, arithK, intK, faK, hd1, ofV, lenSK, AV.nol, enumL, AV.nol.nols, loadC, loadS, extK, extK.extL, notK, nilckK, callvK, ld1K, ldAK, stK, laid]
  refine lp62_0 (α := Nat) 1 (fun i => [(1, .int .i64 a), (2, .int .i64 b), (3, .lptr 0 0), (7, .int .i64 i)]) (fun _ => [[.int .i64 x.nodes, .int .i64 x.now, .int .i64 x.next, .sl z1 s1 (x.way.map Letter.c) .no, .sl z2 s2 (x.cuts.map Link.c) .no, .sl z3 s3 (x.timers.map Timer.c) .no]]) (fun _ => h)
    (fun i => i ≤ x.cuts.length ∧ upTo (· ≠ pairOf a b) x.cuts i) (fun i => x.cuts.length - i) 0 ⟨Nat.zero_le _, upTo.zero⟩ (fun _ => rfl) ?_ rfl rfl rfl ?_
  · simp [allIn, lk, AV.lb, AV.lb.lbs]
  · rintro i ⟨hi, hall⟩
    simp -implicitDefEqProofs only [b62_0, r62, List.length_map, ru, ruc, Nat.reduceLT, Nat.reduceEqDiff, reduceIte, Nat.reduceAdd, Nat.reduceLeDiff, Int.reduceEq, Int.reduceLT, Int.reduceLE, Int.reduceNeg, vK, putU, putK, arithK, intK, faK, hd1, ofV, lenSK, AV.nol, enumL, AV.nol.nols, loadC, loadS, extK, extK.extL, notK, nilckK, callvK, ld1K, ldAK, stK, laid]
    refine condV_split (fun g => ?_) (fun g => ?_)
    · simp -implicitDefEqProofs only [r62, ru, ruc, Nat.reduceLT, Nat.reduceEqDiff, reduceIte, Nat.reduceAdd, Nat.reduceLeDiff, Int.reduceEq, Int.reduceLT, Int.reduceLE, Int.reduceNeg, vK, putU, putK, arithK, intK, faK, hd1, ofV, lenSK, AV.nol, enumL, AV.nol.nols, loadC, loadS, extK, extK.extL, notK, nilckK, callvK, ld1K, ldAK, stK, laid]
      simp only [decide_eq_true_eq] at g
      have g' : i < x.cuts.length := by omega
      refine re62_0 ?_
      simp -implicitDefEqProofs only [g62_0, r62, ru, ruc, Nat.reduceLT, Nat.reduceEqDiff, reduceIte, Nat.reduceAdd, Nat.reduceLeDiff, Int.reduceEq, Int.reduceLT, Int.reduceLE, Int.reduceNeg, vK, putU, putK, arithK, intK, faK, hd1, ofV, lenSK, AV.nol, enumL, AV.nol.nols, loadC, loadS, extK, extK.extL, notK, nilckK, callvK, ld1K, ldAK, stK, laid]
      repeat' (first | (refine guardV_split (fun g => ?_) (fun g => ?_) <;> simp -implicitDefEqProofs only [Link.c, r62, ru, ruc, Nat.reduceLT, Nat.reduceEqDiff, reduceIte, Nat.reduceAdd, Nat.reduceLeDiff, Int.reduceEq, Int.reduceLT, Int.reduceLE, Int.reduceNeg, vK, putU, putK, arithK, intK, faK, hd1, ofV, lenSK, AV.nol, enumL, AV.nol.nols, loadC, loadS, extK, extK.extL, notK, nilckK, callvK, ld1K, ldAK, stK, laid]) | (refine condV_split (fun g => ?_) (fun g => ?_) <;> simp -implicitDefEqProofs only [Link.c, r62, ru, ruc, Nat.reduceLT, Nat.reduceEqDiff, reduceIte, Nat.reduceAdd, Nat.reduceLeDiff, Int.reduceEq, Int.reduceLT, Int.reduceLE, Int.reduceNeg, vK, putU, putK, arithK, intK, faK, hd1, ofV, lenSK, AV.nol, enumL, AV.nol.nols, loadC, loadS, extK, extK.extL, notK, nilckK, callvK, ld1K, ldAK, stK, laid]) | (refine ixC hk.c rfl g' ?_ <;> try simp -implicitDefEqProofs only [Link.c, r62, ru, ruc, Nat.reduceLT, Nat.reduceEqDiff, reduceIte, Nat.reduceAdd, Nat.reduceLeDiff, Int.reduceEq, Int.reduceLT, Int.reduceLE, Int.reduceNeg, vK, putU, putK, arithK, intK, faK, hd1, ofV, lenSK, AV.nol, enumL, AV.nol.nols, loadC, loadS, extK, extK.extL, notK, nilckK, callvK, ld1K, ldAK, stK, laid]) | (refine pair63 ?_ <;> try simp -implicitDefEqProofs only [Link.c, r62, ru, ruc, Nat.reduceLT, Nat.reduceEqDiff, reduceIte, Nat.reduceAdd, Nat.reduceLeDiff, Int.reduceEq, Int.reduceLT, Int.reduceLE, Int.reduceNeg, vK, putU, putK, arithK, intK, faK, hd1, ofV, lenSK, AV.nol, enumL, AV.nol.nols, loadC, loadS, extK, extK.extL, notK, nilckK, callvK, ld1K, ldAK, stK, laid]) | (refine And.intro ?_ ?_ <;> try simp -implicitDefEqProofs only [Link.c, r62, ru, ruc, Nat.reduceLT, Nat.reduceEqDiff, reduceIte, Nat.reduceAdd, Nat.reduceLeDiff, Int.reduceEq, Int.reduceLT, Int.reduceLE, Int.reduceNeg, vK, putU, putK, arithK, intK, faK, hd1, ofV, lenSK, AV.nol, enumL, AV.nol.nols, loadC, loadS, extK, extK.extL, notK, nilckK, callvK, ld1K, ldAK, stK, laid]))
      all_goals (try simp only [decide_eq_true_eq, decide_eq_false_iff_not, Bool.not_eq_true', Bool.not_eq_false', if_true, Bool.false_eq_true, if_false] at *)
      all_goals first
        | (refine next_normal (i + 1) ⟨by omega, hall.succ g' ?_⟩ (by omega) rfl ?_ rfl rfl
           · assumption
           · simp [allIn, lk, AV.lb, AV.lb.lbs, wrap_i (show i < 9223372036854775807 by omega)])
        | (refine hK _ ?_
           simp only [true_iff, isCut]
           have g2 : x.cuts[i] = pairOf a b := by first | assumption | simp_all
           rw [← g2]
           exact List.getElem_mem g')
    · simp -implicitDefEqProofs only [r62, ru, ruc, Nat.reduceLT, Nat.reduceEqDiff, reduceIte, Nat.reduceAdd, Nat.reduceLeDiff, Int.reduceEq, Int.reduceLT, Int.reduceLE, Int.reduceNeg, vK, putU, putK, arithK, intK, faK, hd1, ofV, lenSK, AV.nol, enumL, AV.nol.nols, loadC, loadS, extK, extK.extL, notK, nilckK, callvK, ld1K, ldAK, stK, laid]
      refine hK _ ?_
      simp only [decide_eq_false_iff_not] at g
      have := hall.all (by omega)
      simp only [Bool.false_eq_true, false_iff, isCut]
      exact fun h1 => this _ h1 rfl

def canP (x : Net) (l : Letter) : Prop := l.rdy ≤ x.now ∧ ¬ isCut x l.fr l.to
theorem can90 {l : Letter} (hk : Nk z1 s1 z2 s2 z3 s3 x) (hc : x.cuts.length < 1000000) (hK : ∀ r, (r = true ↔ canP x l) → K (.bool r) h) : ACall C Pg 90 [.agg [.int .i64 x.nodes, .int .i64 x.now, .int .i64 x.next, .sl z1 s1 (x.way.map Letter.c) .no, .sl z2 s2 (x.cuts.map Link.c) .no, .sl z3 s3 (x.timers.map Timer.c) .no], .agg (Letter.c l)] h K := by
  refine run90 ?_; simp -implicitDefEqProofs only [b90, r90, Letter.c, ru, ruc, Nat.reduceLT, Nat.reduceEqDiff, reduceIte, Nat.reduceAdd, Nat.reduceLeDiff, Int.reduceEq, Int.reduceLT, Int.reduceLE, Int.reduceNeg, vK, putU, putK, arithK, intK, faK, hd1, ofV, lenSK, AV.nol, enumL, AV.nol.nols, loadC, loadS, extK, extK.extL, notK, nilckK, callvK, ld1K, ldAK, stK, laid]
  repeat' (first | (refine guardV_split (fun g => ?_) (fun g => ?_) <;> simp -implicitDefEqProofs only [r90, ru, ruc, Nat.reduceLT, Nat.reduceEqDiff, reduceIte, Nat.reduceAdd, Nat.reduceLeDiff, Int.reduceEq, Int.reduceLT, Int.reduceLE, Int.reduceNeg, vK, putU, putK, arithK, intK, faK, hd1, ofV, lenSK, AV.nol, enumL, AV.nol.nols, loadC, loadS, extK, extK.extL, notK, nilckK, callvK, ld1K, ldAK, stK, laid]) | (refine condV_split (fun g => ?_) (fun g => ?_) <;> simp -implicitDefEqProofs only [r90, ru, ruc, Nat.reduceLT, Nat.reduceEqDiff, reduceIte, Nat.reduceAdd, Nat.reduceLeDiff, Int.reduceEq, Int.reduceLT, Int.reduceLE, Int.reduceNeg, vK, putU, putK, arithK, intK, faK, hd1, ofV, lenSK, AV.nol, enumL, AV.nol.nols, loadC, loadS, extK, extK.extL, notK, nilckK, callvK, ld1K, ldAK, stK, laid]) | (refine cut62 hk hc (fun r hr => ?_) <;> try simp -implicitDefEqProofs only [r90, ru, ruc, Nat.reduceLT, Nat.reduceEqDiff, reduceIte, Nat.reduceAdd, Nat.reduceLeDiff, Int.reduceEq, Int.reduceLT, Int.reduceLE, Int.reduceNeg, vK, putU, putK, arithK, intK, faK, hd1, ofV, lenSK, AV.nol, enumL, AV.nol.nols, loadC, loadS, extK, extK.extL, notK, nilckK, callvK, ld1K, ldAK, stK, laid]))
  all_goals refine hK _ ?_
  all_goals simp only [decide_eq_true_eq, decide_eq_false_iff_not, Bool.not_eq_true', Bool.not_eq_false', if_true, Bool.false_eq_true, if_false] at *
  all_goals first
    | (simp [canP, ← hr, g]; done)
    | (simp only [canP]; simp_all; done)
    | (simp only [canP]; simp_all; omega)

theorem can90x {l : Letter} (hk : Nk z1 s1 z2 s2 z3 s3 x) (hc : x.cuts.length < 1000000) (hK : K (.bool (canX x l)) h) : ACall C Pg 90 [.agg [.int .i64 x.nodes, .int .i64 x.now, .int .i64 x.next, .sl z1 s1 (x.way.map Letter.c) .no, .sl z2 s2 (x.cuts.map Link.c) .no, .sl z3 s3 (x.timers.map Timer.c) .no], .agg (Letter.c l)] h K :=
  can90 hk hc fun r hr => by
    have : r = canX x l := by
      rw [Bool.eq_iff_iff, hr]
      simp [canX, canP, isCut]
    rw [this]
    exact hK
theorem ready49 (hk : Nk z1 s1 z2 s2 z3 s3 x) (hc : x.cuts.length < 1000000) (hw : x.way.length < 1000000) (hK : K (accU 1 intc (readyTo x x.way.length)) h) : ACall C Pg 49 [.agg [.int .i64 x.nodes, .int .i64 x.now, .int .i64 x.next, .sl z1 s1 (x.way.map Letter.c) .no, .sl z2 s2 (x.cuts.map Link.c) .no, .sl z3 s3 (x.timers.map Timer.c) .no]] h K := by
  refine run49 ?_; simp -implicitDefEqProofs only [b49, r49, ru, ruc, Nat.reduceLT, Nat.reduceEqDiff, reduceIte, Nat.reduceAdd, Nat.reduceLeDiff, Int.reduceEq, Int.reduceLT, Int.reduceLE, Int.reduceNeg, vK, putU, putK, arithK, intK, faK, hd1, ofV, lenSK, AV.nol, enumL, AV.nol.nols, loadC, loadS, extK, extK.extL, notK, nilckK, callvK, ld1K, ldAK, stK, laid]
  refine lp49_0 (α := Nat) 1 (fun i => [(1, .lptr 0 0), (3, accV 1 intc (readyTo x i)), (4, .int .i64 i)]) (fun _ => [[.int .i64 x.nodes, .int .i64 x.now, .int .i64 x.next, .sl z1 s1 (x.way.map Letter.c) .no, .sl z2 s2 (x.cuts.map Link.c) .no, .sl z3 s3 (x.timers.map Timer.c) .no]]) (fun _ => h)
    (fun i => i ≤ x.way.length) (fun i => x.way.length - i) 0 (Nat.zero_le _) (fun _ => rfl) ?_ rfl rfl rfl ?_
  · simp [allIn, lk, AV.lb, AV.lb.lbs, readyTo, accV]
  · intro i hi
    have ha : (accV 1 intc (readyTo x i)).owns = true ∨ ¬ (accV 1 intc (readyTo x i)).owns = true := Classical.em _
    simp -implicitDefEqProofs only [b49_0, r49, List.length_map, ru, ruc, Nat.reduceLT, Nat.reduceEqDiff, reduceIte, Nat.reduceAdd, Nat.reduceLeDiff, Int.reduceEq, Int.reduceLT, Int.reduceLE, Int.reduceNeg, vK, putU, putK, arithK, intK, faK, hd1, ofV, lenSK, AV.nol, enumL, AV.nol.nols, loadC, loadS, extK, extK.extL, notK, nilckK, callvK, ld1K, ldAK, stK, laid]
    refine condV_split (fun g => ?_) (fun g => ?_)
    · simp -implicitDefEqProofs only [r49, ru, ruc, Nat.reduceLT, Nat.reduceEqDiff, reduceIte, Nat.reduceAdd, Nat.reduceLeDiff, Int.reduceEq, Int.reduceLT, Int.reduceLE, Int.reduceNeg, vK, putU, putK, arithK, intK, faK, hd1, ofV, lenSK, AV.nol, enumL, AV.nol.nols, loadC, loadS, extK, extK.extL, notK, nilckK, callvK, ld1K, ldAK, stK, laid]
      simp only [decide_eq_true_eq] at g
      have g' : i < x.way.length := by omega
      have hlen : (readyTo x i).length < 1000000 := by have := readyTo_len (x := x) (k := i); omega
      apply rd49_0
      all_goals try (first | (intro l' e0 e1; simp -implicitDefEqProofs only [e0, e1, Letter.c, ru, ruc, Nat.reduceLT, Nat.reduceEqDiff, reduceIte, Nat.reduceAdd, Nat.reduceLeDiff, Int.reduceEq, Int.reduceLT, Int.reduceLE, Int.reduceNeg, vK, putU, putK, arithK, intK, faK, hd1, ofV, lenSK, AV.nol, enumL, AV.nol.nols, loadC, loadS, extK, extK.extL, notK, nilckK, callvK, ld1K, ldAK, stK, laid]; (try (first | (refine ixL hk.w rfl g' ?_ <;> try simp -implicitDefEqProofs only [e0, e1, Letter.c, ru, ruc, Nat.reduceLT, Nat.reduceEqDiff, reduceIte, Nat.reduceAdd, Nat.reduceLeDiff, Int.reduceEq, Int.reduceLT, Int.reduceLE, Int.reduceNeg, vK, putU, putK, arithK, intK, faK, hd1, ofV, lenSK, AV.nol, enumL, AV.nol.nols, loadC, loadS, extK, extK.extL, notK, nilckK, callvK, ld1K, ldAK, stK, laid]) | (refine can90x (l := x.way[i]) hk hc ?_ <;> try simp -implicitDefEqProofs only [e0, e1, Letter.c, ru, ruc, Nat.reduceLT, Nat.reduceEqDiff, reduceIte, Nat.reduceAdd, Nat.reduceLeDiff, Int.reduceEq, Int.reduceLT, Int.reduceLE, Int.reduceNeg, vK, putU, putK, arithK, intK, faK, hd1, ofV, lenSK, AV.nol, enumL, AV.nol.nols, loadC, loadS, extK, extK.extL, notK, nilckK, callvK, ld1K, ldAK, stK, laid]) | (fail))); first | exact step_1 rfl | exact step_2 rfl (by assumption)) | (intro l' e0; simp -implicitDefEqProofs only [e0, Letter.c, ru, ruc, Nat.reduceLT, Nat.reduceEqDiff, reduceIte, Nat.reduceAdd, Nat.reduceLeDiff, Int.reduceEq, Int.reduceLT, Int.reduceLE, Int.reduceNeg, vK, putU, putK, arithK, intK, faK, hd1, ofV, lenSK, AV.nol, enumL, AV.nol.nols, loadC, loadS, extK, extK.extL, notK, nilckK, callvK, ld1K, ldAK, stK, laid]; (try (first | (refine ixL hk.w rfl g' ?_ <;> try simp -implicitDefEqProofs only [e0, Letter.c, ru, ruc, Nat.reduceLT, Nat.reduceEqDiff, reduceIte, Nat.reduceAdd, Nat.reduceLeDiff, Int.reduceEq, Int.reduceLT, Int.reduceLE, Int.reduceNeg, vK, putU, putK, arithK, intK, faK, hd1, ofV, lenSK, AV.nol, enumL, AV.nol.nols, loadC, loadS, extK, extK.extL, notK, nilckK, callvK, ld1K, ldAK, stK, laid]) | (refine can90x (l := x.way[i]) hk hc ?_ <;> try simp -implicitDefEqProofs only [e0, Letter.c, ru, ruc, Nat.reduceLT, Nat.reduceEqDiff, reduceIte, Nat.reduceAdd, Nat.reduceLeDiff, Int.reduceEq, Int.reduceLT, Int.reduceLE, Int.reduceNeg, vK, putU, putK, arithK, intK, faK, hd1, ofV, lenSK, AV.nol, enumL, AV.nol.nols, loadC, loadS, extK, extK.extL, notK, nilckK, callvK, ld1K, ldAK, stK, laid]) | (fail))); first | exact step_1 rfl | exact step_2 rfl (by assumption)) | (intro l' ; simp -implicitDefEqProofs only [Letter.c, ru, ruc, Nat.reduceLT, Nat.reduceEqDiff, reduceIte, Nat.reduceAdd, Nat.reduceLeDiff, Int.reduceEq, Int.reduceLT, Int.reduceLE, Int.reduceNeg, vK, putU, putK, arithK, intK, faK, hd1, ofV, lenSK, AV.nol, enumL, AV.nol.nols, loadC, loadS, extK, extK.extL, notK, nilckK, callvK, ld1K, ldAK, stK, laid]; (try (first | (refine ixL hk.w rfl g' ?_ <;> try simp -implicitDefEqProofs only [Letter.c, ru, ruc, Nat.reduceLT, Nat.reduceEqDiff, reduceIte, Nat.reduceAdd, Nat.reduceLeDiff, Int.reduceEq, Int.reduceLT, Int.reduceLE, Int.reduceNeg, vK, putU, putK, arithK, intK, faK, hd1, ofV, lenSK, AV.nol, enumL, AV.nol.nols, loadC, loadS, extK, extK.extL, notK, nilckK, callvK, ld1K, ldAK, stK, laid]) | (refine can90x (l := x.way[i]) hk hc ?_ <;> try simp -implicitDefEqProofs only [Letter.c, ru, ruc, Nat.reduceLT, Nat.reduceEqDiff, reduceIte, Nat.reduceAdd, Nat.reduceLeDiff, Int.reduceEq, Int.reduceLT, Int.reduceLE, Int.reduceNeg, vK, putU, putK, arithK, intK, faK, hd1, ofV, lenSK, AV.nol, enumL, AV.nol.nols, loadC, loadS, extK, extK.extL, notK, nilckK, callvK, ld1K, ldAK, stK, laid]) | (fail))); first | exact step_1 rfl | exact step_2 rfl (by assumption)))
      case hK =>
        simp -implicitDefEqProofs only [r49, ru, ruc, Nat.reduceLT, Nat.reduceEqDiff, reduceIte, Nat.reduceAdd, Nat.reduceLeDiff, Int.reduceEq, Int.reduceLT, Int.reduceLE, Int.reduceNeg, vK, putU, putK, arithK, intK, faK, hd1, ofV, lenSK, AV.nol, enumL, AV.nol.nols, loadC, loadS, extK, extK.extL, notK, nilckK, callvK, ld1K, ldAK, stK, laid]
        refine condV_split (fun g2 => ?_) (fun g2 => ?_)
        · have htake : readyTo x (i + 1) = readyTo x i ++ [(i : Int)] := by rw [readyTo_succ g', if_pos g2]
          have ha2 : (accV 1 intc (readyTo x (i + 1))).owns = true ∨ ¬ (accV 1 intc (readyTo x (i + 1))).owns = true := Classical.em _
          rcases ha with ha | ha
          all_goals (
            simp -implicitDefEqProofs only [r49, bsl37_1, ha, accV_un, accU_ow, ru, ruc, Nat.reduceLT, Nat.reduceEqDiff, reduceIte, Nat.reduceAdd, Nat.reduceLeDiff, Int.reduceEq, Int.reduceLT, Int.reduceLE, Int.reduceNeg, vK, putU, putK, arithK, intK, faK, hd1, ofV, lenSK, AV.nol, enumL, AV.nol.nols, loadC, loadS, extK, extK.extL, notK, nilckK, callvK, ld1K, ldAK, stK, laid]
            refine app_acc (y := (i : Int)) (by decide) T37 rfl T3 rfl (by decide) (by decide) hlen ?_
            rw [← htake]
            rcases ha2 with ha2 | ha2
            all_goals (
              simp -implicitDefEqProofs only [r49, ha, ha2, accV_un, ru, ruc, Nat.reduceLT, Nat.reduceEqDiff, reduceIte, Nat.reduceAdd, Nat.reduceLeDiff, Int.reduceEq, Int.reduceLT, Int.reduceLE, Int.reduceNeg, vK, putU, putK, arithK, intK, faK, hd1, ofV, lenSK, AV.nol, enumL, AV.nol.nols, loadC, loadS, extK, extK.extL, notK, nilckK, callvK, ld1K, ldAK, stK, laid]
              refine next_normal (i + 1) g' (by omega) rfl ?_ rfl rfl
              simp [allIn, lk, AV.lb, AV.lb.lbs, accV_lb, wrap_i (show i < 9223372036854775807 by omega)]))
        · have htake : readyTo x (i + 1) = readyTo x i := by rw [readyTo_succ g', if_neg (by simp [g2])]
          simp -implicitDefEqProofs only [r49, ru, ruc, Nat.reduceLT, Nat.reduceEqDiff, reduceIte, Nat.reduceAdd, Nat.reduceLeDiff, Int.reduceEq, Int.reduceLT, Int.reduceLE, Int.reduceNeg, vK, putU, putK, arithK, intK, faK, hd1, ofV, lenSK, AV.nol, enumL, AV.nol.nols, loadC, loadS, extK, extK.extL, notK, nilckK, callvK, ld1K, ldAK, stK, laid]
          refine next_normal (i + 1) g' (by omega) rfl ?_ rfl rfl
          simp [allIn, lk, AV.lb, AV.lb.lbs, accV_lb, wrap_i (show i < 9223372036854775807 by omega), htake]
    · simp only [decide_eq_false_iff_not] at g
      have e : i = x.way.length := by omega
      subst e
      rcases ha with ha | ha
      all_goals (
        simp -implicitDefEqProofs only [r49, ha, accV_un, accU_un, accU_nol, accV_nol, accU_ow, ru, ruc, Nat.reduceLT, Nat.reduceEqDiff, reduceIte, Nat.reduceAdd, Nat.reduceLeDiff, Int.reduceEq, Int.reduceLT, Int.reduceLE, Int.reduceNeg, vK, putU, putK, arithK, intK, faK, hd1, ofV, lenSK, AV.nol, enumL, AV.nol.nols, loadC, loadS, extK, extK.extL, notK, nilckK, callvK, ld1K, ldAK, stK, laid]
        exact hK)
end
end Go.Ab
end
section
/- slices.Insert of one element at any place: what append and copy lead to. -/
set_option linter.unusedSimpArgs false
set_option linter.unusedVariables false
set_option maxRecDepth 100000
namespace Go.Ab

section
variable {α : Type} {h : List AObj} {sz t t2 e : Nat} {c : α → List AV} {v : AV} {l : List α} {ti t2i ei : TI} {id n : Nat} {cs rest : List AV} {i : Nat} {k : IntKind}

end
end Go.Ab
end
section
/- The specification's network, well-formed; its other functions. -/
set_option linter.unusedSimpArgs false
set_option linter.unusedVariables false
set_option maxRecDepth 100000
set_option maxHeartbeats 4000000
namespace Go.Ab

section
variable {C : CX} {h : List AObj} {K : AV → List AObj → Prop} {a b c d e n : Int} {z1 z2 z3 : Bool} {s1 s2 s3 : Nat} {x y : Net}

theorem orI_cons {l : List Int} : orI (a :: l) = if a = 0 then orI l else a := by
  unfold orI
  by_cases h : a = 0 <;> simp [h]
theorem orI_nil : orI [] = 0 := rfl
theorem cmpI_zero : cmpI a b = 0 ↔ a = b := by unfold cmpI; split <;> (try split) <;> omega
theorem cmpI_neg : cmpI a b < 0 ↔ a < b := by unfold cmpI; split <;> (try split) <;> omega
theorem cmpT_lt {p q : Timer} : cmpT p q < 0 ↔ p.tm < q.tm ∨ (p.tm = q.tm ∧ (p.nd < q.nd ∨ (p.nd = q.nd ∧ p.tg < q.tg))) := by
  simp only [cmpT, orI_cons, orI_nil, cmpI_zero]
  split <;> (try split) <;> (try split) <;> (try rw [cmpI_neg]) <;> omega
theorem lessT_iff {p q : Timer} : lessT p q = true ↔ cmpT p q < 0 := by
  rw [cmpT_lt]
  unfold lessT
  split <;> (try split) <;> simp only [decide_eq_true_eq] <;> omega

theorem is48 (hk : Nk z1 s1 z2 s2 z3 s3 x) (hc : x.cuts.length < 1000000) (hK : ∀ r, (r = true ↔ WF x) → K (.bool r) h) : ACall C Pg 48 [.agg [.int .i64 x.nodes, .int .i64 x.now, .int .i64 x.next, .sl z1 s1 (x.way.map Letter.c) .no, .sl z2 s2 (x.cuts.map Link.c) .no, .sl z3 s3 (x.timers.map Timer.c) .no]] h K := by
  have hF : ¬ WF x → K (.bool false) h := fun hn => hK false (by simpa using hn)
  refine run48 ?_; simp -implicitDefEqProofs only [b48, r48, List.length_map, ru, ruc, Nat.reduceLT, Nat.reduceEqDiff, reduceIte, Nat.reduceAdd, Nat.reduceLeDiff, Int.reduceEq, Int.reduceLT, Int.reduceLE, Int.reduceNeg, vK, putU, putK, arithK, intK, faK, hd1, ofV, lenSK, AV.nol, enumL, AV.nol.nols, loadC, loadS, extK, extK.extL, notK, nilckK, callvK, ld1K, ldAK, stK, laid]
  repeat' (first | (refine guardV_split (fun g => ?_) (fun g => ?_) <;> simp -implicitDefEqProofs only [List.length_map, r48, ru, ruc, Nat.reduceLT, Nat.reduceEqDiff, reduceIte, Nat.reduceAdd, Nat.reduceLeDiff, Int.reduceEq, Int.reduceLT, Int.reduceLE, Int.reduceNeg, vK, putU, putK, arithK, intK, faK, hd1, ofV, lenSK, AV.nol, enumL, AV.nol.nols, loadC, loadS, extK, extK.extL, notK, nilckK, callvK, ld1K, ldAK, stK, laid]) | (refine condV_split (fun g => ?_) (fun g => ?_) <;> simp -implicitDefEqProofs only [List.length_map, r48, ru, ruc, Nat.reduceLT, Nat.reduceEqDiff, reduceIte, Nat.reduceAdd, Nat.reduceLeDiff, Int.reduceEq, Int.reduceLT, Int.reduceLE, Int.reduceNeg, vK, putU, putK, arithK, intK, faK, hd1, ofV, lenSK, AV.nol, enumL, AV.nol.nols, loadC, loadS, extK, extK.extL, notK, nilckK, callvK, ld1K, ldAK, stK, laid]))
  all_goals simp only [decide_eq_true_eq, decide_eq_false_iff_not, Bool.not_eq_true', Bool.not_eq_false', if_true, Bool.false_eq_true, if_false] at *
  all_goals try (first
    | (refine hF fun w => ?_
       have a1 := w.n1; have a2 := w.n2; have a3 := w.w1; have a4 := w.w2; have a5 := w.x1; have a6 := w.x2; have a7 := w.fl; have a8 := w.tl
       first | omega | (simp_all; done)))
  refine lp48_0 (α := Nat) 1 (fun i => [(1, .lptr 0 0), (3, .int .i64 i)]) (fun _ => [[.int .i64 x.nodes, .int .i64 x.now, .int .i64 x.next, .sl z1 s1 (x.way.map Letter.c) .no, .sl z2 s2 (x.cuts.map Link.c) .no, .sl z3 s3 (x.timers.map Timer.c) .no]]) (fun _ => h)
    (fun i => i ≤ x.way.length ∧ upTo (letterOk x) x.way i) (fun i => x.way.length - i) 0 ⟨Nat.zero_le _, upTo.zero⟩ (fun _ => rfl) ?_ rfl rfl rfl ?_
  · simp [allIn, lk, AV.lb, AV.lb.lbs]
  · rintro i ⟨hi, hall⟩
    simp -implicitDefEqProofs only [b48_0, r48, List.length_map, ru, ruc, Nat.reduceLT, Nat.reduceEqDiff, reduceIte, Nat.reduceAdd, Nat.reduceLeDiff, Int.reduceEq, Int.reduceLT, Int.reduceLE, Int.reduceNeg, vK, putU, putK, arithK, intK, faK, hd1, ofV, lenSK, AV.nol, enumL, AV.nol.nols, loadC, loadS, extK, extK.extL, notK, nilckK, callvK, ld1K, ldAK, stK, laid]
    refine condV_split (fun g => ?_) (fun g => ?_)
    · simp -implicitDefEqProofs only [r48, ru, ruc, Nat.reduceLT, Nat.reduceEqDiff, reduceIte, Nat.reduceAdd, Nat.reduceLeDiff, Int.reduceEq, Int.reduceLT, Int.reduceLE, Int.reduceNeg, vK, putU, putK, arithK, intK, faK, hd1, ofV, lenSK, AV.nol, enumL, AV.nol.nols, loadC, loadS, extK, extK.extL, notK, nilckK, callvK, ld1K, ldAK, stK, laid]
      simp only [decide_eq_true_eq] at g
      have g' : i < x.way.length := by omega
      refine ixL hk.w rfl g' ?_
      simp -implicitDefEqProofs only [r48, Letter.c, ru, ruc, Nat.reduceLT, Nat.reduceEqDiff, reduceIte, Nat.reduceAdd, Nat.reduceLeDiff, Int.reduceEq, Int.reduceLT, Int.reduceLE, Int.reduceNeg, vK, putU, putK, arithK, intK, faK, hd1, ofV, lenSK, AV.nol, enumL, AV.nol.nols, loadC, loadS, extK, extK.extL, notK, nilckK, callvK, ld1K, ldAK, stK, laid]
      repeat' (first | (refine guardV_split (fun g => ?_) (fun g => ?_) <;> simp -implicitDefEqProofs only [r48, ru, ruc, Nat.reduceLT, Nat.reduceEqDiff, reduceIte, Nat.reduceAdd, Nat.reduceLeDiff, Int.reduceEq, Int.reduceLT, Int.reduceLE, Int.reduceNeg, vK, putU, putK, arithK, intK, faK, hd1, ofV, lenSK, AV.nol, enumL, AV.nol.nols, loadC, loadS, extK, extK.extL, notK, nilckK, callvK, ld1K, ldAK, stK, laid]) | (refine condV_split (fun g => ?_) (fun g => ?_) <;> simp -implicitDefEqProofs only [r48, ru, ruc, Nat.reduceLT, Nat.reduceEqDiff, reduceIte, Nat.reduceAdd, Nat.reduceLeDiff, Int.reduceEq, Int.reduceLT, Int.reduceLE, Int.reduceNeg, vK, putU, putK, arithK, intK, faK, hd1, ofV, lenSK, AV.nol, enumL, AV.nol.nols, loadC, loadS, extK, extK.extL, notK, nilckK, callvK, ld1K, ldAK, stK, laid]) | (refine isNode61 ?_ <;> try simp -implicitDefEqProofs only [r48, ru, ruc, Nat.reduceLT, Nat.reduceEqDiff, reduceIte, Nat.reduceAdd, Nat.reduceLeDiff, Int.reduceEq, Int.reduceLT, Int.reduceLE, Int.reduceNeg, vK, putU, putK, arithK, intK, faK, hd1, ofV, lenSK, AV.nol, enumL, AV.nol.nols, loadC, loadS, extK, extK.extL, notK, nilckK, callvK, ld1K, ldAK, stK, laid]) | (refine isTime89 ?_ <;> try simp -implicitDefEqProofs only [r48, ru, ruc, Nat.reduceLT, Nat.reduceEqDiff, reduceIte, Nat.reduceAdd, Nat.reduceLeDiff, Int.reduceEq, Int.reduceLT, Int.reduceLE, Int.reduceNeg, vK, putU, putK, arithK, intK, faK, hd1, ofV, lenSK, AV.nol, enumL, AV.nol.nols, loadC, loadS, extK, extK.extL, notK, nilckK, callvK, ld1K, ldAK, stK, laid]))
      all_goals simp only [decide_eq_true_eq, decide_eq_false_iff_not, Bool.not_eq_true', Bool.not_eq_false', if_true, Bool.false_eq_true, if_false] at *
      all_goals first
        | (refine next_normal (i + 1) ⟨by omega, hall.succ g' ?_⟩ (by omega) rfl ?_ rfl rfl
           · simp only [letterOk, nodeOk, Bool.and_eq_true, Bool.and_eq_false_iff, decide_eq_true_eq, decide_eq_false_iff_not] at *
             omega
           · simp [allIn, lk, AV.lb, AV.lb.lbs, wrap_i (show i < 9223372036854775807 by omega)])
        | (refine hF fun w => ?_
           have w1 := w.lo _ (List.getElem_mem g')
           simp only [letterOk, nodeOk, Bool.and_eq_true, Bool.and_eq_false_iff, decide_eq_true_eq, decide_eq_false_iff_not] at *
           omega)
    · simp -implicitDefEqProofs only [r48, List.length_map, ru, ruc, Nat.reduceLT, Nat.reduceEqDiff, reduceIte, Nat.reduceAdd, Nat.reduceLeDiff, Int.reduceEq, Int.reduceLT, Int.reduceLE, Int.reduceNeg, vK, putU, putK, arithK, intK, faK, hd1, ofV, lenSK, AV.nol, enumL, AV.nol.nols, loadC, loadS, extK, extK.extL, notK, nilckK, callvK, ld1K, ldAK, stK, laid]
      simp only [decide_eq_false_iff_not] at g
      have hw := hall.all (by omega)
      clear hall g
      refine lp48_1 (α := Nat) 1 (fun i => [(1, .lptr 0 0), (5, .int .i64 i)]) (fun _ => [[.int .i64 x.nodes, .int .i64 x.now, .int .i64 x.next, .sl z1 s1 (x.way.map Letter.c) .no, .sl z2 s2 (x.cuts.map Link.c) .no, .sl z3 s3 (x.timers.map Timer.c) .no]]) (fun _ => h)
        (fun i => i ≤ x.cuts.length ∧ upTo (cutOk x) x.cuts i ∧ ∀ j (hj : j + 1 < x.cuts.length), j + 1 < i → cmpC x.cuts[j] x.cuts[j + 1] < 0) (fun i => x.cuts.length - i) 0 ⟨Nat.zero_le _, upTo.zero, fun j hj h => by omega⟩ (fun _ => rfl) ?_ rfl rfl rfl ?_
      · simp [allIn, lk, AV.lb, AV.lb.lbs]
      · rintro i ⟨hi, hall, hri⟩
        simp -implicitDefEqProofs only [b48_1, r48, List.length_map, ru, ruc, Nat.reduceLT, Nat.reduceEqDiff, reduceIte, Nat.reduceAdd, Nat.reduceLeDiff, Int.reduceEq, Int.reduceLT, Int.reduceLE, Int.reduceNeg, vK, putU, putK, arithK, intK, faK, hd1, ofV, lenSK, AV.nol, enumL, AV.nol.nols, loadC, loadS, extK, extK.extL, notK, nilckK, callvK, ld1K, ldAK, stK, laid]
        refine condV_split (fun g => ?_) (fun g => ?_)
        · simp -implicitDefEqProofs only [r48, ru, ruc, Nat.reduceLT, Nat.reduceEqDiff, reduceIte, Nat.reduceAdd, Nat.reduceLeDiff, Int.reduceEq, Int.reduceLT, Int.reduceLE, Int.reduceNeg, vK, putU, putK, arithK, intK, faK, hd1, ofV, lenSK, AV.nol, enumL, AV.nol.nols, loadC, loadS, extK, extK.extL, notK, nilckK, callvK, ld1K, ldAK, stK, laid]
          simp only [decide_eq_true_eq] at g
          have g' : i < x.cuts.length := by omega
          refine ixC hk.c rfl g' ?_
          simp -implicitDefEqProofs only [r48, Link.c, ru, ruc, Nat.reduceLT, Nat.reduceEqDiff, reduceIte, Nat.reduceAdd, Nat.reduceLeDiff, Int.reduceEq, Int.reduceLT, Int.reduceLE, Int.reduceNeg, vK, putU, putK, arithK, intK, faK, hd1, ofV, lenSK, AV.nol, enumL, AV.nol.nols, loadC, loadS, extK, extK.extL, notK, nilckK, callvK, ld1K, ldAK, stK, laid]
          repeat' (first | (refine guardV_split (fun g => ?_) (fun g => ?_) <;> simp -implicitDefEqProofs only [r48, ru, ruc, Nat.reduceLT, Nat.reduceEqDiff, reduceIte, Nat.reduceAdd, Nat.reduceLeDiff, Int.reduceEq, Int.reduceLT, Int.reduceLE, Int.reduceNeg, vK, putU, putK, arithK, intK, faK, hd1, ofV, lenSK, AV.nol, enumL, AV.nol.nols, loadC, loadS, extK, extK.extL, notK, nilckK, callvK, ld1K, ldAK, stK, laid]) | (refine condV_split (fun g => ?_) (fun g => ?_) <;> simp -implicitDefEqProofs only [r48, ru, ruc, Nat.reduceLT, Nat.reduceEqDiff, reduceIte, Nat.reduceAdd, Nat.reduceLeDiff, Int.reduceEq, Int.reduceLT, Int.reduceLE, Int.reduceNeg, vK, putU, putK, arithK, intK, faK, hd1, ofV, lenSK, AV.nol, enumL, AV.nol.nols, loadC, loadS, extK, extK.extL, notK, nilckK, callvK, ld1K, ldAK, stK, laid]) | (refine isNode61 ?_ <;> try simp -implicitDefEqProofs only [r48, ru, ruc, Nat.reduceLT, Nat.reduceEqDiff, reduceIte, Nat.reduceAdd, Nat.reduceLeDiff, Int.reduceEq, Int.reduceLT, Int.reduceLE, Int.reduceNeg, vK, putU, putK, arithK, intK, faK, hd1, ofV, lenSK, AV.nol, enumL, AV.nol.nols, loadC, loadS, extK, extK.extL, notK, nilckK, callvK, ld1K, ldAK, stK, laid]))
          all_goals simp only [decide_eq_true_eq, decide_eq_false_iff_not, Bool.not_eq_true', Bool.not_eq_false', if_true, Bool.false_eq_true, if_false] at *
          all_goals try (
            refine hF fun w => ?_
            have w1 := w.co _ (List.getElem_mem g')
            simp only [cutOk, nodeOk, Bool.and_eq_true, Bool.and_eq_false_iff, decide_eq_true_eq, decide_eq_false_iff_not] at *
            omega)
          have hok : cutOk x x.cuts[i] := by
            simp only [cutOk, nodeOk, Bool.and_eq_true, Bool.and_eq_false_iff, decide_eq_true_eq, decide_eq_false_iff_not] at *
            omega
          have U := un_nilp
          have i1 : i - 1 < x.cuts.length := by omega
          cases c0 : decide ((0 : Int) < (i : Int))
          case' false => have c1 := U; have c2 := U; have c3 := U
          case' true =>
            cases c1 : decide (x.cuts[i].a < (x.cuts[i - 1]'i1).a)
            case' true => have c2 := U; have c3 := U
            case' false =>
              cases c2 : decide ((x.cuts[i - 1]'i1).a = x.cuts[i].a)
              case' false => have c3 := U
              case' true => cases c3 : decide (x.cuts[i].b ≤ (x.cuts[i - 1]'i1).b)
          all_goals (
            apply rd48_0
            all_goals try (first | (intro l' e0 e1 e2; simp -implicitDefEqProofs only [e0, e1, e2, Link.c, c0, c1, c2, c3, ru, ruc, Nat.reduceLT, Nat.reduceEqDiff, reduceIte, Nat.reduceAdd, Nat.reduceLeDiff, Int.reduceEq, Int.reduceLT, Int.reduceLE, Int.reduceNeg, vK, putU, putK, arithK, intK, faK, hd1, ofV, lenSK, AV.nol, enumL, AV.nol.nols, loadC, loadS, extK, extK.extL, notK, nilckK, callvK, ld1K, ldAK, stK, laid]; (try (first | (refine ixC (i := i - 1) hk.c (by rw [wrap_id (by omega) (by omega)]; simp only [decide_eq_true_eq] at c0; omega) i1 ?_ <;> try simp -implicitDefEqProofs only [e0, e1, e2, Link.c, c0, c1, c2, c3, ru, ruc, Nat.reduceLT, Nat.reduceEqDiff, reduceIte, Nat.reduceAdd, Nat.reduceLeDiff, Int.reduceEq, Int.reduceLT, Int.reduceLE, Int.reduceNeg, vK, putU, putK, arithK, intK, faK, hd1, ofV, lenSK, AV.nol, enumL, AV.nol.nols, loadC, loadS, extK, extK.extL, notK, nilckK, callvK, ld1K, ldAK, stK, laid]) | (fail))); first | exact step_1 rfl | exact step_2 rfl (by assumption)) | (intro l' e0 e1; simp -implicitDefEqProofs only [e0, e1, Link.c, c0, c1, c2, c3, ru, ruc, Nat.reduceLT, Nat.reduceEqDiff, reduceIte, Nat.reduceAdd, Nat.reduceLeDiff, Int.reduceEq, Int.reduceLT, Int.reduceLE, Int.reduceNeg, vK, putU, putK, arithK, intK, faK, hd1, ofV, lenSK, AV.nol, enumL, AV.nol.nols, loadC, loadS, extK, extK.extL, notK, nilckK, callvK, ld1K, ldAK, stK, laid]; (try (first | (refine ixC (i := i - 1) hk.c (by rw [wrap_id (by omega) (by omega)]; simp only [decide_eq_true_eq] at c0; omega) i1 ?_ <;> try simp -implicitDefEqProofs only [e0, e1, Link.c, c0, c1, c2, c3, ru, ruc, Nat.reduceLT, Nat.reduceEqDiff, reduceIte, Nat.reduceAdd, Nat.reduceLeDiff, Int.reduceEq, Int.reduceLT, Int.reduceLE, Int.reduceNeg, vK, putU, putK, arithK, intK, faK, hd1, ofV, lenSK, AV.nol, enumL, AV.nol.nols, loadC, loadS, extK, extK.extL, notK, nilckK, callvK, ld1K, ldAK, stK, laid]) | (fail))); first | exact step_1 rfl | exact step_2 rfl (by assumption)) | (intro l' e0; simp -implicitDefEqProofs only [e0, Link.c, c0, c1, c2, c3, ru, ruc, Nat.reduceLT, Nat.reduceEqDiff, reduceIte, Nat.reduceAdd, Nat.reduceLeDiff, Int.reduceEq, Int.reduceLT, Int.reduceLE, Int.reduceNeg, vK, putU, putK, arithK, intK, faK, hd1, ofV, lenSK, AV.nol, enumL, AV.nol.nols, loadC, loadS, extK, extK.extL, notK, nilckK, callvK, ld1K, ldAK, stK, laid]; (try (first | (refine ixC (i := i - 1) hk.c (by rw [wrap_id (by omega) (by omega)]; simp only [decide_eq_true_eq] at c0; omega) i1 ?_ <;> try simp -implicitDefEqProofs only [e0, Link.c, c0, c1, c2, c3, ru, ruc, Nat.reduceLT, Nat.reduceEqDiff, reduceIte, Nat.reduceAdd, Nat.reduceLeDiff, Int.reduceEq, Int.reduceLT, Int.reduceLE, Int.reduceNeg, vK, putU, putK, arithK, intK, faK, hd1, ofV, lenSK, AV.nol, enumL, AV.nol.nols, loadC, loadS, extK, extK.extL, notK, nilckK, callvK, ld1K, ldAK, stK, laid]) | (fail))); first | exact step_1 rfl | exact step_2 rfl (by assumption)) | (intro l' ; simp -implicitDefEqProofs only [Link.c, c0, c1, c2, c3, ru, ruc, Nat.reduceLT, Nat.reduceEqDiff, reduceIte, Nat.reduceAdd, Nat.reduceLeDiff, Int.reduceEq, Int.reduceLT, Int.reduceLE, Int.reduceNeg, vK, putU, putK, arithK, intK, faK, hd1, ofV, lenSK, AV.nol, enumL, AV.nol.nols, loadC, loadS, extK, extK.extL, notK, nilckK, callvK, ld1K, ldAK, stK, laid]; (try (first | (refine ixC (i := i - 1) hk.c (by rw [wrap_id (by omega) (by omega)]; simp only [decide_eq_true_eq] at c0; omega) i1 ?_ <;> try simp -implicitDefEqProofs only [Link.c, c0, c1, c2, c3, ru, ruc, Nat.reduceLT, Nat.reduceEqDiff, reduceIte, Nat.reduceAdd, Nat.reduceLeDiff, Int.reduceEq, Int.reduceLT, Int.reduceLE, Int.reduceNeg, vK, putU, putK, arithK, intK, faK, hd1, ofV, lenSK, AV.nol, enumL, AV.nol.nols, loadC, loadS, extK, extK.extL, notK, nilckK, callvK, ld1K, ldAK, stK, laid]) | (fail))); first | exact step_1 rfl | exact step_2 rfl (by assumption)))
            case' hK => simp -implicitDefEqProofs only [r48, c0, c1, c2, c3, ru, ruc, Nat.reduceLT, Nat.reduceEqDiff, reduceIte, Nat.reduceAdd, Nat.reduceLeDiff, Int.reduceEq, Int.reduceLT, Int.reduceLE, Int.reduceNeg, vK, putU, putK, arithK, intK, faK, hd1, ofV, lenSK, AV.nol, enumL, AV.nol.nols, loadC, loadS, extK, extK.extL, notK, nilckK, callvK, ld1K, ldAK, stK, laid])
          all_goals simp only [decide_eq_true_eq, decide_eq_false_iff_not, Bool.not_eq_true', Bool.not_eq_false', if_true, Bool.false_eq_true, if_false] at *
          all_goals first
            | (refine next_normal (i + 1) ⟨by omega, hall.succ g' hok, fun j hj hlt => ?_⟩ (by omega) rfl ?_ rfl rfl
               · by_cases e : j + 1 = i
                 · subst e
                   rw [cmpC_lt]
                   simp only [Nat.add_sub_cancel] at *
                   omega
                 · exact hri j hj (by omega)
               · simp [allIn, lk, AV.lb, AV.lb.lbs, wrap_i (show i < 9223372036854775807 by omega)])
            | (refine hF fun w => ?_
               have w1 := w.cr (i - 1) (by omega)
               rw [cmpC_lt] at w1
               simp only [show i - 1 + 1 = i by omega] at w1
               omega)
        · simp -implicitDefEqProofs only [r48, List.length_map, ru, ruc, Nat.reduceLT, Nat.reduceEqDiff, reduceIte, Nat.reduceAdd, Nat.reduceLeDiff, Int.reduceEq, Int.reduceLT, Int.reduceLE, Int.reduceNeg, vK, putU, putK, arithK, intK, faK, hd1, ofV, lenSK, AV.nol, enumL, AV.nol.nols, loadC, loadS, extK, extK.extL, notK, nilckK, callvK, ld1K, ldAK, stK, laid]
          simp only [decide_eq_false_iff_not] at g
          have hcu := hall.all (by omega)
          have hcr : rises cmpC x.cuts := fun j hj => hri j hj (by omega)
          clear hall g hri
          refine lp48_2 (α := Nat) 1 (fun i => [(1, .lptr 0 0), (7, .int .i64 i)]) (fun _ => [[.int .i64 x.nodes, .int .i64 x.now, .int .i64 x.next, .sl z1 s1 (x.way.map Letter.c) .no, .sl z2 s2 (x.cuts.map Link.c) .no, .sl z3 s3 (x.timers.map Timer.c) .no]]) (fun _ => h)
            (fun i => i ≤ x.timers.length ∧ upTo (timerOk x) x.timers i ∧ (∀ j (hj : j + 1 < x.timers.length), j + 1 < i → cmpT x.timers[j] x.timers[j + 1] < 0) ∧ ∀ i' j (hi : i' < x.timers.length) (hj : j < i'), i' < i → ¬ (x.timers[j].nd = x.timers[i'].nd ∧ x.timers[j].tg = x.timers[i'].tg)) (fun i => x.timers.length - i) 0 ⟨Nat.zero_le _, upTo.zero, fun j hj h => by omega, fun i' j hi hj h => by omega⟩ (fun _ => rfl) ?_ rfl rfl rfl ?_
          · simp [allIn, lk, AV.lb, AV.lb.lbs]
          · rintro i ⟨hi, hall, hri, hown⟩
            simp -implicitDefEqProofs only [b48_2, r48, List.length_map, ru, ruc, Nat.reduceLT, Nat.reduceEqDiff, reduceIte, Nat.reduceAdd, Nat.reduceLeDiff, Int.reduceEq, Int.reduceLT, Int.reduceLE, Int.reduceNeg, vK, putU, putK, arithK, intK, faK, hd1, ofV, lenSK, AV.nol, enumL, AV.nol.nols, loadC, loadS, extK, extK.extL, notK, nilckK, callvK, ld1K, ldAK, stK, laid]
            refine condV_split (fun g => ?_) (fun g => ?_)
            · simp -implicitDefEqProofs only [r48, ru, ruc, Nat.reduceLT, Nat.reduceEqDiff, reduceIte, Nat.reduceAdd, Nat.reduceLeDiff, Int.reduceEq, Int.reduceLT, Int.reduceLE, Int.reduceNeg, vK, putU, putK, arithK, intK, faK, hd1, ofV, lenSK, AV.nol, enumL, AV.nol.nols, loadC, loadS, extK, extK.extL, notK, nilckK, callvK, ld1K, ldAK, stK, laid]
              simp only [decide_eq_true_eq] at g
              have g' : i < x.timers.length := by omega
              refine ixT hk.t rfl g' ?_
              simp -implicitDefEqProofs only [r48, Timer.c, ru, ruc, Nat.reduceLT, Nat.reduceEqDiff, reduceIte, Nat.reduceAdd, Nat.reduceLeDiff, Int.reduceEq, Int.reduceLT, Int.reduceLE, Int.reduceNeg, vK, putU, putK, arithK, intK, faK, hd1, ofV, lenSK, AV.nol, enumL, AV.nol.nols, loadC, loadS, extK, extK.extL, notK, nilckK, callvK, ld1K, ldAK, stK, laid]
              have U := un_nilp
              have i1 : i - 1 < x.timers.length := by omega
              cases c0 : (decide (0 ≤ x.timers[i].nd) && decide (x.timers[i].nd < x.nodes))
              case' false => have c1 := U; have c2 := U; have c3 := U; have c4 := U; have c5 := U; have c6 := U
              case' true =>
                cases c1 : decide (x.timers[i].tg < 0)
                case' true => have c2 := U; have c3 := U; have c4 := U; have c5 := U; have c6 := U
                case' false =>
                  cases c2 : decide (2147483647 < x.timers[i].tg)
                  case' true => have c3 := U; have c4 := U; have c5 := U; have c6 := U
                  case' false =>
                    cases c3 : decide (x.timers[i].tm ≤ x.now)
                    case' true => have c4 := U; have c5 := U; have c6 := U
                    case' false =>
                      cases c4 : (decide (0 ≤ x.timers[i].tm) && decide (x.timers[i].tm ≤ 1099511628776))
                      case' false => have c5 := U; have c6 := U
                      case' true =>
                        cases c5 : decide ((0 : Int) < (i : Int))
                        case' false => have c6 := U
                        case' true => cases c6 : lessT (x.timers[i - 1]'i1) x.timers[i]
              all_goals (
                apply rd48_1
                all_goals try (first | (intro l' e0 e1 e2; simp -implicitDefEqProofs only [e0, e1, e2, Timer.c, c0, c1, c2, c3, c4, c5, c6, ru, ruc, Nat.reduceLT, Nat.reduceEqDiff, reduceIte, Nat.reduceAdd, Nat.reduceLeDiff, Int.reduceEq, Int.reduceLT, Int.reduceLE, Int.reduceNeg, vK, putU, putK, arithK, intK, faK, hd1, ofV, lenSK, AV.nol, enumL, AV.nol.nols, loadC, loadS, extK, extK.extL, notK, nilckK, callvK, ld1K, ldAK, stK, laid]; (try (first | (refine isNode61 ?_ <;> try simp -implicitDefEqProofs only [e0, e1, e2, Timer.c, c0, c1, c2, c3, c4, c5, c6, ru, ruc, Nat.reduceLT, Nat.reduceEqDiff, reduceIte, Nat.reduceAdd, Nat.reduceLeDiff, Int.reduceEq, Int.reduceLT, Int.reduceLE, Int.reduceNeg, vK, putU, putK, arithK, intK, faK, hd1, ofV, lenSK, AV.nol, enumL, AV.nol.nols, loadC, loadS, extK, extK.extL, notK, nilckK, callvK, ld1K, ldAK, stK, laid]) | (refine isTime89 ?_ <;> try simp -implicitDefEqProofs only [e0, e1, e2, Timer.c, c0, c1, c2, c3, c4, c5, c6, ru, ruc, Nat.reduceLT, Nat.reduceEqDiff, reduceIte, Nat.reduceAdd, Nat.reduceLeDiff, Int.reduceEq, Int.reduceLT, Int.reduceLE, Int.reduceNeg, vK, putU, putK, arithK, intK, faK, hd1, ofV, lenSK, AV.nol, enumL, AV.nol.nols, loadC, loadS, extK, extK.extL, notK, nilckK, callvK, ld1K, ldAK, stK, laid]) | (refine ixT (i := i - 1) hk.t (by rw [wrap_id (by omega) (by omega)]; simp only [decide_eq_true_eq] at c5; omega) i1 ?_ <;> try simp -implicitDefEqProofs only [e0, e1, e2, Timer.c, c0, c1, c2, c3, c4, c5, c6, ru, ruc, Nat.reduceLT, Nat.reduceEqDiff, reduceIte, Nat.reduceAdd, Nat.reduceLeDiff, Int.reduceEq, Int.reduceLT, Int.reduceLE, Int.reduceNeg, vK, putU, putK, arithK, intK, faK, hd1, ofV, lenSK, AV.nol, enumL, AV.nol.nols, loadC, loadS, extK, extK.extL, notK, nilckK, callvK, ld1K, ldAK, stK, laid]) | (refine lesser69 (x := x.timers[i - 1]'i1) (y := x.timers[i]) ?_ <;> try simp -implicitDefEqProofs only [e0, e1, e2, Timer.c, c0, c1, c2, c3, c4, c5, c6, ru, ruc, Nat.reduceLT, Nat.reduceEqDiff, reduceIte, Nat.reduceAdd, Nat.reduceLeDiff, Int.reduceEq, Int.reduceLT, Int.reduceLE, Int.reduceNeg, vK, putU, putK, arithK, intK, faK, hd1, ofV, lenSK, AV.nol, enumL, AV.nol.nols, loadC, loadS, extK, extK.extL, notK, nilckK, callvK, ld1K, ldAK, stK, laid]) | (fail))); first | exact step_1 rfl | exact step_2 rfl (by assumption)) | (intro l' e0 e1; simp -implicitDefEqProofs only [e0, e1, Timer.c, c0, c1, c2, c3, c4, c5, c6, ru, ruc, Nat.reduceLT, Nat.reduceEqDiff, reduceIte, Nat.reduceAdd, Nat.reduceLeDiff, Int.reduceEq, Int.reduceLT, Int.reduceLE, Int.reduceNeg, vK, putU, putK, arithK, intK, faK, hd1, ofV, lenSK, AV.nol, enumL, AV.nol.nols, loadC, loadS, extK, extK.extL, notK, nilckK, callvK, ld1K, ldAK, stK, laid]; (try (first | (refine isNode61 ?_ <;> try simp -implicitDefEqProofs only [e0, e1, Timer.c, c0, c1, c2, c3, c4, c5, c6, ru, ruc, Nat.reduceLT, Nat.reduceEqDiff, reduceIte, Nat.reduceAdd, Nat.reduceLeDiff, Int.reduceEq, Int.reduceLT, Int.reduceLE, Int.reduceNeg, vK, putU, putK, arithK, intK, faK, hd1, ofV, lenSK, AV.nol, enumL, AV.nol.nols, loadC, loadS, extK, extK.extL, notK, nilckK, callvK, ld1K, ldAK, stK, laid]) | (refine isTime89 ?_ <;> try simp -implicitDefEqProofs only [e0, e1, Timer.c, c0, c1, c2, c3, c4, c5, c6, ru, ruc, Nat.reduceLT, Nat.reduceEqDiff, reduceIte, Nat.reduceAdd, Nat.reduceLeDiff, Int.reduceEq, Int.reduceLT, Int.reduceLE, Int.reduceNeg, vK, putU, putK, arithK, intK, faK, hd1, ofV, lenSK, AV.nol, enumL, AV.nol.nols, loadC, loadS, extK, extK.extL, notK, nilckK, callvK, ld1K, ldAK, stK, laid]) | (refine ixT (i := i - 1) hk.t (by rw [wrap_id (by omega) (by omega)]; simp only [decide_eq_true_eq] at c5; omega) i1 ?_ <;> try simp -implicitDefEqProofs only [e0, e1, Timer.c, c0, c1, c2, c3, c4, c5, c6, ru, ruc, Nat.reduceLT, Nat.reduceEqDiff, reduceIte, Nat.reduceAdd, Nat.reduceLeDiff, Int.reduceEq, Int.reduceLT, Int.reduceLE, Int.reduceNeg, vK, putU, putK, arithK, intK, faK, hd1, ofV, lenSK, AV.nol, enumL, AV.nol.nols, loadC, loadS, extK, extK.extL, notK, nilckK, callvK, ld1K, ldAK, stK, laid]) | (refine lesser69 (x := x.timers[i - 1]'i1) (y := x.timers[i]) ?_ <;> try simp -implicitDefEqProofs only [e0, e1, Timer.c, c0, c1, c2, c3, c4, c5, c6, ru, ruc, Nat.reduceLT, Nat.reduceEqDiff, reduceIte, Nat.reduceAdd, Nat.reduceLeDiff, Int.reduceEq, Int.reduceLT, Int.reduceLE, Int.reduceNeg, vK, putU, putK, arithK, intK, faK, hd1, ofV, lenSK, AV.nol, enumL, AV.nol.nols, loadC, loadS, extK, extK.extL, notK, nilckK, callvK, ld1K, ldAK, stK, laid]) | (fail))); first | exact step_1 rfl | exact step_2 rfl (by assumption)) | (intro l' e0; simp -implicitDefEqProofs only [e0, Timer.c, c0, c1, c2, c3, c4, c5, c6, ru, ruc, Nat.reduceLT, Nat.reduceEqDiff, reduceIte, Nat.reduceAdd, Nat.reduceLeDiff, Int.reduceEq, Int.reduceLT, Int.reduceLE, Int.reduceNeg, vK, putU, putK, arithK, intK, faK, hd1, ofV, lenSK, AV.nol, enumL, AV.nol.nols, loadC, loadS, extK, extK.extL, notK, nilckK, callvK, ld1K, ldAK, stK, laid]; (try (first | (refine isNode61 ?_ <;> try simp -implicitDefEqProofs only [e0, Timer.c, c0, c1, c2, c3, c4, c5, c6, ru, ruc, Nat.reduceLT, Nat.reduceEqDiff, reduceIte, Nat.reduceAdd, Nat.reduceLeDiff, Int.reduceEq, Int.reduceLT, Int.reduceLE, Int.reduceNeg, vK, putU, putK, arithK, intK, faK, hd1, ofV, lenSK, AV.nol, enumL, AV.nol.nols, loadC, loadS, extK, extK.extL, notK, nilckK, callvK, ld1K, ldAK, stK, laid]) | (refine isTime89 ?_ <;> try simp -implicitDefEqProofs only [e0, Timer.c, c0, c1, c2, c3, c4, c5, c6, ru, ruc, Nat.reduceLT, Nat.reduceEqDiff, reduceIte, Nat.reduceAdd, Nat.reduceLeDiff, Int.reduceEq, Int.reduceLT, Int.reduceLE, Int.reduceNeg, vK, putU, putK, arithK, intK, faK, hd1, ofV, lenSK, AV.nol, enumL, AV.nol.nols, loadC, loadS, extK, extK.extL, notK, nilckK, callvK, ld1K, ldAK, stK, laid]) | (refine ixT (i := i - 1) hk.t (by rw [wrap_id (by omega) (by omega)]; simp only [decide_eq_true_eq] at c5; omega) i1 ?_ <;> try simp -implicitDefEqProofs only [e0, Timer.c, c0, c1, c2, c3, c4, c5, c6, ru, ruc, Nat.reduceLT, Nat.reduceEqDiff, reduceIte, Nat.reduceAdd, Nat.reduceLeDiff, Int.reduceEq, Int.reduceLT, Int.reduceLE, Int.reduceNeg, vK, putU, putK, arithK, intK, faK, hd1, ofV, lenSK, AV.nol, enumL, AV.nol.nols, loadC, loadS, extK, extK.extL, notK, nilckK, callvK, ld1K, ldAK, stK, laid]) | (refine lesser69 (x := x.timers[i - 1]'i1) (y := x.timers[i]) ?_ <;> try simp -implicitDefEqProofs only [e0, Timer.c, c0, c1, c2, c3, c4, c5, c6, ru, ruc, Nat.reduceLT, Nat.reduceEqDiff, reduceIte, Nat.reduceAdd, Nat.reduceLeDiff, Int.reduceEq, Int.reduceLT, Int.reduceLE, Int.reduceNeg, vK, putU, putK, arithK, intK, faK, hd1, ofV, lenSK, AV.nol, enumL, AV.nol.nols, loadC, loadS, extK, extK.extL, notK, nilckK, callvK, ld1K, ldAK, stK, laid]) | (fail))); first | exact step_1 rfl | exact step_2 rfl (by assumption)) | (intro l' ; simp -implicitDefEqProofs only [Timer.c, c0, c1, c2, c3, c4, c5, c6, ru, ruc, Nat.reduceLT, Nat.reduceEqDiff, reduceIte, Nat.reduceAdd, Nat.reduceLeDiff, Int.reduceEq, Int.reduceLT, Int.reduceLE, Int.reduceNeg, vK, putU, putK, arithK, intK, faK, hd1, ofV, lenSK, AV.nol, enumL, AV.nol.nols, loadC, loadS, extK, extK.extL, notK, nilckK, callvK, ld1K, ldAK, stK, laid]; (try (first | (refine isNode61 ?_ <;> try simp -implicitDefEqProofs only [Timer.c, c0, c1, c2, c3, c4, c5, c6, ru, ruc, Nat.reduceLT, Nat.reduceEqDiff, reduceIte, Nat.reduceAdd, Nat.reduceLeDiff, Int.reduceEq, Int.reduceLT, Int.reduceLE, Int.reduceNeg, vK, putU, putK, arithK, intK, faK, hd1, ofV, lenSK, AV.nol, enumL, AV.nol.nols, loadC, loadS, extK, extK.extL, notK, nilckK, callvK, ld1K, ldAK, stK, laid]) | (refine isTime89 ?_ <;> try simp -implicitDefEqProofs only [Timer.c, c0, c1, c2, c3, c4, c5, c6, ru, ruc, Nat.reduceLT, Nat.reduceEqDiff, reduceIte, Nat.reduceAdd, Nat.reduceLeDiff, Int.reduceEq, Int.reduceLT, Int.reduceLE, Int.reduceNeg, vK, putU, putK, arithK, intK, faK, hd1, ofV, lenSK, AV.nol, enumL, AV.nol.nols, loadC, loadS, extK, extK.extL, notK, nilckK, callvK, ld1K, ldAK, stK, laid]) | (refine ixT (i := i - 1) hk.t (by rw [wrap_id (by omega) (by omega)]; simp only [decide_eq_true_eq] at c5; omega) i1 ?_ <;> try simp -implicitDefEqProofs only [Timer.c, c0, c1, c2, c3, c4, c5, c6, ru, ruc, Nat.reduceLT, Nat.reduceEqDiff, reduceIte, Nat.reduceAdd, Nat.reduceLeDiff, Int.reduceEq, Int.reduceLT, Int.reduceLE, Int.reduceNeg, vK, putU, putK, arithK, intK, faK, hd1, ofV, lenSK, AV.nol, enumL, AV.nol.nols, loadC, loadS, extK, extK.extL, notK, nilckK, callvK, ld1K, ldAK, stK, laid]) | (refine lesser69 (x := x.timers[i - 1]'i1) (y := x.timers[i]) ?_ <;> try simp -implicitDefEqProofs only [Timer.c, c0, c1, c2, c3, c4, c5, c6, ru, ruc, Nat.reduceLT, Nat.reduceEqDiff, reduceIte, Nat.reduceAdd, Nat.reduceLeDiff, Int.reduceEq, Int.reduceLT, Int.reduceLE, Int.reduceNeg, vK, putU, putK, arithK, intK, faK, hd1, ofV, lenSK, AV.nol, enumL, AV.nol.nols, loadC, loadS, extK, extK.extL, notK, nilckK, callvK, ld1K, ldAK, stK, laid]) | (fail))); first | exact step_1 rfl | exact step_2 rfl (by assumption)))
                case' hK => simp -implicitDefEqProofs only [r48, c0, c1, c2, c3, c4, c5, c6, ru, ruc, Nat.reduceLT, Nat.reduceEqDiff, reduceIte, Nat.reduceAdd, Nat.reduceLeDiff, Int.reduceEq, Int.reduceLT, Int.reduceLE, Int.reduceNeg, vK, putU, putK, arithK, intK, faK, hd1, ofV, lenSK, AV.nol, enumL, AV.nol.nols, loadC, loadS, extK, extK.extL, notK, nilckK, callvK, ld1K, ldAK, stK, laid])
              all_goals simp only [decide_eq_true_eq, decide_eq_false_iff_not, Bool.not_eq_true', Bool.not_eq_false', if_true, Bool.false_eq_true, if_false] at *
              all_goals try (
                refine hF fun w => ?_
                have w1 := w.to _ (List.getElem_mem g')
                have w2 : 0 < i → lessT (x.timers[i - 1]'i1) x.timers[i] = true := fun i0 => by
                  have w3 := w.tr (i - 1) (by omega)
                  simp only [show i - 1 + 1 = i by omega] at w3
                  exact lessT_iff.2 w3
                simp only [timerOk, nodeOk, Bool.and_eq_true, Bool.and_eq_false_iff, decide_eq_true_eq, decide_eq_false_iff_not] at *
                first
                  | omega
                  | (have w4 := w2 (by omega)
                     rw [c6] at w4
                     cases w4))
              all_goals (
                have hok : timerOk x x.timers[i] := by
                  simp only [timerOk, nodeOk, Bool.and_eq_true, Bool.and_eq_false_iff, decide_eq_true_eq, decide_eq_false_iff_not] at *
                  omega
                have hcmp : 0 < i → cmpT (x.timers[i - 1]'i1) x.timers[i] < 0 := fun i0 => by
                  first
                    | exact lessT_iff.1 c6
                    | (exfalso; omega)
                refine lp48_3 (α := Nat) 2 (fun k => [(1, .lptr 0 0), (7, .int .i64 i), (8, .lptr 1 0), (9, .int .i64 k)]) (fun _ => [[.int .i64 x.nodes, .int .i64 x.now, .int .i64 x.next, .sl z1 s1 (x.way.map Letter.c) .no, .sl z2 s2 (x.cuts.map Link.c) .no, .sl z3 s3 (x.timers.map Timer.c) .no], Timer.c x.timers[i]]) (fun _ => h)
                  (fun k => k ≤ i ∧ ∀ j (hj : j < x.timers.length), j < k → ¬ (x.timers[j].nd = x.timers[i].nd ∧ x.timers[j].tg = x.timers[i].tg)) (fun k => i - k) 0 ⟨Nat.zero_le _, fun j hj h => by omega⟩ (fun _ => rfl) ?_ rfl rfl rfl ?_
                · simp [allIn, lk, AV.lb, AV.lb.lbs]
                · rintro k ⟨hk1, hno⟩
                  simp -implicitDefEqProofs only [b48_3, r48, ru, ruc, Nat.reduceLT, Nat.reduceEqDiff, reduceIte, Nat.reduceAdd, Nat.reduceLeDiff, Int.reduceEq, Int.reduceLT, Int.reduceLE, Int.reduceNeg, vK, putU, putK, arithK, intK, faK, hd1, ofV, lenSK, AV.nol, enumL, AV.nol.nols, loadC, loadS, extK, extK.extL, notK, nilckK, callvK, ld1K, ldAK, stK, laid]
                  refine condV_split (fun g => ?_) (fun g => ?_)
                  · simp -implicitDefEqProofs only [r48, ru, ruc, Nat.reduceLT, Nat.reduceEqDiff, reduceIte, Nat.reduceAdd, Nat.reduceLeDiff, Int.reduceEq, Int.reduceLT, Int.reduceLE, Int.reduceNeg, vK, putU, putK, arithK, intK, faK, hd1, ofV, lenSK, AV.nol, enumL, AV.nol.nols, loadC, loadS, extK, extK.extL, notK, nilckK, callvK, ld1K, ldAK, stK, laid]
                    simp only [decide_eq_true_eq] at g
                    have gk : k < i := by omega
                    have gk2 : k < x.timers.length := by omega
                    cases d1 : decide (x.timers[k].nd = x.timers[i].nd)
                    case' false => have d2 := U
                    case' true => cases d2 : decide (x.timers[k].tg = x.timers[i].tg)
                    all_goals (
                      apply rd48_2
                      all_goals try (first | (intro l' e0 e1 e2; simp -implicitDefEqProofs only [e0, e1, e2, Timer.c, d1, d2, ru, ruc, Nat.reduceLT, Nat.reduceEqDiff, reduceIte, Nat.reduceAdd, Nat.reduceLeDiff, Int.reduceEq, Int.reduceLT, Int.reduceLE, Int.reduceNeg, vK, putU, putK, arithK, intK, faK, hd1, ofV, lenSK, AV.nol, enumL, AV.nol.nols, loadC, loadS, extK, extK.extL, notK, nilckK, callvK, ld1K, ldAK, stK, laid]; (try (first | (refine ixT hk.t rfl gk2 ?_ <;> try simp -implicitDefEqProofs only [e0, e1, e2, Timer.c, d1, d2, ru, ruc, Nat.reduceLT, Nat.reduceEqDiff, reduceIte, Nat.reduceAdd, Nat.reduceLeDiff, Int.reduceEq, Int.reduceLT, Int.reduceLE, Int.reduceNeg, vK, putU, putK, arithK, intK, faK, hd1, ofV, lenSK, AV.nol, enumL, AV.nol.nols, loadC, loadS, extK, extK.extL, notK, nilckK, callvK, ld1K, ldAK, stK, laid]) | (fail))); first | exact step_1 rfl | exact step_2 rfl (by assumption)) | (intro l' e0 e1; simp -implicitDefEqProofs only [e0, e1, Timer.c, d1, d2, ru, ruc, Nat.reduceLT, Nat.reduceEqDiff, reduceIte, Nat.reduceAdd, Nat.reduceLeDiff, Int.reduceEq, Int.reduceLT, Int.reduceLE, Int.reduceNeg, vK, putU, putK, arithK, intK, faK, hd1, ofV, lenSK, AV.nol, enumL, AV.nol.nols, loadC, loadS, extK, extK.extL, notK, nilckK, callvK, ld1K, ldAK, stK, laid]; (try (first | (refine ixT hk.t rfl gk2 ?_ <;> try simp -implicitDefEqProofs only [e0, e1, Timer.c, d1, d2, ru, ruc, Nat.reduceLT, Nat.reduceEqDiff, reduceIte, Nat.reduceAdd, Nat.reduceLeDiff, Int.reduceEq, Int.reduceLT, Int.reduceLE, Int.reduceNeg, vK, putU, putK, arithK, intK, faK, hd1, ofV, lenSK, AV.nol, enumL, AV.nol.nols, loadC, loadS, extK, extK.extL, notK, nilckK, callvK, ld1K, ldAK, stK, laid]) | (fail))); first | exact step_1 rfl | exact step_2 rfl (by assumption)) | (intro l' e0; simp -implicitDefEqProofs only [e0, Timer.c, d1, d2, ru, ruc, Nat.reduceLT, Nat.reduceEqDiff, reduceIte, Nat.reduceAdd, Nat.reduceLeDiff, Int.reduceEq, Int.reduceLT, Int.reduceLE, Int.reduceNeg, vK, putU, putK, arithK, intK, faK, hd1, ofV, lenSK, AV.nol, enumL, AV.nol.nols, loadC, loadS, extK, extK.extL, notK, nilckK, callvK, ld1K, ldAK, stK, laid]; (try (first | (refine ixT hk.t rfl gk2 ?_ <;> try simp -implicitDefEqProofs only [e0, Timer.c, d1, d2, ru, ruc, Nat.reduceLT, Nat.reduceEqDiff, reduceIte, Nat.reduceAdd, Nat.reduceLeDiff, Int.reduceEq, Int.reduceLT, Int.reduceLE, Int.reduceNeg, vK, putU, putK, arithK, intK, faK, hd1, ofV, lenSK, AV.nol, enumL, AV.nol.nols, loadC, loadS, extK, extK.extL, notK, nilckK, callvK, ld1K, ldAK, stK, laid]) | (fail))); first | exact step_1 rfl | exact step_2 rfl (by assumption)) | (intro l' ; simp -implicitDefEqProofs only [Timer.c, d1, d2, ru, ruc, Nat.reduceLT, Nat.reduceEqDiff, reduceIte, Nat.reduceAdd, Nat.reduceLeDiff, Int.reduceEq, Int.reduceLT, Int.reduceLE, Int.reduceNeg, vK, putU, putK, arithK, intK, faK, hd1, ofV, lenSK, AV.nol, enumL, AV.nol.nols, loadC, loadS, extK, extK.extL, notK, nilckK, callvK, ld1K, ldAK, stK, laid]; (try (first | (refine ixT hk.t rfl gk2 ?_ <;> try simp -implicitDefEqProofs only [Timer.c, d1, d2, ru, ruc, Nat.reduceLT, Nat.reduceEqDiff, reduceIte, Nat.reduceAdd, Nat.reduceLeDiff, Int.reduceEq, Int.reduceLT, Int.reduceLE, Int.reduceNeg, vK, putU, putK, arithK, intK, faK, hd1, ofV, lenSK, AV.nol, enumL, AV.nol.nols, loadC, loadS, extK, extK.extL, notK, nilckK, callvK, ld1K, ldAK, stK, laid]) | (fail))); first | exact step_1 rfl | exact step_2 rfl (by assumption)))
                      case' hK => simp -implicitDefEqProofs only [r48, d1, d2, ru, ruc, Nat.reduceLT, Nat.reduceEqDiff, reduceIte, Nat.reduceAdd, Nat.reduceLeDiff, Int.reduceEq, Int.reduceLT, Int.reduceLE, Int.reduceNeg, vK, putU, putK, arithK, intK, faK, hd1, ofV, lenSK, AV.nol, enumL, AV.nol.nols, loadC, loadS, extK, extK.extL, notK, nilckK, callvK, ld1K, ldAK, stK, laid])
                    all_goals simp only [decide_eq_true_eq, decide_eq_false_iff_not, Bool.not_eq_true', Bool.not_eq_false', if_true, Bool.false_eq_true, if_false] at *
                    all_goals first
                      | (refine next_normal (k + 1) ⟨by omega, fun j hj hlt => ?_⟩ (by omega) rfl ?_ rfl rfl
                         · by_cases e : j = k
                           · subst e
                             omega
                           · exact hno j hj (by omega)
                         · simp [allIn, lk, AV.lb, AV.lb.lbs, wrap_i (show k < 9223372036854775807 by omega)])
                      | (refine hF fun w => ?_
                         exact w.ow i k g' gk ⟨d1, d2⟩)
                  · simp -implicitDefEqProofs only [r48, ru, ruc, Nat.reduceLT, Nat.reduceEqDiff, reduceIte, Nat.reduceAdd, Nat.reduceLeDiff, Int.reduceEq, Int.reduceLT, Int.reduceLE, Int.reduceNeg, vK, putU, putK, arithK, intK, faK, hd1, ofV, lenSK, AV.nol, enumL, AV.nol.nols, loadC, loadS, extK, extK.extL, notK, nilckK, callvK, ld1K, ldAK, stK, laid]
                    simp only [decide_eq_false_iff_not] at g
                    refine next_normal (i + 1) ⟨by omega, hall.succ g' hok, fun j hj hlt => ?_, fun i' j h1 h2 h3 => ?_⟩ (by omega) rfl ?_ rfl rfl
                    · by_cases e : j + 1 = i
                      · subst e
                        exact hcmp (by omega)
                      · exact hri j hj (by omega)
                    · by_cases e : i' = i
                      · subst e
                        exact hno j (by omega) (by omega)
                      · exact hown i' j h1 h2 (by omega)
                    · simp [allIn, lk, AV.lb, AV.lb.lbs, wrap_i (show i < 9223372036854775807 by omega)])
            · simp -implicitDefEqProofs only [r48, List.length_map, ru, ruc, Nat.reduceLT, Nat.reduceEqDiff, reduceIte, Nat.reduceAdd, Nat.reduceLeDiff, Int.reduceEq, Int.reduceLT, Int.reduceLE, Int.reduceNeg, vK, putU, putK, arithK, intK, faK, hd1, ofV, lenSK, AV.nol, enumL, AV.nol.nols, loadC, loadS, extK, extK.extL, notK, nilckK, callvK, ld1K, ldAK, stK, laid]
              simp only [decide_eq_false_iff_not] at g
              refine hK true (by
                simp only [true_iff]
                exact { n1 := by omega, n2 := by omega, w1 := by omega, w2 := by omega, x1 := by omega, x2 := by omega, fl := by omega, tl := by omega, cr := hcr, tr := fun j hj => hri j hj (by omega), lo := hw, co := hcu, to := hall.all (by omega), ow := fun i' j h1 h2 => hown i' j h1 h2 (by omega) })
end
end Go.Ab
end
section
/- The specification's Check and Ready; networks compared; small networks. -/
set_option linter.unusedSimpArgs false
set_option linter.unusedVariables false
set_option maxRecDepth 100000
set_option maxHeartbeats 4000000
namespace Go.Ab

section
variable {C : CX} {h : List AObj} {K : AV → List AObj → Prop} {a b c d e n : Int} {z1 z2 z3 z1' z2' z3' : Bool} {s1 s2 s3 s1' s2' s3' : Nat} {x y : Net}

theorem check20 (hk : Nk z1 s1 z2 s2 z3 s3 x) (hc : x.cuts.length < 1000000) (hK : ∀ r, (r = true ↔ WF x) → K (.int .i64 (if r = true then 0 else 2)) h) : ACall C Pg 20 [.agg [.int .i64 x.nodes, .int .i64 x.now, .int .i64 x.next, .sl z1 s1 (x.way.map Letter.c) .no, .sl z2 s2 (x.cuts.map Link.c) .no, .sl z3 s3 (x.timers.map Timer.c) .no]] h K := by
  refine run20 ?_; simp -implicitDefEqProofs only [b20, r20, ru, ruc, Nat.reduceLT, Nat.reduceEqDiff, reduceIte, Nat.reduceAdd, Nat.reduceLeDiff, Int.reduceEq, Int.reduceLT, Int.reduceLE, Int.reduceNeg, vK, putU, putK, arithK, intK, faK, hd1, ofV, lenSK, AV.nol, enumL, AV.nol.nols, loadC, loadS, extK, extK.extL, notK, nilckK, callvK, ld1K, ldAK, stK, laid]
  refine is48 hk hc fun r hr => ?_
  have := hK r hr
  cases r <;> simp -implicitDefEqProofs only [r20, ru, ruc, Nat.reduceLT, Nat.reduceEqDiff, reduceIte, Nat.reduceAdd, Nat.reduceLeDiff, Int.reduceEq, Int.reduceLT, Int.reduceLE, Int.reduceNeg, vK, putU, putK, arithK, intK, faK, hd1, ofV, lenSK, AV.nol, enumL, AV.nol.nols, loadC, loadS, extK, extK.extL, notK, nilckK, callvK, ld1K, ldAK, stK, laid] <;> exact this

theorem bld41a {A : AV} {K : AV → Prop} (h1 : A.one = true) (h2 : A.cells = [A]) : agK (abuild T 41 [(0, A)]) K = K (.agg [A, .int .i64 0]) := by
  have e : T.get 41 = some (TI.mk (.struct [(0, 37), (1, 29)]) 2 32 [.sl true 0 [] .own, .int .i64 0] []) := rfl
  have e2 : T.get 37 = some (TI.mk (.slice 3) 1 24 [.sl true 0 [] .own] []) := rfl
  have e3 : T.get 29 = some (TI.mk (.int .i64) 1 8 [.int .i64 0] []) := rfl
  simp [abuild, e, e2, e3, places, fillA, jo, h2, h1, agK]
theorem ready17 (hk : Nk z1 s1 z2 s2 z3 s3 x) (hc : x.cuts.length < 1000000)
    (h1 : ¬ WF x → K (.agg [.sl true 0 [] .no, .int .i64 2]) h)
    (h2 : WF x → K (.agg [accU 1 intc (readyTo x x.way.length), .int .i64 0]) h) : ACall C Pg 17 [.agg [.int .i64 x.nodes, .int .i64 x.now, .int .i64 x.next, .sl z1 s1 (x.way.map Letter.c) .no, .sl z2 s2 (x.cuts.map Link.c) .no, .sl z3 s3 (x.timers.map Timer.c) .no]] h K := by
  refine run17 ?_; simp -implicitDefEqProofs only [b17, r17, ru, ruc, Nat.reduceLT, Nat.reduceEqDiff, reduceIte, Nat.reduceAdd, Nat.reduceLeDiff, Int.reduceEq, Int.reduceLT, Int.reduceLE, Int.reduceNeg, vK, putU, putK, arithK, intK, faK, hd1, ofV, lenSK, AV.nol, enumL, AV.nol.nols, loadC, loadS, extK, extK.extL, notK, nilckK, callvK, ld1K, ldAK, stK, laid]
  refine is48 hk hc fun r hr => ?_
  cases r with
  | false =>
    simp -implicitDefEqProofs only [r17, ru, ruc, Nat.reduceLT, Nat.reduceEqDiff, reduceIte, Nat.reduceAdd, Nat.reduceLeDiff, Int.reduceEq, Int.reduceLT, Int.reduceLE, Int.reduceNeg, vK, putU, putK, arithK, intK, faK, hd1, ofV, lenSK, AV.nol, enumL, AV.nol.nols, loadC, loadS, extK, extK.extL, notK, nilckK, callvK, ld1K, ldAK, stK, laid]
    exact h1 (fun w => by have := hr.2 w; cases this)
  | true =>
    have w := hr.1 rfl
    have ht := accU_all (sz := 1) (c := intc) (l := readyTo x x.way.length)
    simp -implicitDefEqProofs only [r17, ru, ruc, Nat.reduceLT, Nat.reduceEqDiff, reduceIte, Nat.reduceAdd, Nat.reduceLeDiff, Int.reduceEq, Int.reduceLT, Int.reduceLE, Int.reduceNeg, vK, putU, putK, arithK, intK, faK, hd1, ofV, lenSK, AV.nol, enumL, AV.nol.nols, loadC, loadS, extK, extK.extL, notK, nilckK, callvK, ld1K, ldAK, stK, laid]
    refine ready49 hk hc (by have := w.fl; omega) ?_
    simp -implicitDefEqProofs only [r17, ht, ru, ruc, Nat.reduceLT, Nat.reduceEqDiff, reduceIte, Nat.reduceAdd, Nat.reduceLeDiff, Int.reduceEq, Int.reduceLT, Int.reduceLE, Int.reduceNeg, vK, putU, putK, arithK, intK, faK, hd1, ofV, lenSK, AV.nol, enumL, AV.nol.nols, loadC, loadS, extK, extK.extL, notK, nilckK, callvK, ld1K, ldAK, stK, laid]
    rw [bld41a ht.2.2.1 ht.2.2.2.2.1]
    simp -implicitDefEqProofs only [r17, ht, ru, ruc, Nat.reduceLT, Nat.reduceEqDiff, reduceIte, Nat.reduceAdd, Nat.reduceLeDiff, Int.reduceEq, Int.reduceLT, Int.reduceLE, Int.reduceNeg, vK, putU, putK, arithK, intK, faK, hd1, ofV, lenSK, AV.nol, enumL, AV.nol.nols, loadC, loadS, extK, extK.extL, notK, nilckK, callvK, ld1K, ldAK, stK, laid]
    exact h2 w

theorem same18 (hk : Nk z1 s1 z2 s2 z3 s3 x) (hk' : Nk z1' s1' z2' s2' z3' s3' y) (hw : x.way.length < 1000000) (hc : x.cuts.length < 1000000) (ht : x.timers.length < 1000000) (hK : K (.bool (decide (x = y))) h) : ACall C Pg 18 [.agg [.int .i64 x.nodes, .int .i64 x.now, .int .i64 x.next, .sl z1 s1 (x.way.map Letter.c) .no, .sl z2 s2 (x.cuts.map Link.c) .no, .sl z3 s3 (x.timers.map Timer.c) .no], .agg [.int .i64 y.nodes, .int .i64 y.now, .int .i64 y.next, .sl z1' s1' (y.way.map Letter.c) .no, .sl z2' s2' (y.cuts.map Link.c) .no, .sl z3' s3' (y.timers.map Timer.c) .no]] h K := by
  have hF : x ≠ y → K (.bool false) h := fun hn => by rwa [decide_eq_false hn] at hK
  have hT : x = y → K (.bool true) h := fun hn => by rwa [decide_eq_true hn] at hK
  clear hK
  refine run18 ?_; simp -implicitDefEqProofs only [b18, r18, List.length_map, ru, ruc, Nat.reduceLT, Nat.reduceEqDiff, reduceIte, Nat.reduceAdd, Nat.reduceLeDiff, Int.reduceEq, Int.reduceLT, Int.reduceLE, Int.reduceNeg, vK, putU, putK, arithK, intK, faK, hd1, ofV, lenSK, AV.nol, enumL, AV.nol.nols, loadC, loadS, extK, extK.extL, notK, nilckK, callvK, ld1K, ldAK, stK, laid]
  repeat' (first | (refine guardV_split (fun g => ?_) (fun g => ?_) <;> simp -implicitDefEqProofs only [List.length_map, r18, ru, ruc, Nat.reduceLT, Nat.reduceEqDiff, reduceIte, Nat.reduceAdd, Nat.reduceLeDiff, Int.reduceEq, Int.reduceLT, Int.reduceLE, Int.reduceNeg, vK, putU, putK, arithK, intK, faK, hd1, ofV, lenSK, AV.nol, enumL, AV.nol.nols, loadC, loadS, extK, extK.extL, notK, nilckK, callvK, ld1K, ldAK, stK, laid]) | (refine condV_split (fun g => ?_) (fun g => ?_) <;> simp -implicitDefEqProofs only [List.length_map, r18, ru, ruc, Nat.reduceLT, Nat.reduceEqDiff, reduceIte, Nat.reduceAdd, Nat.reduceLeDiff, Int.reduceEq, Int.reduceLT, Int.reduceLE, Int.reduceNeg, vK, putU, putK, arithK, intK, faK, hd1, ofV, lenSK, AV.nol, enumL, AV.nol.nols, loadC, loadS, extK, extK.extL, notK, nilckK, callvK, ld1K, ldAK, stK, laid]) | (refine same50 hk.w hk'.w hw ?_ <;> try simp -implicitDefEqProofs only [List.length_map, r18, ru, ruc, Nat.reduceLT, Nat.reduceEqDiff, reduceIte, Nat.reduceAdd, Nat.reduceLeDiff, Int.reduceEq, Int.reduceLT, Int.reduceLE, Int.reduceNeg, vK, putU, putK, arithK, intK, faK, hd1, ofV, lenSK, AV.nol, enumL, AV.nol.nols, loadC, loadS, extK, extK.extL, notK, nilckK, callvK, ld1K, ldAK, stK, laid]) | (refine same33 hk.t hk'.t ht ?_ <;> try simp -implicitDefEqProofs only [List.length_map, r18, ru, ruc, Nat.reduceLT, Nat.reduceEqDiff, reduceIte, Nat.reduceAdd, Nat.reduceLeDiff, Int.reduceEq, Int.reduceLT, Int.reduceLE, Int.reduceNeg, vK, putU, putK, arithK, intK, faK, hd1, ofV, lenSK, AV.nol, enumL, AV.nol.nols, loadC, loadS, extK, extK.extL, notK, nilckK, callvK, ld1K, ldAK, stK, laid]))
  all_goals simp only [decide_eq_true_eq, decide_eq_false_iff_not, Bool.not_eq_true', Bool.not_eq_false', if_true, Bool.false_eq_true, if_false] at *
  all_goals try (
    refine hF fun e => ?_
    subst e
    omega)
  all_goals try (
    refine hF fun e => ?_
    subst e
    simp_all
    done)
  refine lp18_0 (α := Nat) 2 (fun i => [(2, .lptr 0 0), (3, .lptr 1 0), (5, .int .i64 i)]) (fun _ => [[.int .i64 x.nodes, .int .i64 x.now, .int .i64 x.next, .sl z1 s1 (x.way.map Letter.c) .no, .sl z2 s2 (x.cuts.map Link.c) .no, .sl z3 s3 (x.timers.map Timer.c) .no], [.int .i64 y.nodes, .int .i64 y.now, .int .i64 y.next, .sl z1' s1' (y.way.map Letter.c) .no, .sl z2' s2' (y.cuts.map Link.c) .no, .sl z3' s3' (y.timers.map Timer.c) .no]]) (fun _ => h)
    (fun i => i ≤ x.cuts.length ∧ ∀ j (h1 : j < x.cuts.length) (h2 : j < y.cuts.length), j < i → x.cuts[j] = y.cuts[j]) (fun i => x.cuts.length - i) 0 ⟨Nat.zero_le _, fun j h1 h2 h3 => by omega⟩ (fun _ => rfl) ?_ rfl rfl rfl ?_
  · simp [allIn, lk, AV.lb, AV.lb.lbs]
  · rintro i ⟨hi, hall⟩
    simp -implicitDefEqProofs only [b18_0, r18, List.length_map, ru, ruc, Nat.reduceLT, Nat.reduceEqDiff, reduceIte, Nat.reduceAdd, Nat.reduceLeDiff, Int.reduceEq, Int.reduceLT, Int.reduceLE, Int.reduceNeg, vK, putU, putK, arithK, intK, faK, hd1, ofV, lenSK, AV.nol, enumL, AV.nol.nols, loadC, loadS, extK, extK.extL, notK, nilckK, callvK, ld1K, ldAK, stK, laid]
    refine condV_split (fun g => ?_) (fun g => ?_)
    · simp -implicitDefEqProofs only [r18, ru, ruc, Nat.reduceLT, Nat.reduceEqDiff, reduceIte, Nat.reduceAdd, Nat.reduceLeDiff, Int.reduceEq, Int.reduceLT, Int.reduceLE, Int.reduceNeg, vK, putU, putK, arithK, intK, faK, hd1, ofV, lenSK, AV.nol, enumL, AV.nol.nols, loadC, loadS, extK, extK.extL, notK, nilckK, callvK, ld1K, ldAK, stK, laid]
      simp only [decide_eq_true_eq] at g
      have g' : i < x.cuts.length := by omega
      have g2 : i < y.cuts.length := by omega
      refine re18_0 ?_
      simp -implicitDefEqProofs only [g18_0, r18, ru, ruc, Nat.reduceLT, Nat.reduceEqDiff, reduceIte, Nat.reduceAdd, Nat.reduceLeDiff, Int.reduceEq, Int.reduceLT, Int.reduceLE, Int.reduceNeg, vK, putU, putK, arithK, intK, faK, hd1, ofV, lenSK, AV.nol, enumL, AV.nol.nols, loadC, loadS, extK, extK.extL, notK, nilckK, callvK, ld1K, ldAK, stK, laid]
      repeat' (first | (refine guardV_split (fun g => ?_) (fun g => ?_) <;> simp -implicitDefEqProofs only [Link.c, r18, ru, ruc, Nat.reduceLT, Nat.reduceEqDiff, reduceIte, Nat.reduceAdd, Nat.reduceLeDiff, Int.reduceEq, Int.reduceLT, Int.reduceLE, Int.reduceNeg, vK, putU, putK, arithK, intK, faK, hd1, ofV, lenSK, AV.nol, enumL, AV.nol.nols, loadC, loadS, extK, extK.extL, notK, nilckK, callvK, ld1K, ldAK, stK, laid]) | (refine condV_split (fun g => ?_) (fun g => ?_) <;> simp -implicitDefEqProofs only [Link.c, r18, ru, ruc, Nat.reduceLT, Nat.reduceEqDiff, reduceIte, Nat.reduceAdd, Nat.reduceLeDiff, Int.reduceEq, Int.reduceLT, Int.reduceLE, Int.reduceNeg, vK, putU, putK, arithK, intK, faK, hd1, ofV, lenSK, AV.nol, enumL, AV.nol.nols, loadC, loadS, extK, extK.extL, notK, nilckK, callvK, ld1K, ldAK, stK, laid]) | (refine ixC hk.c rfl g' ?_ <;> try simp -implicitDefEqProofs only [Link.c, r18, ru, ruc, Nat.reduceLT, Nat.reduceEqDiff, reduceIte, Nat.reduceAdd, Nat.reduceLeDiff, Int.reduceEq, Int.reduceLT, Int.reduceLE, Int.reduceNeg, vK, putU, putK, arithK, intK, faK, hd1, ofV, lenSK, AV.nol, enumL, AV.nol.nols, loadC, loadS, extK, extK.extL, notK, nilckK, callvK, ld1K, ldAK, stK, laid]) | (refine ixC hk'.c rfl g2 ?_ <;> try simp -implicitDefEqProofs only [Link.c, r18, ru, ruc, Nat.reduceLT, Nat.reduceEqDiff, reduceIte, Nat.reduceAdd, Nat.reduceLeDiff, Int.reduceEq, Int.reduceLT, Int.reduceLE, Int.reduceNeg, vK, putU, putK, arithK, intK, faK, hd1, ofV, lenSK, AV.nol, enumL, AV.nol.nols, loadC, loadS, extK, extK.extL, notK, nilckK, callvK, ld1K, ldAK, stK, laid]) | (refine And.intro ?_ ?_ <;> try simp -implicitDefEqProofs only [Link.c, r18, ru, ruc, Nat.reduceLT, Nat.reduceEqDiff, reduceIte, Nat.reduceAdd, Nat.reduceLeDiff, Int.reduceEq, Int.reduceLT, Int.reduceLE, Int.reduceNeg, vK, putU, putK, arithK, intK, faK, hd1, ofV, lenSK, AV.nol, enumL, AV.nol.nols, loadC, loadS, extK, extK.extL, notK, nilckK, callvK, ld1K, ldAK, stK, laid]))
      all_goals (try simp only [decide_eq_true_eq, decide_eq_false_iff_not, Bool.not_eq_true', Bool.not_eq_false', if_true, Bool.false_eq_true, if_false] at *)
      all_goals first
        | (refine next_normal (i + 1) ⟨by omega, fun j h1 h2 h3 => ?_⟩ (by omega) rfl ?_ rfl rfl
           · by_cases e : j = i
             · subst e
               simp_all
             · exact hall j h1 h2 (by omega)
           · simp [allIn, lk, AV.lb, AV.lb.lbs, wrap_i (show i < 9223372036854775807 by omega)])
        | (refine hF fun e => ?_
           subst e
           simp_all
           done)
    · simp -implicitDefEqProofs only [r18, ru, ruc, Nat.reduceLT, Nat.reduceEqDiff, reduceIte, Nat.reduceAdd, Nat.reduceLeDiff, Int.reduceEq, Int.reduceLT, Int.reduceLE, Int.reduceNeg, vK, putU, putK, arithK, intK, faK, hd1, ofV, lenSK, AV.nol, enumL, AV.nol.nols, loadC, loadS, extK, extK.extL, notK, nilckK, callvK, ld1K, ldAK, stK, laid]
      simp only [decide_eq_false_iff_not] at g
      refine hT ?_
      have hcu : x.cuts = y.cuts := List.ext_getElem (by omega) fun j h1 h2 => hall j h1 h2 (by omega)
      cases x
      cases y
      simp_all

def smallP (x : Net) : Prop := x.way.length ≤ 250 ∧ x.cuts.length ≤ 200 ∧ x.timers.length ≤ 100 ∧ ∀ l ∈ x.way, l.data.length ≤ 300
theorem small12 (hk : Nk z1 s1 z2 s2 z3 s3 x) (h1 : smallP x → K (.bool true) h) (h2 : ¬ smallP x → K (.bool false) h) : ACall C Pg 12 [.agg [.int .i64 x.nodes, .int .i64 x.now, .int .i64 x.next, .sl z1 s1 (x.way.map Letter.c) .no, .sl z2 s2 (x.cuts.map Link.c) .no, .sl z3 s3 (x.timers.map Timer.c) .no]] h K := by
  refine run12 ?_; simp -implicitDefEqProofs only [b12, r12, List.length_map, ru, ruc, Nat.reduceLT, Nat.reduceEqDiff, reduceIte, Nat.reduceAdd, Nat.reduceLeDiff, Int.reduceEq, Int.reduceLT, Int.reduceLE, Int.reduceNeg, vK, putU, putK, arithK, intK, faK, hd1, ofV, lenSK, AV.nol, enumL, AV.nol.nols, loadC, loadS, extK, extK.extL, notK, nilckK, callvK, ld1K, ldAK, stK, laid]
  repeat' (first | (refine guardV_split (fun g => ?_) (fun g => ?_) <;> simp -implicitDefEqProofs only [List.length_map, r12, ru, ruc, Nat.reduceLT, Nat.reduceEqDiff, reduceIte, Nat.reduceAdd, Nat.reduceLeDiff, Int.reduceEq, Int.reduceLT, Int.reduceLE, Int.reduceNeg, vK, putU, putK, arithK, intK, faK, hd1, ofV, lenSK, AV.nol, enumL, AV.nol.nols, loadC, loadS, extK, extK.extL, notK, nilckK, callvK, ld1K, ldAK, stK, laid]) | (refine condV_split (fun g => ?_) (fun g => ?_) <;> simp -implicitDefEqProofs only [List.length_map, r12, ru, ruc, Nat.reduceLT, Nat.reduceEqDiff, reduceIte, Nat.reduceAdd, Nat.reduceLeDiff, Int.reduceEq, Int.reduceLT, Int.reduceLE, Int.reduceNeg, vK, putU, putK, arithK, intK, faK, hd1, ofV, lenSK, AV.nol, enumL, AV.nol.nols, loadC, loadS, extK, extK.extL, notK, nilckK, callvK, ld1K, ldAK, stK, laid]))
  all_goals simp only [decide_eq_true_eq, decide_eq_false_iff_not, Bool.not_eq_true', Bool.not_eq_false', if_true, Bool.false_eq_true, if_false] at *
  all_goals try (
    refine h2 fun w => ?_
    have a1 := w.1; have a2 := w.2.1; have a3 := w.2.2.1
    omega)
  refine lp12_0 (α := Nat) 1 (fun i => [(1, .lptr 0 0), (3, .int .i64 i)]) (fun _ => [[.int .i64 x.nodes, .int .i64 x.now, .int .i64 x.next, .sl z1 s1 (x.way.map Letter.c) .no, .sl z2 s2 (x.cuts.map Link.c) .no, .sl z3 s3 (x.timers.map Timer.c) .no]]) (fun _ => h)
    (fun i => i ≤ x.way.length ∧ upTo (fun l => l.data.length ≤ 300) x.way i) (fun i => x.way.length - i) 0 ⟨Nat.zero_le _, upTo.zero⟩ (fun _ => rfl) ?_ rfl rfl rfl ?_
  · simp [allIn, lk, AV.lb, AV.lb.lbs]
  · rintro i ⟨hi, hall⟩
    simp -implicitDefEqProofs only [b12_0, r12, List.length_map, ru, ruc, Nat.reduceLT, Nat.reduceEqDiff, reduceIte, Nat.reduceAdd, Nat.reduceLeDiff, Int.reduceEq, Int.reduceLT, Int.reduceLE, Int.reduceNeg, vK, putU, putK, arithK, intK, faK, hd1, ofV, lenSK, AV.nol, enumL, AV.nol.nols, loadC, loadS, extK, extK.extL, notK, nilckK, callvK, ld1K, ldAK, stK, laid]
    refine condV_split (fun g => ?_) (fun g => ?_)
    · simp -implicitDefEqProofs only [r12, ru, ruc, Nat.reduceLT, Nat.reduceEqDiff, reduceIte, Nat.reduceAdd, Nat.reduceLeDiff, Int.reduceEq, Int.reduceLT, Int.reduceLE, Int.reduceNeg, vK, putU, putK, arithK, intK, faK, hd1, ofV, lenSK, AV.nol, enumL, AV.nol.nols, loadC, loadS, extK, extK.extL, notK, nilckK, callvK, ld1K, ldAK, stK, laid]
      simp only [decide_eq_true_eq] at g
      have g' : i < x.way.length := by omega
      refine ixL hk.w rfl g' ?_
      simp -implicitDefEqProofs only [r12, Letter.c, ru, ruc, Nat.reduceLT, Nat.reduceEqDiff, reduceIte, Nat.reduceAdd, Nat.reduceLeDiff, Int.reduceEq, Int.reduceLT, Int.reduceLE, Int.reduceNeg, vK, putU, putK, arithK, intK, faK, hd1, ofV, lenSK, AV.nol, enumL, AV.nol.nols, loadC, loadS, extK, extK.extL, notK, nilckK, callvK, ld1K, ldAK, stK, laid]
      repeat' (first | (refine guardV_split (fun g => ?_) (fun g => ?_) <;> simp -implicitDefEqProofs only [r12, ru, ruc, Nat.reduceLT, Nat.reduceEqDiff, reduceIte, Nat.reduceAdd, Nat.reduceLeDiff, Int.reduceEq, Int.reduceLT, Int.reduceLE, Int.reduceNeg, vK, putU, putK, arithK, intK, faK, hd1, ofV, lenSK, AV.nol, enumL, AV.nol.nols, loadC, loadS, extK, extK.extL, notK, nilckK, callvK, ld1K, ldAK, stK, laid]) | (refine condV_split (fun g => ?_) (fun g => ?_) <;> simp -implicitDefEqProofs only [r12, ru, ruc, Nat.reduceLT, Nat.reduceEqDiff, reduceIte, Nat.reduceAdd, Nat.reduceLeDiff, Int.reduceEq, Int.reduceLT, Int.reduceLE, Int.reduceNeg, vK, putU, putK, arithK, intK, faK, hd1, ofV, lenSK, AV.nol, enumL, AV.nol.nols, loadC, loadS, extK, extK.extL, notK, nilckK, callvK, ld1K, ldAK, stK, laid]))
      all_goals simp only [decide_eq_true_eq, decide_eq_false_iff_not, Bool.not_eq_true', Bool.not_eq_false', if_true, Bool.false_eq_true, if_false] at *
      all_goals first
        | (refine next_normal (i + 1) ⟨by omega, hall.succ g' (by show x.way[i].data.length ≤ 300; omega)⟩ (by omega) rfl ?_ rfl rfl
           · simp [allIn, lk, AV.lb, AV.lb.lbs, wrap_i (show i < 9223372036854775807 by omega)])
        | (refine h2 fun w => ?_
           have := w.2.2.2 _ (List.getElem_mem g')
           omega)
    · simp -implicitDefEqProofs only [r12, ru, ruc, Nat.reduceLT, Nat.reduceEqDiff, reduceIte, Nat.reduceAdd, Nat.reduceLeDiff, Int.reduceEq, Int.reduceLT, Int.reduceLE, Int.reduceNeg, vK, putU, putK, arithK, intK, faK, hd1, ofV, lenSK, AV.nol, enumL, AV.nol.nols, loadC, loadS, extK, extK.extL, notK, nilckK, callvK, ld1K, ldAK, stK, laid]
      simp only [decide_eq_false_iff_not] at g
      exact h1 ⟨by omega, by omega, by omega, hall.all (by omega)⟩
end
end Go.Ab
end
section
/- NetChecks. -/
set_option linter.unusedSimpArgs false
set_option linter.unusedVariables false
set_option maxRecDepth 100000
set_option maxHeartbeats 4000000
namespace Go.Ab

section
variable {C : CX} {h : List AObj} {K : AV → List AObj → Prop} {a b c d e n : Int} {z1 z2 z3 z1' z2' z3' : Bool} {s1 s2 s3 s1' s2' s3' : Nat} {x y : Net}
theorem accU_sl {α : Type} (sz : Nat) (c : α → List AV) (l : List α) : ∃ z s, accU sz c l = .sl z s (l.map c) .no ∧ Slk z s sz l.length := by
  unfold accU
  cases l with
  | nil => exact ⟨true, 0, rfl, by simp, by simp⟩
  | cons x l => exact ⟨false, sz, rfl, by simp, by simp⟩
theorem check19e (hk : Nk z1 s1 z2 s2 z3 s3 x) (hc : x.cuts.length < 1000000) (he : (WF x ∧ e = 0) ∨ (¬ WF x ∧ e = 2)) (hK : K (.int .i64 e) h) : ACall C Pg 19 [.agg [.int .i64 x.nodes, .int .i64 x.now, .int .i64 x.next, .sl z1 s1 (x.way.map Letter.c) .no, .sl z2 s2 (x.cuts.map Link.c) .no, .sl z3 s3 (x.timers.map Timer.c) .no]] h K :=
  check19c hk hc fun r hr => by
    have : (if r = true then (0 : Int) else 2) = e := by
      rcases he with ⟨w, rfl⟩ | ⟨w, rfl⟩
      · rw [if_pos (hr.2 w)]
      · rw [if_neg (fun h => w (hr.1 h))]
    rw [this]
    exact hK
theorem check20e (hk : Nk z1 s1 z2 s2 z3 s3 x) (hc : x.cuts.length < 1000000) (he : (WF x ∧ e = 0) ∨ (¬ WF x ∧ e = 2)) (hK : K (.int .i64 e) h) : ACall C Pg 20 [.agg [.int .i64 x.nodes, .int .i64 x.now, .int .i64 x.next, .sl z1 s1 (x.way.map Letter.c) .no, .sl z2 s2 (x.cuts.map Link.c) .no, .sl z3 s3 (x.timers.map Timer.c) .no]] h K :=
  check20 hk hc fun r hr => by
    have : (if r = true then (0 : Int) else 2) = e := by
      rcases he with ⟨w, rfl⟩ | ⟨w, rfl⟩
      · rw [if_pos (hr.2 w)]
      · rw [if_neg (fun h => w (hr.1 h))]
    rw [this]
    exact hK
def readyIs (x : Net) (L : List Int) (e : Int) : Prop := (WF x ∧ e = 0 ∧ L = readyTo x x.way.length) ∨ (¬ WF x ∧ e = 2 ∧ L = [])
theorem readyIs.len {L : List Int} (h : readyIs x L e) : L.length ≤ x.way.length := by
  rcases h with ⟨_, _, rfl⟩ | ⟨_, _, rfl⟩
  · exact readyTo_len
  · simp
theorem ready16e (hk : Nk z1 s1 z2 s2 z3 s3 x) (hc : x.cuts.length < 1000000) {L : List Int} (hL : readyIs x L e)
    (hK : ∀ z s, Slk z s 1 L.length → K (.tup [.sl z s (L.map intc) .no, .int .i64 e]) h) : ACall C Pg 16 [.agg [.int .i64 x.nodes, .int .i64 x.now, .int .i64 x.next, .sl z1 s1 (x.way.map Letter.c) .no, .sl z2 s2 (x.cuts.map Link.c) .no, .sl z3 s3 (x.timers.map Timer.c) .no]] h K := by
  refine ready16 hk hc (fun hw => ?_) (fun hw z s hz => ?_)
  · rcases hL with ⟨w, _⟩ | ⟨_, rfl, rfl⟩
    · exact absurd w hw
    · exact hK true 0 ⟨fun _ => rfl, by simp⟩
  · rcases hL with ⟨_, rfl, rfl⟩ | ⟨w, _⟩
    · exact hK z s hz
    · exact absurd hw w
theorem ready17e (hk : Nk z1 s1 z2 s2 z3 s3 x) (hc : x.cuts.length < 1000000) {L : List Int} (hL : readyIs x L e)
    (hK : ∀ z s, Slk z s 1 L.length → K (.agg [.sl z s (L.map intc) .no, .int .i64 e]) h) : ACall C Pg 17 [.agg [.int .i64 x.nodes, .int .i64 x.now, .int .i64 x.next, .sl z1 s1 (x.way.map Letter.c) .no, .sl z2 s2 (x.cuts.map Link.c) .no, .sl z3 s3 (x.timers.map Timer.c) .no]] h K := by
  refine ready17 hk hc (fun hw => ?_) (fun hw => ?_)
  · rcases hL with ⟨w, _⟩ | ⟨_, rfl, rfl⟩
    · exact absurd w hw
    · exact hK true 0 ⟨fun _ => rfl, by simp⟩
  · rcases hL with ⟨_, rfl, rfl⟩ | ⟨w, _⟩
    · obtain ⟨z, s, e1, hz⟩ := accU_sl 1 intc (readyTo x x.way.length)
      rw [e1]
      exact hK z s hz
    · exact absurd hw w
theorem new_forms (n : Int) : ∃ nn e : Int, ((if n < 1 ∨ 16 < n then AV.tup [.agg [.int .i64 0, .int .i64 0, .int .i64 0, .sl true 0 [] .no, .sl true 0 [] .no, .sl true 0 [] .no], .int .i64 1] else .tup [.agg [.int .i64 n, .int .i64 0, .int .i64 0, .sl true 0 [] .no, .sl true 0 [] .no, .sl true 0 [] .no], .int .i64 0]) = .tup [.agg [.int .i64 nn, .int .i64 0, .int .i64 0, .sl true 0 [] .no, .sl true 0 [] .no, .sl true 0 [] .no], .int .i64 e]) ∧
    ((if n < 1 ∨ 16 < n then AV.agg [.int .i64 0, .int .i64 0, .int .i64 0, .sl true 0 [] .no, .sl true 0 [] .no, .sl true 0 [] .no, .int .i64 0, .int .i64 0, .int .i64 0, .int .i64 0, .int .i64 0, .str [], .sl true 0 [] .no, .int .i64 1] else .agg [.int .i64 n, .int .i64 0, .int .i64 0, .sl true 0 [] .no, .sl true 0 [] .no, .sl true 0 [] .no, .int .i64 0, .int .i64 0, .int .i64 0, .int .i64 0, .int .i64 0, .str [], .sl true 0 [] .no, .int .i64 0]) = .agg [.int .i64 nn, .int .i64 0, .int .i64 0, .sl true 0 [] .no, .sl true 0 [] .no, .sl true 0 [] .no, .int .i64 0, .int .i64 0, .int .i64 0, .int .i64 0, .int .i64 0, .str [], .sl true 0 [] .no, .int .i64 e]) := by
  by_cases h : n < 1 ∨ 16 < n
  · exact ⟨0, 1, by rw [if_pos h], by rw [if_pos h]⟩
  · exact ⟨n, 0, by rw [if_neg h], by rw [if_neg h]⟩
theorem readyIs_ex (x : Net) : ∃ L e, readyIs x L e ∧ ((WF x ∧ e = 0) ∨ (¬ WF x ∧ e = 2)) := by
  by_cases w : WF x
  · exact ⟨_, 0, .inl ⟨w, rfl, rfl⟩, .inl ⟨w, rfl⟩⟩
  · exact ⟨[], 2, .inr ⟨w, rfl, rfl⟩, .inr ⟨w, rfl⟩⟩

theorem checks3 (hk : Nk z1 s1 z2 s2 z3 s3 x) (hK : K (.bool true) h) : ACall C Pg 3 [.agg [.int .i64 x.nodes, .int .i64 x.now, .int .i64 x.next, .sl z1 s1 (x.way.map Letter.c) .no, .sl z2 s2 (x.cuts.map Link.c) .no, .sl z3 s3 (x.timers.map Timer.c) .no], .int .i64 n] h K := by
  refine run3 ?_; simp -implicitDefEqProofs only [b3, r3, ru, ruc, Nat.reduceLT, Nat.reduceEqDiff, reduceIte, Nat.reduceAdd, Nat.reduceLeDiff, Int.reduceEq, Int.reduceLT, Int.reduceLE, Int.reduceNeg, vK, putU, putK, arithK, intK, faK, hd1, ofV, lenSK, AV.nol, enumL, AV.nol.nols, loadC, loadS, extK, extK.extL, notK, nilckK, callvK, ld1K, ldAK, stK, laid]
  refine small12 hk (fun hs => ?_) (fun hs => ?_)
  · simp -implicitDefEqProofs only [r3, ru, ruc, Nat.reduceLT, Nat.reduceEqDiff, reduceIte, Nat.reduceAdd, Nat.reduceLeDiff, Int.reduceEq, Int.reduceLT, Int.reduceLE, Int.reduceNeg, vK, putU, putK, arithK, intK, faK, hd1, ofV, lenSK, AV.nol, enumL, AV.nol.nols, loadC, loadS, extK, extK.extL, notK, nilckK, callvK, ld1K, ldAK, stK, laid]
    have hcu : x.cuts.length < 1000000 := by have := hs.2.1; omega
    have hwl := hs.1
    obtain ⟨nn, e0, h14, h15⟩ := new_forms n
    obtain ⟨L, e, hL, he⟩ := readyIs_ex x
    have hLl := hL.len
    refine new14 ?_
    rw [h14]
    simp -implicitDefEqProofs only [r3, ru, ruc, Nat.reduceLT, Nat.reduceEqDiff, reduceIte, Nat.reduceAdd, Nat.reduceLeDiff, Int.reduceEq, Int.reduceLT, Int.reduceLE, Int.reduceNeg, vK, putU, putK, arithK, intK, faK, hd1, ofV, lenSK, AV.nol, enumL, AV.nol.nols, loadC, loadS, extK, extK.extL, notK, nilckK, callvK, ld1K, ldAK, stK, laid]
    refine new15 ?_
    rw [h15]
    simp -implicitDefEqProofs only [r3, ru, ruc, Nat.reduceLT, Nat.reduceEqDiff, reduceIte, Nat.reduceAdd, Nat.reduceLeDiff, Int.reduceEq, Int.reduceLT, Int.reduceLE, Int.reduceNeg, vK, putU, putK, arithK, intK, faK, hd1, ofV, lenSK, AV.nol, enumL, AV.nol.nols, loadC, loadS, extK, extK.extL, notK, nilckK, callvK, ld1K, ldAK, stK, laid]
    refine ready16e hk hcu hL fun z s hz => ?_
    simp -implicitDefEqProofs only [r3, ru, ruc, Nat.reduceLT, Nat.reduceEqDiff, reduceIte, Nat.reduceAdd, Nat.reduceLeDiff, Int.reduceEq, Int.reduceLT, Int.reduceLE, Int.reduceNeg, vK, putU, putK, arithK, intK, faK, hd1, ofV, lenSK, AV.nol, enumL, AV.nol.nols, loadC, loadS, extK, extK.extL, notK, nilckK, callvK, ld1K, ldAK, stK, laid]
    refine ready17e hk hcu hL fun z' s' hz' => ?_
    simp -implicitDefEqProofs only [r3, ru, ruc, Nat.reduceLT, Nat.reduceEqDiff, reduceIte, Nat.reduceAdd, Nat.reduceLeDiff, Int.reduceEq, Int.reduceLT, Int.reduceLE, Int.reduceNeg, vK, putU, putK, arithK, intK, faK, hd1, ofV, lenSK, AV.nol, enumL, AV.nol.nols, loadC, loadS, extK, extK.extL, notK, nilckK, callvK, ld1K, ldAK, stK, laid]
    refine lp3_0 (α := Nat) 4 (fun i => [(2, .lptr 0 0), (5, .lptr 1 0), (6, .int .i64 e0), (7, .lptr 2 0), (8, .sl z s (L.map intc) .no), (9, .int .i64 e), (10, .lptr 3 0), (11, .int .i64 i)])
      (fun _ => [[.int .i64 x.nodes, .int .i64 x.now, .int .i64 x.next, .sl z1 s1 (x.way.map Letter.c) .no, .sl z2 s2 (x.cuts.map Link.c) .no, .sl z3 s3 (x.timers.map Timer.c) .no], [.int .i64 nn, .int .i64 0, .int .i64 0, .sl true 0 [] .no, .sl true 0 [] .no, .sl true 0 [] .no], [.int .i64 nn, .int .i64 0, .int .i64 0, .sl true 0 [] .no, .sl true 0 [] .no, .sl true 0 [] .no, .int .i64 0, .int .i64 0, .int .i64 0, .int .i64 0, .int .i64 0, .str [], .sl true 0 [] .no, .int .i64 e0], [.sl z' s' (L.map intc) .no, .int .i64 e]]) (fun _ => h)
      (fun i => i ≤ L.length) (fun i => L.length - i) 0 (Nat.zero_le _) (fun _ => rfl) ?_ rfl rfl rfl ?_
    · simp [allIn, lk, AV.lb, AV.lb.lbs]
    · intro i hi
      simp -implicitDefEqProofs only [b3_0, r3, List.length_map, ru, ruc, Nat.reduceLT, Nat.reduceEqDiff, reduceIte, Nat.reduceAdd, Nat.reduceLeDiff, Int.reduceEq, Int.reduceLT, Int.reduceLE, Int.reduceNeg, vK, putU, putK, arithK, intK, faK, hd1, ofV, lenSK, AV.nol, enumL, AV.nol.nols, loadC, loadS, extK, extK.extL, notK, nilckK, callvK, ld1K, ldAK, stK, laid]
      refine condV_split (fun g => ?_) (fun g => ?_)
      · simp -implicitDefEqProofs only [r3, ru, ruc, Nat.reduceLT, Nat.reduceEqDiff, reduceIte, Nat.reduceAdd, Nat.reduceLeDiff, Int.reduceEq, Int.reduceLT, Int.reduceLE, Int.reduceNeg, vK, putU, putK, arithK, intK, faK, hd1, ofV, lenSK, AV.nol, enumL, AV.nol.nols, loadC, loadS, extK, extK.extL, notK, nilckK, callvK, ld1K, ldAK, stK, laid]
        simp only [decide_eq_true_eq] at g
        have g' : i < L.length := by omega
        apply rd3_0
        all_goals try (first | (intro l' e0 e1; simp -implicitDefEqProofs only [e0, e1, intc, ru, ruc, Nat.reduceLT, Nat.reduceEqDiff, reduceIte, Nat.reduceAdd, Nat.reduceLeDiff, Int.reduceEq, Int.reduceLT, Int.reduceLE, Int.reduceNeg, vK, putU, putK, arithK, intK, faK, hd1, ofV, lenSK, AV.nol, enumL, AV.nol.nols, loadC, loadS, extK, extK.extL, notK, nilckK, callvK, ld1K, ldAK, stK, laid]; (try (first | (refine ixI hz rfl g' ?_ <;> try simp -implicitDefEqProofs only [e0, e1, intc, ru, ruc, Nat.reduceLT, Nat.reduceEqDiff, reduceIte, Nat.reduceAdd, Nat.reduceLeDiff, Int.reduceEq, Int.reduceLT, Int.reduceLE, Int.reduceNeg, vK, putU, putK, arithK, intK, faK, hd1, ofV, lenSK, AV.nol, enumL, AV.nol.nols, loadC, loadS, extK, extK.extL, notK, nilckK, callvK, ld1K, ldAK, stK, laid]) | (refine ixI hz' rfl g' ?_ <;> try simp -implicitDefEqProofs only [e0, e1, intc, ru, ruc, Nat.reduceLT, Nat.reduceEqDiff, reduceIte, Nat.reduceAdd, Nat.reduceLeDiff, Int.reduceEq, Int.reduceLT, Int.reduceLE, Int.reduceNeg, vK, putU, putK, arithK, intK, faK, hd1, ofV, lenSK, AV.nol, enumL, AV.nol.nols, loadC, loadS, extK, extK.extL, notK, nilckK, callvK, ld1K, ldAK, stK, laid]) | (fail))); first | exact step_1 rfl | exact step_2 rfl (by assumption)) | (intro l' e0; simp -implicitDefEqProofs only [e0, intc, ru, ruc, Nat.reduceLT, Nat.reduceEqDiff, reduceIte, Nat.reduceAdd, Nat.reduceLeDiff, Int.reduceEq, Int.reduceLT, Int.reduceLE, Int.reduceNeg, vK, putU, putK, arithK, intK, faK, hd1, ofV, lenSK, AV.nol, enumL, AV.nol.nols, loadC, loadS, extK, extK.extL, notK, nilckK, callvK, ld1K, ldAK, stK, laid]; (try (first | (refine ixI hz rfl g' ?_ <;> try simp -implicitDefEqProofs only [e0, intc, ru, ruc, Nat.reduceLT, Nat.reduceEqDiff, reduceIte, Nat.reduceAdd, Nat.reduceLeDiff, Int.reduceEq, Int.reduceLT, Int.reduceLE, Int.reduceNeg, vK, putU, putK, arithK, intK, faK, hd1, ofV, lenSK, AV.nol, enumL, AV.nol.nols, loadC, loadS, extK, extK.extL, notK, nilckK, callvK, ld1K, ldAK, stK, laid]) | (refine ixI hz' rfl g' ?_ <;> try simp -implicitDefEqProofs only [e0, intc, ru, ruc, Nat.reduceLT, Nat.reduceEqDiff, reduceIte, Nat.reduceAdd, Nat.reduceLeDiff, Int.reduceEq, Int.reduceLT, Int.reduceLE, Int.reduceNeg, vK, putU, putK, arithK, intK, faK, hd1, ofV, lenSK, AV.nol, enumL, AV.nol.nols, loadC, loadS, extK, extK.extL, notK, nilckK, callvK, ld1K, ldAK, stK, laid]) | (fail))); first | exact step_1 rfl | exact step_2 rfl (by assumption)) | (intro l' ; simp -implicitDefEqProofs only [intc, ru, ruc, Nat.reduceLT, Nat.reduceEqDiff, reduceIte, Nat.reduceAdd, Nat.reduceLeDiff, Int.reduceEq, Int.reduceLT, Int.reduceLE, Int.reduceNeg, vK, putU, putK, arithK, intK, faK, hd1, ofV, lenSK, AV.nol, enumL, AV.nol.nols, loadC, loadS, extK, extK.extL, notK, nilckK, callvK, ld1K, ldAK, stK, laid]; (try (first | (refine ixI hz rfl g' ?_ <;> try simp -implicitDefEqProofs only [intc, ru, ruc, Nat.reduceLT, Nat.reduceEqDiff, reduceIte, Nat.reduceAdd, Nat.reduceLeDiff, Int.reduceEq, Int.reduceLT, Int.reduceLE, Int.reduceNeg, vK, putU, putK, arithK, intK, faK, hd1, ofV, lenSK, AV.nol, enumL, AV.nol.nols, loadC, loadS, extK, extK.extL, notK, nilckK, callvK, ld1K, ldAK, stK, laid]) | (refine ixI hz' rfl g' ?_ <;> try simp -implicitDefEqProofs only [intc, ru, ruc, Nat.reduceLT, Nat.reduceEqDiff, reduceIte, Nat.reduceAdd, Nat.reduceLeDiff, Int.reduceEq, Int.reduceLT, Int.reduceLE, Int.reduceNeg, vK, putU, putK, arithK, intK, faK, hd1, ofV, lenSK, AV.nol, enumL, AV.nol.nols, loadC, loadS, extK, extK.extL, notK, nilckK, callvK, ld1K, ldAK, stK, laid]) | (fail))); first | exact step_1 rfl | exact step_2 rfl (by assumption)))
        case hK =>
          simp -implicitDefEqProofs only [r3, ru, ruc, Nat.reduceLT, Nat.reduceEqDiff, reduceIte, Nat.reduceAdd, Nat.reduceLeDiff, Int.reduceEq, Int.reduceLT, Int.reduceLE, Int.reduceNeg, vK, putU, putK, arithK, intK, faK, hd1, ofV, lenSK, AV.nol, enumL, AV.nol.nols, loadC, loadS, extK, extK.extL, notK, nilckK, callvK, ld1K, ldAK, stK, laid]
          refine next_normal (i + 1) (by omega) (by omega) rfl ?_ rfl rfl
          simp [allIn, lk, AV.lb, AV.lb.lbs, wrap_i (show i < 9223372036854775807 by omega)]
      · simp -implicitDefEqProofs only [r3, ru, ruc, Nat.reduceLT, Nat.reduceEqDiff, reduceIte, Nat.reduceAdd, Nat.reduceLeDiff, Int.reduceEq, Int.reduceLT, Int.reduceLE, Int.reduceNeg, vK, putU, putK, arithK, intK, faK, hd1, ofV, lenSK, AV.nol, enumL, AV.nol.nols, loadC, loadS, extK, extK.extL, notK, nilckK, callvK, ld1K, ldAK, stK, laid]
        apply rd3_1
        all_goals try (first | (intro l' e0 e1 e2; simp -implicitDefEqProofs only [e0, e1, e2, ru, ruc, Nat.reduceLT, Nat.reduceEqDiff, reduceIte, Nat.reduceAdd, Nat.reduceLeDiff, Int.reduceEq, Int.reduceLT, Int.reduceLE, Int.reduceNeg, vK, putU, putK, arithK, intK, faK, hd1, ofV, lenSK, AV.nol, enumL, AV.nol.nols, loadC, loadS, extK, extK.extL, notK, nilckK, callvK, ld1K, ldAK, stK, laid]; (try (first | (refine sane13 ?_ <;> try simp -implicitDefEqProofs only [e0, e1, e2, ru, ruc, Nat.reduceLT, Nat.reduceEqDiff, reduceIte, Nat.reduceAdd, Nat.reduceLeDiff, Int.reduceEq, Int.reduceLT, Int.reduceLE, Int.reduceNeg, vK, putU, putK, arithK, intK, faK, hd1, ofV, lenSK, AV.nol, enumL, AV.nol.nols, loadC, loadS, extK, extK.extL, notK, nilckK, callvK, ld1K, ldAK, stK, laid]) | (refine same18 (x := ⟨nn, 0, 0, [], [], []⟩) (y := ⟨nn, 0, 0, [], [], []⟩) (Nk.of (by simp)) (Nk.of (by simp)) (by simp) (by simp) (by simp) ?_ <;> try simp -implicitDefEqProofs only [e0, e1, e2, ru, ruc, Nat.reduceLT, Nat.reduceEqDiff, reduceIte, Nat.reduceAdd, Nat.reduceLeDiff, Int.reduceEq, Int.reduceLT, Int.reduceLE, Int.reduceNeg, vK, putU, putK, arithK, intK, faK, hd1, ofV, lenSK, AV.nol, enumL, AV.nol.nols, loadC, loadS, extK, extK.extL, notK, nilckK, callvK, ld1K, ldAK, stK, laid]) | (refine check19e hk hcu he ?_ <;> try simp -implicitDefEqProofs only [e0, e1, e2, ru, ruc, Nat.reduceLT, Nat.reduceEqDiff, reduceIte, Nat.reduceAdd, Nat.reduceLeDiff, Int.reduceEq, Int.reduceLT, Int.reduceLE, Int.reduceNeg, vK, putU, putK, arithK, intK, faK, hd1, ofV, lenSK, AV.nol, enumL, AV.nol.nols, loadC, loadS, extK, extK.extL, notK, nilckK, callvK, ld1K, ldAK, stK, laid]) | (refine check20e hk hcu he ?_ <;> try simp -implicitDefEqProofs only [e0, e1, e2, ru, ruc, Nat.reduceLT, Nat.reduceEqDiff, reduceIte, Nat.reduceAdd, Nat.reduceLeDiff, Int.reduceEq, Int.reduceLT, Int.reduceLE, Int.reduceNeg, vK, putU, putK, arithK, intK, faK, hd1, ofV, lenSK, AV.nol, enumL, AV.nol.nols, loadC, loadS, extK, extK.extL, notK, nilckK, callvK, ld1K, ldAK, stK, laid]) | (fail))); first | exact step_1 rfl | exact step_2 rfl (by assumption)) | (intro l' e0 e1; simp -implicitDefEqProofs only [e0, e1, ru, ruc, Nat.reduceLT, Nat.reduceEqDiff, reduceIte, Nat.reduceAdd, Nat.reduceLeDiff, Int.reduceEq, Int.reduceLT, Int.reduceLE, Int.reduceNeg, vK, putU, putK, arithK, intK, faK, hd1, ofV, lenSK, AV.nol, enumL, AV.nol.nols, loadC, loadS, extK, extK.extL, notK, nilckK, callvK, ld1K, ldAK, stK, laid]; (try (first | (refine sane13 ?_ <;> try simp -implicitDefEqProofs only [e0, e1, ru, ruc, Nat.reduceLT, Nat.reduceEqDiff, reduceIte, Nat.reduceAdd, Nat.reduceLeDiff, Int.reduceEq, Int.reduceLT, Int.reduceLE, Int.reduceNeg, vK, putU, putK, arithK, intK, faK, hd1, ofV, lenSK, AV.nol, enumL, AV.nol.nols, loadC, loadS, extK, extK.extL, notK, nilckK, callvK, ld1K, ldAK, stK, laid]) | (refine same18 (x := ⟨nn, 0, 0, [], [], []⟩) (y := ⟨nn, 0, 0, [], [], []⟩) (Nk.of (by simp)) (Nk.of (by simp)) (by simp) (by simp) (by simp) ?_ <;> try simp -implicitDefEqProofs only [e0, e1, ru, ruc, Nat.reduceLT, Nat.reduceEqDiff, reduceIte, Nat.reduceAdd, Nat.reduceLeDiff, Int.reduceEq, Int.reduceLT, Int.reduceLE, Int.reduceNeg, vK, putU, putK, arithK, intK, faK, hd1, ofV, lenSK, AV.nol, enumL, AV.nol.nols, loadC, loadS, extK, extK.extL, notK, nilckK, callvK, ld1K, ldAK, stK, laid]) | (refine check19e hk hcu he ?_ <;> try simp -implicitDefEqProofs only [e0, e1, ru, ruc, Nat.reduceLT, Nat.reduceEqDiff, reduceIte, Nat.reduceAdd, Nat.reduceLeDiff, Int.reduceEq, Int.reduceLT, Int.reduceLE, Int.reduceNeg, vK, putU, putK, arithK, intK, faK, hd1, ofV, lenSK, AV.nol, enumL, AV.nol.nols, loadC, loadS, extK, extK.extL, notK, nilckK, callvK, ld1K, ldAK, stK, laid]) | (refine check20e hk hcu he ?_ <;> try simp -implicitDefEqProofs only [e0, e1, ru, ruc, Nat.reduceLT, Nat.reduceEqDiff, reduceIte, Nat.reduceAdd, Nat.reduceLeDiff, Int.reduceEq, Int.reduceLT, Int.reduceLE, Int.reduceNeg, vK, putU, putK, arithK, intK, faK, hd1, ofV, lenSK, AV.nol, enumL, AV.nol.nols, loadC, loadS, extK, extK.extL, notK, nilckK, callvK, ld1K, ldAK, stK, laid]) | (fail))); first | exact step_1 rfl | exact step_2 rfl (by assumption)) | (intro l' e0; simp -implicitDefEqProofs only [e0, ru, ruc, Nat.reduceLT, Nat.reduceEqDiff, reduceIte, Nat.reduceAdd, Nat.reduceLeDiff, Int.reduceEq, Int.reduceLT, Int.reduceLE, Int.reduceNeg, vK, putU, putK, arithK, intK, faK, hd1, ofV, lenSK, AV.nol, enumL, AV.nol.nols, loadC, loadS, extK, extK.extL, notK, nilckK, callvK, ld1K, ldAK, stK, laid]; (try (first | (refine sane13 ?_ <;> try simp -implicitDefEqProofs only [e0, ru, ruc, Nat.reduceLT, Nat.reduceEqDiff, reduceIte, Nat.reduceAdd, Nat.reduceLeDiff, Int.reduceEq, Int.reduceLT, Int.reduceLE, Int.reduceNeg, vK, putU, putK, arithK, intK, faK, hd1, ofV, lenSK, AV.nol, enumL, AV.nol.nols, loadC, loadS, extK, extK.extL, notK, nilckK, callvK, ld1K, ldAK, stK, laid]) | (refine same18 (x := ⟨nn, 0, 0, [], [], []⟩) (y := ⟨nn, 0, 0, [], [], []⟩) (Nk.of (by simp)) (Nk.of (by simp)) (by simp) (by simp) (by simp) ?_ <;> try simp -implicitDefEqProofs only [e0, ru, ruc, Nat.reduceLT, Nat.reduceEqDiff, reduceIte, Nat.reduceAdd, Nat.reduceLeDiff, Int.reduceEq, Int.reduceLT, Int.reduceLE, Int.reduceNeg, vK, putU, putK, arithK, intK, faK, hd1, ofV, lenSK, AV.nol, enumL, AV.nol.nols, loadC, loadS, extK, extK.extL, notK, nilckK, callvK, ld1K, ldAK, stK, laid]) | (refine check19e hk hcu he ?_ <;> try simp -implicitDefEqProofs only [e0, ru, ruc, Nat.reduceLT, Nat.reduceEqDiff, reduceIte, Nat.reduceAdd, Nat.reduceLeDiff, Int.reduceEq, Int.reduceLT, Int.reduceLE, Int.reduceNeg, vK, putU, putK, arithK, intK, faK, hd1, ofV, lenSK, AV.nol, enumL, AV.nol.nols, loadC, loadS, extK, extK.extL, notK, nilckK, callvK, ld1K, ldAK, stK, laid]) | (refine check20e hk hcu he ?_ <;> try simp -implicitDefEqProofs only [e0, ru, ruc, Nat.reduceLT, Nat.reduceEqDiff, reduceIte, Nat.reduceAdd, Nat.reduceLeDiff, Int.reduceEq, Int.reduceLT, Int.reduceLE, Int.reduceNeg, vK, putU, putK, arithK, intK, faK, hd1, ofV, lenSK, AV.nol, enumL, AV.nol.nols, loadC, loadS, extK, extK.extL, notK, nilckK, callvK, ld1K, ldAK, stK, laid]) | (fail))); first | exact step_1 rfl | exact step_2 rfl (by assumption)) | (intro l' ; simp -implicitDefEqProofs only [ru, ruc, Nat.reduceLT, Nat.reduceEqDiff, reduceIte, Nat.reduceAdd, Nat.reduceLeDiff, Int.reduceEq, Int.reduceLT, Int.reduceLE, Int.reduceNeg, vK, putU, putK, arithK, intK, faK, hd1, ofV, lenSK, AV.nol, enumL, AV.nol.nols, loadC, loadS, extK, extK.extL, notK, nilckK, callvK, ld1K, ldAK, stK, laid]; (try (first | (refine sane13 ?_ <;> try simp -implicitDefEqProofs only [ru, ruc, Nat.reduceLT, Nat.reduceEqDiff, reduceIte, Nat.reduceAdd, Nat.reduceLeDiff, Int.reduceEq, Int.reduceLT, Int.reduceLE, Int.reduceNeg, vK, putU, putK, arithK, intK, faK, hd1, ofV, lenSK, AV.nol, enumL, AV.nol.nols, loadC, loadS, extK, extK.extL, notK, nilckK, callvK, ld1K, ldAK, stK, laid]) | (refine same18 (x := ⟨nn, 0, 0, [], [], []⟩) (y := ⟨nn, 0, 0, [], [], []⟩) (Nk.of (by simp)) (Nk.of (by simp)) (by simp) (by simp) (by simp) ?_ <;> try simp -implicitDefEqProofs only [ru, ruc, Nat.reduceLT, Nat.reduceEqDiff, reduceIte, Nat.reduceAdd, Nat.reduceLeDiff, Int.reduceEq, Int.reduceLT, Int.reduceLE, Int.reduceNeg, vK, putU, putK, arithK, intK, faK, hd1, ofV, lenSK, AV.nol, enumL, AV.nol.nols, loadC, loadS, extK, extK.extL, notK, nilckK, callvK, ld1K, ldAK, stK, laid]) | (refine check19e hk hcu he ?_ <;> try simp -implicitDefEqProofs only [ru, ruc, Nat.reduceLT, Nat.reduceEqDiff, reduceIte, Nat.reduceAdd, Nat.reduceLeDiff, Int.reduceEq, Int.reduceLT, Int.reduceLE, Int.reduceNeg, vK, putU, putK, arithK, intK, faK, hd1, ofV, lenSK, AV.nol, enumL, AV.nol.nols, loadC, loadS, extK, extK.extL, notK, nilckK, callvK, ld1K, ldAK, stK, laid]) | (refine check20e hk hcu he ?_ <;> try simp -implicitDefEqProofs only [ru, ruc, Nat.reduceLT, Nat.reduceEqDiff, reduceIte, Nat.reduceAdd, Nat.reduceLeDiff, Int.reduceEq, Int.reduceLT, Int.reduceLE, Int.reduceNeg, vK, putU, putK, arithK, intK, faK, hd1, ofV, lenSK, AV.nol, enumL, AV.nol.nols, loadC, loadS, extK, extK.extL, notK, nilckK, callvK, ld1K, ldAK, stK, laid]) | (fail))); first | exact step_1 rfl | exact step_2 rfl (by assumption)))
        case hK =>
          simp -implicitDefEqProofs only [r3, ru, ruc, Nat.reduceLT, Nat.reduceEqDiff, reduceIte, Nat.reduceAdd, Nat.reduceLeDiff, Int.reduceEq, Int.reduceLT, Int.reduceLE, Int.reduceNeg, vK, putU, putK, arithK, intK, faK, hd1, ofV, lenSK, AV.nol, enumL, AV.nol.nols, loadC, loadS, extK, extK.extL, notK, nilckK, callvK, ld1K, ldAK, stK, laid]
          exact hK
  · simp -implicitDefEqProofs only [r3, ru, ruc, Nat.reduceLT, Nat.reduceEqDiff, reduceIte, Nat.reduceAdd, Nat.reduceLeDiff, Int.reduceEq, Int.reduceLT, Int.reduceLE, Int.reduceNeg, vK, putU, putK, arithK, intK, faK, hd1, ofV, lenSK, AV.nol, enumL, AV.nol.nols, loadC, loadS, extK, extK.extL, notK, nilckK, callvK, ld1K, ldAK, stK, laid]
    refine sane13 ?_
    simp -implicitDefEqProofs only [r3, ru, ruc, Nat.reduceLT, Nat.reduceEqDiff, reduceIte, Nat.reduceAdd, Nat.reduceLeDiff, Int.reduceEq, Int.reduceLT, Int.reduceLE, Int.reduceNeg, vK, putU, putK, arithK, intK, faK, hd1, ofV, lenSK, AV.nol, enumL, AV.nol.nols, loadC, loadS, extK, extK.extL, notK, nilckK, callvK, ld1K, ldAK, stK, laid]
    exact hK
end
end Go.Ab
end
