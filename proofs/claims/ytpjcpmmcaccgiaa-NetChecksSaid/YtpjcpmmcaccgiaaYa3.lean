/- One text out of several: see the remark at the head of each part. -/
import Derived.Test.YtpjcpmmcaccgiaaYa2
set_option linter.all false
section
/- What a change leads to, told without objects; sending. -/
set_option linter.unusedSimpArgs false
set_option linter.unusedVariables false
set_option maxRecDepth 100000
namespace Go.Ab

theorem chunks_flat {α : Type} {sz : Nat} {c : α → List AV} (hc : ∀ x, (c x).length = sz) : ∀ (l : List α) (rest : List AV), chunks sz l.length ((l.map c).flatten ++ rest) = l.map c
  | [], _ => rfl
  | x :: l, rest => by
    simp only [List.length_cons, chunks, List.map_cons, List.flatten_cons, List.append_assoc]
    rw [List.take_left' (hc x), List.drop_left' (hc x), chunks_flat hc l rest]
/-- A list's value, frozen. -/
theorem LV.frz {α : Type} {h : List AObj} {sz : Nat} {c : α → List AV} {v : AV} {l : List α} (hc : ∀ x, (c x).length = sz) (hv : LV h sz c v l) {Q : AV → List AObj → Prop}
    (hQ : ∀ z s v' h', Slk z s sz l.length → v'.weak = .sl z s (l.map c) .no → (∀ i, i ∉ vid v → h'[i]? = h[i]?) → h'.length = h.length → (∀ id, id ∉ vid v → True) → Q v' h') :
    Q v h ∨ ∃ id cs n, vid v = [id] ∧ h[id]? = some (.cells cs n) ∧ id < h.length ∧ Q (v.frz id cs) (h.set id .dead) := by
  rcases hv with ⟨rfl, rfl | rfl⟩ | ⟨id, cs, n, rest, rfl, h2, h3, h4⟩
  · exact .inl (hQ true 0 _ h ⟨by simp, by simp⟩ rfl (fun _ _ => rfl) rfl (fun _ _ => trivial))
  · exact .inl (hQ false sz _ h ⟨by simp, by simp⟩ rfl (fun _ _ => rfl) rfl (fun _ _ => trivial))
  · refine .inr ⟨id, cs, n, rfl, h2, (List.getElem?_eq_some_iff.1 h2).1, hQ false sz _ _ ⟨by simp, by simp⟩ ?_ (fun i hi => ?_) (by simp) (fun _ _ => trivial)⟩
    · have hle : 0 + l.length * sz ≤ cs.length := by rw [h4, List.length_append, flat_len hc]; omega
      simp only [AV.frz, hle, and_self, if_true, AV.weak, List.drop_zero]
      rw [h4, chunks_flat hc]
    · simp only [vid, List.mem_singleton] at hi
      exact List.getElem?_set_ne (fun e => hi e.symm)
theorem frz_other {id : Nat} {cs : List AV} {v : AV} (h : id ∉ vid v) (h1 : ∃ i s o n, v = .msl i s o n ∨ v = .sl true 0 [] .no ∨ ∃ s, v = .sl false s [] .full) : v.frz id cs = v := by
  obtain ⟨i, s, o, n, rfl | rfl | ⟨s, rfl⟩⟩ := h1
  · simp only [vid, List.mem_singleton] at h
    simp only [AV.frz]
    rw [if_neg (fun e => h e.1.symm)]
  · rfl
  · rfl
theorem LV.form {α : Type} {h : List AObj} {sz : Nat} {c : α → List AV} {v : AV} {l : List α} (hv : LV h sz c v l) : ∃ i s o n, v = .msl i s o n ∨ v = .sl true 0 [] .no ∨ ∃ s, v = .sl false s [] .full := by
  rcases hv with ⟨_, rfl | rfl⟩ | ⟨id, cs, n, rest, rfl, _⟩
  · exact ⟨0, 0, 0, 0, .inr (.inl rfl)⟩
  · exact ⟨0, 0, 0, 0, .inr (.inr ⟨_, rfl⟩)⟩
  · exact ⟨_, _, _, _, .inl rfl⟩

section
variable {C : CX} {h : List AObj} {K : AV → List AObj → Prop} {a b n : Int} {x : Net} {A B D : AV} {cid : Nat}

/-- Nothing of a frozen object's in the rest of a result. -/
theorem froz {rest : List AV} (hc : Chg h cid x A B D) (hr : ∀ id cs, AV.frz.frzs id cs rest = rest) (hw : AV.weak.weaks rest = rest)
    (hK : ∀ z1 s1 z2 s2 z3 s3 h', Nk z1 s1 z2 s2 z3 s3 x → K (.tup (.agg [.int .i64 x.nodes, .int .i64 x.now, .int .i64 x.next, .sl z1 s1 (x.way.map Letter.c) .no, .sl z2 s2 (x.cuts.map Link.c) .no, .sl z3 s3 (x.timers.map Timer.c) .no] :: rest)) h') :
    frzK (frzK (frzK fun r h => K r.weak h)) (.tup (.agg [.int .i64 x.nodes, .int .i64 x.now, .int .i64 x.next, A, B, D] :: rest)) h := by
  obtain ⟨o1, o2, o3, o4, o5⟩ := hc.other
  -- the timers, then the cuts, then the letters
  have s3 : ∀ z1 s1 z2 s2 A' B' h', Slk z1 s1 5 x.way.length → A'.weak = .sl z1 s1 (x.way.map Letter.c) .no → Slk z2 s2 2 x.cuts.length → B'.weak = .sl z2 s2 (x.cuts.map Link.c) .no → LV h' 3 Timer.c D x.timers → (∀ id ∈ vid D, ∀ cs, A'.frz id cs = A') → (∀ id ∈ vid D, ∀ cs, B'.frz id cs = B') →
      frzK (fun r h => K r.weak h) (.tup (.agg [.int .i64 x.nodes, .int .i64 x.now, .int .i64 x.next, A', B', D] :: rest)) h' := fun z1 s1 z2 s2 A' B' h' k1 e1 k2 e2 hD f1 f2 => by
    have := hD.frz lenT (Q := fun v h' => K (AV.tup (.agg [.int .i64 x.nodes, .int .i64 x.now, .int .i64 x.next, A', B', v] :: rest)).weak h') (fun z s v' h' k3 e3 _ _ _ => by
      simp only [AV.weak, AV.weak.weaks, e1, e2, e3, hw]
      exact hK _ _ _ _ _ _ _ ⟨k1, k2, k3⟩)
    rcases this with h1 | ⟨id, cs, n, hv, hid, hlt, h1⟩
    · exact .inl h1
    · refine .inr ⟨id, cs, n, hid, hlt, ?_⟩
      have m1 : id ∈ vid D := by rw [hv]; simp
      simp only [AV.frz, AV.frz.frzs, hr, f1 id m1, f2 id m1]
      exact h1
  have s2 : ∀ z1 s1 A' h', Slk z1 s1 5 x.way.length → A'.weak = .sl z1 s1 (x.way.map Letter.c) .no → LV h' 2 Link.c B x.cuts → LV h' 3 Timer.c D x.timers → (∀ id ∈ vid D ++ vid B, ∀ cs, A'.frz id cs = A') →
      frzK (frzK (fun r h => K r.weak h)) (.tup (.agg [.int .i64 x.nodes, .int .i64 x.now, .int .i64 x.next, A', B, D] :: rest)) h' := fun z1 s1 A' h' k1 e1 hB hD f1 => by
    have := hB.frz lenC (Q := fun v h' => (∀ id ∈ vid D, ∀ cs, v.frz id cs = v) → frzK (fun r h => K r.weak h) (AV.tup (.agg [.int .i64 x.nodes, .int .i64 x.now, .int .i64 x.next, A', v, D] :: rest)) h') (fun z s v' h'' k2 e2 hsame _ _ hf => by
      refine s3 _ _ _ _ _ _ _ k1 e1 k2 e2 (hD.more fun i hi => hsame i fun hj => ?_) (fun id hid => f1 id (List.mem_append.2 (.inl hid))) hf
      exact o5 i hj hi)
    rcases this with h1 | ⟨id, cs, n, hv, hid, hlt, h1⟩
    · exact .inl (h1 fun id hid cs => frz_other (fun hj => o5 id hj hid) hB.form)
    · refine .inr ⟨id, cs, n, hid, hlt, ?_⟩
      have m1 : id ∈ vid B := by rw [hv]; simp
      have d1 : D.frz id cs = D := frz_other (fun hj => o5 id m1 hj) hD.form
      simp only [AV.frz, AV.frz.frzs, hr, f1 id (List.mem_append.2 (.inr m1)), d1]
      refine h1 fun id' hid' cs' => ?_
      have hne : id' ∉ vid B := fun hj => o5 id' hj hid'
      obtain ⟨i, s, o, m, rfl | rfl | ⟨s, rfl⟩⟩ := hB.form
      · simp only [AV.frz]
        split
        · rfl
        · simp only [AV.frz, vid, List.mem_singleton] at hne ⊢
          rw [if_neg (fun e => hne e.1.symm)]
      · rfl
      · rfl
  have := hc.way.frz lenL (Q := fun v h' => (∀ id ∈ vid D ++ vid B, ∀ cs, v.frz id cs = v) → frzK (frzK (fun r h => K r.weak h)) (AV.tup (.agg [.int .i64 x.nodes, .int .i64 x.now, .int .i64 x.next, v, B, D] :: rest)) h') (fun z s v' h'' k1 e1 hsame _ _ hf => by
    refine s2 _ _ _ _ k1 e1 (hc.cuts.more fun i hi => hsame i fun hj => (o4 i hj).1 hi) (hc.tims.more fun i hi => hsame i fun hj => (o4 i hj).2 hi) hf)
  rcases this with h1 | ⟨id, cs, n, hv, hid, hlt, h1⟩
  · refine .inl (h1 fun id hid cs => frz_other (fun hj => ?_) hc.way.form)
    rcases List.mem_append.1 hid with h2 | h2
    · exact (o4 id hj).2 h2
    · exact (o4 id hj).1 h2
  · refine .inr ⟨id, cs, n, hid, hlt, ?_⟩
    have m1 : id ∈ vid A := by rw [hv]; simp
    have d1 : D.frz id cs = D := frz_other (fun hj => (o4 id m1).2 hj) hc.tims.form
    have d2 : B.frz id cs = B := frz_other (fun hj => (o4 id m1).1 hj) hc.cuts.form
    simp only [AV.frz, AV.frz.frzs, hr, d1, d2]
    refine h1 fun id' hid' cs' => ?_
    have hne : id' ∉ vid A := fun hj => by
      rcases List.mem_append.1 hid' with h2 | h2
      · exact (o4 id' hj).2 h2
      · exact (o4 id' hj).1 h2
    obtain ⟨i, s, o, m, rfl | rfl | ⟨s, rfl⟩⟩ := hc.way.form
    · simp only [AV.frz]
      split
      · rfl
      · simp only [AV.frz, vid, List.mem_singleton] at hne ⊢
        rw [if_neg (fun e => hne e.1.symm)]
    · rfl
    · rfl

theorem done73 {e : Int} (hc : Chg h cid x A B D) (hK1 : e ≠ 0 → K (.tup [.agg [.int .i64 0, .int .i64 0, .int .i64 0, .sl true 0 [] .no, .sl true 0 [] .no, .sl true 0 [] .no], .int .i64 e]) h)
    (hK : e = 0 → K (.tup [.agg [.int .i64 x.nodes, .int .i64 x.now, .int .i64 x.next, A, B, D], .int .i64 0]) h) : ACall C Pg 73 [.mptr cid 0, .int .i64 e] h K := by
  have ha := hc.all
  repeat' (first | (exact same_n rfl rfl (by repeat (first | exact Sk.refl | refine Sk.cons rfl ?_)) (by repeat (first | exact True.intro | refine And.intro rfl ?_))) | (first | exact step_1 rfl | exact step_2 rfl (by assumption)) | (refine guardV_split (fun g => ?_) (fun g => ?_) <;> try simp -implicitDefEqProofs [ha, bld125, ld1_e, ld1_l, ld1_m, ldA_e, ldA_l, ldA_m, ldcm33, ldcm29, ixs_l, ixs_m, st_m, st_l, wrC, readC, getE, fits, TD.fit, optO, runN_succ, more_n, more_exit, more_ret, -List.getD_eq_getElem?_getD, ru, ruc, vK, putU, putK, arithK, intK, faK, hd1, ofV, lenSK, AV.nol, enumL, AV.nol.nols, loadC, loadS, extK, extK.extL, notK, nilckK, callvK, laid]) | (refine condV_split (fun g => ?_) (fun g => ?_) <;> try simp -implicitDefEqProofs [ha, bld125, ld1_e, ld1_l, ld1_m, ldA_e, ldA_l, ldA_m, ldcm33, ldcm29, ixs_l, ixs_m, st_m, st_l, wrC, readC, getE, fits, TD.fit, optO, runN_succ, more_n, more_exit, more_ret, -List.getD_eq_getElem?_getD, ru, ruc, vK, putU, putK, arithK, intK, faK, hd1, ofV, lenSK, AV.nol, enumL, AV.nol.nols, loadC, loadS, extK, extK.extL, notK, nilckK, callvK, laid]) | (refine run73 ?_ <;> simp -implicitDefEqProofs [ha, b73, r73, bld125, ld1_e, ld1_l, ld1_m, ldA_e, ldA_l, ldA_m, ldcm33, ldcm29, ixs_l, ixs_m, st_m, st_l, wrC, readC, getE, fits, TD.fit, optO, runN_succ, more_n, more_exit, more_ret, -List.getD_eq_getElem?_getD, ru, ruc, vK, putU, putK, arithK, intK, faK, hd1, ofV, lenSK, AV.nol, enumL, AV.nol.nols, loadC, loadS, extK, extK.extL, notK, nilckK, callvK, laid]) | (intro _ <;> intros <;> simp -implicitDefEqProofs [ha, *, bld125, ld1_e, ld1_l, ld1_m, ldA_e, ldA_l, ldA_m, ldcm33, ldcm29, ixs_l, ixs_m, st_m, st_l, wrC, readC, getE, fits, TD.fit, optO, runN_succ, more_n, more_exit, more_ret, -List.getD_eq_getElem?_getD, ru, ruc, vK, putU, putK, arithK, intK, faK, hd1, ofV, lenSK, AV.nol, enumL, AV.nol.nols, loadC, loadS, extK, extK.extL, notK, nilckK, callvK, laid]) | (refine And.intro ?_ ?_) | simp -implicitDefEqProofs [ha, bld125, ld1_e, ld1_l, ld1_m, ldA_e, ldA_l, ldA_m, ldcm33, ldcm29, ixs_l, ixs_m, st_m, st_l, wrC, readC, getE, fits, TD.fit, optO, runN_succ, more_n, more_exit, more_ret, -List.getD_eq_getElem?_getD, ru, ruc, vK, putU, putK, arithK, intK, faK, hd1, ofV, lenSK, AV.nol, enumL, AV.nol.nols, loadC, loadS, extK, extK.extL, notK, nilckK, callvK, laid])
  all_goals simp only [Bool.not_eq_true', Bool.not_eq_false', decide_eq_true_eq, decide_eq_false_iff_not] at *
  · simp_all
  · simp_all
end
end Go.Ab
end
section
/- Sending; taking an element out. -/
set_option linter.unusedSimpArgs false
set_option linter.unusedVariables false
set_option maxRecDepth 100000
namespace Go.Ab

section
variable {α : Type} {h : List AObj} {sz t e : Nat} {c : α → List AV} {v : AV} {l : List α} {ti ei : TI}
/-- append(s[:i], s[i+1:]...) -/
theorem flat_take {sz : Nat} {c : α → List AV} (hc : ∀ x, (c x).length = sz) (l : List α) (i : Nat) (hi : i ≤ l.length) : ((l.map c).flatten).take (i * sz) = ((l.take i).map c).flatten := by
  have : l.map c = (l.take i).map c ++ (l.drop i).map c := by rw [← List.map_append, List.take_append_drop]
  rw [this, List.flatten_append, List.take_left' (by rw [flat_len hc, List.length_take, Nat.min_eq_left hi])]
theorem flat_drop {sz : Nat} {c : α → List AV} (hc : ∀ x, (c x).length = sz) (l : List α) (i : Nat) (hi : i ≤ l.length) : ((l.map c).flatten).drop (i * sz) = ((l.drop i).map c).flatten := by
  have : l.map c = (l.take i).map c ++ (l.drop i).map c := by rw [← List.map_append, List.take_append_drop]
  rw [this, List.flatten_append, List.drop_left' (by rw [flat_len hc, List.length_take, Nat.min_eq_left hi])]

variable {id n : Nat} {cs rest : List AV} {i : Nat} {ki kj : IntKind}
theorem slc_pre {K : AV → Prop} (h1 : T.get t = some ti) (h2 : ti.d = .slice e) (h3 : T.get e = some ei) (h4 : ei.size = sz) (hi : i ≤ n) (hK : K (.msl id sz 0 i)) : sliceK T t (.msl id sz 0 n) none (some (.int .i64 i)) none K := by
  simp only [sliceK, h1, h2, h3, boundsK]
  refine ⟨h4, by omega, by omega, .inl ⟨.inl trivial, ?_⟩⟩
  simpa using hK
theorem slc_suf {K : AV → Prop} {j : Int} (h1 : T.get t = some ti) (h2 : ti.d = .slice e) (h3 : T.get e = some ei) (h4 : ei.size = sz) (hj : j = (i : Int)) (hi : i ≤ n) (hK1 : i < n → K (.msl id sz (i * sz) (n - i))) (hK2 : i = n → K (.sl false sz [] .no)) : sliceK T t (.msl id sz 0 n) (some (.int .i64 j)) none none K := by
  subst hj
  simp only [sliceK, h1, h2, h3, boundsK]
  refine ⟨h4, by omega, by omega, ?_⟩
  rcases Nat.lt_or_ge i n with hlt | hge
  · refine .inl ⟨.inr (by simpa using hlt), ?_⟩
    simpa using hK1 hlt
  · have : i = n := by omega
    exact .inr ⟨by simpa using this, hK2 this⟩
theorem slc_three {K : AV → Prop} {a b : Int} (h1 : T.get t = some ti) (h2 : ti.d = .slice e) (h3 : T.get e = some ei) (ha : 0 ≤ a) (hb : a ≤ b) (hn : b ≤ n) (hK : K .undef) : sliceK T t (.msl id sz 0 n) (some (.int .i64 a)) (some (.int .i64 b)) (some (.int .i64 n)) K := by
  simp only [sliceK, h1, h2, h3, boundsK]
  exact ⟨rfl, ha, hb, hn, by omega, Int.le_refl _, hK⟩
theorem app_del {K : AV → List AObj → Prop} (hsz : sz ≠ 0) (hc : ∀ x, (c x).length = sz) (h1 : T.get t = some ti) (h2 : ti.d = .slice e) (h3 : T.get e = some ei) (h4 : ei.size = sz) (hb : ei.bytes ≠ 0) (hb2 : ei.bytes ≤ 1000) (hl : l.length < 1000000)
    (hid : h[id]? = some (.cells cs n)) (hn : cs.length = n) (hcs : cs = (l.map c).flatten ++ rest) (hi : i < l.length) {y : AV} (hy : (i + 1 < l.length ∧ y = .msl id sz ((i + 1) * sz) (l.length - (i + 1))) ∨ (i + 1 = l.length ∧ y = .sl false sz [] .no))
    (hK : ∀ rest', K (.msl id sz 0 (l.length - 1)) (h.set id (.cells (((l.eraseIdx i).map c).flatten ++ rest') n)) ∨ rest'.length < sz ∨ ((l.eraseIdx i).map c).flatten.length + rest'.length ≠ n) : appendK T false t t (.msl id sz 0 i) y h K := by
  subst h4
  have hfl := flat_len hc l
  have hlen : cs.length = l.length * ei.size + rest.length := by rw [hcs, List.length_append, hfl]
  have her : l.eraseIdx i = l.take i ++ l.drop (i + 1) := List.eraseIdx_eq_take_drop_succ ..
  have hmul : (i + 1 + (l.length - (i + 1))) * ei.size = l.length * ei.size := by rw [show i + 1 + (l.length - (i + 1)) = l.length by omega]
  have hi1 : (i + 1) * ei.size = i * ei.size + ei.size := by rw [Nat.add_mul, Nat.one_mul]
  have hle : (i + 1) * ei.size ≤ l.length * ei.size := Nat.mul_le_mul_right _ hi
  -- what is laid
  have ys : ((l.drop (i + 1)).map c).length = l.length - (i + 1) := by simp
  have yl : (((l.drop (i + 1)).map c).flatten).length = (l.length - (i + 1)) * ei.size := by rw [flat_len hc]; simp
  have hsub : (l.length - (i + 1)) * ei.size + (i + 1) * ei.size = l.length * ei.size := by rw [← Nat.add_mul, Nat.sub_add_cancel hi]
  have hlaid : laid cs (0 + i * ei.size) ((l.drop (i + 1)).map c).flatten = ((l.eraseIdx i).map c).flatten ++ cs.drop (i * ei.size + (l.length - (i + 1)) * ei.size) := by
    unfold laid
    rw [yl, Nat.zero_add, her, List.map_append, List.flatten_append]
    congr 2
    rw [hcs, List.take_append_of_le_length (by rw [hfl]; omega), flat_take hc l i (by omega)]
  have hres := hK (cs.drop (i * ei.size + (l.length - (i + 1)) * ei.size))
  have hrl : (cs.drop (i * ei.size + (l.length - (i + 1)) * ei.size)).length = ei.size + rest.length := by rw [List.length_drop, hlen]; omega
  have hel : ((l.eraseIdx i).map c).flatten.length = i * ei.size + (l.length - (i + 1)) * ei.size := by
    rw [flat_len hc, her, List.length_append, List.length_take, List.length_drop, Nat.min_eq_left (by omega), Nat.add_mul]
  have hfin : K (.msl id ei.size 0 (l.length - 1)) (h.set id (.cells (((l.eraseIdx i).map c).flatten ++ cs.drop (i * ei.size + (l.length - (i + 1)) * ei.size)) n)) := by
    rcases hres with h | h | h
    · exact h
    · rw [hrl] at h; omega
    · rw [hel, hrl] at h; omega
  have hb47 : (i + (l.length - (i + 1))) * ei.bytes ≤ 140737488355328 := Nat.le_trans (Nat.mul_le_mul (show i + (l.length - (i + 1)) ≤ 1000000 by omega) hb2) (by decide)
  rcases hy with ⟨hlt, rfl⟩ | ⟨heq, rfl⟩
  · simp only [appendK, srcK, h1, h2, h3]
    refine ⟨hsz, hb, trivial, (l.drop (i + 1)).map c, by simp, fun y hy => (by obtain ⟨x, _, rfl⟩ := List.mem_map.1 hy; exact hc x), ?_, trivial, ?_, cs, n, hid, by omega, fun hin => ?_, fun hgr => ?_⟩
    · refine ⟨cs, n, hid, by rw [yl]; omega, ?_⟩
      rw [yl, hcs, List.drop_append_of_le_length (by rw [hfl]; omega), flat_drop hc l (i + 1) (by omega), List.take_left' yl]
    · simpa using hb47
    · rw [hlaid]
      rw [ys, show i + (l.length - (i + 1)) = l.length - 1 by omega]
      exact hfin
    · exfalso
      rw [ys, Nat.add_mul] at hgr
      omega
  · simp only [appendK, srcK, h1, h2, h3]
    have hd : l.drop (i + 1) = [] := List.drop_eq_nil_of_le (by omega)
    rw [hd] at hlaid
    refine ⟨hsz, hb, fun _ => trivial, trivial, ?_, cs, n, hid, by omega, fun hin => ?_, fun hgr => ?_⟩
    · have : i + (l.length - (i + 1)) = i := by omega
      rw [this] at hb47
      simpa using hb47
    · simp only [List.map_nil] at hlaid
      rw [hlaid]
      rw [show i + [].length = l.length - 1 by simp; omega]
      exact hfin
    · exfalso
      simp only [List.length_nil, Nat.add_zero] at hgr
      omega
/-- Clearing what lies behind. -/
theorem clr_last {K : List AObj → Prop} (hsz : sz ≠ 0) (hc : ∀ x, (c x).length = sz) (h1 : T.get t = some ti) (h2 : ti.d = .slice e) (h3 : T.get e = some ei) (h4 : ei.size = sz) (hz : ei.zero.length = sz) (hzn : ei.zero.all AV.nol = true)
    (hid : h[id]? = some (.cells ((l.map c).flatten ++ rest) n)) (hr : sz ≤ rest.length) (hK : K (h.set id (.cells ((l.map c).flatten ++ (ei.zero ++ rest.drop sz)) n))) : clearK T t (.msl id sz (l.length * sz) 1) h K := by
  simp only [clearK, h1, h2, h3]
  refine ⟨h4, ?_, hzn, _, n, hid, by rw [List.length_append, flat_len hc]; omega, ?_⟩
  · intro e0; rw [e0] at hz; simp at hz; omega
  · rw [laid_mid (by rw [flat_len hc])]
    simpa [hz] using hK
theorem ovr_last {K : AV → Prop} {a b : Int} (hsz : sz ≠ 0) (h1 : T.get t = some ti) (h2 : ti.d = .slice e) (h3 : T.get e = some ei) (h4 : ei.size = sz) {m : Nat} (hid : h[id]? = some (.cells cs n)) (ha : a = (m : Int)) (hb : b = ((m + 1 : Nat) : Int)) (hn : (m + 1) * sz ≤ n) (hK : K (.msl id sz (m * sz) 1)) : overK T t (.msl id sz 0 m) (some (.int .i64 a)) (some (.int .i64 b)) h K := by
  subst ha hb h4
  simp only [overK, h1, h2, h3, boundsK]
  have : m + 1 ≤ (n - 0) / ei.size := by rw [Nat.le_div_iff_mul_le (by omega)]; simpa using hn
  refine ⟨trivial, hsz, cs, n, hid, rfl, by omega, by omega, by omega, .inr (by omega), ?_⟩
  have e1 : ((m + 1 : Nat) : Int).toNat - ((m : Nat) : Int).toNat = 1 := by omega
  rw [e1]
  simpa using hK
end

section
variable {C : CX} {h : List AObj} {K : AV → List AObj → Prop} {id n : Nat} {cs rest : List AV} {i : Nat} {ii jj : Int}
/-- slices.Delete of one element. -/
theorem delete124 {l : List Letter} (hl : l.length < 1000000) (hid : h[id]? = some (.cells cs n)) (hn : cs.length = n) (hcs : cs = (l.map Letter.c).flatten ++ rest) (hi : i < l.length) (hii : ii = (i : Int)) (hjj : jj = (i : Int) + 1)
    (hK : ∀ h', Fr [id] h h' → LV h' 5 Letter.c (.msl id 5 0 (l.length - 1)) (l.eraseIdx i) → K (.msl id 5 0 (l.length - 1)) h') : ACall C Pg 124 [.msl id 5 0 l.length, .int .i64 ii, .int .i64 jj] h K := by
  subst hii hjj
  have hlt := (List.getElem?_eq_some_iff.1 hid).1
  have hel : (l.eraseIdx i).length = l.length - 1 := by rw [List.length_eraseIdx, if_pos hi]
  refine run124 ?_
  simp -implicitDefEqProofs [b124, r124, bld125, ld1_e, ld1_l, ld1_m, ldA_e, ldA_l, ldA_m, ldcm33, ldcm29, ixs_l, ixs_m, st_m, st_l, wrC, readC, getE, fits, TD.fit, optO, runN_succ, more_n, more_exit, more_ret, -List.getD_eq_getElem?_getD, ru, ruc, vK, putU, putK, arithK, intK, faK, hd1, ofV, lenSK, AV.nol, enumL, AV.nol.nols, loadC, loadS, extK, extK.extL, notK, nilckK, callvK, laid]
  refine slc_three T22 rfl T33 (by omega) (by omega) (by omega) ?_
  simp -implicitDefEqProofs [r124, bld125, ld1_e, ld1_l, ld1_m, ldA_e, ldA_l, ldA_m, ldcm33, ldcm29, ixs_l, ixs_m, st_m, st_l, wrC, readC, getE, fits, TD.fit, optO, runN_succ, more_n, more_exit, more_ret, -List.getD_eq_getElem?_getD, ru, ruc, vK, putU, putK, arithK, intK, faK, hd1, ofV, lenSK, AV.nol, enumL, AV.nol.nols, loadC, loadS, extK, extK.extL, notK, nilckK, callvK, laid]
  refine condV_split (fun g => ?_) (fun g => ?_)
  · simp at g; omega
  simp -implicitDefEqProofs [r124, bld125, ld1_e, ld1_l, ld1_m, ldA_e, ldA_l, ldA_m, ldcm33, ldcm29, ixs_l, ixs_m, st_m, st_l, wrC, readC, getE, fits, TD.fit, optO, runN_succ, more_n, more_exit, more_ret, -List.getD_eq_getElem?_getD, ru, ruc, vK, putU, putK, arithK, intK, faK, hd1, ofV, lenSK, AV.nol, enumL, AV.nol.nols, loadC, loadS, extK, extK.extL, notK, nilckK, callvK, laid]
  refine re124_0 ?_
  simp -implicitDefEqProofs [g124_0, bld125, ld1_e, ld1_l, ld1_m, ldA_e, ldA_l, ldA_m, ldcm33, ldcm29, ixs_l, ixs_m, st_m, st_l, wrC, readC, getE, fits, TD.fit, optO, runN_succ, more_n, more_exit, more_ret, -List.getD_eq_getElem?_getD, ru, ruc, vK, putU, putK, arithK, intK, faK, hd1, ofV, lenSK, AV.nol, enumL, AV.nol.nols, loadC, loadS, extK, extK.extL, notK, nilckK, callvK, laid]
  refine slc_pre T22 rfl T33 rfl (by omega) ?_
  simp -implicitDefEqProofs [r124, bld125, ld1_e, ld1_l, ld1_m, ldA_e, ldA_l, ldA_m, ldcm33, ldcm29, ixs_l, ixs_m, st_m, st_l, wrC, readC, getE, fits, TD.fit, optO, runN_succ, more_n, more_exit, more_ret, -List.getD_eq_getElem?_getD, ru, ruc, vK, putU, putK, arithK, intK, faK, hd1, ofV, lenSK, AV.nol, enumL, AV.nol.nols, loadC, loadS, extK, extK.extL, notK, nilckK, callvK, laid]
  refine slc_suf (i := i + 1) T22 rfl T33 rfl (by omega) (by omega) (fun g1 => ?_) (fun g1 => ?_)
  all_goals simp -implicitDefEqProofs [r124, bld125, ld1_e, ld1_l, ld1_m, ldA_e, ldA_l, ldA_m, ldcm33, ldcm29, ixs_l, ixs_m, st_m, st_l, wrC, readC, getE, fits, TD.fit, optO, runN_succ, more_n, more_exit, more_ret, -List.getD_eq_getElem?_getD, ru, ruc, vK, putU, putK, arithK, intK, faK, hd1, ofV, lenSK, AV.nol, enumL, AV.nol.nols, loadC, loadS, extK, extK.extL, notK, nilckK, callvK, laid]
  all_goals (
    refine app_del (l := l) (by decide) lenL T22 rfl T33 rfl (by decide) (by decide) hl hid hn hcs hi (by first | exact .inl ⟨g1, rfl⟩ | exact .inr ⟨g1, rfl⟩) fun rest' => ?_
    by_cases h1 : rest'.length < 5
    · exact .inr (.inl h1)
    by_cases h2 : ((l.eraseIdx i).map Letter.c).flatten.length + rest'.length ≠ n
    · exact .inr (.inr h2)
    refine .inl ?_
    have hset : ∀ o, (h.set id o)[id]? = some o := fun o => List.getElem?_set_self hlt
    have h3 := flat_len lenL (l.eraseIdx i)
    rw [hel] at h3
    simp -implicitDefEqProofs [r124, ovr_last, bld125, ld1_e, ld1_l, ld1_m, ldA_e, ldA_l, ldA_m, ldcm33, ldcm29, ixs_l, ixs_m, st_m, st_l, wrC, readC, getE, fits, TD.fit, optO, runN_succ, more_n, more_exit, more_ret, -List.getD_eq_getElem?_getD, ru, ruc, vK, putU, putK, arithK, intK, faK, hd1, ofV, lenSK, AV.nol, enumL, AV.nol.nols, loadC, loadS, extK, extK.extL, notK, nilckK, callvK, laid]
    refine ovr_last (sz := 5) (m := l.length - 1) (cs := ((l.eraseIdx i).map Letter.c).flatten ++ rest') (n := n) (by decide) T22 rfl T33 rfl (hset _) rfl (by omega) (by omega) ?_
    simp -implicitDefEqProofs [r124, bld125, ld1_e, ld1_l, ld1_m, ldA_e, ldA_l, ldA_m, ldcm33, ldcm29, ixs_l, ixs_m, st_m, st_l, wrC, readC, getE, fits, TD.fit, optO, runN_succ, more_n, more_exit, more_ret, -List.getD_eq_getElem?_getD, ru, ruc, vK, putU, putK, arithK, intK, faK, hd1, ofV, lenSK, AV.nol, enumL, AV.nol.nols, loadC, loadS, extK, extK.extL, notK, nilckK, callvK, laid]
    rw [← hel]
    refine clr_last (sz := 5) (l := l.eraseIdx i) (rest := rest') (n := n) (by decide) lenL T22 rfl T33 rfl (by decide) (by decide) (hset _) (by omega) ?_
    rw [hel]
    simp -implicitDefEqProofs [r124, List.set_set, bld125, ld1_e, ld1_l, ld1_m, ldA_e, ldA_l, ldA_m, ldcm33, ldcm29, ixs_l, ixs_m, st_m, st_l, wrC, readC, getE, fits, TD.fit, optO, runN_succ, more_n, more_exit, more_ret, -List.getD_eq_getElem?_getD, ru, ruc, vK, putU, putK, arithK, intK, faK, hd1, ofV, lenSK, AV.nol, enumL, AV.nol.nols, loadC, loadS, extK, extK.extL, notK, nilckK, callvK, laid]
    refine hK _ Fr.set (.inr ⟨id, _, n, _, by rw [hel], hset _, ?_, rfl⟩)
    simp only [List.length_append, h3, List.length_drop, List.length_cons, List.length_nil]
    omega)

/-- slices.Delete of one element. -/
theorem delete121 {l : List Timer} (hl : l.length < 1000000) (hid : h[id]? = some (.cells cs n)) (hn : cs.length = n) (hcs : cs = (l.map Timer.c).flatten ++ rest) (hi : i < l.length) (hii : ii = (i : Int)) (hjj : jj = (i : Int) + 1)
    (hK : ∀ h', Fr [id] h h' → LV h' 3 Timer.c (.msl id 3 0 (l.length - 1)) (l.eraseIdx i) → K (.msl id 3 0 (l.length - 1)) h') : ACall C Pg 121 [.msl id 3 0 l.length, .int .i64 ii, .int .i64 jj] h K := by
  subst hii hjj
  have hlt := (List.getElem?_eq_some_iff.1 hid).1
  have hel : (l.eraseIdx i).length = l.length - 1 := by rw [List.length_eraseIdx, if_pos hi]
  refine run121 ?_
  simp -implicitDefEqProofs [b121, r121, bld125, ld1_e, ld1_l, ld1_m, ldA_e, ldA_l, ldA_m, ldcm33, ldcm29, ixs_l, ixs_m, st_m, st_l, wrC, readC, getE, fits, TD.fit, optO, runN_succ, more_n, more_exit, more_ret, -List.getD_eq_getElem?_getD, ru, ruc, vK, putU, putK, arithK, intK, faK, hd1, ofV, lenSK, AV.nol, enumL, AV.nol.nols, loadC, loadS, extK, extK.extL, notK, nilckK, callvK, laid]
  refine slc_three T24 rfl T86 (by omega) (by omega) (by omega) ?_
  simp -implicitDefEqProofs [r121, bld125, ld1_e, ld1_l, ld1_m, ldA_e, ldA_l, ldA_m, ldcm33, ldcm29, ixs_l, ixs_m, st_m, st_l, wrC, readC, getE, fits, TD.fit, optO, runN_succ, more_n, more_exit, more_ret, -List.getD_eq_getElem?_getD, ru, ruc, vK, putU, putK, arithK, intK, faK, hd1, ofV, lenSK, AV.nol, enumL, AV.nol.nols, loadC, loadS, extK, extK.extL, notK, nilckK, callvK, laid]
  refine condV_split (fun g => ?_) (fun g => ?_)
  · simp at g; omega
  simp -implicitDefEqProofs [r121, bld125, ld1_e, ld1_l, ld1_m, ldA_e, ldA_l, ldA_m, ldcm33, ldcm29, ixs_l, ixs_m, st_m, st_l, wrC, readC, getE, fits, TD.fit, optO, runN_succ, more_n, more_exit, more_ret, -List.getD_eq_getElem?_getD, ru, ruc, vK, putU, putK, arithK, intK, faK, hd1, ofV, lenSK, AV.nol, enumL, AV.nol.nols, loadC, loadS, extK, extK.extL, notK, nilckK, callvK, laid]
  refine re121_0 ?_
  simp -implicitDefEqProofs [g121_0, bld125, ld1_e, ld1_l, ld1_m, ldA_e, ldA_l, ldA_m, ldcm33, ldcm29, ixs_l, ixs_m, st_m, st_l, wrC, readC, getE, fits, TD.fit, optO, runN_succ, more_n, more_exit, more_ret, -List.getD_eq_getElem?_getD, ru, ruc, vK, putU, putK, arithK, intK, faK, hd1, ofV, lenSK, AV.nol, enumL, AV.nol.nols, loadC, loadS, extK, extK.extL, notK, nilckK, callvK, laid]
  refine slc_pre T24 rfl T86 rfl (by omega) ?_
  simp -implicitDefEqProofs [r121, bld125, ld1_e, ld1_l, ld1_m, ldA_e, ldA_l, ldA_m, ldcm33, ldcm29, ixs_l, ixs_m, st_m, st_l, wrC, readC, getE, fits, TD.fit, optO, runN_succ, more_n, more_exit, more_ret, -List.getD_eq_getElem?_getD, ru, ruc, vK, putU, putK, arithK, intK, faK, hd1, ofV, lenSK, AV.nol, enumL, AV.nol.nols, loadC, loadS, extK, extK.extL, notK, nilckK, callvK, laid]
  refine slc_suf (i := i + 1) T24 rfl T86 rfl (by omega) (by omega) (fun g1 => ?_) (fun g1 => ?_)
  all_goals simp -implicitDefEqProofs [r121, bld125, ld1_e, ld1_l, ld1_m, ldA_e, ldA_l, ldA_m, ldcm33, ldcm29, ixs_l, ixs_m, st_m, st_l, wrC, readC, getE, fits, TD.fit, optO, runN_succ, more_n, more_exit, more_ret, -List.getD_eq_getElem?_getD, ru, ruc, vK, putU, putK, arithK, intK, faK, hd1, ofV, lenSK, AV.nol, enumL, AV.nol.nols, loadC, loadS, extK, extK.extL, notK, nilckK, callvK, laid]
  all_goals (
    refine app_del (l := l) (by decide) lenT T24 rfl T86 rfl (by decide) (by decide) hl hid hn hcs hi (by first | exact .inl ⟨g1, rfl⟩ | exact .inr ⟨g1, rfl⟩) fun rest' => ?_
    by_cases h1 : rest'.length < 3
    · exact .inr (.inl h1)
    by_cases h2 : ((l.eraseIdx i).map Timer.c).flatten.length + rest'.length ≠ n
    · exact .inr (.inr h2)
    refine .inl ?_
    have hset : ∀ o, (h.set id o)[id]? = some o := fun o => List.getElem?_set_self hlt
    have h3 := flat_len lenT (l.eraseIdx i)
    rw [hel] at h3
    simp -implicitDefEqProofs [r121, ovr_last, bld125, ld1_e, ld1_l, ld1_m, ldA_e, ldA_l, ldA_m, ldcm33, ldcm29, ixs_l, ixs_m, st_m, st_l, wrC, readC, getE, fits, TD.fit, optO, runN_succ, more_n, more_exit, more_ret, -List.getD_eq_getElem?_getD, ru, ruc, vK, putU, putK, arithK, intK, faK, hd1, ofV, lenSK, AV.nol, enumL, AV.nol.nols, loadC, loadS, extK, extK.extL, notK, nilckK, callvK, laid]
    refine ovr_last (sz := 3) (m := l.length - 1) (cs := ((l.eraseIdx i).map Timer.c).flatten ++ rest') (n := n) (by decide) T24 rfl T86 rfl (hset _) rfl (by omega) (by omega) ?_
    simp -implicitDefEqProofs [r121, bld125, ld1_e, ld1_l, ld1_m, ldA_e, ldA_l, ldA_m, ldcm33, ldcm29, ixs_l, ixs_m, st_m, st_l, wrC, readC, getE, fits, TD.fit, optO, runN_succ, more_n, more_exit, more_ret, -List.getD_eq_getElem?_getD, ru, ruc, vK, putU, putK, arithK, intK, faK, hd1, ofV, lenSK, AV.nol, enumL, AV.nol.nols, loadC, loadS, extK, extK.extL, notK, nilckK, callvK, laid]
    rw [← hel]
    refine clr_last (sz := 3) (l := l.eraseIdx i) (rest := rest') (n := n) (by decide) lenT T24 rfl T86 rfl (by decide) (by decide) (hset _) (by omega) ?_
    rw [hel]
    simp -implicitDefEqProofs [r121, List.set_set, bld125, ld1_e, ld1_l, ld1_m, ldA_e, ldA_l, ldA_m, ldcm33, ldcm29, ixs_l, ixs_m, st_m, st_l, wrC, readC, getE, fits, TD.fit, optO, runN_succ, more_n, more_exit, more_ret, -List.getD_eq_getElem?_getD, ru, ruc, vK, putU, putK, arithK, intK, faK, hd1, ofV, lenSK, AV.nol, enumL, AV.nol.nols, loadC, loadS, extK, extK.extL, notK, nilckK, callvK, laid]
    refine hK _ Fr.set (.inr ⟨id, _, n, _, by rw [hel], hset _, ?_, rfl⟩)
    simp only [List.length_append, h3, List.length_drop, List.length_cons, List.length_nil]
    omega)

end
end Go.Ab
end
section
/- Losing, doubling and delaying letters. -/
set_option linter.unusedSimpArgs false
set_option linter.unusedVariables false
set_option maxRecDepth 100000
namespace Go.Ab

section
variable {α : Type} {h : List AObj} {sz : Nat} {c : α → List AV} {l : List α} {id n i : Nat} {rest : List AV}
theorem readC_at {F : List AV → Prop} (hc : ∀ x, (c x).length = sz) (hid : h[id]? = some (.cells ((l.map c).flatten ++ rest) n)) (hi : i < l.length) (hF : F (c l[i])) : readC h id (i * sz) sz F := by
  unfold readC
  rw [hid]
  have h1 := flat_len hc l
  have h2 : (i + 1) * sz ≤ l.length * sz := Nat.mul_le_mul_right _ hi
  have h3 : (i + 1) * sz = i * sz + sz := by rw [Nat.add_mul, Nat.one_mul]
  refine ⟨by rw [List.length_append, h1]; omega, ?_⟩
  rw [List.drop_append_of_le_length (by rw [h1]; omega), flat_drop hc l i (by omega), List.drop_eq_getElem_cons hi, List.map_cons, List.flatten_cons, List.append_assoc, List.take_left' (hc _)]
  exact hF
theorem LV.obj {v : AV} (hv : LV h sz c v l) (hi : i < l.length) : ∃ id n rest, v = .msl id sz 0 l.length ∧ h[id]? = some (.cells ((l.map c).flatten ++ rest) n) ∧ ((l.map c).flatten ++ rest).length = n := by
  rcases hv with ⟨rfl, _⟩ | ⟨id, cs, n, rest, h1, h2, h3, rfl⟩
  · simp at hi
  · exact ⟨id, n, rest, h1, h2, h3⟩
end

section
variable {C : CX} {h : List AObj} {K : AV → List AObj → Prop} {id n : Nat} {cs rest : List AV} {i : Nat} {ii jj : Int} {x : Net} {A B D : AV} {cid : Nat}
theorem without113 {l : List Letter} {v : AV} (hl : l.length < 1000000) (hv : LV h 5 Letter.c v l) (hi : i < l.length) (hii : ii = (i : Int))
    (hK : ∀ v' h', vid v' = vid v → Fr (vid v) h h' → LV h' 5 Letter.c v' (l.eraseIdx i) → K (.tup [v', .agg (Letter.c l[i])]) h') : ACall C Pg 113 [v, .int .i64 ii] h K := by
  subst hii
  obtain ⟨id, n, rest, rfl, hid, hn⟩ := hv.obj hi
  refine run113 ?_
  simp -implicitDefEqProofs [b113, r113, bld125, ld1_e, ld1_l, ld1_m, ldA_e, ldA_l, ldA_m, ldcm33, ldcm29, ixs_l, ixs_m, st_m, st_l, getE, fits, TD.fit, optO, runN_succ, more_n, more_exit, more_ret, -List.getD_eq_getElem?_getD, ru, ruc, vK, putU, putK, arithK, intK, faK, hd1, ofV, lenSK, AV.nol, enumL, AV.nol.nols, loadC, loadS, extK, extK.extL, notK, nilckK, callvK]
  refine ⟨by omega, readC_at (l := l) lenL hid hi ?_⟩
  simp -implicitDefEqProofs [r113, Letter.c, bld125, ld1_e, ld1_l, ld1_m, ldA_e, ldA_l, ldA_m, ldcm33, ldcm29, ixs_l, ixs_m, st_m, st_l, wrC, readC, getE, fits, TD.fit, optO, runN_succ, more_n, more_exit, more_ret, -List.getD_eq_getElem?_getD, ru, ruc, vK, putU, putK, arithK, intK, faK, hd1, ofV, lenSK, AV.nol, enumL, AV.nol.nols, loadC, loadS, extK, extK.extL, notK, nilckK, callvK, laid]
  refine re113_0 ?_
  simp -implicitDefEqProofs [g113_0, wrap_id, bld125, ld1_e, ld1_l, ld1_m, ldA_e, ldA_l, ldA_m, ldcm33, ldcm29, ixs_l, ixs_m, st_m, st_l, wrC, readC, getE, fits, TD.fit, optO, runN_succ, more_n, more_exit, more_ret, -List.getD_eq_getElem?_getD, ru, ruc, vK, putU, putK, arithK, intK, faK, hd1, ofV, lenSK, AV.nol, enumL, AV.nol.nols, loadC, loadS, extK, extK.extL, notK, nilckK, callvK, laid]
  refine ⟨?_, ?_⟩
  all_goals (
    refine delete124 hl hid hn rfl hi rfl (by rw [wrap_id (by omega) (by omega)]) fun h' hf hv' => ?_
    simp -implicitDefEqProofs [r113, bld125, ld1_e, ld1_l, ld1_m, ldA_e, ldA_l, ldA_m, ldcm33, ldcm29, ixs_l, ixs_m, st_m, st_l, wrC, readC, getE, fits, TD.fit, optO, runN_succ, more_n, more_exit, more_ret, -List.getD_eq_getElem?_getD, ru, ruc, vK, putU, putK, arithK, intK, faK, hd1, ofV, lenSK, AV.nol, enumL, AV.nol.nols, loadC, loadS, extK, extK.extL, notK, nilckK, callvK, laid]
    exact hK _ h' rfl hf hv')
theorem without98 {l : List Timer} {v : AV} (hl : l.length < 1000000) (hv : LV h 3 Timer.c v l) (hi : i < l.length) (hii : ii = (i : Int))
    (hK : ∀ v' h', vid v' = vid v → Fr (vid v) h h' → LV h' 3 Timer.c v' (l.eraseIdx i) → K (.tup [v', .agg (Timer.c l[i])]) h') : ACall C Pg 98 [v, .int .i64 ii] h K := by
  subst hii
  obtain ⟨id, n, rest, rfl, hid, hn⟩ := hv.obj hi
  refine run98 ?_
  simp -implicitDefEqProofs [b98, r98, bld125, ld1_e, ld1_l, ld1_m, ldA_e, ldA_l, ldA_m, ldcm33, ldcm29, ixs_l, ixs_m, st_m, st_l, getE, fits, TD.fit, optO, runN_succ, more_n, more_exit, more_ret, -List.getD_eq_getElem?_getD, ru, ruc, vK, putU, putK, arithK, intK, faK, hd1, ofV, lenSK, AV.nol, enumL, AV.nol.nols, loadC, loadS, extK, extK.extL, notK, nilckK, callvK]
  refine ⟨by omega, readC_at (l := l) lenT hid hi ?_⟩
  simp -implicitDefEqProofs [r98, Timer.c, bld125, ld1_e, ld1_l, ld1_m, ldA_e, ldA_l, ldA_m, ldcm33, ldcm29, ixs_l, ixs_m, st_m, st_l, wrC, readC, getE, fits, TD.fit, optO, runN_succ, more_n, more_exit, more_ret, -List.getD_eq_getElem?_getD, ru, ruc, vK, putU, putK, arithK, intK, faK, hd1, ofV, lenSK, AV.nol, enumL, AV.nol.nols, loadC, loadS, extK, extK.extL, notK, nilckK, callvK, laid]
  refine re98_0 ?_
  simp -implicitDefEqProofs [g98_0, wrap_id, bld125, ld1_e, ld1_l, ld1_m, ldA_e, ldA_l, ldA_m, ldcm33, ldcm29, ixs_l, ixs_m, st_m, st_l, wrC, readC, getE, fits, TD.fit, optO, runN_succ, more_n, more_exit, more_ret, -List.getD_eq_getElem?_getD, ru, ruc, vK, putU, putK, arithK, intK, faK, hd1, ofV, lenSK, AV.nol, enumL, AV.nol.nols, loadC, loadS, extK, extK.extL, notK, nilckK, callvK, laid]
  refine ⟨?_, ?_⟩
  all_goals (
    refine delete121 hl hid hn rfl hi rfl (by rw [wrap_id (by omega) (by omega)]) fun h' hf hv' => ?_
    simp -implicitDefEqProofs [r98, bld125, ld1_e, ld1_l, ld1_m, ldA_e, ldA_l, ldA_m, ldcm33, ldcm29, ixs_l, ixs_m, st_m, st_l, wrC, readC, getE, fits, TD.fit, optO, runN_succ, more_n, more_exit, more_ret, -List.getD_eq_getElem?_getD, ru, ruc, vK, putU, putK, arithK, intK, faK, hd1, ofV, lenSK, AV.nol, enumL, AV.nol.nols, loadC, loadS, extK, extK.extL, notK, nilckK, callvK, laid]
    exact hK _ h' rfl hf hv')

/-- The letter at a place is taken out. -/
def dropX (x : Net) (i : Nat) : Net := { x with way := x.way.eraseIdx i }
theorem lose78 (hc : Chg h cid x A B D) (hw : x.way.length < 1000000)
    (hK1 : ¬ (0 ≤ ii ∧ ii < x.way.length) → K (.tup [.agg (Letter.c ⟨0, 0, 0, 0, []⟩), .int .i64 4]) h)
    (hK : ∀ i (hi : i < x.way.length), ii = (i : Int) → ∀ h' A', Fr (cid :: vid A) h h' → Chg h' cid (dropX x i) A' B D → vid A' = vid A → K (.tup [.agg (Letter.c x.way[i]), .int .i64 0]) h') : ACall C Pg 78 [.mptr cid 0, .int .i64 ii] h K := by
  have ha := hc.all
  have hcl := hc.clt
  obtain ⟨o1, o2, o3, o4, o5⟩ := hc.other
  repeat' (first | (exact same_n rfl rfl (by repeat (first | exact Sk.refl | refine Sk.cons rfl ?_)) (by repeat (first | exact True.intro | refine And.intro rfl ?_))) | (first | exact step_1 rfl | exact step_2 rfl (by assumption)) | (refine has112 hc ?_ <;> try simp -implicitDefEqProofs [ha, bld125, ld1_e, ld1_l, ld1_m, ldA_e, ldA_l, ldA_m, ldcm33, ldcm29, ixs_l, ixs_m, st_m, st_l, wrC, readC, getE, fits, TD.fit, optO, runN_succ, more_n, more_exit, more_ret, -List.getD_eq_getElem?_getD, ru, ruc, vK, putU, putK, arithK, intK, faK, hd1, ofV, lenSK, AV.nol, enumL, AV.nol.nols, loadC, loadS, extK, extK.extL, notK, nilckK, callvK, laid]) | (refine guardV_split (fun g => ?_) (fun g => ?_) <;> try simp -implicitDefEqProofs [ha, bld125, ld1_e, ld1_l, ld1_m, ldA_e, ldA_l, ldA_m, ldcm33, ldcm29, ixs_l, ixs_m, st_m, st_l, wrC, readC, getE, fits, TD.fit, optO, runN_succ, more_n, more_exit, more_ret, -List.getD_eq_getElem?_getD, ru, ruc, vK, putU, putK, arithK, intK, faK, hd1, ofV, lenSK, AV.nol, enumL, AV.nol.nols, loadC, loadS, extK, extK.extL, notK, nilckK, callvK, laid]) | (refine condV_split (fun g => ?_) (fun g => ?_) <;> try simp -implicitDefEqProofs [ha, bld125, ld1_e, ld1_l, ld1_m, ldA_e, ldA_l, ldA_m, ldcm33, ldcm29, ixs_l, ixs_m, st_m, st_l, wrC, readC, getE, fits, TD.fit, optO, runN_succ, more_n, more_exit, more_ret, -List.getD_eq_getElem?_getD, ru, ruc, vK, putU, putK, arithK, intK, faK, hd1, ofV, lenSK, AV.nol, enumL, AV.nol.nols, loadC, loadS, extK, extK.extL, notK, nilckK, callvK, laid]) | (refine run78 ?_ <;> simp -implicitDefEqProofs [ha, b78, r78, bld125, ld1_e, ld1_l, ld1_m, ldA_e, ldA_l, ldA_m, ldcm33, ldcm29, ixs_l, ixs_m, st_m, st_l, wrC, readC, getE, fits, TD.fit, optO, runN_succ, more_n, more_exit, more_ret, -List.getD_eq_getElem?_getD, ru, ruc, vK, putU, putK, arithK, intK, faK, hd1, ofV, lenSK, AV.nol, enumL, AV.nol.nols, loadC, loadS, extK, extK.extL, notK, nilckK, callvK, laid]) | (intro _ <;> intros <;> simp -implicitDefEqProofs [ha, *, bld125, ld1_e, ld1_l, ld1_m, ldA_e, ldA_l, ldA_m, ldcm33, ldcm29, ixs_l, ixs_m, st_m, st_l, wrC, readC, getE, fits, TD.fit, optO, runN_succ, more_n, more_exit, more_ret, -List.getD_eq_getElem?_getD, ru, ruc, vK, putU, putK, arithK, intK, faK, hd1, ofV, lenSK, AV.nol, enumL, AV.nol.nols, loadC, loadS, extK, extK.extL, notK, nilckK, callvK, laid]) | (refine And.intro ?_ ?_) | simp -implicitDefEqProofs [ha, bld125, ld1_e, ld1_l, ld1_m, ldA_e, ldA_l, ldA_m, ldcm33, ldcm29, ixs_l, ixs_m, st_m, st_l, wrC, readC, getE, fits, TD.fit, optO, runN_succ, more_n, more_exit, more_ret, -List.getD_eq_getElem?_getD, ru, ruc, vK, putU, putK, arithK, intK, faK, hd1, ofV, lenSK, AV.nol, enumL, AV.nol.nols, loadC, loadS, extK, extK.extL, notK, nilckK, callvK, laid])
  · refine hK1 fun h1 => ?_
    simp at g
    omega
  · simp at g
    obtain ⟨i, rfl⟩ : ∃ i : Nat, ii = i := ⟨ii.toNat, by omega⟩
    have hi : i < x.way.length := by omega
    refine without113 hw hc.way hi rfl fun A' h' hvid hf hA' => ?_
    have hall := hA'.all
    have hcell : h'[cid]? = some (.cells [.int .i64 x.nodes, .int .i64 x.now, .int .i64 x.next, A, B, D] 6) := (hf.same cid hcl o1).trans hc.cell
    have hcl' : cid < h'.length := Nat.lt_of_lt_of_le hcl hf.len
    have hset : ∀ o, (h'.set cid o)[cid]? = some o := fun o => List.getElem?_set_self hcl'
    simp -implicitDefEqProofs [r78, ha, hall, hcell, hset, List.set_set, Letter.c, bld125, ld1_e, ld1_l, ld1_m, ldA_e, ldA_l, ldA_m, ldcm33, ldcm29, ixs_l, ixs_m, st_m, st_l, wrC, readC, getE, fits, TD.fit, optO, runN_succ, more_n, more_exit, more_ret, -List.getD_eq_getElem?_getD, ru, ruc, vK, putU, putK, arithK, intK, faK, hd1, ofV, lenSK, AV.nol, enumL, AV.nol.nols, loadC, loadS, extK, extK.extL, notK, nilckK, callvK, laid]
    exact hK i hi rfl _ A' ((hf.sub fun i hi => List.mem_cons_of_mem _ hi).trans (Fr.set.sub (by simp))) (hc.setWay (y := dropX x i) hA' hf (fun j hj => .inl (hvid ▸ hj)) (fun j hj => hA'.lt j hj) rfl rfl) hvid
end
end Go.Ab
end
section
/- Delaying and doubling letters. -/
set_option linter.unusedSimpArgs false
set_option linter.unusedVariables false
set_option maxRecDepth 100000
namespace Go.Ab

def setRdy (l : Letter) (v : Int) : Letter := ⟨l.id, l.fr, l.to, v, l.data⟩
theorem laid_rdy {l : List Letter} {rest : List AV} {i : Nat} {v : Int} (hi : i < l.length) : laid ((l.map Letter.c).flatten ++ rest) (i * 5 + 3) [.int .i64 v] = ((l.set i (setRdy l[i] v)).map Letter.c).flatten ++ rest := by
  have h0 : ((l.take i).map Letter.c).flatten.length = i * 5 := by rw [flat_len lenL, List.length_take, Nat.min_eq_left (by omega)]
  have e1 : (l.map Letter.c).flatten ++ rest = (((l.take i).map Letter.c).flatten ++ [.int .i64 l[i].id, .int .i64 l[i].fr, .int .i64 l[i].to]) ++ (.int .i64 l[i].rdy :: .str l[i].data :: (((l.drop (i + 1)).map Letter.c).flatten ++ rest)) := by
    have : (l.map Letter.c).flatten = ((l.take i ++ l.drop i).map Letter.c).flatten := by rw [List.take_append_drop]
    rw [this, List.drop_eq_getElem_cons hi, List.map_append, List.map_cons, List.flatten_append, List.flatten_cons]
    simp only [Letter.c, List.append_assoc, List.cons_append, List.nil_append]
  have e2 : l.set i (setRdy l[i] v) = l.take i ++ setRdy l[i] v :: l.drop (i + 1) := by rw [List.set_eq_take_append_cons_drop, if_pos hi]
  rw [e1, e2, laid_mid (by rw [List.length_append, h0]; rfl)]
  rw [List.map_append, List.map_cons, List.flatten_append, List.flatten_cons]
  simp only [Letter.c, setRdy, List.append_assoc, List.cons_append, List.nil_append, List.length_singleton, List.drop_succ_cons, List.drop_zero]

theorem wrC_at {h : List AObj} {id off sz n : Nat} {cs : List AV} {F : List AV → Nat → Prop} (hid : h[id]? = some (.cells cs n)) (h1 : off + sz ≤ cs.length) (hF : F cs n) : wrC h id off sz F := by
  unfold wrC
  rw [hid]
  exact ⟨h1, hF⟩

section
variable {C : CX} {h : List AObj} {K : AV → List AObj → Prop} {id n : Nat} {cs rest : List AV} {ii d : Int} {x : Net} {A B D : AV} {cid : Nat}
def delayX (x : Net) (i : Nat) (hi : i < x.way.length) (d : Int) : Net := { x with way := x.way.set i (setRdy x.way[i] (x.now + d)) }
theorem delay82 (hc : Chg h cid x A B D) (hw : x.way.length < 1000000) (hn : 0 ≤ x.now ∧ x.now ≤ 1099511627776)
    (hK1 : ¬ (0 ≤ ii ∧ ii < x.way.length) → K (.tup [.agg (Letter.c ⟨0, 0, 0, 0, []⟩), .int .i64 4]) h)
    (hK2 : (0 ≤ ii ∧ ii < x.way.length) → (d < 0 ∨ 1000 < d) → K (.tup [.agg (Letter.c ⟨0, 0, 0, 0, []⟩), .int .i64 1]) h)
    (hK : ∀ i (hi : i < x.way.length), ii = (i : Int) → 0 ≤ d → d ≤ 1000 → ∀ h' A', Fr (cid :: vid A) h h' → Chg h' cid (delayX x i hi d) A' B D → vid A' = vid A → K (.tup [.agg (Letter.c (setRdy x.way[i] (x.now + d))), .int .i64 0]) h') : ACall C Pg 82 [.mptr cid 0, .int .i64 ii, .int .i64 d] h K := by
  have ha := hc.all
  have hcl := hc.clt
  obtain ⟨o1, o2, o3, o4, o5⟩ := hc.other
  repeat' (first | (exact same_n rfl rfl (by repeat (first | exact Sk.refl | refine Sk.cons rfl ?_)) (by repeat (first | exact True.intro | refine And.intro rfl ?_))) | (first | exact step_1 rfl | exact step_2 rfl (by assumption)) | (refine has112 hc ?_ <;> try simp -implicitDefEqProofs [ha, bld125, ld1_e, ld1_l, ld1_m, ldA_e, ldA_l, ldA_m, ldcm33, ldcm29, ixs_l, ixs_m, st_m, st_l, wrC, readC, getE, fits, TD.fit, optO, runN_succ, more_n, more_exit, more_ret, -List.getD_eq_getElem?_getD, ru, ruc, vK, putU, putK, arithK, intK, faK, hd1, ofV, lenSK, AV.nol, enumL, AV.nol.nols, loadC, loadS, extK, extK.extL, notK, nilckK, callvK, laid]) | (refine guardV_split (fun g => ?_) (fun g => ?_) <;> try simp -implicitDefEqProofs [ha, bld125, ld1_e, ld1_l, ld1_m, ldA_e, ldA_l, ldA_m, ldcm33, ldcm29, ixs_l, ixs_m, st_m, st_l, wrC, readC, getE, fits, TD.fit, optO, runN_succ, more_n, more_exit, more_ret, -List.getD_eq_getElem?_getD, ru, ruc, vK, putU, putK, arithK, intK, faK, hd1, ofV, lenSK, AV.nol, enumL, AV.nol.nols, loadC, loadS, extK, extK.extL, notK, nilckK, callvK, laid]) | (refine condV_split (fun g => ?_) (fun g => ?_) <;> try simp -implicitDefEqProofs [ha, bld125, ld1_e, ld1_l, ld1_m, ldA_e, ldA_l, ldA_m, ldcm33, ldcm29, ixs_l, ixs_m, st_m, st_l, wrC, readC, getE, fits, TD.fit, optO, runN_succ, more_n, more_exit, more_ret, -List.getD_eq_getElem?_getD, ru, ruc, vK, putU, putK, arithK, intK, faK, hd1, ofV, lenSK, AV.nol, enumL, AV.nol.nols, loadC, loadS, extK, extK.extL, notK, nilckK, callvK, laid]) | (refine run82 ?_ <;> simp -implicitDefEqProofs [ha, b82, r82, bld125, ld1_e, ld1_l, ld1_m, ldA_e, ldA_l, ldA_m, ldcm33, ldcm29, ixs_l, ixs_m, st_m, st_l, wrC, readC, getE, fits, TD.fit, optO, runN_succ, more_n, more_exit, more_ret, -List.getD_eq_getElem?_getD, ru, ruc, vK, putU, putK, arithK, intK, faK, hd1, ofV, lenSK, AV.nol, enumL, AV.nol.nols, loadC, loadS, extK, extK.extL, notK, nilckK, callvK, laid]) | (intro _ <;> intros <;> simp -implicitDefEqProofs [ha, *, bld125, ld1_e, ld1_l, ld1_m, ldA_e, ldA_l, ldA_m, ldcm33, ldcm29, ixs_l, ixs_m, st_m, st_l, wrC, readC, getE, fits, TD.fit, optO, runN_succ, more_n, more_exit, more_ret, -List.getD_eq_getElem?_getD, ru, ruc, vK, putU, putK, arithK, intK, faK, hd1, ofV, lenSK, AV.nol, enumL, AV.nol.nols, loadC, loadS, extK, extK.extL, notK, nilckK, callvK, laid]) | (refine And.intro ?_ ?_) | simp -implicitDefEqProofs [ha, bld125, ld1_e, ld1_l, ld1_m, ldA_e, ldA_l, ldA_m, ldcm33, ldcm29, ixs_l, ixs_m, st_m, st_l, wrC, readC, getE, fits, TD.fit, optO, runN_succ, more_n, more_exit, more_ret, -List.getD_eq_getElem?_getD, ru, ruc, vK, putU, putK, arithK, intK, faK, hd1, ofV, lenSK, AV.nol, enumL, AV.nol.nols, loadC, loadS, extK, extK.extL, notK, nilckK, callvK, laid])
  · refine hK1 fun h1 => ?_
    simp at *
    omega
  · refine hK2 ?_ ?_ <;> simp at * <;> omega
  · refine hK2 ?_ ?_ <;> simp at * <;> omega
  · have hb : 0 ≤ ii ∧ ii < x.way.length ∧ 0 ≤ d ∧ d ≤ 1000 := by
      simp at *
      omega
    obtain ⟨i, rfl⟩ : ∃ i : Nat, ii = i := ⟨ii.toNat, by omega⟩
    have hi : i < x.way.length := by omega
    obtain ⟨id, n, rest, rfl, hid, hnn⟩ := hc.way.obj hi
    have hne : id ≠ cid := fun e => o1 (by simp [vid, e])
    have hlt := (List.getElem?_eq_some_iff.1 hid).1
    have hlen := flat_len lenL x.way
    have hm : (i + 1) * 5 ≤ x.way.length * 5 := Nat.mul_le_mul_right _ hi
    have hm2 : (i + 1) * 5 = i * 5 + 5 := by rw [Nat.add_mul, Nat.one_mul]
    have hw1 := wrap_id (n := x.now + d) (by omega) (by omega)
    have hread : ∀ off sz K, readC h cid off sz K = (off + sz ≤ 6 ∧ K (([AV.int .i64 x.nodes, .int .i64 x.now, .int .i64 x.next, .msl id 5 0 x.way.length, B, D].drop off).take sz)) := fun off sz K => by unfold readC; rw [hc.cell]; rfl
    have hsetc : ∀ o off sz K, readC (h.set id o) cid off sz K = (off + sz ≤ 6 ∧ K (([AV.int .i64 x.nodes, .int .i64 x.now, .int .i64 x.next, .msl id 5 0 x.way.length, B, D].drop off).take sz)) := fun o off sz K => by unfold readC; rw [List.getElem?_set_ne hne, hc.cell]; rfl
    refine re82_0 ?_
    simp -implicitDefEqProofs [g82_0, ha, hread, hw1, bld125, ld1_e, ld1_l, ld1_m, ldA_e, ldA_l, ldA_m, ldcm33, ldcm29, ixs_l, ixs_m, st_m, st_l, getE, fits, TD.fit, optO, runN_succ, more_n, more_exit, more_ret, -List.getD_eq_getElem?_getD, ru, ruc, vK, putU, putK, arithK, intK, faK, hd1, ofV, lenSK, AV.nol, enumL, AV.nol.nols, loadC, loadS, extK, extK.extL, notK, nilckK, callvK]
    refine ⟨⟨hi, wrC_at hid (by rw [List.length_append, hlen]; omega) ?_⟩, ⟨hi, wrC_at hid (by rw [List.length_append, hlen]; omega) ?_⟩⟩
    all_goals (
      rw [laid_rdy hi]
      obtain ⟨l', hl'⟩ : ∃ l', l' = x.way.set i (setRdy x.way[i] (x.now + d)) := ⟨_, rfl⟩
      have hl2 : l'.length = x.way.length := by rw [hl']; simp
      have hl3 : ∀ hh : i < l'.length, l'[i] = setRdy x.way[i] (x.now + d) := fun hh => by subst hl'; simp
      rw [← hl']
      simp -implicitDefEqProofs [r82, ha, hsetc, bld125, ld1_e, ld1_l, ld1_m, ldA_e, ldA_l, ldA_m, ldcm33, ldcm29, ixs_l, ixs_m, st_m, st_l, getE, fits, TD.fit, optO, runN_succ, more_n, more_exit, more_ret, -List.getD_eq_getElem?_getD, ru, ruc, vK, putU, putK, arithK, intK, faK, hd1, ofV, lenSK, AV.nol, enumL, AV.nol.nols, loadC, loadS, extK, extK.extL, notK, nilckK, callvK]
      refine ⟨hi, readC_at (l := l') lenL (List.getElem?_set_self hlt) (by rw [hl2]; exact hi) ?_⟩
      rw [hl3]
      simp -implicitDefEqProofs [r82, Letter.c, setRdy, laid, bld125, ld1_e, ld1_l, ld1_m, ldA_e, ldA_l, ldA_m, ldcm33, ldcm29, ixs_l, ixs_m, st_m, st_l, getE, fits, TD.fit, optO, runN_succ, more_n, more_exit, more_ret, -List.getD_eq_getElem?_getD, ru, ruc, vK, putU, putK, arithK, intK, faK, hd1, ofV, lenSK, AV.nol, enumL, AV.nol.nols, loadC, loadS, extK, extK.extL, notK, nilckK, callvK]
      refine hK i hi rfl (by omega) (by omega) _ (.msl id 5 0 x.way.length) ((Fr.set (id := id)).sub (fun j hj => by simp at hj; subst hj; simp [vid])) ?_ rfl
      have := hc.setWay (y := delayX x i hi d) (A' := .msl id 5 0 x.way.length) (h' := h.set id (.cells ((l'.map Letter.c).flatten ++ rest) n)) (.inr ⟨id, _, n, rest, by simp [delayX], List.getElem?_set_self hlt, ?_, by rw [hl']; rfl⟩) ((Fr.set (id := id)).sub (fun j hj => by simp at hj; subst hj; simp [vid])) (fun j hj => .inl hj) (fun j hj => by simp [vid] at hj; subst hj; simpa using hlt) rfl rfl
      · have e : (h.set id (.cells ((l'.map Letter.c).flatten ++ rest) n)).set cid (.cells [.int .i64 x.nodes, .int .i64 x.now, .int .i64 x.next, .msl id 5 0 x.way.length, B, D] 6) = h.set id (.cells ((l'.map Letter.c).flatten ++ rest) n) := by
          apply List.ext_getElem?
          intro k
          by_cases hk : k = cid
          · subst hk
            rw [List.getElem?_set_self (by simpa using hcl), List.getElem?_set_ne hne, hc.cell]
          · rw [List.getElem?_set_ne (Ne.symm hk)]
        simp only [delayX] at this
        rw [e] at this
        exact this
      · rw [List.length_append, flat_len lenL, hl2]; rw [List.length_append, hlen] at hnn; exact hnn)

def doubleX (x : Net) (i : Nat) (hi : i < x.way.length) : Net := { x with way := x.way ++ [x.way[i]] }
theorem double105 (hc : Chg h cid x A B D) (hw : x.way.length < 1000000)
    (hK1 : ¬ (0 ≤ ii ∧ ii < x.way.length) → K (.tup [.agg (Letter.c ⟨0, 0, 0, 0, []⟩), .int .i64 4]) h)
    (hK2 : (0 ≤ ii ∧ ii < x.way.length) → x.way.length = 200 → K (.tup [.agg (Letter.c ⟨0, 0, 0, 0, []⟩), .int .i64 7]) h)
    (hK : ∀ i (hi : i < x.way.length), ii = (i : Int) → x.way.length ≠ 200 → ∀ h' A', Fr (cid :: vid A) h h' → Chg h' cid (doubleX x i hi) A' B D → (∀ j ∈ vid A', j ∈ vid A ∨ h.length ≤ j) → K (.tup [.agg (Letter.c x.way[i]), .int .i64 0]) h') : ACall C Pg 105 [.mptr cid 0, .int .i64 ii] h K := by
  have ha := hc.all
  have hcl := hc.clt
  obtain ⟨o1, o2, o3, o4, o5⟩ := hc.other
  repeat' (first | (exact same_n rfl rfl (by repeat (first | exact Sk.refl | refine Sk.cons rfl ?_)) (by repeat (first | exact True.intro | refine And.intro rfl ?_))) | (first | exact step_1 rfl | exact step_2 rfl (by assumption)) | (refine has112 hc ?_ <;> try simp -implicitDefEqProofs [ha, bld125, ld1_e, ld1_l, ld1_m, ldA_e, ldA_l, ldA_m, ldcm33, ldcm29, ixs_l, ixs_m, st_m, st_l, wrC, readC, getE, fits, TD.fit, optO, runN_succ, more_n, more_exit, more_ret, -List.getD_eq_getElem?_getD, ru, ruc, vK, putU, putK, arithK, intK, faK, hd1, ofV, lenSK, AV.nol, enumL, AV.nol.nols, loadC, loadS, extK, extK.extL, notK, nilckK, callvK, laid]) | (refine guardV_split (fun g => ?_) (fun g => ?_) <;> try simp -implicitDefEqProofs [ha, bld125, ld1_e, ld1_l, ld1_m, ldA_e, ldA_l, ldA_m, ldcm33, ldcm29, ixs_l, ixs_m, st_m, st_l, wrC, readC, getE, fits, TD.fit, optO, runN_succ, more_n, more_exit, more_ret, -List.getD_eq_getElem?_getD, ru, ruc, vK, putU, putK, arithK, intK, faK, hd1, ofV, lenSK, AV.nol, enumL, AV.nol.nols, loadC, loadS, extK, extK.extL, notK, nilckK, callvK, laid]) | (refine condV_split (fun g => ?_) (fun g => ?_) <;> try simp -implicitDefEqProofs [ha, bld125, ld1_e, ld1_l, ld1_m, ldA_e, ldA_l, ldA_m, ldcm33, ldcm29, ixs_l, ixs_m, st_m, st_l, wrC, readC, getE, fits, TD.fit, optO, runN_succ, more_n, more_exit, more_ret, -List.getD_eq_getElem?_getD, ru, ruc, vK, putU, putK, arithK, intK, faK, hd1, ofV, lenSK, AV.nol, enumL, AV.nol.nols, loadC, loadS, extK, extK.extL, notK, nilckK, callvK, laid]) | (refine run105 ?_ <;> simp -implicitDefEqProofs [ha, b105, r105, bld125, ld1_e, ld1_l, ld1_m, ldA_e, ldA_l, ldA_m, ldcm33, ldcm29, ixs_l, ixs_m, st_m, st_l, wrC, readC, getE, fits, TD.fit, optO, runN_succ, more_n, more_exit, more_ret, -List.getD_eq_getElem?_getD, ru, ruc, vK, putU, putK, arithK, intK, faK, hd1, ofV, lenSK, AV.nol, enumL, AV.nol.nols, loadC, loadS, extK, extK.extL, notK, nilckK, callvK, laid]) | (intro _ <;> intros <;> simp -implicitDefEqProofs [ha, *, bld125, ld1_e, ld1_l, ld1_m, ldA_e, ldA_l, ldA_m, ldcm33, ldcm29, ixs_l, ixs_m, st_m, st_l, wrC, readC, getE, fits, TD.fit, optO, runN_succ, more_n, more_exit, more_ret, -List.getD_eq_getElem?_getD, ru, ruc, vK, putU, putK, arithK, intK, faK, hd1, ofV, lenSK, AV.nol, enumL, AV.nol.nols, loadC, loadS, extK, extK.extL, notK, nilckK, callvK, laid]) | (refine And.intro ?_ ?_) | simp -implicitDefEqProofs [ha, bld125, ld1_e, ld1_l, ld1_m, ldA_e, ldA_l, ldA_m, ldcm33, ldcm29, ixs_l, ixs_m, st_m, st_l, wrC, readC, getE, fits, TD.fit, optO, runN_succ, more_n, more_exit, more_ret, -List.getD_eq_getElem?_getD, ru, ruc, vK, putU, putK, arithK, intK, faK, hd1, ofV, lenSK, AV.nol, enumL, AV.nol.nols, loadC, loadS, extK, extK.extL, notK, nilckK, callvK, laid])
  · refine hK1 fun h1 => ?_
    simp at *
    omega
  · refine hK2 ?_ ?_ <;> simp at * <;> omega
  · have hb : 0 ≤ ii ∧ ii < x.way.length ∧ x.way.length ≠ 200 := by
      simp at *
      omega
    obtain ⟨i, rfl⟩ : ∃ i : Nat, ii = i := ⟨ii.toNat, by omega⟩
    have hi : i < x.way.length := by omega
    obtain ⟨id, n, rest, rfl, hid, hnn⟩ := hc.way.obj hi
    have hread : ∀ off sz K, readC h cid off sz K = (off + sz ≤ 6 ∧ K (([AV.int .i64 x.nodes, .int .i64 x.now, .int .i64 x.next, .msl id 5 0 x.way.length, B, D].drop off).take sz)) := fun off sz K => by unfold readC; rw [hc.cell]; rfl
    simp -implicitDefEqProofs [ha, hread, bld125, ld1_e, ld1_l, ld1_m, ldA_e, ldA_l, ldA_m, ldcm33, ldcm29, ixs_l, ixs_m, st_m, st_l, getE, fits, TD.fit, optO, runN_succ, more_n, more_exit, more_ret, -List.getD_eq_getElem?_getD, ru, ruc, vK, putU, putK, arithK, intK, faK, hd1, ofV, lenSK, AV.nol, enumL, AV.nol.nols, loadC, loadS, extK, extK.extL, notK, nilckK, callvK]
    refine ⟨hi, readC_at (l := x.way) lenL hid hi ?_⟩
    simp -implicitDefEqProofs [r105, Letter.c, laid, bld125, ld1_e, ld1_l, ld1_m, ldA_e, ldA_l, ldA_m, ldcm33, ldcm29, ixs_l, ixs_m, st_m, st_l, getE, fits, TD.fit, optO, runN_succ, more_n, more_exit, more_ret, -List.getD_eq_getElem?_getD, ru, ruc, vK, putU, putK, arithK, intK, faK, hd1, ofV, lenSK, AV.nol, enumL, AV.nol.nols, loadC, loadS, extK, extK.extL, notK, nilckK, callvK]
    refine re105_0 ?_
    simp -implicitDefEqProofs [g105_0, ha, List.append_nil, bsl22_1, bld125, ld1_e, ld1_l, ld1_m, ldA_e, ldA_l, ldA_m, ldcm33, ldcm29, ixs_l, ixs_m, st_m, st_l, wrC, readC, getE, fits, TD.fit, optO, runN_succ, more_n, more_exit, more_ret, -List.getD_eq_getElem?_getD, ru, ruc, vK, putU, putK, arithK, intK, faK, hd1, ofV, lenSK, AV.nol, enumL, AV.nol.nols, loadC, loadS, extK, extK.extL, notK, nilckK, callvK, laid]
    refine ⟨?_, ?_, ?_⟩
    all_goals (
      refine LV.append (y := x.way[i]) rfl hc.way (by decide) lenL T22 rfl T33 rfl (by decide) (by decide) hw fun A' h' hA' hf hv hl => ?_
      have hall := hA'.all
      have hcell : h'[cid]? = some (.cells [.int .i64 x.nodes, .int .i64 x.now, .int .i64 x.next, .msl id 5 0 x.way.length, B, D] 6) := (hf.same cid hcl o1).trans hc.cell
      have hcl' : cid < h'.length := Nat.lt_of_lt_of_le hcl hf.len
      have hset : ∀ o, (h'.set cid o)[cid]? = some o := fun o => List.getElem?_set_self hcl'
      simp -implicitDefEqProofs [r105, ha, hall, hcell, hset, List.set_set, bld125, ld1_e, ld1_l, ld1_m, ldA_e, ldA_l, ldA_m, ldcm33, ldcm29, ixs_l, ixs_m, st_m, st_l, wrC, readC, getE, fits, TD.fit, optO, runN_succ, more_n, more_exit, more_ret, -List.getD_eq_getElem?_getD, ru, ruc, vK, putU, putK, arithK, intK, faK, hd1, ofV, lenSK, AV.nol, enumL, AV.nol.nols, loadC, loadS, extK, extK.extL, notK, nilckK, callvK, laid]
      exact hK i hi rfl hb.2.2 _ A' ((hf.sub fun i hi => List.mem_cons_of_mem _ hi).trans (Fr.set.sub (by simp))) (hc.setWay (y := doubleX x i hi) hA' hf hv hl rfl rfl) hv)
end
end Go.Ab
end
section
/- Cutting. -/
set_option linter.unusedSimpArgs false
set_option linter.unusedVariables false
set_option maxRecDepth 100000
namespace Go.Ab

theorem T155 : T.get 155 = some (TI.mk (.int .u64) 1 8 [.int .u64 0] []) := rfl
theorem wrap_u {n : Int} (h1 : 0 ≤ n) (h2 : n < 18446744073709551616) : IntKind.u64.wrap n = n := by
  have : IntKind.u64.wrap n = n % 18446744073709551616 := rfl
  rw [this]; omega
theorem half {a b : Nat} (ha : a < 1000000000) (hb : b < 1000000000) : IntKind.i64.wrap ((IntKind.u64.wrap (IntKind.i64.wrap ((a : Int) + b))).fdiv 2) = (((a + b) / 2 : Nat) : Int) := by
  rw [wrap_id (n := (a : Int) + b) (by omega) (by omega), wrap_u (by omega) (by omega), Int.fdiv_eq_ediv_of_nonneg _ (by omega), wrap_id (by omega) (by omega)]
  omega

/-- An element, by its place. -/
theorem LV.lb {α : Type} {h : List AObj} {sz : Nat} {c : α → List AV} {v : AV} {l : List α} (hv : LV h sz c v l) (m : Nat) : AV.lb m v = true := by
  rcases hv with ⟨_, rfl | rfl⟩ | ⟨id, cs, n, rest, rfl, _⟩ <;> rfl
theorem LV.at {α : Type} {h : List AObj} {sz : Nat} {c : α → List AV} {v : AV} {l : List α} (hc : ∀ x, (c x).length = sz) (hv : LV h sz c v l) {i : Nat} (hi : i < l.length) {ks : List TD} {K : AV → Prop} {n : Int} (hn : n = i)
    (hK : ∀ id off, (∀ F : List AV → Prop, F (c l[i]) → readC h id off sz F) → K (.mptr id off)) : ixsK sz ks v (.int .i64 n) K := by
  subst hn
  obtain ⟨id, m, rest, rfl, hid, _⟩ := hv.obj hi
  refine ⟨rfl, by omega, by omega, ?_⟩
  have := hK id (i * sz) fun F hF => readC_at hc hid hi hF
  simpa using this

section
variable {C : CX} {h : List AObj} {K : AV → List AObj → Prop} {a b : Int} {x : Net} {A B D : AV} {cid : Nat}
theorem two93 (hc : Chg h cid x A B D) (hK : ∀ r, (r = true ↔ nodeOk x a ∧ nodeOk x b ∧ a ≠ b) → K (.bool r) h) : ACall C Pg 93 [.mptr cid 0, .int .i64 a, .int .i64 b] h K := by
  have ha := hc.all
  repeat' (first | (exact same_n rfl rfl (by repeat (first | exact Sk.refl | refine Sk.cons rfl ?_)) (by repeat (first | exact True.intro | refine And.intro rfl ?_))) | (first | exact step_1 rfl | exact step_2 rfl (by assumption)) | (refine isNode56v hc.way.trio hc.cuts.trio hc.tims.trio ?_ <;> try simp -implicitDefEqProofs [ha, bld125, ld1_e, ld1_l, ld1_m, ldA_e, ldA_l, ldA_m, ldcm33, ldcm29, ixs_l, ixs_m, st_m, st_l, wrC, readC, getE, fits, TD.fit, optO, runN_succ, more_n, more_exit, more_ret, -List.getD_eq_getElem?_getD, ru, ruc, vK, putU, putK, arithK, intK, faK, hd1, ofV, lenSK, AV.nol, enumL, AV.nol.nols, loadC, loadS, extK, extK.extL, notK, nilckK, callvK, laid]) | (refine guardV_split (fun g => ?_) (fun g => ?_) <;> try simp -implicitDefEqProofs [ha, bld125, ld1_e, ld1_l, ld1_m, ldA_e, ldA_l, ldA_m, ldcm33, ldcm29, ixs_l, ixs_m, st_m, st_l, wrC, readC, getE, fits, TD.fit, optO, runN_succ, more_n, more_exit, more_ret, -List.getD_eq_getElem?_getD, ru, ruc, vK, putU, putK, arithK, intK, faK, hd1, ofV, lenSK, AV.nol, enumL, AV.nol.nols, loadC, loadS, extK, extK.extL, notK, nilckK, callvK, laid]) | (refine condV_split (fun g => ?_) (fun g => ?_) <;> try simp -implicitDefEqProofs [ha, bld125, ld1_e, ld1_l, ld1_m, ldA_e, ldA_l, ldA_m, ldcm33, ldcm29, ixs_l, ixs_m, st_m, st_l, wrC, readC, getE, fits, TD.fit, optO, runN_succ, more_n, more_exit, more_ret, -List.getD_eq_getElem?_getD, ru, ruc, vK, putU, putK, arithK, intK, faK, hd1, ofV, lenSK, AV.nol, enumL, AV.nol.nols, loadC, loadS, extK, extK.extL, notK, nilckK, callvK, laid]) | (refine run93 ?_ <;> simp -implicitDefEqProofs [ha, b93, r93, bld125, ld1_e, ld1_l, ld1_m, ldA_e, ldA_l, ldA_m, ldcm33, ldcm29, ixs_l, ixs_m, st_m, st_l, wrC, readC, getE, fits, TD.fit, optO, runN_succ, more_n, more_exit, more_ret, -List.getD_eq_getElem?_getD, ru, ruc, vK, putU, putK, arithK, intK, faK, hd1, ofV, lenSK, AV.nol, enumL, AV.nol.nols, loadC, loadS, extK, extK.extL, notK, nilckK, callvK, laid]) | (intro _ <;> intros <;> simp -implicitDefEqProofs [ha, *, bld125, ld1_e, ld1_l, ld1_m, ldA_e, ldA_l, ldA_m, ldcm33, ldcm29, ixs_l, ixs_m, st_m, st_l, wrC, readC, getE, fits, TD.fit, optO, runN_succ, more_n, more_exit, more_ret, -List.getD_eq_getElem?_getD, ru, ruc, vK, putU, putK, arithK, intK, faK, hd1, ofV, lenSK, AV.nol, enumL, AV.nol.nols, loadC, loadS, extK, extK.extL, notK, nilckK, callvK, laid]) | (refine And.intro ?_ ?_) | simp -implicitDefEqProofs [ha, bld125, ld1_e, ld1_l, ld1_m, ldA_e, ldA_l, ldA_m, ldcm33, ldcm29, ixs_l, ixs_m, st_m, st_l, wrC, readC, getE, fits, TD.fit, optO, runN_succ, more_n, more_exit, more_ret, -List.getD_eq_getElem?_getD, ru, ruc, vK, putU, putK, arithK, intK, faK, hd1, ofV, lenSK, AV.nol, enumL, AV.nol.nols, loadC, loadS, extK, extK.extL, notK, nilckK, callvK, laid])
  all_goals refine hK _ ?_
  all_goals simp only [nodeOk, Bool.and_eq_true, Bool.and_eq_false_iff, decide_eq_true_eq, decide_eq_false_iff_not, Bool.not_eq_true', Bool.not_eq_false', Bool.false_eq_true, false_iff, true_iff] at *
  all_goals omega

/-- Where an element stands, or would stand. -/
structure PosOf {α : Type} (f : α → α → Int) (l : List α) (t : α) (i : Nat) : Prop where
  le : i ≤ l.length
  lo : ∀ (h : 0 < i) (hi : i - 1 < l.length), f l[i - 1] t < 0
  hi : ∀ (h : i < l.length), 0 ≤ f l[i] t
theorem search94 {l : List Link} {v : AV} {t : Link} (hv : LV h 2 Link.c v l) (hl : l.length < 1000000)
    (hK : ∀ i r, PosOf cmpC l t i → (r = true ↔ ∃ hi : i < l.length, cmpC l[i] t = 0) → K (.tup [.int .i64 (i : Nat), .bool r]) h) : ACall C Pg 94 [v, .agg (Link.c t), .fn 52 []] h K := by
  refine run94 ?_ (by have := hv.owns; simp [AV.owns, this] <;> exact this)
  have ha := hv.all
  simp -implicitDefEqProofs [b94, r94, ha, Link.c, bld125, ld1_e, ld1_l, ld1_m, ldA_e, ldA_l, ldA_m, ldcm33, ldcm29, ixs_l, ixs_m, st_m, st_l, wrC, readC, getE, fits, TD.fit, optO, runN_succ, more_n, more_exit, more_ret, -List.getD_eq_getElem?_getD, ru, ruc, vK, putU, putK, arithK, intK, faK, hd1, ofV, lenSK, AV.nol, enumL, AV.nol.nols, loadC, loadS, extK, extK.extL, notK, nilckK, callvK, laid]
  refine lp94_0 (α := Nat × Nat) 1 (fun g => [(0, v), (2, .fn 52 []), (4, .lptr 0 0), (8, .int .i64 l.length), (9, .int .i64 g.1), (10, .int .i64 g.2)]) (fun _ => [[.int .i64 t.a, .int .i64 t.b]]) (fun _ => h)
    (fun g => g.1 ≤ g.2 ∧ g.2 ≤ l.length ∧ (∀ (h : 0 < g.1) (hi : g.1 - 1 < l.length), cmpC l[g.1 - 1] t < 0) ∧ (∀ (h : g.2 < l.length), 0 ≤ cmpC l[g.2] t)) (fun g => g.2 - g.1) (0, l.length) ⟨Nat.zero_le _, Nat.le_refl _, fun h => by omega, fun h => by omega⟩ (fun _ => rfl) ?_ rfl rfl rfl ?_
  · simp [allIn, lk, AV.lb, AV.lb.lbs, hv.lb]
  · rintro ⟨i, j⟩ ⟨hij, hj, hlo, hhi⟩
    simp -implicitDefEqProofs [b94_0, r94, ha, T3, T155, cvtK, shiftK, shK, TD.known, bld125, ld1_e, ld1_l, ld1_m, ldA_e, ldA_l, ldA_m, ldcm33, ldcm29, ixs_l, ixs_m, st_m, st_l, wrC, readC, getE, fits, TD.fit, optO, runN_succ, more_n, more_exit, more_ret, -List.getD_eq_getElem?_getD, ru, ruc, vK, putU, putK, arithK, intK, faK, hd1, ofV, lenSK, AV.nol, enumL, AV.nol.nols, loadC, loadS, extK, extK.extL, notK, nilckK, callvK, laid]
    simp only at hij hj hlo hhi
    refine condV_split (fun g => ?_) (fun g => ?_)
    · have g' : i < j := by simpa using g
      have hm : (i + j) / 2 < l.length := by omega
      have hh : IntKind.i64.wrap ((IntKind.u64.wrap (IntKind.i64.wrap ((i : Int) + j))).fdiv (2 ^ min 1 IntKind.u64.bits)) = (((i + j) / 2 : Nat) : Int) := half (a := i) (b := j) (by omega) (by omega)
      obtain ⟨m, hmd⟩ : ∃ m, m = (i + j) / 2 := ⟨_, rfl⟩
      rw [← hmd] at hm hh
      simp -implicitDefEqProofs [r94, ha, T3, T155, cvtK, shiftK, shK, TD.known, hh, bld125, ld1_e, ld1_l, ld1_m, ldA_e, ldA_l, ldA_m, ldcm33, ldcm29, ixs_l, ixs_m, st_m, st_l, wrC, readC, getE, fits, TD.fit, optO, runN_succ, more_n, more_exit, more_ret, -List.getD_eq_getElem?_getD, ru, ruc, vK, putU, putK, arithK, intK, faK, hd1, ofV, lenSK, AV.nol, enumL, AV.nol.nols, loadC, loadS, extK, extK.extL, notK, nilckK, callvK, laid]
      refine re94_0 ?_
      simp -implicitDefEqProofs [g94_0, ha, bld125, ld1_e, ld1_l, ld1_m, ldA_e, ldA_l, ldA_m, ldcm33, ldcm29, ixs_l, ixs_m, st_m, st_l, getE, fits, TD.fit, optO, runN_succ, more_n, more_exit, more_ret, -List.getD_eq_getElem?_getD, ru, ruc, vK, putU, putK, arithK, intK, faK, hd1, ofV, lenSK, AV.nol, enumL, AV.nol.nols, loadC, loadS, extK, extK.extL, notK, nilckK, callvK]
      repeat' (first | (refine guardV_split (fun g => ?_) (fun g => ?_) <;> try simp -implicitDefEqProofs [r94, ha, Link.c, bld125, ld1_e, ld1_l, ld1_m, ldA_e, ldA_l, ldA_m, ldcm33, ldcm29, ixs_l, ixs_m, st_m, st_l, getE, fits, TD.fit, optO, runN_succ, more_n, more_exit, more_ret, -List.getD_eq_getElem?_getD, ru, ruc, vK, putU, putK, arithK, intK, faK, hd1, ofV, lenSK, AV.nol, enumL, AV.nol.nols, loadC, loadS, extK, extK.extL, notK, nilckK, callvK]) | (refine condV_split (fun g => ?_) (fun g => ?_) <;> try simp -implicitDefEqProofs [r94, ha, Link.c, bld125, ld1_e, ld1_l, ld1_m, ldA_e, ldA_l, ldA_m, ldcm33, ldcm29, ixs_l, ixs_m, st_m, st_l, getE, fits, TD.fit, optO, runN_succ, more_n, more_exit, more_ret, -List.getD_eq_getElem?_getD, ru, ruc, vK, putU, putK, arithK, intK, faK, hd1, ofV, lenSK, AV.nol, enumL, AV.nol.nols, loadC, loadS, extK, extK.extL, notK, nilckK, callvK]) | (refine And.intro ?_ ?_ <;> try simp -implicitDefEqProofs [r94, ha, Link.c, bld125, ld1_e, ld1_l, ld1_m, ldA_e, ldA_l, ldA_m, ldcm33, ldcm29, ixs_l, ixs_m, st_m, st_l, getE, fits, TD.fit, optO, runN_succ, more_n, more_exit, more_ret, -List.getD_eq_getElem?_getD, ru, ruc, vK, putU, putK, arithK, intK, faK, hd1, ofV, lenSK, AV.nol, enumL, AV.nol.nols, loadC, loadS, extK, extK.extL, notK, nilckK, callvK]) | (refine LV.at lenC hv hm rfl (fun id off hrd => ?_) <;> try simp -implicitDefEqProofs [r94, ha, Link.c, bld125, ld1_e, ld1_l, ld1_m, ldA_e, ldA_l, ldA_m, ldcm33, ldcm29, ixs_l, ixs_m, st_m, st_l, getE, fits, TD.fit, optO, runN_succ, more_n, more_exit, more_ret, -List.getD_eq_getElem?_getD, ru, ruc, vK, putU, putK, arithK, intK, faK, hd1, ofV, lenSK, AV.nol, enumL, AV.nol.nols, loadC, loadS, extK, extK.extL, notK, nilckK, callvK]) | (refine hrd _ ?_ <;> try simp -implicitDefEqProofs [r94, ha, Link.c, bld125, ld1_e, ld1_l, ld1_m, ldA_e, ldA_l, ldA_m, ldcm33, ldcm29, ixs_l, ixs_m, st_m, st_l, getE, fits, TD.fit, optO, runN_succ, more_n, more_exit, more_ret, -List.getD_eq_getElem?_getD, ru, ruc, vK, putU, putK, arithK, intK, faK, hd1, ofV, lenSK, AV.nol, enumL, AV.nol.nols, loadC, loadS, extK, extK.extL, notK, nilckK, callvK]) | (refine byNodes52 (x := l[m]) (y := t) ?_ <;> try simp -implicitDefEqProofs [r94, ha, Link.c, bld125, ld1_e, ld1_l, ld1_m, ldA_e, ldA_l, ldA_m, ldcm33, ldcm29, ixs_l, ixs_m, st_m, st_l, getE, fits, TD.fit, optO, runN_succ, more_n, more_exit, more_ret, -List.getD_eq_getElem?_getD, ru, ruc, vK, putU, putK, arithK, intK, faK, hd1, ofV, lenSK, AV.nol, enumL, AV.nol.nols, loadC, loadS, extK, extK.extL, notK, nilckK, callvK]))
      all_goals simp only [decide_eq_true_eq, decide_eq_false_iff_not] at *
      all_goals first
        | (refine next_normal (m + 1, j) ⟨by simp only; omega, by simp only; omega, fun h1 h2 => ?_, fun h1 => hhi h1⟩ (by simp only; omega) rfl ?_ rfl rfl
           · simpa using g
           · simp [allIn, lk, AV.lb, AV.lb.lbs, hv.lb, wrap_i (show m < 9223372036854775807 by omega)])
        | (refine next_normal (i, m) ⟨by simp only; omega, by simp only; omega, fun h1 h2 => hlo h1 h2, fun h1 => by simp only; omega⟩ (by simp only; omega) rfl ?_ rfl rfl
           · simp [allIn, lk, AV.lb, AV.lb.lbs, hv.lb])
    · have g' : i = j := by simp at g; omega
      subst g'
      simp -implicitDefEqProofs [r94, ha, bld125, ld1_e, ld1_l, ld1_m, ldA_e, ldA_l, ldA_m, ldcm33, ldcm29, ixs_l, ixs_m, st_m, st_l, wrC, readC, getE, fits, TD.fit, optO, runN_succ, more_n, more_exit, more_ret, -List.getD_eq_getElem?_getD, ru, ruc, vK, putU, putK, arithK, intK, faK, hd1, ofV, lenSK, AV.nol, enumL, AV.nol.nols, loadC, loadS, extK, extK.extL, notK, nilckK, callvK, laid]
      refine re94_1 ?_
      simp -implicitDefEqProofs [g94_1, ha, bld125, ld1_e, ld1_l, ld1_m, ldA_e, ldA_l, ldA_m, ldcm33, ldcm29, ixs_l, ixs_m, st_m, st_l, getE, fits, TD.fit, optO, runN_succ, more_n, more_exit, more_ret, -List.getD_eq_getElem?_getD, ru, ruc, vK, putU, putK, arithK, intK, faK, hd1, ofV, lenSK, AV.nol, enumL, AV.nol.nols, loadC, loadS, extK, extK.extL, notK, nilckK, callvK]
      have hP : ∀ hh : ¬ i < l.length ∨ 0 ≤ 0, PosOf cmpC l t i := fun _ => ⟨hj, hlo, hhi⟩
      by_cases hi : i < l.length
      · have hd : decide (i < l.length) = true := by simpa using hi
        repeat' (first | (refine guardV_split (fun g => ?_) (fun g => ?_) <;> try simp -implicitDefEqProofs [r94, ha, hd, Link.c, decide_true, bld125, ld1_e, ld1_l, ld1_m, ldA_e, ldA_l, ldA_m, ldcm33, ldcm29, ixs_l, ixs_m, st_m, st_l, getE, fits, TD.fit, optO, runN_succ, more_n, more_exit, more_ret, -List.getD_eq_getElem?_getD, ru, ruc, vK, putU, putK, arithK, intK, faK, hd1, ofV, lenSK, AV.nol, enumL, AV.nol.nols, loadC, loadS, extK, extK.extL, notK, nilckK, callvK]) | (refine condV_split (fun g => ?_) (fun g => ?_) <;> try simp -implicitDefEqProofs [r94, ha, hd, Link.c, decide_true, bld125, ld1_e, ld1_l, ld1_m, ldA_e, ldA_l, ldA_m, ldcm33, ldcm29, ixs_l, ixs_m, st_m, st_l, getE, fits, TD.fit, optO, runN_succ, more_n, more_exit, more_ret, -List.getD_eq_getElem?_getD, ru, ruc, vK, putU, putK, arithK, intK, faK, hd1, ofV, lenSK, AV.nol, enumL, AV.nol.nols, loadC, loadS, extK, extK.extL, notK, nilckK, callvK]) | (refine And.intro ?_ ?_ <;> try simp -implicitDefEqProofs [r94, ha, hd, Link.c, decide_true, bld125, ld1_e, ld1_l, ld1_m, ldA_e, ldA_l, ldA_m, ldcm33, ldcm29, ixs_l, ixs_m, st_m, st_l, getE, fits, TD.fit, optO, runN_succ, more_n, more_exit, more_ret, -List.getD_eq_getElem?_getD, ru, ruc, vK, putU, putK, arithK, intK, faK, hd1, ofV, lenSK, AV.nol, enumL, AV.nol.nols, loadC, loadS, extK, extK.extL, notK, nilckK, callvK]) | (refine LV.at lenC hv hi rfl (fun id off hrd => ?_) <;> try simp -implicitDefEqProofs [r94, ha, hd, Link.c, decide_true, bld125, ld1_e, ld1_l, ld1_m, ldA_e, ldA_l, ldA_m, ldcm33, ldcm29, ixs_l, ixs_m, st_m, st_l, getE, fits, TD.fit, optO, runN_succ, more_n, more_exit, more_ret, -List.getD_eq_getElem?_getD, ru, ruc, vK, putU, putK, arithK, intK, faK, hd1, ofV, lenSK, AV.nol, enumL, AV.nol.nols, loadC, loadS, extK, extK.extL, notK, nilckK, callvK]) | (refine hrd _ ?_ <;> try simp -implicitDefEqProofs [r94, ha, hd, Link.c, decide_true, bld125, ld1_e, ld1_l, ld1_m, ldA_e, ldA_l, ldA_m, ldcm33, ldcm29, ixs_l, ixs_m, st_m, st_l, getE, fits, TD.fit, optO, runN_succ, more_n, more_exit, more_ret, -List.getD_eq_getElem?_getD, ru, ruc, vK, putU, putK, arithK, intK, faK, hd1, ofV, lenSK, AV.nol, enumL, AV.nol.nols, loadC, loadS, extK, extK.extL, notK, nilckK, callvK]) | (refine byNodes52 (x := l[i]) (y := t) ?_ <;> try simp -implicitDefEqProofs [r94, ha, hd, Link.c, decide_true, bld125, ld1_e, ld1_l, ld1_m, ldA_e, ldA_l, ldA_m, ldcm33, ldcm29, ixs_l, ixs_m, st_m, st_l, getE, fits, TD.fit, optO, runN_succ, more_n, more_exit, more_ret, -List.getD_eq_getElem?_getD, ru, ruc, vK, putU, putK, arithK, intK, faK, hd1, ofV, lenSK, AV.nol, enumL, AV.nol.nols, loadC, loadS, extK, extK.extL, notK, nilckK, callvK]))
        all_goals try (rw [hd] at *)
        all_goals try (exfalso; simp_all; done)
        all_goals (
          refine hK i _ ⟨hj, hlo, hhi⟩ ?_
          simp only [decide_eq_true_eq, hi, exists_true_left])
      · have hd : decide (i < l.length) = false := by simpa using hi
        repeat' (first | (refine guardV_split (fun g => ?_) (fun g => ?_) <;> try simp -implicitDefEqProofs [r94, ha, hd, bld125, ld1_e, ld1_l, ld1_m, ldA_e, ldA_l, ldA_m, ldcm33, ldcm29, ixs_l, ixs_m, st_m, st_l, getE, fits, TD.fit, optO, runN_succ, more_n, more_exit, more_ret, -List.getD_eq_getElem?_getD, ru, ruc, vK, putU, putK, arithK, intK, faK, hd1, ofV, lenSK, AV.nol, enumL, AV.nol.nols, loadC, loadS, extK, extK.extL, notK, nilckK, callvK]) | (refine condV_split (fun g => ?_) (fun g => ?_) <;> try simp -implicitDefEqProofs [r94, ha, hd, bld125, ld1_e, ld1_l, ld1_m, ldA_e, ldA_l, ldA_m, ldcm33, ldcm29, ixs_l, ixs_m, st_m, st_l, getE, fits, TD.fit, optO, runN_succ, more_n, more_exit, more_ret, -List.getD_eq_getElem?_getD, ru, ruc, vK, putU, putK, arithK, intK, faK, hd1, ofV, lenSK, AV.nol, enumL, AV.nol.nols, loadC, loadS, extK, extK.extL, notK, nilckK, callvK]) | (done <;> try simp -implicitDefEqProofs [r94, ha, hd, bld125, ld1_e, ld1_l, ld1_m, ldA_e, ldA_l, ldA_m, ldcm33, ldcm29, ixs_l, ixs_m, st_m, st_l, getE, fits, TD.fit, optO, runN_succ, more_n, more_exit, more_ret, -List.getD_eq_getElem?_getD, ru, ruc, vK, putU, putK, arithK, intK, faK, hd1, ofV, lenSK, AV.nol, enumL, AV.nol.nols, loadC, loadS, extK, extK.extL, notK, nilckK, callvK]))
        all_goals try (exfalso; simp_all; done)
        all_goals (
          refine hK i _ ⟨hj, hlo, hhi⟩ ?_
          simp [hi])
end
end Go.Ab
end
section
/- Searching timers; inserting at the end; cutting. -/
set_option linter.unusedSimpArgs false
set_option linter.unusedVariables false
set_option maxRecDepth 100000
namespace Go.Ab

section
variable {C : CX} {h : List AObj} {K : AV → List AObj → Prop} {a b : Int} {x : Net} {A B D : AV} {cid : Nat}
theorem search99 {l : List Timer} {v : AV} {t : Timer} (hv : LV h 3 Timer.c v l) (hl : l.length < 1000000)
    (hK : ∀ i r, PosOf cmpT l t i → (r = true ↔ ∃ hi : i < l.length, cmpT l[i] t = 0) → K (.tup [.int .i64 (i : Nat), .bool r]) h) : ACall C Pg 99 [v, .agg (Timer.c t), .fn 54 []] h K := by
  refine run99 ?_ (by have := hv.owns; simp [AV.owns, this] <;> exact this)
  have ha := hv.all
  simp -implicitDefEqProofs [b99, r99, ha, Timer.c, bld125, ld1_e, ld1_l, ld1_m, ldA_e, ldA_l, ldA_m, ldcm33, ldcm29, ixs_l, ixs_m, st_m, st_l, wrC, readC, getE, fits, TD.fit, optO, runN_succ, more_n, more_exit, more_ret, -List.getD_eq_getElem?_getD, ru, ruc, vK, putU, putK, arithK, intK, faK, hd1, ofV, lenSK, AV.nol, enumL, AV.nol.nols, loadC, loadS, extK, extK.extL, notK, nilckK, callvK, laid]
  refine lp99_0 (α := Nat × Nat) 1 (fun g => [(0, v), (2, .fn 54 []), (4, .lptr 0 0), (8, .int .i64 l.length), (9, .int .i64 g.1), (10, .int .i64 g.2)]) (fun _ => [[.int .i64 t.tm, .int .i64 t.nd, .int .i64 t.tg]]) (fun _ => h)
    (fun g => g.1 ≤ g.2 ∧ g.2 ≤ l.length ∧ (∀ (h : 0 < g.1) (hi : g.1 - 1 < l.length), cmpT l[g.1 - 1] t < 0) ∧ (∀ (h : g.2 < l.length), 0 ≤ cmpT l[g.2] t)) (fun g => g.2 - g.1) (0, l.length) ⟨Nat.zero_le _, Nat.le_refl _, fun h => by omega, fun h => by omega⟩ (fun _ => rfl) ?_ rfl rfl rfl ?_
  · simp [allIn, lk, AV.lb, AV.lb.lbs, hv.lb]
  · rintro ⟨i, j⟩ ⟨hij, hj, hlo, hhi⟩
    simp -implicitDefEqProofs [b99_0, r99, ha, T3, T155, cvtK, shiftK, shK, TD.known, bld125, ld1_e, ld1_l, ld1_m, ldA_e, ldA_l, ldA_m, ldcm33, ldcm29, ixs_l, ixs_m, st_m, st_l, wrC, readC, getE, fits, TD.fit, optO, runN_succ, more_n, more_exit, more_ret, -List.getD_eq_getElem?_getD, ru, ruc, vK, putU, putK, arithK, intK, faK, hd1, ofV, lenSK, AV.nol, enumL, AV.nol.nols, loadC, loadS, extK, extK.extL, notK, nilckK, callvK, laid]
    simp only at hij hj hlo hhi
    refine condV_split (fun g => ?_) (fun g => ?_)
    · have g' : i < j := by simpa using g
      have hm : (i + j) / 2 < l.length := by omega
      have hh : IntKind.i64.wrap ((IntKind.u64.wrap (IntKind.i64.wrap ((i : Int) + j))).fdiv (2 ^ min 1 IntKind.u64.bits)) = (((i + j) / 2 : Nat) : Int) := half (a := i) (b := j) (by omega) (by omega)
      obtain ⟨m, hmd⟩ : ∃ m, m = (i + j) / 2 := ⟨_, rfl⟩
      rw [← hmd] at hm hh
      simp -implicitDefEqProofs [r99, ha, T3, T155, cvtK, shiftK, shK, TD.known, hh, bld125, ld1_e, ld1_l, ld1_m, ldA_e, ldA_l, ldA_m, ldcm33, ldcm29, ixs_l, ixs_m, st_m, st_l, wrC, readC, getE, fits, TD.fit, optO, runN_succ, more_n, more_exit, more_ret, -List.getD_eq_getElem?_getD, ru, ruc, vK, putU, putK, arithK, intK, faK, hd1, ofV, lenSK, AV.nol, enumL, AV.nol.nols, loadC, loadS, extK, extK.extL, notK, nilckK, callvK, laid]
      refine re99_0 ?_
      simp -implicitDefEqProofs [g99_0, ha, bld125, ld1_e, ld1_l, ld1_m, ldA_e, ldA_l, ldA_m, ldcm33, ldcm29, ixs_l, ixs_m, st_m, st_l, getE, fits, TD.fit, optO, runN_succ, more_n, more_exit, more_ret, -List.getD_eq_getElem?_getD, ru, ruc, vK, putU, putK, arithK, intK, faK, hd1, ofV, lenSK, AV.nol, enumL, AV.nol.nols, loadC, loadS, extK, extK.extL, notK, nilckK, callvK]
      repeat' (first | (refine guardV_split (fun g => ?_) (fun g => ?_) <;> try simp -implicitDefEqProofs [r99, ha, Timer.c, bld125, ld1_e, ld1_l, ld1_m, ldA_e, ldA_l, ldA_m, ldcm33, ldcm29, ixs_l, ixs_m, st_m, st_l, getE, fits, TD.fit, optO, runN_succ, more_n, more_exit, more_ret, -List.getD_eq_getElem?_getD, ru, ruc, vK, putU, putK, arithK, intK, faK, hd1, ofV, lenSK, AV.nol, enumL, AV.nol.nols, loadC, loadS, extK, extK.extL, notK, nilckK, callvK]) | (refine condV_split (fun g => ?_) (fun g => ?_) <;> try simp -implicitDefEqProofs [r99, ha, Timer.c, bld125, ld1_e, ld1_l, ld1_m, ldA_e, ldA_l, ldA_m, ldcm33, ldcm29, ixs_l, ixs_m, st_m, st_l, getE, fits, TD.fit, optO, runN_succ, more_n, more_exit, more_ret, -List.getD_eq_getElem?_getD, ru, ruc, vK, putU, putK, arithK, intK, faK, hd1, ofV, lenSK, AV.nol, enumL, AV.nol.nols, loadC, loadS, extK, extK.extL, notK, nilckK, callvK]) | (refine And.intro ?_ ?_ <;> try simp -implicitDefEqProofs [r99, ha, Timer.c, bld125, ld1_e, ld1_l, ld1_m, ldA_e, ldA_l, ldA_m, ldcm33, ldcm29, ixs_l, ixs_m, st_m, st_l, getE, fits, TD.fit, optO, runN_succ, more_n, more_exit, more_ret, -List.getD_eq_getElem?_getD, ru, ruc, vK, putU, putK, arithK, intK, faK, hd1, ofV, lenSK, AV.nol, enumL, AV.nol.nols, loadC, loadS, extK, extK.extL, notK, nilckK, callvK]) | (refine LV.at lenT hv hm rfl (fun id off hrd => ?_) <;> try simp -implicitDefEqProofs [r99, ha, Timer.c, bld125, ld1_e, ld1_l, ld1_m, ldA_e, ldA_l, ldA_m, ldcm33, ldcm29, ixs_l, ixs_m, st_m, st_l, getE, fits, TD.fit, optO, runN_succ, more_n, more_exit, more_ret, -List.getD_eq_getElem?_getD, ru, ruc, vK, putU, putK, arithK, intK, faK, hd1, ofV, lenSK, AV.nol, enumL, AV.nol.nols, loadC, loadS, extK, extK.extL, notK, nilckK, callvK]) | (refine hrd _ ?_ <;> try simp -implicitDefEqProofs [r99, ha, Timer.c, bld125, ld1_e, ld1_l, ld1_m, ldA_e, ldA_l, ldA_m, ldcm33, ldcm29, ixs_l, ixs_m, st_m, st_l, getE, fits, TD.fit, optO, runN_succ, more_n, more_exit, more_ret, -List.getD_eq_getElem?_getD, ru, ruc, vK, putU, putK, arithK, intK, faK, hd1, ofV, lenSK, AV.nol, enumL, AV.nol.nols, loadC, loadS, extK, extK.extL, notK, nilckK, callvK]) | (refine order54 (x := l[m]) (y := t) ?_ <;> try simp -implicitDefEqProofs [r99, ha, Timer.c, bld125, ld1_e, ld1_l, ld1_m, ldA_e, ldA_l, ldA_m, ldcm33, ldcm29, ixs_l, ixs_m, st_m, st_l, getE, fits, TD.fit, optO, runN_succ, more_n, more_exit, more_ret, -List.getD_eq_getElem?_getD, ru, ruc, vK, putU, putK, arithK, intK, faK, hd1, ofV, lenSK, AV.nol, enumL, AV.nol.nols, loadC, loadS, extK, extK.extL, notK, nilckK, callvK]))
      all_goals simp only [decide_eq_true_eq, decide_eq_false_iff_not] at *
      all_goals first
        | (refine next_normal (m + 1, j) ⟨by simp only; omega, by simp only; omega, fun h1 h2 => ?_, fun h1 => hhi h1⟩ (by simp only; omega) rfl ?_ rfl rfl
           · simpa using g
           · simp [allIn, lk, AV.lb, AV.lb.lbs, hv.lb, wrap_i (show m < 9223372036854775807 by omega)])
        | (refine next_normal (i, m) ⟨by simp only; omega, by simp only; omega, fun h1 h2 => hlo h1 h2, fun h1 => by simp only; omega⟩ (by simp only; omega) rfl ?_ rfl rfl
           · simp [allIn, lk, AV.lb, AV.lb.lbs, hv.lb])
    · have g' : i = j := by simp at g; omega
      subst g'
      simp -implicitDefEqProofs [r99, ha, bld125, ld1_e, ld1_l, ld1_m, ldA_e, ldA_l, ldA_m, ldcm33, ldcm29, ixs_l, ixs_m, st_m, st_l, wrC, readC, getE, fits, TD.fit, optO, runN_succ, more_n, more_exit, more_ret, -List.getD_eq_getElem?_getD, ru, ruc, vK, putU, putK, arithK, intK, faK, hd1, ofV, lenSK, AV.nol, enumL, AV.nol.nols, loadC, loadS, extK, extK.extL, notK, nilckK, callvK, laid]
      refine re99_1 ?_
      simp -implicitDefEqProofs [g99_1, ha, bld125, ld1_e, ld1_l, ld1_m, ldA_e, ldA_l, ldA_m, ldcm33, ldcm29, ixs_l, ixs_m, st_m, st_l, getE, fits, TD.fit, optO, runN_succ, more_n, more_exit, more_ret, -List.getD_eq_getElem?_getD, ru, ruc, vK, putU, putK, arithK, intK, faK, hd1, ofV, lenSK, AV.nol, enumL, AV.nol.nols, loadC, loadS, extK, extK.extL, notK, nilckK, callvK]
      have hP : ∀ hh : ¬ i < l.length ∨ 0 ≤ 0, PosOf cmpT l t i := fun _ => ⟨hj, hlo, hhi⟩
      by_cases hi : i < l.length
      · have hd : decide (i < l.length) = true := by simpa using hi
        repeat' (first | (refine guardV_split (fun g => ?_) (fun g => ?_) <;> try simp -implicitDefEqProofs [r99, ha, hd, Timer.c, decide_true, bld125, ld1_e, ld1_l, ld1_m, ldA_e, ldA_l, ldA_m, ldcm33, ldcm29, ixs_l, ixs_m, st_m, st_l, getE, fits, TD.fit, optO, runN_succ, more_n, more_exit, more_ret, -List.getD_eq_getElem?_getD, ru, ruc, vK, putU, putK, arithK, intK, faK, hd1, ofV, lenSK, AV.nol, enumL, AV.nol.nols, loadC, loadS, extK, extK.extL, notK, nilckK, callvK]) | (refine condV_split (fun g => ?_) (fun g => ?_) <;> try simp -implicitDefEqProofs [r99, ha, hd, Timer.c, decide_true, bld125, ld1_e, ld1_l, ld1_m, ldA_e, ldA_l, ldA_m, ldcm33, ldcm29, ixs_l, ixs_m, st_m, st_l, getE, fits, TD.fit, optO, runN_succ, more_n, more_exit, more_ret, -List.getD_eq_getElem?_getD, ru, ruc, vK, putU, putK, arithK, intK, faK, hd1, ofV, lenSK, AV.nol, enumL, AV.nol.nols, loadC, loadS, extK, extK.extL, notK, nilckK, callvK]) | (refine And.intro ?_ ?_ <;> try simp -implicitDefEqProofs [r99, ha, hd, Timer.c, decide_true, bld125, ld1_e, ld1_l, ld1_m, ldA_e, ldA_l, ldA_m, ldcm33, ldcm29, ixs_l, ixs_m, st_m, st_l, getE, fits, TD.fit, optO, runN_succ, more_n, more_exit, more_ret, -List.getD_eq_getElem?_getD, ru, ruc, vK, putU, putK, arithK, intK, faK, hd1, ofV, lenSK, AV.nol, enumL, AV.nol.nols, loadC, loadS, extK, extK.extL, notK, nilckK, callvK]) | (refine LV.at lenT hv hi rfl (fun id off hrd => ?_) <;> try simp -implicitDefEqProofs [r99, ha, hd, Timer.c, decide_true, bld125, ld1_e, ld1_l, ld1_m, ldA_e, ldA_l, ldA_m, ldcm33, ldcm29, ixs_l, ixs_m, st_m, st_l, getE, fits, TD.fit, optO, runN_succ, more_n, more_exit, more_ret, -List.getD_eq_getElem?_getD, ru, ruc, vK, putU, putK, arithK, intK, faK, hd1, ofV, lenSK, AV.nol, enumL, AV.nol.nols, loadC, loadS, extK, extK.extL, notK, nilckK, callvK]) | (refine hrd _ ?_ <;> try simp -implicitDefEqProofs [r99, ha, hd, Timer.c, decide_true, bld125, ld1_e, ld1_l, ld1_m, ldA_e, ldA_l, ldA_m, ldcm33, ldcm29, ixs_l, ixs_m, st_m, st_l, getE, fits, TD.fit, optO, runN_succ, more_n, more_exit, more_ret, -List.getD_eq_getElem?_getD, ru, ruc, vK, putU, putK, arithK, intK, faK, hd1, ofV, lenSK, AV.nol, enumL, AV.nol.nols, loadC, loadS, extK, extK.extL, notK, nilckK, callvK]) | (refine order54 (x := l[i]) (y := t) ?_ <;> try simp -implicitDefEqProofs [r99, ha, hd, Timer.c, decide_true, bld125, ld1_e, ld1_l, ld1_m, ldA_e, ldA_l, ldA_m, ldcm33, ldcm29, ixs_l, ixs_m, st_m, st_l, getE, fits, TD.fit, optO, runN_succ, more_n, more_exit, more_ret, -List.getD_eq_getElem?_getD, ru, ruc, vK, putU, putK, arithK, intK, faK, hd1, ofV, lenSK, AV.nol, enumL, AV.nol.nols, loadC, loadS, extK, extK.extL, notK, nilckK, callvK]))
        all_goals try (rw [hd] at *)
        all_goals try (exfalso; simp_all; done)
        all_goals (
          refine hK i _ ⟨hj, hlo, hhi⟩ ?_
          simp only [decide_eq_true_eq, hi, exists_true_left])
      · have hd : decide (i < l.length) = false := by simpa using hi
        repeat' (first | (refine guardV_split (fun g => ?_) (fun g => ?_) <;> try simp -implicitDefEqProofs [r99, ha, hd, bld125, ld1_e, ld1_l, ld1_m, ldA_e, ldA_l, ldA_m, ldcm33, ldcm29, ixs_l, ixs_m, st_m, st_l, getE, fits, TD.fit, optO, runN_succ, more_n, more_exit, more_ret, -List.getD_eq_getElem?_getD, ru, ruc, vK, putU, putK, arithK, intK, faK, hd1, ofV, lenSK, AV.nol, enumL, AV.nol.nols, loadC, loadS, extK, extK.extL, notK, nilckK, callvK]) | (refine condV_split (fun g => ?_) (fun g => ?_) <;> try simp -implicitDefEqProofs [r99, ha, hd, bld125, ld1_e, ld1_l, ld1_m, ldA_e, ldA_l, ldA_m, ldcm33, ldcm29, ixs_l, ixs_m, st_m, st_l, getE, fits, TD.fit, optO, runN_succ, more_n, more_exit, more_ret, -List.getD_eq_getElem?_getD, ru, ruc, vK, putU, putK, arithK, intK, faK, hd1, ofV, lenSK, AV.nol, enumL, AV.nol.nols, loadC, loadS, extK, extK.extL, notK, nilckK, callvK]) | (done <;> try simp -implicitDefEqProofs [r99, ha, hd, bld125, ld1_e, ld1_l, ld1_m, ldA_e, ldA_l, ldA_m, ldcm33, ldcm29, ixs_l, ixs_m, st_m, st_l, getE, fits, TD.fit, optO, runN_succ, more_n, more_exit, more_ret, -List.getD_eq_getElem?_getD, ru, ruc, vK, putU, putK, arithK, intK, faK, hd1, ofV, lenSK, AV.nol, enumL, AV.nol.nols, loadC, loadS, extK, extK.extL, notK, nilckK, callvK]))
        all_goals try (exfalso; simp_all; done)
        all_goals (
          refine hK i _ ⟨hj, hlo, hhi⟩ ?_
          simp [hi])

/-- slices.Insert of one element, at the end. -/
theorem insert95 {l : List Link} {v : AV} {y : Link} {n : Int} (hv : LV h 2 Link.c v l) (hl : l.length < 1000000) (hn : n = l.length)
    (hK : ∀ v' h', LV h' 2 Link.c v' (l ++ [y]) → Fr (vid v) h h' → (∀ i ∈ vid v', i ∈ vid v ∨ h.length ≤ i) → (∀ i ∈ vid v', i < h'.length) → K v' h') : ACall C Pg 95 [v, .int .i64 n, .sl false 2 [Link.c y] .full] h K := by
  subst hn
  refine run95 ?_ (by have := hv.owns; simp [AV.owns, this] <;> exact this)
  have ha := hv.all
  have fin : ∀ v', sliceK T 23 v (some (.int .i64 l.length)) none none v' ∨ ¬ sliceK T 23 v (some (.int .i64 l.length)) none none v' := fun _ => Classical.em _
  have hs : ∀ Q : AV → Prop, (∀ z sz t, Q (.sl z sz [] t)) → sliceK T 23 v (some (.int .i64 l.length)) none none Q := fun Q hQ => by
    rcases hv with ⟨rfl, rfl | rfl⟩ | ⟨id, cs, m, rest, rfl, hid, hm, hcs⟩
    · simp [sliceK, T23, T100, boundsK, hQ]
    · simp [sliceK, T23, T100, boundsK, hQ]
    · exact slc_suf T23 rfl T100 rfl rfl (Nat.le_refl _) (fun h => absurd h (Nat.lt_irrefl _)) (fun _ => hQ _ _ _)
  simp -implicitDefEqProofs [b95, r95, ha, bld125, ld1_e, ld1_l, ld1_m, ldA_e, ldA_l, ldA_m, ldcm33, ldcm29, ixs_l, ixs_m, st_m, st_l, wrC, readC, getE, fits, TD.fit, optO, runN_succ, more_n, more_exit, more_ret, -List.getD_eq_getElem?_getD, ru, ruc, vK, putU, putK, arithK, intK, faK, hd1, ofV, lenSK, AV.nol, enumL, AV.nol.nols, loadC, loadS, extK, extK.extL, notK, nilckK, callvK, laid]
  refine hs _ fun z sz t => ?_
  have hun : (AV.sl z sz [] t).un = .sl z sz [] t ∨ (AV.sl z sz [] t).un = .sl z sz [] .no := by cases t <;> simp [AV.un]
  rcases hun with e | e
  all_goals (
    simp -implicitDefEqProofs [r95, ha, e, bld125, ld1_e, ld1_l, ld1_m, ldA_e, ldA_l, ldA_m, ldcm33, ldcm29, ixs_l, ixs_m, st_m, st_l, wrC, readC, getE, fits, TD.fit, optO, runN_succ, more_n, more_exit, more_ret, -List.getD_eq_getElem?_getD, ru, ruc, vK, putU, putK, arithK, intK, faK, hd1, ofV, lenSK, AV.nol, enumL, AV.nol.nols, loadC, loadS, extK, extK.extL, notK, nilckK, callvK, laid]
    refine LV.append (y := y) rfl hv (by decide) lenC T23 rfl T100 rfl (by decide) (by decide) hl fun v' h' hv' hf h1 h2 => ?_
    have ha' := hv'.all
    simp -implicitDefEqProofs [r95, ha, ha', bld125, ld1_e, ld1_l, ld1_m, ldA_e, ldA_l, ldA_m, ldcm33, ldcm29, ixs_l, ixs_m, st_m, st_l, wrC, readC, getE, fits, TD.fit, optO, runN_succ, more_n, more_exit, more_ret, -List.getD_eq_getElem?_getD, ru, ruc, vK, putU, putK, arithK, intK, faK, hd1, ofV, lenSK, AV.nol, enumL, AV.nol.nols, loadC, loadS, extK, extK.extL, notK, nilckK, callvK, laid]
    exact hK v' h' hv' hf h1 h2)
end
end Go.Ab
end
section
/- Cutting a link, setting a timer, a tick. -/
set_option linter.unusedSimpArgs false
set_option linter.unusedVariables false
set_option maxRecDepth 100000
namespace Go.Ab

section
variable {C : CX} {h : List AObj} {K : AV → List AObj → Prop} {a b n : Int} {x : Net} {A B D : AV} {cid : Nat}
theorem Chg.setCuts {h' : List AObj} {B' : AV} {y : Net} (hc : Chg h cid x A B D) (hB : LV h' 2 Link.c B' y.cuts) (hf : Fr (vid B) h h') (hv : ∀ i ∈ vid B', i ∈ vid B ∨ h.length ≤ i) (e0 : y.way = x.way) (e2 : y.timers = x.timers) :
    Chg (h'.set cid (.cells [.int .i64 y.nodes, .int .i64 y.now, .int .i64 y.next, A, B', D] 6)) cid y A B' D := by
  obtain ⟨o1, o2, o3, o4, o5⟩ := hc.other
  have hcl := hc.clt
  have hne : ∀ i ∈ vid B', i ≠ cid := fun i hi e => by
    subst e
    rcases hv _ hi with h1 | h1
    · exact o2 h1
    · omega
  refine ⟨by rw [List.getElem?_set_self (Nat.lt_of_lt_of_le hcl hf.len)], ?_, hB.more fun i hi => List.getElem?_set_ne (Ne.symm (hne i hi)), ?_, ?_⟩
  · rw [e0]
    exact hc.way.more fun i hi => by
      rw [List.getElem?_set_ne (fun e => by subst e; exact o1 hi)]
      exact hf.same i (hc.way.lt i hi) fun hj => (o4 i hi).1 hj
  · rw [e2]
    exact hc.tims.more fun i hi => by
      rw [List.getElem?_set_ne (fun e => by subst e; exact o3 hi)]
      exact hf.same i (hc.tims.lt i hi) fun hj => o5 i hj hi
  · refine List.nodup_cons.2 ⟨?_, nd3 (fun i hi j hj e => ?_) (fun i hi j hj e => ?_) (fun i hi j hj e => ?_)⟩
    · simp only [List.mem_append, not_or]
      exact ⟨⟨o1, fun hi => hne _ hi rfl⟩, o3⟩
    · subst e
      rcases hv i hj with h1 | h1
      · exact (o4 i hi).1 h1
      · have := hc.way.lt i hi; omega
    · subst e
      exact (o4 i hi).2 hj
    · subst e
      rcases hv i hi with h1 | h1
      · exact o5 i h1 hj
      · have := hc.tims.lt i hj; omega
theorem Chg.setTims {h' : List AObj} {D' : AV} {y : Net} (hc : Chg h cid x A B D) (hD : LV h' 3 Timer.c D' y.timers) (hf : Fr (vid D) h h') (hv : ∀ i ∈ vid D', i ∈ vid D ∨ h.length ≤ i) (e0 : y.way = x.way) (e1 : y.cuts = x.cuts) :
    Chg (h'.set cid (.cells [.int .i64 y.nodes, .int .i64 y.now, .int .i64 y.next, A, B, D'] 6)) cid y A B D' := by
  obtain ⟨o1, o2, o3, o4, o5⟩ := hc.other
  have hcl := hc.clt
  have hne : ∀ i ∈ vid D', i ≠ cid := fun i hi e => by
    subst e
    rcases hv _ hi with h1 | h1
    · exact o3 h1
    · omega
  refine ⟨by rw [List.getElem?_set_self (Nat.lt_of_lt_of_le hcl hf.len)], ?_, ?_, hD.more fun i hi => List.getElem?_set_ne (Ne.symm (hne i hi)), ?_⟩
  · rw [e0]
    exact hc.way.more fun i hi => by
      rw [List.getElem?_set_ne (fun e => by subst e; exact o1 hi)]
      exact hf.same i (hc.way.lt i hi) fun hj => (o4 i hi).2 hj
  · rw [e1]
    exact hc.cuts.more fun i hi => by
      rw [List.getElem?_set_ne (fun e => by subst e; exact o2 hi)]
      exact hf.same i (hc.cuts.lt i hi) fun hj => o5 i hi hj
  · refine List.nodup_cons.2 ⟨?_, nd3 (fun i hi j hj e => ?_) (fun i hi j hj e => ?_) (fun i hi j hj e => ?_)⟩
    · simp only [List.mem_append, not_or]
      exact ⟨⟨o1, o2⟩, fun hi => hne _ hi rfl⟩
    · subst e
      exact (o4 i hi).1 hj
    · subst e
      rcases hv i hj with h1 | h1
      · exact (o4 i hi).2 h1
      · have := hc.way.lt i hi; omega
    · subst e
      rcases hv i hj with h1 | h1
      · exact o5 i hi h1
      · have := hc.cuts.lt i hi; omega

theorem nolC {p : Link} : AV.nol.nols (Link.c p) = true := rfl
theorem bsl23_c {p : Link} {K : AV → List AObj → Prop} : buildSliceK T false 23 1 [(0, .agg (Link.c p))] h K = K (.sl false 2 [Link.c p] .full) h := bsl23_1
def cutX (x : Net) (p : Link) : Net := { x with cuts := x.cuts ++ [p] }
theorem cut60 (hc : Chg h cid x A B D) (hl : x.cuts.length < 1000000)
    (hK1 : ¬ (nodeOk x a ∧ nodeOk x b ∧ a ≠ b) → K (.int .i64 1) h)
    (hK2 : (nodeOk x a ∧ nodeOk x b ∧ a ≠ b) → ∀ i (hi : i < x.cuts.length), cmpC x.cuts[i] (pairOf a b) = 0 → K (.int .i64 5) h)
    (hK3 : (nodeOk x a ∧ nodeOk x b ∧ a ≠ b) → ∀ i, PosOf cmpC x.cuts (pairOf a b) i → (¬ ∃ hi : i < x.cuts.length, cmpC x.cuts[i] (pairOf a b) = 0) → i = x.cuts.length ∧
      ∀ h' B', Fr (cid :: vid B) h h' → Chg h' cid (cutX x (pairOf a b)) A B' D → (∀ j ∈ vid B', j ∈ vid B ∨ h.length ≤ j) → K (.int .i64 0) h') : ACall C Pg 60 [.mptr cid 0, .int .i64 a, .int .i64 b] h K := by
  have ha := hc.all
  have hcl := hc.clt
  obtain ⟨o1, o2, o3, o4, o5⟩ := hc.other
  refine run60 ?_
  simp -implicitDefEqProofs [b60, r60, ha, bld125, ld1_e, ld1_l, ld1_m, ldA_e, ldA_l, ldA_m, ldcm33, ldcm29, ixs_l, ixs_m, st_m, st_l, wrC, readC, getE, fits, TD.fit, optO, runN_succ, more_n, more_exit, more_ret, -List.getD_eq_getElem?_getD, ru, ruc, vK, putU, putK, arithK, intK, faK, hd1, ofV, lenSK, AV.nol, enumL, AV.nol.nols, loadC, loadS, extK, extK.extL, notK, nilckK, callvK, laid]
  refine two93 hc fun r hr => ?_
  cases r with
  | false =>
    simp -implicitDefEqProofs [r60, ha, bld125, ld1_e, ld1_l, ld1_m, ldA_e, ldA_l, ldA_m, ldcm33, ldcm29, ixs_l, ixs_m, st_m, st_l, wrC, readC, getE, fits, TD.fit, optO, runN_succ, more_n, more_exit, more_ret, -List.getD_eq_getElem?_getD, ru, ruc, vK, putU, putK, arithK, intK, faK, hd1, ofV, lenSK, AV.nol, enumL, AV.nol.nols, loadC, loadS, extK, extK.extL, notK, nilckK, callvK, laid]
    exact hK1 fun h1 => by have := hr.2 h1; cases this
  | true =>
    have h0 := hr.1 rfl
    simp -implicitDefEqProofs [r60, ha, bld125, ld1_e, ld1_l, ld1_m, ldA_e, ldA_l, ldA_m, ldcm33, ldcm29, ixs_l, ixs_m, st_m, st_l, wrC, readC, getE, fits, TD.fit, optO, runN_succ, more_n, more_exit, more_ret, -List.getD_eq_getElem?_getD, ru, ruc, vK, putU, putK, arithK, intK, faK, hd1, ofV, lenSK, AV.nol, enumL, AV.nol.nols, loadC, loadS, extK, extK.extL, notK, nilckK, callvK, laid]
    refine re60_0 ?_
    simp -implicitDefEqProofs [g60_0, ha, bld125, ld1_e, ld1_l, ld1_m, ldA_e, ldA_l, ldA_m, ldcm33, ldcm29, ixs_l, ixs_m, st_m, st_l, wrC, readC, getE, fits, TD.fit, optO, runN_succ, more_n, more_exit, more_ret, -List.getD_eq_getElem?_getD, ru, ruc, vK, putU, putK, arithK, intK, faK, hd1, ofV, lenSK, AV.nol, enumL, AV.nol.nols, loadC, loadS, extK, extK.extL, notK, nilckK, callvK, laid]
    repeat' (first | (exact same_n rfl rfl (by repeat (first | exact Sk.refl | refine Sk.cons rfl ?_)) (by repeat (first | exact True.intro | refine And.intro rfl ?_))) | (first | exact step_1 rfl | exact step_2 rfl (by assumption)) | (refine link88 ?_ <;> try simp -implicitDefEqProofs [ha, nolC, bld125, ld1_e, ld1_l, ld1_m, ldA_e, ldA_l, ldA_m, ldcm33, ldcm29, ixs_l, ixs_m, st_m, st_l, wrC, readC, getE, fits, TD.fit, optO, runN_succ, more_n, more_exit, more_ret, -List.getD_eq_getElem?_getD, ru, ruc, vK, putU, putK, arithK, intK, faK, hd1, ofV, lenSK, AV.nol, enumL, AV.nol.nols, loadC, loadS, extK, extK.extL, notK, nilckK, callvK, laid]) | (refine search94 (t := pairOf a b) hc.cuts hl (fun i r2 hP hr2 => ?_) <;> try simp -implicitDefEqProofs [ha, nolC, bld125, ld1_e, ld1_l, ld1_m, ldA_e, ldA_l, ldA_m, ldcm33, ldcm29, ixs_l, ixs_m, st_m, st_l, wrC, readC, getE, fits, TD.fit, optO, runN_succ, more_n, more_exit, more_ret, -List.getD_eq_getElem?_getD, ru, ruc, vK, putU, putK, arithK, intK, faK, hd1, ofV, lenSK, AV.nol, enumL, AV.nol.nols, loadC, loadS, extK, extK.extL, notK, nilckK, callvK, laid]) | (refine guardV_split (fun g => ?_) (fun g => ?_) <;> try simp -implicitDefEqProofs [ha, nolC, bld125, ld1_e, ld1_l, ld1_m, ldA_e, ldA_l, ldA_m, ldcm33, ldcm29, ixs_l, ixs_m, st_m, st_l, wrC, readC, getE, fits, TD.fit, optO, runN_succ, more_n, more_exit, more_ret, -List.getD_eq_getElem?_getD, ru, ruc, vK, putU, putK, arithK, intK, faK, hd1, ofV, lenSK, AV.nol, enumL, AV.nol.nols, loadC, loadS, extK, extK.extL, notK, nilckK, callvK, laid]) | (refine condV_split (fun g => ?_) (fun g => ?_) <;> try simp -implicitDefEqProofs [ha, nolC, bld125, ld1_e, ld1_l, ld1_m, ldA_e, ldA_l, ldA_m, ldcm33, ldcm29, ixs_l, ixs_m, st_m, st_l, wrC, readC, getE, fits, TD.fit, optO, runN_succ, more_n, more_exit, more_ret, -List.getD_eq_getElem?_getD, ru, ruc, vK, putU, putK, arithK, intK, faK, hd1, ofV, lenSK, AV.nol, enumL, AV.nol.nols, loadC, loadS, extK, extK.extL, notK, nilckK, callvK, laid]) | (refine run60 ?_ <;> simp -implicitDefEqProofs [ha, nolC, b60, r60, bld125, ld1_e, ld1_l, ld1_m, ldA_e, ldA_l, ldA_m, ldcm33, ldcm29, ixs_l, ixs_m, st_m, st_l, wrC, readC, getE, fits, TD.fit, optO, runN_succ, more_n, more_exit, more_ret, -List.getD_eq_getElem?_getD, ru, ruc, vK, putU, putK, arithK, intK, faK, hd1, ofV, lenSK, AV.nol, enumL, AV.nol.nols, loadC, loadS, extK, extK.extL, notK, nilckK, callvK, laid]) | (intro _ <;> intros <;> simp -implicitDefEqProofs [ha, nolC, *, bld125, ld1_e, ld1_l, ld1_m, ldA_e, ldA_l, ldA_m, ldcm33, ldcm29, ixs_l, ixs_m, st_m, st_l, wrC, readC, getE, fits, TD.fit, optO, runN_succ, more_n, more_exit, more_ret, -List.getD_eq_getElem?_getD, ru, ruc, vK, putU, putK, arithK, intK, faK, hd1, ofV, lenSK, AV.nol, enumL, AV.nol.nols, loadC, loadS, extK, extK.extL, notK, nilckK, callvK, laid]) | (refine And.intro ?_ ?_) | simp -implicitDefEqProofs [ha, nolC, bld125, ld1_e, ld1_l, ld1_m, ldA_e, ldA_l, ldA_m, ldcm33, ldcm29, ixs_l, ixs_m, st_m, st_l, wrC, readC, getE, fits, TD.fit, optO, runN_succ, more_n, more_exit, more_ret, -List.getD_eq_getElem?_getD, ru, ruc, vK, putU, putK, arithK, intK, faK, hd1, ofV, lenSK, AV.nol, enumL, AV.nol.nols, loadC, loadS, extK, extK.extL, notK, nilckK, callvK, laid])
    all_goals try (
      have g2 : r2 = true := by assumption
      obtain ⟨hi, h1⟩ := hr2.1 g2
      exact hK2 h0 i hi h1)
    all_goals (
      have g2 : r2 = false := by assumption
      obtain ⟨hlen, hK4⟩ := hK3 h0 i hP (fun h1 => by have := hr2.2 h1; rw [g2] at this; cases this)
      refine re60_1 ?_
      simp -implicitDefEqProofs [g60_1, ha, nolC, bld125, ld1_e, ld1_l, ld1_m, ldA_e, ldA_l, ldA_m, ldcm33, ldcm29, ixs_l, ixs_m, st_m, st_l, wrC, readC, getE, fits, TD.fit, optO, runN_succ, more_n, more_exit, more_ret, -List.getD_eq_getElem?_getD, ru, ruc, vK, putU, putK, arithK, intK, faK, hd1, ofV, lenSK, AV.nol, enumL, AV.nol.nols, loadC, loadS, extK, extK.extL, notK, nilckK, callvK, laid]
      repeat' (first | (exact same_n rfl rfl (by repeat (first | exact Sk.refl | refine Sk.cons rfl ?_)) (by repeat (first | exact True.intro | refine And.intro rfl ?_))) | (first | exact step_1 rfl | exact step_2 rfl (by assumption)) | (refine link88 ?_ <;> try simp -implicitDefEqProofs [ha, nolC, bsl23_c, bld125, ld1_e, ld1_l, ld1_m, ldA_e, ldA_l, ldA_m, ldcm33, ldcm29, ixs_l, ixs_m, st_m, st_l, wrC, readC, getE, fits, TD.fit, optO, runN_succ, more_n, more_exit, more_ret, -List.getD_eq_getElem?_getD, ru, ruc, vK, putU, putK, arithK, intK, faK, hd1, ofV, lenSK, AV.nol, enumL, AV.nol.nols, loadC, loadS, extK, extK.extL, notK, nilckK, callvK, laid]) | (refine insert95 (y := pairOf a b) hc.cuts hl (by rw [hlen]) (fun B' h' hB' hf hv hlt => ?_); have hall := hB'.all; have hcell := (hf.same cid hcl o2).trans hc.cell; have hcl' : cid < h'.length := Nat.lt_of_lt_of_le hcl hf.len; have hset : ∀ o, (h'.set cid o)[cid]? = some o := fun o => List.getElem?_set_self hcl'; simp -implicitDefEqProofs [r60, ha, hall, hcell, hset, List.set_set, bld125, ld1_e, ld1_l, ld1_m, ldA_e, ldA_l, ldA_m, ldcm33, ldcm29, ixs_l, ixs_m, st_m, st_l, wrC, readC, getE, fits, TD.fit, optO, runN_succ, more_n, more_exit, more_ret, -List.getD_eq_getElem?_getD, ru, ruc, vK, putU, putK, arithK, intK, faK, hd1, ofV, lenSK, AV.nol, enumL, AV.nol.nols, loadC, loadS, extK, extK.extL, notK, nilckK, callvK, laid]; exact hK4 _ B' ((hf.sub fun i hi => List.mem_cons_of_mem _ hi).trans (Fr.set.sub (by simp))) (hc.setCuts (y := cutX x (pairOf a b)) hB' hf hv rfl rfl) hv <;> try simp -implicitDefEqProofs [ha, nolC, bsl23_c, bld125, ld1_e, ld1_l, ld1_m, ldA_e, ldA_l, ldA_m, ldcm33, ldcm29, ixs_l, ixs_m, st_m, st_l, wrC, readC, getE, fits, TD.fit, optO, runN_succ, more_n, more_exit, more_ret, -List.getD_eq_getElem?_getD, ru, ruc, vK, putU, putK, arithK, intK, faK, hd1, ofV, lenSK, AV.nol, enumL, AV.nol.nols, loadC, loadS, extK, extK.extL, notK, nilckK, callvK, laid]) | (refine guardV_split (fun g => ?_) (fun g => ?_) <;> try simp -implicitDefEqProofs [ha, nolC, bsl23_c, bld125, ld1_e, ld1_l, ld1_m, ldA_e, ldA_l, ldA_m, ldcm33, ldcm29, ixs_l, ixs_m, st_m, st_l, wrC, readC, getE, fits, TD.fit, optO, runN_succ, more_n, more_exit, more_ret, -List.getD_eq_getElem?_getD, ru, ruc, vK, putU, putK, arithK, intK, faK, hd1, ofV, lenSK, AV.nol, enumL, AV.nol.nols, loadC, loadS, extK, extK.extL, notK, nilckK, callvK, laid]) | (refine condV_split (fun g => ?_) (fun g => ?_) <;> try simp -implicitDefEqProofs [ha, nolC, bsl23_c, bld125, ld1_e, ld1_l, ld1_m, ldA_e, ldA_l, ldA_m, ldcm33, ldcm29, ixs_l, ixs_m, st_m, st_l, wrC, readC, getE, fits, TD.fit, optO, runN_succ, more_n, more_exit, more_ret, -List.getD_eq_getElem?_getD, ru, ruc, vK, putU, putK, arithK, intK, faK, hd1, ofV, lenSK, AV.nol, enumL, AV.nol.nols, loadC, loadS, extK, extK.extL, notK, nilckK, callvK, laid]) | (refine run60 ?_ <;> simp -implicitDefEqProofs [ha, nolC, bsl23_c, b60, r60, bld125, ld1_e, ld1_l, ld1_m, ldA_e, ldA_l, ldA_m, ldcm33, ldcm29, ixs_l, ixs_m, st_m, st_l, wrC, readC, getE, fits, TD.fit, optO, runN_succ, more_n, more_exit, more_ret, -List.getD_eq_getElem?_getD, ru, ruc, vK, putU, putK, arithK, intK, faK, hd1, ofV, lenSK, AV.nol, enumL, AV.nol.nols, loadC, loadS, extK, extK.extL, notK, nilckK, callvK, laid]) | (intro _ <;> intros <;> simp -implicitDefEqProofs [ha, nolC, bsl23_c, *, bld125, ld1_e, ld1_l, ld1_m, ldA_e, ldA_l, ldA_m, ldcm33, ldcm29, ixs_l, ixs_m, st_m, st_l, wrC, readC, getE, fits, TD.fit, optO, runN_succ, more_n, more_exit, more_ret, -List.getD_eq_getElem?_getD, ru, ruc, vK, putU, putK, arithK, intK, faK, hd1, ofV, lenSK, AV.nol, enumL, AV.nol.nols, loadC, loadS, extK, extK.extL, notK, nilckK, callvK, laid]) | (refine And.intro ?_ ?_) | simp -implicitDefEqProofs [ha, nolC, bsl23_c, bld125, ld1_e, ld1_l, ld1_m, ldA_e, ldA_l, ldA_m, ldcm33, ldcm29, ixs_l, ixs_m, st_m, st_l, wrC, readC, getE, fits, TD.fit, optO, runN_succ, more_n, more_exit, more_ret, -List.getD_eq_getElem?_getD, ru, ruc, vK, putU, putK, arithK, intK, faK, hd1, ofV, lenSK, AV.nol, enumL, AV.nol.nols, loadC, loadS, extK, extK.extL, notK, nilckK, callvK, laid]))
end
end Go.Ab
end
section
/- Timers: finding, setting, ticks. -/
set_option linter.unusedSimpArgs false
set_option linter.unusedVariables false
set_option maxRecDepth 100000
namespace Go.Ab

section
variable {C : CX} {h : List AObj} {K : AV → List AObj → Prop} {a b : Int} {x : Net} {A B D : AV} {cid : Nat}
/-- slices.Insert of one element, at the end. -/
theorem insert100 {l : List Timer} {v : AV} {y : Timer} {n : Int} (hv : LV h 3 Timer.c v l) (hl : l.length < 1000000) (hn : n = l.length)
    (hK : ∀ v' h', LV h' 3 Timer.c v' (l ++ [y]) → Fr (vid v) h h' → (∀ i ∈ vid v', i ∈ vid v ∨ h.length ≤ i) → (∀ i ∈ vid v', i < h'.length) → K v' h') : ACall C Pg 100 [v, .int .i64 n, .sl false 3 [Timer.c y] .full] h K := by
  subst hn
  refine run100 ?_ (by have := hv.owns; simp [AV.owns, this] <;> exact this)
  have ha := hv.all
  have fin : ∀ v', sliceK T 24 v (some (.int .i64 l.length)) none none v' ∨ ¬ sliceK T 24 v (some (.int .i64 l.length)) none none v' := fun _ => Classical.em _
  have hs : ∀ Q : AV → Prop, (∀ z sz t, Q (.sl z sz [] t)) → sliceK T 24 v (some (.int .i64 l.length)) none none Q := fun Q hQ => by
    rcases hv with ⟨rfl, rfl | rfl⟩ | ⟨id, cs, m, rest, rfl, hid, hm, hcs⟩
    · simp [sliceK, T24, T86, boundsK, hQ]
    · simp [sliceK, T24, T86, boundsK, hQ]
    · exact slc_suf T24 rfl T86 rfl rfl (Nat.le_refl _) (fun h => absurd h (Nat.lt_irrefl _)) (fun _ => hQ _ _ _)
  simp -implicitDefEqProofs [b100, r100, ha, bld125, ld1_e, ld1_l, ld1_m, ldA_e, ldA_l, ldA_m, ldcm33, ldcm29, ixs_l, ixs_m, st_m, st_l, wrC, readC, getE, fits, TD.fit, optO, runN_succ, more_n, more_exit, more_ret, -List.getD_eq_getElem?_getD, ru, ruc, vK, putU, putK, arithK, intK, faK, hd1, ofV, lenSK, AV.nol, enumL, AV.nol.nols, loadC, loadS, extK, extK.extL, notK, nilckK, callvK, laid]
  refine hs _ fun z sz t => ?_
  have hun : (AV.sl z sz [] t).un = .sl z sz [] t ∨ (AV.sl z sz [] t).un = .sl z sz [] .no := by cases t <;> simp [AV.un]
  rcases hun with e | e
  all_goals (
    simp -implicitDefEqProofs [r100, ha, e, bld125, ld1_e, ld1_l, ld1_m, ldA_e, ldA_l, ldA_m, ldcm33, ldcm29, ixs_l, ixs_m, st_m, st_l, wrC, readC, getE, fits, TD.fit, optO, runN_succ, more_n, more_exit, more_ret, -List.getD_eq_getElem?_getD, ru, ruc, vK, putU, putK, arithK, intK, faK, hd1, ofV, lenSK, AV.nol, enumL, AV.nol.nols, loadC, loadS, extK, extK.extL, notK, nilckK, callvK, laid]
    refine LV.append (y := y) rfl hv (by decide) lenT T24 rfl T86 rfl (by decide) (by decide) hl fun v' h' hv' hf h1 h2 => ?_
    have ha' := hv'.all
    simp -implicitDefEqProofs [r100, ha, ha', bld125, ld1_e, ld1_l, ld1_m, ldA_e, ldA_l, ldA_m, ldcm33, ldcm29, ixs_l, ixs_m, st_m, st_l, wrC, readC, getE, fits, TD.fit, optO, runN_succ, more_n, more_exit, more_ret, -List.getD_eq_getElem?_getD, ru, ruc, vK, putU, putK, arithK, intK, faK, hd1, ofV, lenSK, AV.nol, enumL, AV.nol.nols, loadC, loadS, extK, extK.extL, notK, nilckK, callvK, laid]
    exact hK v' h' hv' hf h1 h2)

def isTm (nd tg : Int) (t : Timer) : Bool := decide (t.nd = nd) && decide (t.tg = tg)
theorem timer120 {t : Timer} {i j n m : Nat} {nd tg : Int} (h1 : h[i]? = some (.cells [.int .i64 nd] n)) (h2 : h[j]? = some (.cells [.int .i64 tg] m)) (hK : K (.bool (isTm nd tg t)) h) : ACall C Pg 120 [.agg (Timer.c t), .mptr i 0, .mptr j 0] h K := by
  refine run120 ?_
  simp -implicitDefEqProofs [b120, r120, h1, h2, Timer.c, bld125, ld1_e, ld1_l, ld1_m, ldA_e, ldA_l, ldA_m, ldcm33, ldcm29, ixs_l, ixs_m, st_m, st_l, wrC, readC, getE, fits, TD.fit, optO, runN_succ, more_n, more_exit, more_ret, -List.getD_eq_getElem?_getD, ru, ruc, vK, putU, putK, arithK, intK, faK, hd1, ofV, lenSK, AV.nol, enumL, AV.nol.nols, loadC, loadS, extK, extK.extL, notK, nilckK, callvK, laid]
  repeat' (first | (exact same_n rfl rfl (by repeat (first | exact Sk.refl | refine Sk.cons rfl ?_)) (by repeat (first | exact True.intro | refine And.intro rfl ?_))) | (first | exact step_1 rfl | exact step_2 rfl (by assumption)) | (refine guardV_split (fun g => ?_) (fun g => ?_) <;> try simp -implicitDefEqProofs [h1, h2, bld125, ld1_e, ld1_l, ld1_m, ldA_e, ldA_l, ldA_m, ldcm33, ldcm29, ixs_l, ixs_m, st_m, st_l, wrC, readC, getE, fits, TD.fit, optO, runN_succ, more_n, more_exit, more_ret, -List.getD_eq_getElem?_getD, ru, ruc, vK, putU, putK, arithK, intK, faK, hd1, ofV, lenSK, AV.nol, enumL, AV.nol.nols, loadC, loadS, extK, extK.extL, notK, nilckK, callvK, laid]) | (refine condV_split (fun g => ?_) (fun g => ?_) <;> try simp -implicitDefEqProofs [h1, h2, bld125, ld1_e, ld1_l, ld1_m, ldA_e, ldA_l, ldA_m, ldcm33, ldcm29, ixs_l, ixs_m, st_m, st_l, wrC, readC, getE, fits, TD.fit, optO, runN_succ, more_n, more_exit, more_ret, -List.getD_eq_getElem?_getD, ru, ruc, vK, putU, putK, arithK, intK, faK, hd1, ofV, lenSK, AV.nol, enumL, AV.nol.nols, loadC, loadS, extK, extK.extL, notK, nilckK, callvK, laid]) | (refine run120 ?_ <;> simp -implicitDefEqProofs [h1, h2, b120, r120, bld125, ld1_e, ld1_l, ld1_m, ldA_e, ldA_l, ldA_m, ldcm33, ldcm29, ixs_l, ixs_m, st_m, st_l, wrC, readC, getE, fits, TD.fit, optO, runN_succ, more_n, more_exit, more_ret, -List.getD_eq_getElem?_getD, ru, ruc, vK, putU, putK, arithK, intK, faK, hd1, ofV, lenSK, AV.nol, enumL, AV.nol.nols, loadC, loadS, extK, extK.extL, notK, nilckK, callvK, laid]) | (intro _ <;> intros <;> simp -implicitDefEqProofs [h1, h2, *, bld125, ld1_e, ld1_l, ld1_m, ldA_e, ldA_l, ldA_m, ldcm33, ldcm29, ixs_l, ixs_m, st_m, st_l, wrC, readC, getE, fits, TD.fit, optO, runN_succ, more_n, more_exit, more_ret, -List.getD_eq_getElem?_getD, ru, ruc, vK, putU, putK, arithK, intK, faK, hd1, ofV, lenSK, AV.nol, enumL, AV.nol.nols, loadC, loadS, extK, extK.extL, notK, nilckK, callvK, laid]) | (refine And.intro ?_ ?_) | simp -implicitDefEqProofs [h1, h2, bld125, ld1_e, ld1_l, ld1_m, ldA_e, ldA_l, ldA_m, ldcm33, ldcm29, ixs_l, ixs_m, st_m, st_l, wrC, readC, getE, fits, TD.fit, optO, runN_succ, more_n, more_exit, more_ret, -List.getD_eq_getElem?_getD, ru, ruc, vK, putU, putK, arithK, intK, faK, hd1, ofV, lenSK, AV.nol, enumL, AV.nol.nols, loadC, loadS, extK, extK.extL, notK, nilckK, callvK, laid])
  all_goals simp_all [isTm]
theorem index119 {l : List Timer} {v : AV} {i j n m : Nat} {nd tg : Int} (hv : LV h 3 Timer.c v l) (hl : l.length < 1000000) (h1 : h[i]? = some (.cells [.int .i64 nd] n)) (h2 : h[j]? = some (.cells [.int .i64 tg] m))
    (hK1 : (∀ t ∈ l, isTm nd tg t = false) → K (.int .i64 (-1)) h) (hK2 : ∀ k (hk : k < l.length), isTm nd tg l[k] = true → (∀ t ∈ l.take k, isTm nd tg t = false) → K (.int .i64 (k : Nat)) h) : ACall C Pg 119 [v, .fn 120 [.mptr i 0, .mptr j 0]] h K := by
  refine run119 ?_ (by have := hv.owns; simp [AV.owns, this] <;> exact this)
  have ha := hv.all
  simp -implicitDefEqProofs [b119, r119, ha, bld125, ld1_e, ld1_l, ld1_m, ldA_e, ldA_l, ldA_m, ldcm33, ldcm29, ixs_l, ixs_m, st_m, st_l, wrC, readC, getE, fits, TD.fit, optO, runN_succ, more_n, more_exit, more_ret, -List.getD_eq_getElem?_getD, ru, ruc, vK, putU, putK, arithK, intK, faK, hd1, ofV, lenSK, AV.nol, enumL, AV.nol.nols, loadC, loadS, extK, extK.extL, notK, nilckK, callvK, laid]
  refine lp119_0 (α := Nat) 0 (fun k => [(0, v), (1, .fn 120 [.mptr i 0, .mptr j 0]), (7, .int .i64 l.length), (8, .int .i64 k)]) (fun _ => []) (fun _ => h)
    (fun k => k ≤ l.length ∧ upTo (fun t => isTm nd tg t = false) l k) (fun k => l.length - k) 0 ⟨Nat.zero_le _, upTo.zero⟩ (fun _ => rfl) ?_ rfl rfl rfl ?_
  · simp [allIn, lk, AV.lb, AV.lb.lbs, hv.lb]
  · rintro k ⟨hk, hall⟩
    simp -implicitDefEqProofs [b119_0, r119, ha, bld125, ld1_e, ld1_l, ld1_m, ldA_e, ldA_l, ldA_m, ldcm33, ldcm29, ixs_l, ixs_m, st_m, st_l, wrC, readC, getE, fits, TD.fit, optO, runN_succ, more_n, more_exit, more_ret, -List.getD_eq_getElem?_getD, ru, ruc, vK, putU, putK, arithK, intK, faK, hd1, ofV, lenSK, AV.nol, enumL, AV.nol.nols, loadC, loadS, extK, extK.extL, notK, nilckK, callvK, laid]
    refine condV_split (fun g => ?_) (fun g => ?_)
    · have hk' : k < l.length := by simpa using g
      simp -implicitDefEqProofs [r119, ha, bld125, ld1_e, ld1_l, ld1_m, ldA_e, ldA_l, ldA_m, ldcm33, ldcm29, ixs_l, ixs_m, st_m, st_l, getE, fits, TD.fit, optO, runN_succ, more_n, more_exit, more_ret, -List.getD_eq_getElem?_getD, ru, ruc, vK, putU, putK, arithK, intK, faK, hd1, ofV, lenSK, AV.nol, enumL, AV.nol.nols, loadC, loadS, extK, extK.extL, notK, nilckK, callvK]
      refine LV.at lenT hv hk' rfl (fun id off hrd => ?_)
      simp -implicitDefEqProofs [r119, ha, bld125, ld1_e, ld1_l, ld1_m, ldA_e, ldA_l, ldA_m, ldcm33, ldcm29, ixs_l, ixs_m, st_m, st_l, getE, fits, TD.fit, optO, runN_succ, more_n, more_exit, more_ret, -List.getD_eq_getElem?_getD, ru, ruc, vK, putU, putK, arithK, intK, faK, hd1, ofV, lenSK, AV.nol, enumL, AV.nol.nols, loadC, loadS, extK, extK.extL, notK, nilckK, callvK]
      refine hrd _ ?_
      simp -implicitDefEqProofs [r119, ha, Timer.c, bld125, ld1_e, ld1_l, ld1_m, ldA_e, ldA_l, ldA_m, ldcm33, ldcm29, ixs_l, ixs_m, st_m, st_l, getE, fits, TD.fit, optO, runN_succ, more_n, more_exit, more_ret, -List.getD_eq_getElem?_getD, ru, ruc, vK, putU, putK, arithK, intK, faK, hd1, ofV, lenSK, AV.nol, enumL, AV.nol.nols, loadC, loadS, extK, extK.extL, notK, nilckK, callvK]
      refine timer120 (t := l[k]) h1 h2 ?_
      simp -implicitDefEqProofs [r119, ha, bld125, ld1_e, ld1_l, ld1_m, ldA_e, ldA_l, ldA_m, ldcm33, ldcm29, ixs_l, ixs_m, st_m, st_l, getE, fits, TD.fit, optO, runN_succ, more_n, more_exit, more_ret, -List.getD_eq_getElem?_getD, ru, ruc, vK, putU, putK, arithK, intK, faK, hd1, ofV, lenSK, AV.nol, enumL, AV.nol.nols, loadC, loadS, extK, extK.extL, notK, nilckK, callvK]
      refine condV_split (fun g2 => ?_) (fun g2 => ?_)
      · simp -implicitDefEqProofs [r119, ha, bld125, ld1_e, ld1_l, ld1_m, ldA_e, ldA_l, ldA_m, ldcm33, ldcm29, ixs_l, ixs_m, st_m, st_l, getE, fits, TD.fit, optO, runN_succ, more_n, more_exit, more_ret, -List.getD_eq_getElem?_getD, ru, ruc, vK, putU, putK, arithK, intK, faK, hd1, ofV, lenSK, AV.nol, enumL, AV.nol.nols, loadC, loadS, extK, extK.extL, notK, nilckK, callvK]
        refine hK2 k hk' g2 fun t ht => ?_
        obtain ⟨q, hq, rfl⟩ := List.mem_iff_getElem.1 ht
        rw [List.length_take] at hq
        rw [List.getElem_take]
        exact hall q (by omega) (by omega)
      · simp -implicitDefEqProofs [r119, ha, bld125, ld1_e, ld1_l, ld1_m, ldA_e, ldA_l, ldA_m, ldcm33, ldcm29, ixs_l, ixs_m, st_m, st_l, getE, fits, TD.fit, optO, runN_succ, more_n, more_exit, more_ret, -List.getD_eq_getElem?_getD, ru, ruc, vK, putU, putK, arithK, intK, faK, hd1, ofV, lenSK, AV.nol, enumL, AV.nol.nols, loadC, loadS, extK, extK.extL, notK, nilckK, callvK]
        refine next_normal (k + 1) ⟨by omega, hall.succ hk' g2⟩ (by omega) rfl ?_ rfl rfl
        simp [allIn, lk, AV.lb, AV.lb.lbs, hv.lb, wrap_i (show k < 9223372036854775807 by omega)]
    · simp -implicitDefEqProofs [r119, ha, bld125, ld1_e, ld1_l, ld1_m, ldA_e, ldA_l, ldA_m, ldcm33, ldcm29, ixs_l, ixs_m, st_m, st_l, getE, fits, TD.fit, optO, runN_succ, more_n, more_exit, more_ret, -List.getD_eq_getElem?_getD, ru, ruc, vK, putU, putK, arithK, intK, faK, hd1, ofV, lenSK, AV.nol, enumL, AV.nol.nols, loadC, loadS, extK, extK.extL, notK, nilckK, callvK]
      simp at g
      exact hK1 (hall.all (by omega))
theorem timer97 {nd tg : Int} (hc : Chg h cid x A B D) (hl : x.timers.length < 1000000)
    (hK1 : (∀ t ∈ x.timers, isTm nd tg t = false) → ∀ g, K (.int .i64 (-1)) (h ++ g)) (hK2 : ∀ k (hk : k < x.timers.length), isTm nd tg x.timers[k] = true → (∀ t ∈ x.timers.take k, isTm nd tg t = false) → ∀ g, K (.int .i64 (k : Nat)) (h ++ g)) : ACall C Pg 97 [.mptr cid 0, .int .i64 nd, .int .i64 tg] h K := by
  have ha := hc.all
  have hcl := hc.clt
  have hcell : (h ++ [AObj.cells [.int .i64 nd] 1, AObj.cells [.int .i64 tg] 1])[cid]? = some (.cells [.int .i64 x.nodes, .int .i64 x.now, .int .i64 x.next, A, B, D] 6) := by rw [List.getElem?_append_left hcl]; exact hc.cell
  refine run97 ?_
  simp -implicitDefEqProofs [b97, r97, ha, List.append_assoc, hcell, bld125, ld1_e, ld1_l, ld1_m, ldA_e, ldA_l, ldA_m, ldcm33, ldcm29, ixs_l, ixs_m, st_m, st_l, wrC, readC, getE, fits, TD.fit, optO, runN_succ, more_n, more_exit, more_ret, -List.getD_eq_getElem?_getD, ru, ruc, vK, putU, putK, arithK, intK, faK, hd1, ofV, lenSK, AV.nol, enumL, AV.nol.nols, loadC, loadS, extK, extK.extL, notK, nilckK, callvK, laid]
  refine index119 (n := 1) (m := 1) (nd := nd) (tg := tg) hc.tims.app hl (by simp) (by simp) (fun h1 => ?_) (fun k hk h1 h2 => ?_)
  · simp -implicitDefEqProofs [r97, bld125, ld1_e, ld1_l, ld1_m, ldA_e, ldA_l, ldA_m, ldcm33, ldcm29, ixs_l, ixs_m, st_m, st_l, wrC, readC, getE, fits, TD.fit, optO, runN_succ, more_n, more_exit, more_ret, -List.getD_eq_getElem?_getD, ru, ruc, vK, putU, putK, arithK, intK, faK, hd1, ofV, lenSK, AV.nol, enumL, AV.nol.nols, loadC, loadS, extK, extK.extL, notK, nilckK, callvK, laid]
    exact hK1 h1 _
  · simp -implicitDefEqProofs [r97, bld125, ld1_e, ld1_l, ld1_m, ldA_e, ldA_l, ldA_m, ldcm33, ldcm29, ixs_l, ixs_m, st_m, st_l, wrC, readC, getE, fits, TD.fit, optO, runN_succ, more_n, more_exit, more_ret, -List.getD_eq_getElem?_getD, ru, ruc, vK, putU, putK, arithK, intK, faK, hd1, ofV, lenSK, AV.nol, enumL, AV.nol.nols, loadC, loadS, extK, extK.extL, notK, nilckK, callvK, laid]
    exact hK2 k hk h1 h2 _

def setX (x : Net) (t : Timer) : Net := { x with timers := x.timers ++ [t] }
def setOk (x : Net) (nd tg n : Int) : Prop := nodeOk x nd ∧ 0 ≤ tg ∧ tg ≤ 2147483647 ∧ 1 ≤ n ∧ n ≤ 1000
theorem Chg.app (hc : Chg h cid x A B D) (g : List AObj) : Chg (h ++ g) cid x A B D :=
  ⟨by rw [List.getElem?_append_left hc.clt]; exact hc.cell, hc.way.app, hc.cuts.app, hc.tims.app, hc.apart⟩
/-- Setting a timer where there is none. -/
theorem set67 {nd tg n : Int} (hc : Chg h cid x A B D) (he : x.timers = []) (hn : 0 ≤ x.now ∧ x.now ≤ 1099511627776)
    (hK1 : ¬ setOk x nd tg n → K (.int .i64 1) h)
    (hK : setOk x nd tg n → ∀ h' D', Fr (cid :: vid D) h h' → Chg h' cid (setX x ⟨x.now + n, nd, tg⟩) A B D' → (∀ j ∈ vid D', j ∈ vid D ∨ h.length ≤ j) → K (.int .i64 0) h') : ACall C Pg 67 [.mptr cid 0, .int .i64 nd, .int .i64 tg, .int .i64 n] h K := by
  have ha := hc.all
  have hcl := hc.clt
  obtain ⟨o1, o2, o3, o4, o5⟩ := hc.other
  have hz : x.timers.length = 0 := by rw [he]; rfl
  refine run67 ?_
  simp -implicitDefEqProofs [b67, r67, ha, bld125, ld1_e, ld1_l, ld1_m, ldA_e, ldA_l, ldA_m, ldcm33, ldcm29, ixs_l, ixs_m, st_m, st_l, wrC, readC, getE, fits, TD.fit, optO, runN_succ, more_n, more_exit, more_ret, -List.getD_eq_getElem?_getD, ru, ruc, vK, putU, putK, arithK, intK, faK, hd1, ofV, lenSK, AV.nol, enumL, AV.nol.nols, loadC, loadS, extK, extK.extL, notK, nilckK, callvK, laid]
  refine isNode56v hc.way.trio hc.cuts.trio hc.tims.trio ?_
  repeat' (first | (exact same_n rfl rfl (by repeat (first | exact Sk.refl | refine Sk.cons rfl ?_)) (by repeat (first | exact True.intro | refine And.intro rfl ?_))) | (first | exact step_1 rfl | exact step_2 rfl (by assumption)) | (done <;> try simp -implicitDefEqProofs [ha, bld125, ld1_e, ld1_l, ld1_m, ldA_e, ldA_l, ldA_m, ldcm33, ldcm29, ixs_l, ixs_m, st_m, st_l, wrC, readC, getE, fits, TD.fit, optO, runN_succ, more_n, more_exit, more_ret, -List.getD_eq_getElem?_getD, ru, ruc, vK, putU, putK, arithK, intK, faK, hd1, ofV, lenSK, AV.nol, enumL, AV.nol.nols, loadC, loadS, extK, extK.extL, notK, nilckK, callvK, laid]) | (refine guardV_split (fun g => ?_) (fun g => ?_) <;> try simp -implicitDefEqProofs [ha, bld125, ld1_e, ld1_l, ld1_m, ldA_e, ldA_l, ldA_m, ldcm33, ldcm29, ixs_l, ixs_m, st_m, st_l, wrC, readC, getE, fits, TD.fit, optO, runN_succ, more_n, more_exit, more_ret, -List.getD_eq_getElem?_getD, ru, ruc, vK, putU, putK, arithK, intK, faK, hd1, ofV, lenSK, AV.nol, enumL, AV.nol.nols, loadC, loadS, extK, extK.extL, notK, nilckK, callvK, laid]) | (refine condV_split (fun g => ?_) (fun g => ?_) <;> try simp -implicitDefEqProofs [ha, bld125, ld1_e, ld1_l, ld1_m, ldA_e, ldA_l, ldA_m, ldcm33, ldcm29, ixs_l, ixs_m, st_m, st_l, wrC, readC, getE, fits, TD.fit, optO, runN_succ, more_n, more_exit, more_ret, -List.getD_eq_getElem?_getD, ru, ruc, vK, putU, putK, arithK, intK, faK, hd1, ofV, lenSK, AV.nol, enumL, AV.nol.nols, loadC, loadS, extK, extK.extL, notK, nilckK, callvK, laid]) | (refine run67 ?_ <;> simp -implicitDefEqProofs [ha, b67, r67, bld125, ld1_e, ld1_l, ld1_m, ldA_e, ldA_l, ldA_m, ldcm33, ldcm29, ixs_l, ixs_m, st_m, st_l, wrC, readC, getE, fits, TD.fit, optO, runN_succ, more_n, more_exit, more_ret, -List.getD_eq_getElem?_getD, ru, ruc, vK, putU, putK, arithK, intK, faK, hd1, ofV, lenSK, AV.nol, enumL, AV.nol.nols, loadC, loadS, extK, extK.extL, notK, nilckK, callvK, laid]) | (intro _ <;> intros <;> simp -implicitDefEqProofs [ha, *, bld125, ld1_e, ld1_l, ld1_m, ldA_e, ldA_l, ldA_m, ldcm33, ldcm29, ixs_l, ixs_m, st_m, st_l, wrC, readC, getE, fits, TD.fit, optO, runN_succ, more_n, more_exit, more_ret, -List.getD_eq_getElem?_getD, ru, ruc, vK, putU, putK, arithK, intK, faK, hd1, ofV, lenSK, AV.nol, enumL, AV.nol.nols, loadC, loadS, extK, extK.extL, notK, nilckK, callvK, laid]) | (refine And.intro ?_ ?_) | simp -implicitDefEqProofs [ha, bld125, ld1_e, ld1_l, ld1_m, ldA_e, ldA_l, ldA_m, ldcm33, ldcm29, ixs_l, ixs_m, st_m, st_l, wrC, readC, getE, fits, TD.fit, optO, runN_succ, more_n, more_exit, more_ret, -List.getD_eq_getElem?_getD, ru, ruc, vK, putU, putK, arithK, intK, faK, hd1, ofV, lenSK, AV.nol, enumL, AV.nol.nols, loadC, loadS, extK, extK.extL, notK, nilckK, callvK, laid])
  all_goals try (
    refine hK1 fun o => ?_
    simp only [setOk, nodeOk] at o
    simp only [Bool.or_eq_true, Bool.not_eq_true', decide_eq_false_iff_not, Bool.or_eq_false_iff, Bool.not_eq_false', decide_eq_true_eq] at *
    omega)
  have ok : setOk x nd tg n := by
    simp only [setOk, nodeOk]
    simp only [Bool.or_eq_true, Bool.not_eq_true', decide_eq_false_iff_not, Bool.or_eq_false_iff, Bool.not_eq_false', decide_eq_true_eq] at *
    omega
  have hb : 1 ≤ n ∧ n ≤ 1000 := ⟨ok.2.2.2.1, ok.2.2.2.2⟩
  refine timer97 hc (by omega) (fun _ g => ?_) (fun k hk => by omega)
  have hc2 := hc.app g
  have ha2 := hc2.all
  have hcl2 := hc2.clt
  have hw := wrap_id (n := x.now + n) (by omega) (by omega)
  simp -implicitDefEqProofs [r67, ha2, hz, hw, bld125, ld1_e, ld1_l, ld1_m, ldA_e, ldA_l, ldA_m, ldcm33, ldcm29, ixs_l, ixs_m, st_m, st_l, wrC, readC, getE, fits, TD.fit, optO, runN_succ, more_n, more_exit, more_ret, -List.getD_eq_getElem?_getD, ru, ruc, vK, putU, putK, arithK, intK, faK, hd1, ofV, lenSK, AV.nol, enumL, AV.nol.nols, loadC, loadS, extK, extK.extL, notK, nilckK, callvK, laid]
  refine re67_0 ?_
  simp -implicitDefEqProofs [g67_0, ha2, bld125, ld1_e, ld1_l, ld1_m, ldA_e, ldA_l, ldA_m, ldcm33, ldcm29, ixs_l, ixs_m, st_m, st_l, wrC, readC, getE, fits, TD.fit, optO, runN_succ, more_n, more_exit, more_ret, -List.getD_eq_getElem?_getD, ru, ruc, vK, putU, putK, arithK, intK, faK, hd1, ofV, lenSK, AV.nol, enumL, AV.nol.nols, loadC, loadS, extK, extK.extL, notK, nilckK, callvK, laid]
  refine And.intro ?_ ?_
  all_goals (
    refine search99 (t := ⟨x.now + n, nd, tg⟩) hc2.tims (by omega) (fun i r2 hP hr2 => ?_)
    have hi0 : i = 0 := by have := hP.le; omega
    subst hi0
    simp -implicitDefEqProofs [r67, ha2, bld125, ld1_e, ld1_l, ld1_m, ldA_e, ldA_l, ldA_m, ldcm33, ldcm29, ixs_l, ixs_m, st_m, st_l, wrC, readC, getE, fits, TD.fit, optO, runN_succ, more_n, more_exit, more_ret, -List.getD_eq_getElem?_getD, ru, ruc, vK, putU, putK, arithK, intK, faK, hd1, ofV, lenSK, AV.nol, enumL, AV.nol.nols, loadC, loadS, extK, extK.extL, notK, nilckK, callvK, laid]
    refine re67_1 ?_
    simp -implicitDefEqProofs [g67_1, ha2, bld125, ld1_e, ld1_l, ld1_m, ldA_e, ldA_l, ldA_m, ldcm33, ldcm29, ixs_l, ixs_m, st_m, st_l, wrC, readC, getE, fits, TD.fit, optO, runN_succ, more_n, more_exit, more_ret, -List.getD_eq_getElem?_getD, ru, ruc, vK, putU, putK, arithK, intK, faK, hd1, ofV, lenSK, AV.nol, enumL, AV.nol.nols, loadC, loadS, extK, extK.extL, notK, nilckK, callvK, laid]
    repeat' (first | (exact same_n rfl rfl (by repeat (first | exact Sk.refl | refine Sk.cons rfl ?_)) (by repeat (first | exact True.intro | refine And.intro rfl ?_))) | (first | exact step_1 rfl | exact step_2 rfl (by assumption)) | (refine insert100 (y := ⟨x.now + n, nd, tg⟩) hc2.tims (by omega) (by rw [hz]; rfl) (fun D' h' hD' hf hv hlt => ?_); have hall := hD'.all; have hcell := (hf.same cid hcl2 o3).trans hc2.cell; have hcl' : cid < h'.length := Nat.lt_of_lt_of_le hcl2 hf.len; have hset : ∀ o, (h'.set cid o)[cid]? = some o := fun o => List.getElem?_set_self hcl'; simp -implicitDefEqProofs [r67, ha2, hall, hcell, hset, List.set_set, bld125, ld1_e, ld1_l, ld1_m, ldA_e, ldA_l, ldA_m, ldcm33, ldcm29, ixs_l, ixs_m, st_m, st_l, wrC, readC, getE, fits, TD.fit, optO, runN_succ, more_n, more_exit, more_ret, -List.getD_eq_getElem?_getD, ru, ruc, vK, putU, putK, arithK, intK, faK, hd1, ofV, lenSK, AV.nol, enumL, AV.nol.nols, loadC, loadS, extK, extK.extL, notK, nilckK, callvK, laid]; exact hK ok _ D' ((Fr.push.trans (hf.sub fun i hi => List.mem_cons_of_mem _ hi)).trans (Fr.set.sub (by simp))) (by exact hc2.setTims (y := setX x ⟨x.now + n, nd, tg⟩) hD' hf hv rfl rfl) (fun j hj => (hv j hj).imp id (fun h1 => by simp at h1; omega)) <;> try simp -implicitDefEqProofs [ha2, bsl24_1, bld125, ld1_e, ld1_l, ld1_m, ldA_e, ldA_l, ldA_m, ldcm33, ldcm29, ixs_l, ixs_m, st_m, st_l, wrC, readC, getE, fits, TD.fit, optO, runN_succ, more_n, more_exit, more_ret, -List.getD_eq_getElem?_getD, ru, ruc, vK, putU, putK, arithK, intK, faK, hd1, ofV, lenSK, AV.nol, enumL, AV.nol.nols, loadC, loadS, extK, extK.extL, notK, nilckK, callvK, laid]) | (refine guardV_split (fun g => ?_) (fun g => ?_) <;> try simp -implicitDefEqProofs [ha2, bsl24_1, bld125, ld1_e, ld1_l, ld1_m, ldA_e, ldA_l, ldA_m, ldcm33, ldcm29, ixs_l, ixs_m, st_m, st_l, wrC, readC, getE, fits, TD.fit, optO, runN_succ, more_n, more_exit, more_ret, -List.getD_eq_getElem?_getD, ru, ruc, vK, putU, putK, arithK, intK, faK, hd1, ofV, lenSK, AV.nol, enumL, AV.nol.nols, loadC, loadS, extK, extK.extL, notK, nilckK, callvK, laid]) | (refine condV_split (fun g => ?_) (fun g => ?_) <;> try simp -implicitDefEqProofs [ha2, bsl24_1, bld125, ld1_e, ld1_l, ld1_m, ldA_e, ldA_l, ldA_m, ldcm33, ldcm29, ixs_l, ixs_m, st_m, st_l, wrC, readC, getE, fits, TD.fit, optO, runN_succ, more_n, more_exit, more_ret, -List.getD_eq_getElem?_getD, ru, ruc, vK, putU, putK, arithK, intK, faK, hd1, ofV, lenSK, AV.nol, enumL, AV.nol.nols, loadC, loadS, extK, extK.extL, notK, nilckK, callvK, laid]) | (refine run67 ?_ <;> simp -implicitDefEqProofs [ha2, bsl24_1, b67, r67, bld125, ld1_e, ld1_l, ld1_m, ldA_e, ldA_l, ldA_m, ldcm33, ldcm29, ixs_l, ixs_m, st_m, st_l, wrC, readC, getE, fits, TD.fit, optO, runN_succ, more_n, more_exit, more_ret, -List.getD_eq_getElem?_getD, ru, ruc, vK, putU, putK, arithK, intK, faK, hd1, ofV, lenSK, AV.nol, enumL, AV.nol.nols, loadC, loadS, extK, extK.extL, notK, nilckK, callvK, laid]) | (intro _ <;> intros <;> simp -implicitDefEqProofs [ha2, bsl24_1, *, bld125, ld1_e, ld1_l, ld1_m, ldA_e, ldA_l, ldA_m, ldcm33, ldcm29, ixs_l, ixs_m, st_m, st_l, wrC, readC, getE, fits, TD.fit, optO, runN_succ, more_n, more_exit, more_ret, -List.getD_eq_getElem?_getD, ru, ruc, vK, putU, putK, arithK, intK, faK, hd1, ofV, lenSK, AV.nol, enumL, AV.nol.nols, loadC, loadS, extK, extK.extL, notK, nilckK, callvK, laid]) | (refine And.intro ?_ ?_) | simp -implicitDefEqProofs [ha2, bsl24_1, bld125, ld1_e, ld1_l, ld1_m, ldA_e, ldA_l, ldA_m, ldcm33, ldcm29, ixs_l, ixs_m, st_m, st_l, wrC, readC, getE, fits, TD.fit, optO, runN_succ, more_n, more_exit, more_ret, -List.getD_eq_getElem?_getD, ru, ruc, vK, putU, putK, arithK, intK, faK, hd1, ofV, lenSK, AV.nol, enumL, AV.nol.nols, loadC, loadS, extK, extK.extL, notK, nilckK, callvK, laid]))
end
end Go.Ab
end
section
/- A tick. -/
set_option linter.unusedSimpArgs false
set_option linter.unusedVariables false
set_option maxRecDepth 100000
namespace Go.Ab

/-- A list of one's own that is built up. -/
def accV {α : Type} (sz : Nat) (c : α → List AV) (l : List α) : AV := if l.isEmpty then .sl true 0 [] .no else .sl false sz (l.map c) .own
def accU {α : Type} (sz : Nat) (c : α → List AV) (l : List α) : AV := if l.isEmpty then .sl true 0 [] .no else .sl false sz (l.map c) .no
theorem accV_un {α : Type} {sz : Nat} {c : α → List AV} {l : List α} : (accV sz c l).un = accU sz c l := by unfold accV accU; split <;> rfl
theorem accU_un {α : Type} {sz : Nat} {c : α → List AV} {l : List α} : (accU sz c l).un = accU sz c l := by unfold accU; split <;> rfl
theorem accV_nol {α : Type} {sz : Nat} {c : α → List AV} {l : List α} : (accV sz c l).nol = true := by unfold accV; split <;> rfl
theorem accU_nol {α : Type} {sz : Nat} {c : α → List AV} {l : List α} : (accU sz c l).nol = true := by unfold accU; split <;> rfl
theorem accV_lb {α : Type} {sz : Nat} {c : α → List AV} {l : List α} (m : Nat) : AV.lb m (accV sz c l) = true := by unfold accV; split <;> rfl
theorem accU_ow {α : Type} {sz : Nat} {c : α → List AV} {l : List α} : (accU sz c l).owns = false := by unfold accU; split <;> rfl
theorem accV_nil {α : Type} {sz : Nat} {c : α → List AV} : accV sz c ([] : List α) = .sl true 0 [] .no := rfl
theorem app_acc {α : Type} {sz t e : Nat} {c : α → List AV} {l : List α} {y : α} {ti ei : TI} {h : List AObj} {K : AV → List AObj → Prop} (hsz : sz ≠ 0) (h1 : T.get t = some ti) (h2 : ti.d = .slice e) (h3 : T.get e = some ei) (h4 : ei.size = sz) (hb : ei.bytes ≠ 0) (hb2 : ei.bytes ≤ 1000) (hl : l.length < 1000000)
    (hK : K (accV sz c (l ++ [y])) h) : appendK T false t t (accV sz c l) (.sl false sz [c y] .full) h K := by
  subst h4
  have hbd : (l.length + 1) * ei.bytes ≤ 140737488355328 := Nat.le_trans (Nat.mul_le_mul (show l.length + 1 ≤ 1000000 by omega) hb2) (by decide)
  unfold accV at hK ⊢
  have h0 : (l ++ [y]).isEmpty = false := by simp
  rw [h0] at hK
  cases l with
  | nil =>
    simp only [List.isEmpty_nil, if_true, appendK, srcK, h1, h2, h3]
    simp only [List.length_nil, Nat.zero_add, Nat.one_mul] at hbd
    simpa [resTip, hsz, hb, hbd] using hK
  | cons x l =>
    have hh : (x :: l).isEmpty = false := rfl
    rw [hh]
    simp only [Bool.false_eq_true, if_false, appendK, srcK, h1, h2, h3]
    simp only [List.length_cons] at hbd
    simpa [resTip, hsz, hb, hbd] using hK

theorem readC_sub {h : List AObj} {id off sz o s off' : Nat} {cells : List AV} (hrd : ∀ F : List AV → Prop, F cells → readC h id off sz F) (hl : cells.length = sz) (ho : off' = off + o) (h1 : o + s ≤ sz) {F : List AV → Prop} (hF : F ((cells.drop o).take s)) : readC h id off' s F := by
  subst ho
  have := hrd (fun c => c = cells) rfl
  unfold readC at this ⊢
  split at this
  · obtain ⟨h2, h3⟩ := this
    refine ⟨by omega, ?_⟩
    rename_i cs n _
    have e : (cs.drop (off + o)).take s = (cells.drop o).take s := by
      rw [← h3, List.drop_take, List.take_take, List.drop_drop, Nat.min_eq_left (by omega)]
    rw [e]
    exact hF
  · exact this.elim

section
variable {C : CX} {h : List AObj} {K : AV → List AObj → Prop} {a b : Int} {x : Net} {A B D : AV} {cid : Nat}
def tickTo (x : Net) (k : Nat) : Net := { x with now := x.now + 1, timers := x.timers.drop k }
theorem tick72 (hc : Chg h cid x A B D) (hn : 0 ≤ x.now ∧ x.now ≤ 1099511627776) (hl : x.timers.length < 1000000)
    (hK1 : x.now = 1099511627776 → K (.tup [.sl true 0 [] .no, .int .i64 3]) h)
    (hK : x.now ≠ 1099511627776 → ∀ k, k ≤ x.timers.length → (∀ t ∈ x.timers.take k, t.tm = x.now + 1) → (∀ (hk : k < x.timers.length), x.timers[k].tm ≠ x.now + 1) →
      ∀ h' D', Fr (cid :: vid D) h h' → Chg h' cid (tickTo x k) A B D' → vid D' = vid D → K (.tup [accU 3 Timer.c (x.timers.take k), .int .i64 0]) h') : ACall C Pg 72 [.mptr cid 0] h K := by
  have ha := hc.all
  have hcl := hc.clt
  obtain ⟨o1, o2, o3, o4, o5⟩ := hc.other
  refine run72 ?_
  simp -implicitDefEqProofs [b72, r72, ha, bld125, ld1_e, ld1_l, ld1_m, ldA_e, ldA_l, ldA_m, ldcm33, ldcm29, ixs_l, ixs_m, st_m, st_l, wrC, readC, getE, fits, TD.fit, optO, runN_succ, more_n, more_exit, more_ret, -List.getD_eq_getElem?_getD, ru, ruc, vK, putU, putK, arithK, intK, faK, hd1, ofV, lenSK, AV.nol, enumL, AV.nol.nols, loadC, loadS, extK, extK.extL, notK, nilckK, callvK, laid]
  refine condV_split (fun g => ?_) (fun g => ?_)
  · simp -implicitDefEqProofs [r72, bld125, ld1_e, ld1_l, ld1_m, ldA_e, ldA_l, ldA_m, ldcm33, ldcm29, ixs_l, ixs_m, st_m, st_l, wrC, readC, getE, fits, TD.fit, optO, runN_succ, more_n, more_exit, more_ret, -List.getD_eq_getElem?_getD, ru, ruc, vK, putU, putK, arithK, intK, faK, hd1, ofV, lenSK, AV.nol, enumL, AV.nol.nols, loadC, loadS, extK, extK.extL, notK, nilckK, callvK, laid]
    exact hK1 (by simpa using g)
  · have hne : x.now ≠ 1099511627776 := by simpa using g
    have hw := wrap_id (n := x.now + 1) (by omega) (by omega)
    have hset : ∀ o, (h.set cid o)[cid]? = some o := fun o => List.getElem?_set_self hcl
    simp -implicitDefEqProofs [r72, ha, hw, hset, bld125, ld1_e, ld1_l, ld1_m, ldA_e, ldA_l, ldA_m, ldcm33, ldcm29, ixs_l, ixs_m, st_m, st_l, wrC, readC, getE, fits, TD.fit, optO, runN_succ, more_n, more_exit, more_ret, -List.getD_eq_getElem?_getD, ru, ruc, vK, putU, putK, arithK, intK, faK, hd1, ofV, lenSK, AV.nol, enumL, AV.nol.nols, loadC, loadS, extK, extK.extL, notK, nilckK, callvK, laid]
    have hc1 : Chg (h.set cid (.cells [.int .i64 x.nodes, .int .i64 (x.now + 1), .int .i64 x.next, A, B, D] 6)) cid (tickTo x 0) A B D := hc.setNum (y := tickTo x 0) rfl rfl (by simp [tickTo])
    refine lp72_0 (α := Nat × List AObj × AV) 0 (fun g => [(0, .mptr cid 0), (4, accV 3 Timer.c (x.timers.take g.1))]) (fun _ => []) (fun g => g.2.1)
      (fun g => g.1 ≤ x.timers.length ∧ (∀ t ∈ x.timers.take g.1, t.tm = x.now + 1) ∧ Fr (cid :: vid D) h g.2.1 ∧ Chg g.2.1 cid (tickTo x g.1) A B g.2.2 ∧ vid g.2.2 = vid D) (fun g => x.timers.length - g.1) (0, h.set cid (.cells [.int .i64 x.nodes, .int .i64 (x.now + 1), .int .i64 x.next, A, B, D] 6), D) ⟨Nat.zero_le _, by simp, Fr.set.sub (by simp), hc1, rfl⟩ (fun _ => rfl) ?_ rfl rfl rfl ?_
    · simp [allIn, lk, AV.lb, AV.lb.lbs, accV_nil, accV_lb]
    · rintro ⟨k, hh, D'⟩ ⟨hk, hall, hf, hck, hvd⟩
      simp only at hk hall hf hck hvd
      have hak := hck.all
      have hckl := hck.clt
      have hlen : (tickTo x k).timers.length = x.timers.length - k := by simp [tickTo]
      have hget : ∀ (h0 : 0 < (tickTo x k).timers.length) (hk' : k < x.timers.length), (tickTo x k).timers[0] = x.timers[k] := fun h0 hk' => by simp [tickTo]
      have hnow : (tickTo x k).now = x.now + 1 := rfl
      have hread : ∀ off sz K, readC hh cid off sz K = (off + sz ≤ 6 ∧ K (([AV.int .i64 x.nodes, .int .i64 (x.now + 1), .int .i64 x.next, A, B, D'].drop off).take sz)) := fun off sz K => by unfold readC; rw [hck.cell]; rfl
      simp -implicitDefEqProofs [b72_0, r72, hak, bld125, ld1_e, ld1_l, ld1_m, ldA_e, ldA_l, ldA_m, ldcm33, ldcm29, ixs_l, ixs_m, st_m, st_l, wrC, readC, getE, fits, TD.fit, optO, runN_succ, more_n, more_exit, more_ret, -List.getD_eq_getElem?_getD, ru, ruc, vK, putU, putK, arithK, intK, faK, hd1, ofV, lenSK, AV.nol, enumL, AV.nol.nols, loadC, loadS, extK, extK.extL, notK, nilckK, callvK, laid]
      refine re72_0 ?_
      by_cases hkl : k < x.timers.length
      · have hd : decide (0 < x.timers.length - k) = true := by simp; omega
        have h0 : 0 < (tickTo x k).timers.length := by rw [hlen]; omega
        have hg0 := hget h0 hkl
        have her : (tickTo x k).timers.eraseIdx 0 = (tickTo x (k + 1)).timers := by simp [tickTo, List.eraseIdx_zero]
        have htake : x.timers.take (k + 1) = x.timers.take k ++ [x.timers[k]] := by rw [List.take_add_one, List.getElem?_eq_getElem hkl]; rfl
        obtain ⟨u1, u2, u3, u4, u5⟩ := hck.other
        simp -implicitDefEqProofs [g72_0, hak, hread, hlen, hd, bld125, ld1_e, ld1_l, ld1_m, ldA_e, ldA_l, ldA_m, ldcm33, ldcm29, ixs_l, ixs_m, st_m, st_l, getE, fits, TD.fit, optO, runN_succ, more_n, more_exit, more_ret, -List.getD_eq_getElem?_getD, ru, ruc, vK, putU, putK, arithK, intK, faK, hd1, ofV, lenSK, AV.nol, enumL, AV.nol.nols, loadC, loadS, extK, extK.extL, notK, nilckK, callvK]
        repeat' (first | (refine guardV_split (fun g => ?_) (fun g => ?_) <;> try simp -implicitDefEqProofs [r72, hak, hread, hlen, hd, Timer.c, accV_un, accU_un, accU_ow, accU_nol, bld125, ld1_e, ld1_l, ld1_m, ldA_e, ldA_l, ldA_m, ldcm33, ldcm29, ixs_l, ixs_m, st_m, st_l, getE, fits, TD.fit, optO, runN_succ, more_n, more_exit, more_ret, -List.getD_eq_getElem?_getD, ru, ruc, vK, putU, putK, arithK, intK, faK, hd1, ofV, lenSK, AV.nol, enumL, AV.nol.nols, loadC, loadS, extK, extK.extL, notK, nilckK, callvK]) | (refine condV_split (fun g => ?_) (fun g => ?_) <;> try simp -implicitDefEqProofs [r72, hak, hread, hlen, hd, Timer.c, accV_un, accU_un, accU_ow, accU_nol, bld125, ld1_e, ld1_l, ld1_m, ldA_e, ldA_l, ldA_m, ldcm33, ldcm29, ixs_l, ixs_m, st_m, st_l, getE, fits, TD.fit, optO, runN_succ, more_n, more_exit, more_ret, -List.getD_eq_getElem?_getD, ru, ruc, vK, putU, putK, arithK, intK, faK, hd1, ofV, lenSK, AV.nol, enumL, AV.nol.nols, loadC, loadS, extK, extK.extL, notK, nilckK, callvK]) | (refine And.intro ?_ ?_ <;> try simp -implicitDefEqProofs [r72, hak, hread, hlen, hd, Timer.c, accV_un, accU_un, accU_ow, accU_nol, bld125, ld1_e, ld1_l, ld1_m, ldA_e, ldA_l, ldA_m, ldcm33, ldcm29, ixs_l, ixs_m, st_m, st_l, getE, fits, TD.fit, optO, runN_succ, more_n, more_exit, more_ret, -List.getD_eq_getElem?_getD, ru, ruc, vK, putU, putK, arithK, intK, faK, hd1, ofV, lenSK, AV.nol, enumL, AV.nol.nols, loadC, loadS, extK, extK.extL, notK, nilckK, callvK]) | (refine LV.at (i := 0) lenT hck.tims (by rw [hlen]; omega) rfl (fun id off hrd => ?_) <;> try simp -implicitDefEqProofs [r72, hak, hread, hlen, hd, Timer.c, accV_un, accU_un, accU_ow, accU_nol, bld125, ld1_e, ld1_l, ld1_m, ldA_e, ldA_l, ldA_m, ldcm33, ldcm29, ixs_l, ixs_m, st_m, st_l, getE, fits, TD.fit, optO, runN_succ, more_n, more_exit, more_ret, -List.getD_eq_getElem?_getD, ru, ruc, vK, putU, putK, arithK, intK, faK, hd1, ofV, lenSK, AV.nol, enumL, AV.nol.nols, loadC, loadS, extK, extK.extL, notK, nilckK, callvK]) | (refine readC_sub (o := 0) hrd (lenT _) rfl (by decide) ?_ <;> try simp -implicitDefEqProofs [r72, hak, hread, hlen, hd, Timer.c, accV_un, accU_un, accU_ow, accU_nol, bld125, ld1_e, ld1_l, ld1_m, ldA_e, ldA_l, ldA_m, ldcm33, ldcm29, ixs_l, ixs_m, st_m, st_l, getE, fits, TD.fit, optO, runN_succ, more_n, more_exit, more_ret, -List.getD_eq_getElem?_getD, ru, ruc, vK, putU, putK, arithK, intK, faK, hd1, ofV, lenSK, AV.nol, enumL, AV.nol.nols, loadC, loadS, extK, extK.extL, notK, nilckK, callvK]))
        all_goals rw [hg0] at g
        all_goals first
          | (refine hK hne k hk hall (fun h1 => by simpa using g) _ D' hf hck hvd)
          | (refine without98 (l := (tickTo x k).timers) (by omega) hck.tims h0 rfl (fun D2 h2 hv2 hf2 hD2 => ?_)
             rw [her] at hD2
             rw [hg0]
             have hall2 := hD2.all
             have hcell2 : h2[cid]? = some (.cells [.int .i64 x.nodes, .int .i64 (x.now + 1), .int .i64 x.next, A, B, D'] 6) := (hf2.same cid hckl u3).trans hck.cell
             have hcl2 : cid < h2.length := Nat.lt_of_lt_of_le hckl hf2.len
             have hset2 : ∀ o, (h2.set cid o)[cid]? = some o := fun o => List.getElem?_set_self hcl2
             have hacc : (accV 3 Timer.c (x.timers.take k)).owns = true ∨ ¬ (accV 3 Timer.c (x.timers.take k)).owns = true := Classical.em _
             rcases hacc with hacc | hacc
             all_goals (
               simp -implicitDefEqProofs [r72, hak, hall2, hcell2, hset2, bsl24_1, Timer.c, hacc, accV_un, accU_ow, bld125, ld1_e, ld1_l, ld1_m, ldA_e, ldA_l, ldA_m, ldcm33, ldcm29, ixs_l, ixs_m, st_m, st_l, wrC, readC, getE, fits, TD.fit, optO, runN_succ, more_n, more_exit, more_ret, -List.getD_eq_getElem?_getD, ru, ruc, vK, putU, putK, arithK, intK, faK, hd1, ofV, lenSK, AV.nol, enumL, AV.nol.nols, loadC, loadS, extK, extK.extL, notK, nilckK, callvK, laid]
               refine app_acc (y := x.timers[k]) (by decide) T24 rfl T86 rfl (by decide) (by decide) (by rw [List.length_take]; omega) ?_
               rw [← htake]
               have hacc2 : (accV 3 Timer.c (x.timers.take (k + 1))).owns = true ∨ ¬ (accV 3 Timer.c (x.timers.take (k + 1))).owns = true := Classical.em _
               rcases hacc2 with hacc2 | hacc2
               all_goals (
                 simp -implicitDefEqProofs [r72, hacc, hacc2, accV_un, bld125, ld1_e, ld1_l, ld1_m, ldA_e, ldA_l, ldA_m, ldcm33, ldcm29, ixs_l, ixs_m, st_m, st_l, wrC, readC, getE, fits, TD.fit, optO, runN_succ, more_n, more_exit, more_ret, -List.getD_eq_getElem?_getD, ru, ruc, vK, putU, putK, arithK, intK, faK, hd1, ofV, lenSK, AV.nol, enumL, AV.nol.nols, loadC, loadS, extK, extK.extL, notK, nilckK, callvK, laid]
                 refine next_normal (k + 1, h2.set cid (.cells [.int .i64 x.nodes, .int .i64 (x.now + 1), .int .i64 x.next, A, B, D2] 6), D2) ?_ ?_ rfl ?_ rfl rfl
                 rotate_left
                 · simp only; omega
                 · simp [allIn, lk, AV.lb, AV.lb.lbs, accV_lb]
                 refine ⟨by simp only; omega, ?_, ?_, ?_, ?_⟩
                 · intro t ht
                   simp only at ht
                   rw [htake] at ht
                   rcases List.mem_append.1 ht with h3 | h3
                   · exact hall t h3
                   · simp only [List.mem_singleton] at h3
                     subst h3
                     simpa using g
                 · exact (hf.trans ((hf2.sub fun i hi => List.mem_cons_of_mem _ (hvd ▸ hi)))).trans (Fr.set.sub (by simp))
                 · exact hck.setTims (y := tickTo x (k + 1)) hD2 hf2 (fun i hi => .inl (hv2 ▸ hi)) rfl rfl
                 · exact hv2.trans hvd)))
      · have hd : decide (0 < x.timers.length - k) = false := by simp; omega
        simp -implicitDefEqProofs [g72_0, hak, hread, hlen, hd, bld125, ld1_e, ld1_l, ld1_m, ldA_e, ldA_l, ldA_m, ldcm33, ldcm29, ixs_l, ixs_m, st_m, st_l, getE, fits, TD.fit, optO, runN_succ, more_n, more_exit, more_ret, -List.getD_eq_getElem?_getD, ru, ruc, vK, putU, putK, arithK, intK, faK, hd1, ofV, lenSK, AV.nol, enumL, AV.nol.nols, loadC, loadS, extK, extK.extL, notK, nilckK, callvK]
        repeat' (first | (refine guardV_split (fun g => ?_) (fun g => ?_) <;> try simp -implicitDefEqProofs [r72, hak, hread, hlen, hd, accV_un, accU_un, accU_ow, accU_nol, bld125, ld1_e, ld1_l, ld1_m, ldA_e, ldA_l, ldA_m, ldcm33, ldcm29, ixs_l, ixs_m, st_m, st_l, getE, fits, TD.fit, optO, runN_succ, more_n, more_exit, more_ret, -List.getD_eq_getElem?_getD, ru, ruc, vK, putU, putK, arithK, intK, faK, hd1, ofV, lenSK, AV.nol, enumL, AV.nol.nols, loadC, loadS, extK, extK.extL, notK, nilckK, callvK]) | (refine condV_split (fun g => ?_) (fun g => ?_) <;> try simp -implicitDefEqProofs [r72, hak, hread, hlen, hd, accV_un, accU_un, accU_ow, accU_nol, bld125, ld1_e, ld1_l, ld1_m, ldA_e, ldA_l, ldA_m, ldcm33, ldcm29, ixs_l, ixs_m, st_m, st_l, getE, fits, TD.fit, optO, runN_succ, more_n, more_exit, more_ret, -List.getD_eq_getElem?_getD, ru, ruc, vK, putU, putK, arithK, intK, faK, hd1, ofV, lenSK, AV.nol, enumL, AV.nol.nols, loadC, loadS, extK, extK.extL, notK, nilckK, callvK]) | (refine And.intro ?_ ?_ <;> try simp -implicitDefEqProofs [r72, hak, hread, hlen, hd, accV_un, accU_un, accU_ow, accU_nol, bld125, ld1_e, ld1_l, ld1_m, ldA_e, ldA_l, ldA_m, ldcm33, ldcm29, ixs_l, ixs_m, st_m, st_l, getE, fits, TD.fit, optO, runN_succ, more_n, more_exit, more_ret, -List.getD_eq_getElem?_getD, ru, ruc, vK, putU, putK, arithK, intK, faK, hd1, ofV, lenSK, AV.nol, enumL, AV.nol.nols, loadC, loadS, extK, extK.extL, notK, nilckK, callvK]))
        all_goals exact hK hne k hk hall (fun h1 => absurd h1 hkl) _ D' hf hck hvd
end
end Go.Ab
end
section
/- The exported functions, told of no memory. -/
set_option linter.unusedSimpArgs false
set_option linter.unusedVariables false
set_option maxRecDepth 100000
namespace Go.Ab

section
variable {C : CX} {h : List AObj} {K : AV → List AObj → Prop} {a b : Int} {x : Net} {A B D : AV} {cid : Nat} {z1 z2 z3 : Bool} {s1 s2 s3 : Nat}
def zeroN : AV := .agg [.int .i64 0, .int .i64 0, .int .i64 0, .sl true 0 [] .no, .sl true 0 [] .no, .sl true 0 [] .no]
theorem frz3 {K : AV → List AObj → Prop} {r : AV} {h : List AObj} (hK : K r h) : frzK (frzK (frzK K)) r h := .inl (.inl (.inl hK))

theorem fin {K : AV → Prop} {rest : List AV} (hc : Chg h cid x A B D) (hd : AV.deep.deeps rest = true) (hr : ∀ id cs, AV.frz.frzs id cs rest = rest) (hw : AV.weak.weaks rest = rest)
    (hK : ∀ z1 s1 z2 s2 z3 s3, Nk z1 s1 z2 s2 z3 s3 x → K (.tup (.agg [.int .i64 x.nodes, .int .i64 x.now, .int .i64 x.next, .sl z1 s1 (x.way.map Letter.c) .no, .sl z2 s2 (x.cuts.map Link.c) .no, .sl z3 s3 (x.timers.map Timer.c) .no] :: rest))) :
    frzK (frzK (frzK fun r _ => r.weak.deep = true ∧ r.weak.owns = false ∧ K r.weak)) (.tup (.agg [.int .i64 x.nodes, .int .i64 x.now, .int .i64 x.next, A, B, D] :: rest)) h :=
  froz (K := fun r _ => r.deep = true ∧ r.owns = false ∧ K r) hc hr hw fun z1 s1 z2 s2 z3 s3 h' hk => ⟨by simp [AV.deep.deeps, AV.deep, deep_L, deep_C, deep_T, hd], rfl, hK z1 s1 z2 s2 z3 s3 hk⟩

theorem send42 {fr to : Int} {data : List UInt8} (hk : Nk z1 s1 z2 s2 z3 s3 x) (hc : x.cuts.length < 1000000)
    (h1 : ¬ WF x → K (.tup [zeroN, .int .i64 0, .int .i64 2]) h) (h2 : WF x → sendE x fr to data ≠ 0 → K (.tup [zeroN, .int .i64 0, .int .i64 (sendE x fr to data)]) h)
    (h3 : WF x → sendE x fr to data = 0 → ∀ z1 s1 z2 s2 z3 s3, Nk z1 s1 z2 s2 z3 s3 (sendX x fr to data) → K (.tup [.agg [.int .i64 (sendX x fr to data).nodes, .int .i64 (sendX x fr to data).now, .int .i64 (sendX x fr to data).next, .sl z1 s1 ((sendX x fr to data).way.map Letter.c) .no, .sl z2 s2 ((sendX x fr to data).cuts.map Link.c) .no, .sl z3 s3 ((sendX x fr to data).timers.map Timer.c) .no], .int .i64 x.next, .int .i64 0]) h) :
    ACall C Pg 42 [.agg [.int .i64 x.nodes, .int .i64 x.now, .int .i64 x.next, .sl z1 s1 (x.way.map Letter.c) .no, .sl z2 s2 (x.cuts.map Link.c) .no, .sl z3 s3 (x.timers.map Timer.c) .no], .int .i64 fr, .int .i64 to, .str data] h K := by
  refine ACall.closed (by simp [AV.deep.deeps, AV.deep, deep_L, deep_C, deep_T]) (ACall.weaken (ACall.freeze (ACall.freeze (ACall.freeze ?_))))
  refine run42 ?_
  simp -implicitDefEqProofs [b42, r42, bld125, ld1_e, ld1_l, ld1_m, ldA_e, ldA_l, ldA_m, ldcm33, ldcm29, ixs_l, ixs_m, st_m, st_l, wrC, readC, getE, fits, TD.fit, optO, runN_succ, more_n, more_exit, more_ret, -List.getD_eq_getElem?_getD, ru, ruc, vK, putU, putK, arithK, intK, faK, hd1, ofV, lenSK, AV.nol, enumL, AV.nol.nols, loadC, loadS, extK, extK.extL, notK, nilckK, callvK, laid]
  refine changing45 hk hc (fun hw => ?_) (fun hw cid A B D g hcid hge hch => ?_)
  · simp -implicitDefEqProofs [r42, bld125, ld1_e, ld1_l, ld1_m, ldA_e, ldA_l, ldA_m, ldcm33, ldcm29, ixs_l, ixs_m, st_m, st_l, wrC, readC, getE, fits, TD.fit, optO, runN_succ, more_n, more_exit, more_ret, -List.getD_eq_getElem?_getD, ru, ruc, vK, putU, putK, arithK, intK, faK, hd1, ofV, lenSK, AV.nol, enumL, AV.nol.nols, loadC, loadS, extK, extK.extL, notK, nilckK, callvK, laid]
    exact frz3 ⟨rfl, rfl, h1 hw⟩
  · have ha := hch.all
    simp -implicitDefEqProofs [r42, ha, bld125, ld1_e, ld1_l, ld1_m, ldA_e, ldA_l, ldA_m, ldcm33, ldcm29, ixs_l, ixs_m, st_m, st_l, wrC, readC, getE, fits, TD.fit, optO, runN_succ, more_n, more_exit, more_ret, -List.getD_eq_getElem?_getD, ru, ruc, vK, putU, putK, arithK, intK, faK, hd1, ofV, lenSK, AV.nol, enumL, AV.nol.nols, loadC, loadS, extK, extK.extL, notK, nilckK, callvK, laid]
    refine send80 hch ⟨hw.x1, hw.x2⟩ (by have := hw.fl; omega) (fun he => ?_) (fun he h' A' hf hc2 hv => ?_)
    · simp -implicitDefEqProofs [r42, Letter.c, bld125, ld1_e, ld1_l, ld1_m, ldA_e, ldA_l, ldA_m, ldcm33, ldcm29, ixs_l, ixs_m, st_m, st_l, wrC, readC, getE, fits, TD.fit, optO, runN_succ, more_n, more_exit, more_ret, -List.getD_eq_getElem?_getD, ru, ruc, vK, putU, putK, arithK, intK, faK, hd1, ofV, lenSK, AV.nol, enumL, AV.nol.nols, loadC, loadS, extK, extK.extL, notK, nilckK, callvK, laid]
      refine done73 hch (fun _ => ?_) (fun h0 => absurd h0 he)
      simp -implicitDefEqProofs [r42, bld125, ld1_e, ld1_l, ld1_m, ldA_e, ldA_l, ldA_m, ldcm33, ldcm29, ixs_l, ixs_m, st_m, st_l, wrC, readC, getE, fits, TD.fit, optO, runN_succ, more_n, more_exit, more_ret, -List.getD_eq_getElem?_getD, ru, ruc, vK, putU, putK, arithK, intK, faK, hd1, ofV, lenSK, AV.nol, enumL, AV.nol.nols, loadC, loadS, extK, extK.extL, notK, nilckK, callvK, laid]
      refine re42_0 ?_
      simp -implicitDefEqProofs [g42_0, r42, bld125, ld1_e, ld1_l, ld1_m, ldA_e, ldA_l, ldA_m, ldcm33, ldcm29, ixs_l, ixs_m, st_m, st_l, wrC, readC, getE, fits, TD.fit, optO, runN_succ, more_n, more_exit, more_ret, -List.getD_eq_getElem?_getD, ru, ruc, vK, putU, putK, arithK, intK, faK, hd1, ofV, lenSK, AV.nol, enumL, AV.nol.nols, loadC, loadS, extK, extK.extL, notK, nilckK, callvK, laid]
      repeat' (first | (refine And.intro ?_ ?_))
      all_goals exact frz3 ⟨rfl, rfl, h2 hw he⟩
    · have ha2 := hc2.all
      simp -implicitDefEqProofs [r42, Letter.c, sendL, bld125, ld1_e, ld1_l, ld1_m, ldA_e, ldA_l, ldA_m, ldcm33, ldcm29, ixs_l, ixs_m, st_m, st_l, wrC, readC, getE, fits, TD.fit, optO, runN_succ, more_n, more_exit, more_ret, -List.getD_eq_getElem?_getD, ru, ruc, vK, putU, putK, arithK, intK, faK, hd1, ofV, lenSK, AV.nol, enumL, AV.nol.nols, loadC, loadS, extK, extK.extL, notK, nilckK, callvK, laid]
      refine done73 hc2 (fun h0 => absurd rfl h0) (fun _ => ?_)
      simp -implicitDefEqProofs [r42, ha2, bld125, ld1_e, ld1_l, ld1_m, ldA_e, ldA_l, ldA_m, ldcm33, ldcm29, ixs_l, ixs_m, st_m, st_l, wrC, readC, getE, fits, TD.fit, optO, runN_succ, more_n, more_exit, more_ret, -List.getD_eq_getElem?_getD, ru, ruc, vK, putU, putK, arithK, intK, faK, hd1, ofV, lenSK, AV.nol, enumL, AV.nol.nols, loadC, loadS, extK, extK.extL, notK, nilckK, callvK, laid]
      refine re42_0 ?_
      simp -implicitDefEqProofs [g42_0, r42, ha2, bld125, ld1_e, ld1_l, ld1_m, ldA_e, ldA_l, ldA_m, ldcm33, ldcm29, ixs_l, ixs_m, st_m, st_l, wrC, readC, getE, fits, TD.fit, optO, runN_succ, more_n, more_exit, more_ret, -List.getD_eq_getElem?_getD, ru, ruc, vK, putU, putK, arithK, intK, faK, hd1, ofV, lenSK, AV.nol, enumL, AV.nol.nols, loadC, loadS, extK, extK.extL, notK, nilckK, callvK, laid]
      repeat' (first | (refine And.intro ?_ ?_))
      all_goals (
        exact fin (K := fun r => K r h) hc2 (rest := [_, _]) rfl (fun _ _ => rfl) rfl fun z1 s1 z2 s2 z3 s3 hk2 => h3 hw he z1 s1 z2 s2 z3 s3 hk2)
end
end Go.Ab
end
section
/- The functions of one change; Tick. -/
set_option linter.unusedSimpArgs false
set_option linter.unusedVariables false
set_option maxRecDepth 100000
namespace Go.Ab
theorem ACall.mono {C : CX} {P : Program} {f : FuncId} {args : List AV} {h : List AObj} {K K' : AV → List AObj → Prop} (hc : ACall C P f args h K) (hk : ∀ r h', K r h' → K' r h') : ACall C P f args h K' := by
  refine ⟨fun X hC Γ w vs k hl => ?_⟩
  have conv : ∀ v w', CallPost X Γ K v w' → CallPost X Γ K' v w' := fun v w' hp => by
    obtain ⟨r, h', Γ', hK, rest⟩ := hp
    exact ⟨r, h', Γ', hk r h' hK, rest⟩
  rcases hc.run X hC Γ w vs k hl with ⟨h1, h2⟩ | ⟨v, w', h1, h2⟩
  · refine .inl ⟨h1, fun cs => ?_⟩
    obtain ⟨e, w', fr, r, rest⟩ := h2 cs
    refine ⟨e, w', fr, ?_, rest⟩
    cases e with
    | returned v => exact conv _ _ r
    | panicked c => exact r.elim
    | outgrown => exact r.elim
  · exact .inr ⟨v, w', h1, conv _ _ h2⟩
section
variable {C : CX} {h : List AObj} {K : AV → List AObj → Prop} {a b : Int} {x : Net} {A B D : AV} {cid : Nat} {z1 z2 z3 : Bool} {s1 s2 s3 : Nat}
def chgK (K : AV → List AObj → Prop) (cid : Nat) (r : AV) (h' : List AObj) : Prop := ∃ e x' A' B' D', r = .int .i64 e ∧ Chg h' cid x' A' B' D' ∧ (e ≠ 0 → K (.tup [zeroN, .int .i64 e]) h') ∧ (e = 0 → K (.tup [.agg [.int .i64 x'.nodes, .int .i64 x'.now, .int .i64 x'.next, A', B', D'], .int .i64 0]) h')
theorem changed58 {f : FuncId} {caps : List AV} (hk : Nk z1 s1 z2 s2 z3 s3 x) (hc : x.cuts.length < 1000000)
    (hn : AV.nol.nols caps = true) (h1 : ¬ WF x → K (.tup [zeroN, .int .i64 2]) h)
    (hK : WF x → ∀ cid A B D g, h.length ≤ cid → (∀ i ∈ vid A ++ vid B ++ vid D, h.length ≤ i) → Chg (h ++ g) cid x A B D →
      ACall C Pg f (.mptr cid 0 :: caps) (h ++ g) (chgK K cid)) :
    ACall C Pg 58 [.agg [.int .i64 x.nodes, .int .i64 x.now, .int .i64 x.next, .sl z1 s1 (x.way.map Letter.c) .no, .sl z2 s2 (x.cuts.map Link.c) .no, .sl z3 s3 (x.timers.map Timer.c) .no], .fn f caps] h K := by
  refine run58 ?_
  simp -implicitDefEqProofs [b58, r58, bld125, ld1_e, ld1_l, ld1_m, ldA_e, ldA_l, ldA_m, ldcm33, ldcm29, ixs_l, ixs_m, st_m, st_l, wrC, readC, getE, fits, TD.fit, optO, runN_succ, more_n, more_exit, more_ret, -List.getD_eq_getElem?_getD, ru, ruc, vK, putU, putK, arithK, intK, faK, hd1, ofV, lenSK, AV.nol, enumL, AV.nol.nols, loadC, loadS, extK, extK.extL, notK, nilckK, callvK, laid]
  refine changing45 hk hc (fun hw => ?_) (fun hw cid A B D g hcid hge hch => ?_)
  · simp -implicitDefEqProofs [r58, bld125, ld1_e, ld1_l, ld1_m, ldA_e, ldA_l, ldA_m, ldcm33, ldcm29, ixs_l, ixs_m, st_m, st_l, wrC, readC, getE, fits, TD.fit, optO, runN_succ, more_n, more_exit, more_ret, -List.getD_eq_getElem?_getD, ru, ruc, vK, putU, putK, arithK, intK, faK, hd1, ofV, lenSK, AV.nol, enumL, AV.nol.nols, loadC, loadS, extK, extK.extL, notK, nilckK, callvK, laid]
    exact h1 hw
  · have ha := hch.all
    simp -implicitDefEqProofs [r58, ha, bld125, ld1_e, ld1_l, ld1_m, ldA_e, ldA_l, ldA_m, ldcm33, ldcm29, ixs_l, ixs_m, st_m, st_l, wrC, readC, getE, fits, TD.fit, optO, runN_succ, more_n, more_exit, more_ret, -List.getD_eq_getElem?_getD, ru, ruc, vK, putU, putK, arithK, intK, faK, hd1, ofV, lenSK, AV.nol, enumL, AV.nol.nols, loadC, loadS, extK, extK.extL, notK, nilckK, callvK, laid]
    refine ⟨hn, (hK hw cid A B D g hcid hge hch).mono fun r h' hr => ?_⟩
    obtain ⟨e, x', A', B', D', rfl, hch', k1, k2⟩ := hr
    have ha' := hch'.all
    simp -implicitDefEqProofs [r58, ha', bld125, ld1_e, ld1_l, ld1_m, ldA_e, ldA_l, ldA_m, ldcm33, ldcm29, ixs_l, ixs_m, st_m, st_l, wrC, readC, getE, fits, TD.fit, optO, runN_succ, more_n, more_exit, more_ret, -List.getD_eq_getElem?_getD, ru, ruc, vK, putU, putK, arithK, intK, faK, hd1, ofV, lenSK, AV.nol, enumL, AV.nol.nols, loadC, loadS, extK, extK.extL, notK, nilckK, callvK, laid]
    refine done73 hch' (fun he => ?_) (fun he => ?_)
    · simp -implicitDefEqProofs [r58, bld125, ld1_e, ld1_l, ld1_m, ldA_e, ldA_l, ldA_m, ldcm33, ldcm29, ixs_l, ixs_m, st_m, st_l, wrC, readC, getE, fits, TD.fit, optO, runN_succ, more_n, more_exit, more_ret, -List.getD_eq_getElem?_getD, ru, ruc, vK, putU, putK, arithK, intK, faK, hd1, ofV, lenSK, AV.nol, enumL, AV.nol.nols, loadC, loadS, extK, extK.extL, notK, nilckK, callvK, laid]
      exact k1 he
    · simp -implicitDefEqProofs [r58, ha', bld125, ld1_e, ld1_l, ld1_m, ldA_e, ldA_l, ldA_m, ldcm33, ldcm29, ixs_l, ixs_m, st_m, st_l, wrC, readC, getE, fits, TD.fit, optO, runN_succ, more_n, more_exit, more_ret, -List.getD_eq_getElem?_getD, ru, ruc, vK, putU, putK, arithK, intK, faK, hd1, ofV, lenSK, AV.nol, enumL, AV.nol.nols, loadC, loadS, extK, extK.extL, notK, nilckK, callvK, laid]
      exact k2 he

/-- The way of the functions of one change. -/
theorem delay43 {ii d : Int} (hk : Nk z1 s1 z2 s2 z3 s3 x) (hc : x.cuts.length < 1000000)
    (h1 : ¬ WF x → K (.tup [zeroN, .int .i64 2]) h)
    (h2 : WF x → ¬ (0 ≤ ii ∧ ii < x.way.length) → K (.tup [zeroN, .int .i64 4]) h)
    (h3 : WF x → (0 ≤ ii ∧ ii < x.way.length) → (d < 0 ∨ 1000 < d) → K (.tup [zeroN, .int .i64 1]) h)
    (h4 : WF x → ∀ i (hi : i < x.way.length), ii = (i : Int) → 0 ≤ d → d ≤ 1000 → ∀ z1 s1 z2 s2 z3 s3, Nk z1 s1 z2 s2 z3 s3 (delayX x i hi d) → K (.tup [.agg [.int .i64 (delayX x i hi d).nodes, .int .i64 (delayX x i hi d).now, .int .i64 (delayX x i hi d).next, .sl z1 s1 ((delayX x i hi d).way.map Letter.c) .no, .sl z2 s2 ((delayX x i hi d).cuts.map Link.c) .no, .sl z3 s3 ((delayX x i hi d).timers.map Timer.c) .no], .int .i64 0]) h) :
    ACall C Pg 43 [.agg [.int .i64 x.nodes, .int .i64 x.now, .int .i64 x.next, .sl z1 s1 (x.way.map Letter.c) .no, .sl z2 s2 (x.cuts.map Link.c) .no, .sl z3 s3 (x.timers.map Timer.c) .no], .int .i64 ii, .int .i64 d] h K := by
  refine ACall.closed (by simp [AV.deep.deeps, AV.deep, deep_L, deep_C, deep_T]) (ACall.weaken (ACall.freeze (ACall.freeze (ACall.freeze ?_))))
  refine run43 ?_
  simp -implicitDefEqProofs [b43, r43, bld125, ld1_e, ld1_l, ld1_m, ldA_e, ldA_l, ldA_m, ldcm33, ldcm29, ixs_l, ixs_m, st_m, st_l, wrC, readC, getE, fits, TD.fit, optO, runN_succ, more_n, more_exit, more_ret, -List.getD_eq_getElem?_getD, ru, ruc, vK, putU, putK, arithK, intK, faK, hd1, ofV, lenSK, AV.nol, enumL, AV.nol.nols, loadC, loadS, extK, extK.extL, notK, nilckK, callvK, laid]
  refine changed58 hk hc rfl (fun hw => ?_) (fun hw cid A B D g hcid hge hch => ?_)
  · simp -implicitDefEqProofs [r43, zeroN, bld125, ld1_e, ld1_l, ld1_m, ldA_e, ldA_l, ldA_m, ldcm33, ldcm29, ixs_l, ixs_m, st_m, st_l, wrC, readC, getE, fits, TD.fit, optO, runN_succ, more_n, more_exit, more_ret, -List.getD_eq_getElem?_getD, ru, ruc, vK, putU, putK, arithK, intK, faK, hd1, ofV, lenSK, AV.nol, enumL, AV.nol.nols, loadC, loadS, extK, extK.extL, notK, nilckK, callvK, laid]
    exact frz3 ⟨rfl, rfl, h1 hw⟩
  · have lw : x.way.length < 1000000 := by have := hw.fl; omega
    have ha := hch.all
    refine run81 ?_
    simp -implicitDefEqProofs [b81, r81, ha, bld125, ld1_e, ld1_l, ld1_m, ldA_e, ldA_l, ldA_m, ldcm33, ldcm29, ixs_l, ixs_m, st_m, st_l, wrC, readC, getE, fits, TD.fit, optO, runN_succ, more_n, more_exit, more_ret, -List.getD_eq_getElem?_getD, ru, ruc, vK, putU, putK, arithK, intK, faK, hd1, ofV, lenSK, AV.nol, enumL, AV.nol.nols, loadC, loadS, extK, extK.extL, notK, nilckK, callvK, laid]
    refine delay82 hch lw ⟨hw.w1, hw.w2⟩ (fun he => ?_) (fun he hd => ?_) (fun i hi hii hd1 hd2 h' A' hf hc2 hv => ?_)
    · simp -implicitDefEqProofs [r81, ha, Letter.c, bld125, ld1_e, ld1_l, ld1_m, ldA_e, ldA_l, ldA_m, ldcm33, ldcm29, ixs_l, ixs_m, st_m, st_l, wrC, readC, getE, fits, TD.fit, optO, runN_succ, more_n, more_exit, more_ret, -List.getD_eq_getElem?_getD, ru, ruc, vK, putU, putK, arithK, intK, faK, hd1, ofV, lenSK, AV.nol, enumL, AV.nol.nols, loadC, loadS, extK, extK.extL, notK, nilckK, callvK, laid]
      refine ⟨4, x, A, B, D, rfl, hch, fun _ => ?_, fun h0 => by cases h0⟩
      simp -implicitDefEqProofs [r43, zeroN, bld125, ld1_e, ld1_l, ld1_m, ldA_e, ldA_l, ldA_m, ldcm33, ldcm29, ixs_l, ixs_m, st_m, st_l, wrC, readC, getE, fits, TD.fit, optO, runN_succ, more_n, more_exit, more_ret, -List.getD_eq_getElem?_getD, ru, ruc, vK, putU, putK, arithK, intK, faK, hd1, ofV, lenSK, AV.nol, enumL, AV.nol.nols, loadC, loadS, extK, extK.extL, notK, nilckK, callvK, laid]
      exact frz3 ⟨rfl, rfl, h2 hw he⟩
    · simp -implicitDefEqProofs [r81, ha, Letter.c, bld125, ld1_e, ld1_l, ld1_m, ldA_e, ldA_l, ldA_m, ldcm33, ldcm29, ixs_l, ixs_m, st_m, st_l, wrC, readC, getE, fits, TD.fit, optO, runN_succ, more_n, more_exit, more_ret, -List.getD_eq_getElem?_getD, ru, ruc, vK, putU, putK, arithK, intK, faK, hd1, ofV, lenSK, AV.nol, enumL, AV.nol.nols, loadC, loadS, extK, extK.extL, notK, nilckK, callvK, laid]
      refine ⟨1, x, A, B, D, rfl, hch, fun _ => ?_, fun h0 => by cases h0⟩
      simp -implicitDefEqProofs [r43, zeroN, bld125, ld1_e, ld1_l, ld1_m, ldA_e, ldA_l, ldA_m, ldcm33, ldcm29, ixs_l, ixs_m, st_m, st_l, wrC, readC, getE, fits, TD.fit, optO, runN_succ, more_n, more_exit, more_ret, -List.getD_eq_getElem?_getD, ru, ruc, vK, putU, putK, arithK, intK, faK, hd1, ofV, lenSK, AV.nol, enumL, AV.nol.nols, loadC, loadS, extK, extK.extL, notK, nilckK, callvK, laid]
      exact frz3 ⟨rfl, rfl, h3 hw he hd⟩
    · have ha2 := hc2.all
      simp -implicitDefEqProofs [r81, ha2, Letter.c, bld125, ld1_e, ld1_l, ld1_m, ldA_e, ldA_l, ldA_m, ldcm33, ldcm29, ixs_l, ixs_m, st_m, st_l, wrC, readC, getE, fits, TD.fit, optO, runN_succ, more_n, more_exit, more_ret, -List.getD_eq_getElem?_getD, ru, ruc, vK, putU, putK, arithK, intK, faK, hd1, ofV, lenSK, AV.nol, enumL, AV.nol.nols, loadC, loadS, extK, extK.extL, notK, nilckK, callvK, laid]
      refine ⟨0, _, A', B, D, rfl, hc2, fun h0 => absurd rfl h0, fun _ => ?_⟩
      simp -implicitDefEqProofs [r43, ha2, bld125, ld1_e, ld1_l, ld1_m, ldA_e, ldA_l, ldA_m, ldcm33, ldcm29, ixs_l, ixs_m, st_m, st_l, wrC, readC, getE, fits, TD.fit, optO, runN_succ, more_n, more_exit, more_ret, -List.getD_eq_getElem?_getD, ru, ruc, vK, putU, putK, arithK, intK, faK, hd1, ofV, lenSK, AV.nol, enumL, AV.nol.nols, loadC, loadS, extK, extK.extL, notK, nilckK, callvK, laid]
      exact fin (K := fun r => K r h) hc2 (rest := [_]) rfl (fun _ _ => rfl) rfl fun z1 s1 z2 s2 z3 s3 hk2 => h4 hw i hi hii hd1 hd2 z1 s1 z2 s2 z3 s3 hk2

theorem cut23 (hk : Nk z1 s1 z2 s2 z3 s3 x) (hc : x.cuts.length < 1000000)
    (h1 : ¬ WF x → K (.tup [zeroN, .int .i64 2]) h)
    (h2 : WF x → ¬ (nodeOk x a ∧ nodeOk x b ∧ a ≠ b) → K (.tup [zeroN, .int .i64 1]) h)
    (h3 : WF x → (nodeOk x a ∧ nodeOk x b ∧ a ≠ b) → ∀ i (hi : i < x.cuts.length), cmpC x.cuts[i] (pairOf a b) = 0 → K (.tup [zeroN, .int .i64 5]) h)
    (h4 : WF x → (nodeOk x a ∧ nodeOk x b ∧ a ≠ b) → ∀ i, PosOf cmpC x.cuts (pairOf a b) i → (¬ ∃ hi : i < x.cuts.length, cmpC x.cuts[i] (pairOf a b) = 0) → i = x.cuts.length ∧ ∀ z1 s1 z2 s2 z3 s3, Nk z1 s1 z2 s2 z3 s3 (cutX x (pairOf a b)) → K (.tup [.agg [.int .i64 (cutX x (pairOf a b)).nodes, .int .i64 (cutX x (pairOf a b)).now, .int .i64 (cutX x (pairOf a b)).next, .sl z1 s1 ((cutX x (pairOf a b)).way.map Letter.c) .no, .sl z2 s2 ((cutX x (pairOf a b)).cuts.map Link.c) .no, .sl z3 s3 ((cutX x (pairOf a b)).timers.map Timer.c) .no], .int .i64 0]) h) :
    ACall C Pg 23 [.agg [.int .i64 x.nodes, .int .i64 x.now, .int .i64 x.next, .sl z1 s1 (x.way.map Letter.c) .no, .sl z2 s2 (x.cuts.map Link.c) .no, .sl z3 s3 (x.timers.map Timer.c) .no], .int .i64 a, .int .i64 b] h K := by
  refine ACall.closed (by simp [AV.deep.deeps, AV.deep, deep_L, deep_C, deep_T]) (ACall.weaken (ACall.freeze (ACall.freeze (ACall.freeze ?_))))
  refine run23 ?_
  simp -implicitDefEqProofs [b23, r23, bld125, ld1_e, ld1_l, ld1_m, ldA_e, ldA_l, ldA_m, ldcm33, ldcm29, ixs_l, ixs_m, st_m, st_l, wrC, readC, getE, fits, TD.fit, optO, runN_succ, more_n, more_exit, more_ret, -List.getD_eq_getElem?_getD, ru, ruc, vK, putU, putK, arithK, intK, faK, hd1, ofV, lenSK, AV.nol, enumL, AV.nol.nols, loadC, loadS, extK, extK.extL, notK, nilckK, callvK, laid]
  refine changed58 hk hc rfl (fun hw => ?_) (fun hw cid A B D g hcid hge hch => ?_)
  · simp -implicitDefEqProofs [r23, zeroN, bld125, ld1_e, ld1_l, ld1_m, ldA_e, ldA_l, ldA_m, ldcm33, ldcm29, ixs_l, ixs_m, st_m, st_l, wrC, readC, getE, fits, TD.fit, optO, runN_succ, more_n, more_exit, more_ret, -List.getD_eq_getElem?_getD, ru, ruc, vK, putU, putK, arithK, intK, faK, hd1, ofV, lenSK, AV.nol, enumL, AV.nol.nols, loadC, loadS, extK, extK.extL, notK, nilckK, callvK, laid]
    exact frz3 ⟨rfl, rfl, h1 hw⟩
  · have ha := hch.all
    refine run59 ?_
    simp -implicitDefEqProofs [b59, r59, ha, bld125, ld1_e, ld1_l, ld1_m, ldA_e, ldA_l, ldA_m, ldcm33, ldcm29, ixs_l, ixs_m, st_m, st_l, wrC, readC, getE, fits, TD.fit, optO, runN_succ, more_n, more_exit, more_ret, -List.getD_eq_getElem?_getD, ru, ruc, vK, putU, putK, arithK, intK, faK, hd1, ofV, lenSK, AV.nol, enumL, AV.nol.nols, loadC, loadS, extK, extK.extL, notK, nilckK, callvK, laid]
    refine cut60 hch hc (fun he => ?_) (fun he i hi hE => ?_) (fun he i hp hE => ?_)
    · simp -implicitDefEqProofs [r59, ha, bld125, ld1_e, ld1_l, ld1_m, ldA_e, ldA_l, ldA_m, ldcm33, ldcm29, ixs_l, ixs_m, st_m, st_l, wrC, readC, getE, fits, TD.fit, optO, runN_succ, more_n, more_exit, more_ret, -List.getD_eq_getElem?_getD, ru, ruc, vK, putU, putK, arithK, intK, faK, hd1, ofV, lenSK, AV.nol, enumL, AV.nol.nols, loadC, loadS, extK, extK.extL, notK, nilckK, callvK, laid]
      refine ⟨1, x, A, B, D, rfl, hch, fun _ => ?_, fun h0 => by cases h0⟩
      simp -implicitDefEqProofs [r23, zeroN, bld125, ld1_e, ld1_l, ld1_m, ldA_e, ldA_l, ldA_m, ldcm33, ldcm29, ixs_l, ixs_m, st_m, st_l, wrC, readC, getE, fits, TD.fit, optO, runN_succ, more_n, more_exit, more_ret, -List.getD_eq_getElem?_getD, ru, ruc, vK, putU, putK, arithK, intK, faK, hd1, ofV, lenSK, AV.nol, enumL, AV.nol.nols, loadC, loadS, extK, extK.extL, notK, nilckK, callvK, laid]
      exact frz3 ⟨rfl, rfl, h2 hw he⟩
    · simp -implicitDefEqProofs [r59, ha, bld125, ld1_e, ld1_l, ld1_m, ldA_e, ldA_l, ldA_m, ldcm33, ldcm29, ixs_l, ixs_m, st_m, st_l, wrC, readC, getE, fits, TD.fit, optO, runN_succ, more_n, more_exit, more_ret, -List.getD_eq_getElem?_getD, ru, ruc, vK, putU, putK, arithK, intK, faK, hd1, ofV, lenSK, AV.nol, enumL, AV.nol.nols, loadC, loadS, extK, extK.extL, notK, nilckK, callvK, laid]
      refine ⟨5, x, A, B, D, rfl, hch, fun _ => ?_, fun h0 => by cases h0⟩
      simp -implicitDefEqProofs [r23, zeroN, bld125, ld1_e, ld1_l, ld1_m, ldA_e, ldA_l, ldA_m, ldcm33, ldcm29, ixs_l, ixs_m, st_m, st_l, wrC, readC, getE, fits, TD.fit, optO, runN_succ, more_n, more_exit, more_ret, -List.getD_eq_getElem?_getD, ru, ruc, vK, putU, putK, arithK, intK, faK, hd1, ofV, lenSK, AV.nol, enumL, AV.nol.nols, loadC, loadS, extK, extK.extL, notK, nilckK, callvK, laid]
      exact frz3 ⟨rfl, rfl, h3 hw he i hi hE⟩
    · refine ⟨(h4 hw he i hp hE).1, fun h' B' hf hc2 hv => ?_⟩
      have ha2 := hc2.all
      simp -implicitDefEqProofs [r59, ha2, bld125, ld1_e, ld1_l, ld1_m, ldA_e, ldA_l, ldA_m, ldcm33, ldcm29, ixs_l, ixs_m, st_m, st_l, wrC, readC, getE, fits, TD.fit, optO, runN_succ, more_n, more_exit, more_ret, -List.getD_eq_getElem?_getD, ru, ruc, vK, putU, putK, arithK, intK, faK, hd1, ofV, lenSK, AV.nol, enumL, AV.nol.nols, loadC, loadS, extK, extK.extL, notK, nilckK, callvK, laid]
      refine ⟨0, _, A, B', D, rfl, hc2, fun h0 => absurd rfl h0, fun _ => ?_⟩
      simp -implicitDefEqProofs [r23, ha2, bld125, ld1_e, ld1_l, ld1_m, ldA_e, ldA_l, ldA_m, ldcm33, ldcm29, ixs_l, ixs_m, st_m, st_l, wrC, readC, getE, fits, TD.fit, optO, runN_succ, more_n, more_exit, more_ret, -List.getD_eq_getElem?_getD, ru, ruc, vK, putU, putK, arithK, intK, faK, hd1, ofV, lenSK, AV.nol, enumL, AV.nol.nols, loadC, loadS, extK, extK.extL, notK, nilckK, callvK, laid]
      exact fin (K := fun r => K r h) hc2 (rest := [_]) rfl (fun _ _ => rfl) rfl fun z1 s1 z2 s2 z3 s3 hk2 => (h4 hw he i hp hE).2 z1 s1 z2 s2 z3 s3 hk2
theorem set27 {nd tg n : Int} (hk : Nk z1 s1 z2 s2 z3 s3 x) (hc : x.cuts.length < 1000000) (he : x.timers = [])
    (h1 : ¬ WF x → K (.tup [zeroN, .int .i64 2]) h)
    (h2 : WF x → ¬ setOk x nd tg n → K (.tup [zeroN, .int .i64 1]) h)
    (h3 : WF x → setOk x nd tg n → ∀ z1 s1 z2 s2 z3 s3, Nk z1 s1 z2 s2 z3 s3 (setX x ⟨x.now + n, nd, tg⟩) → K (.tup [.agg [.int .i64 (setX x ⟨x.now + n, nd, tg⟩).nodes, .int .i64 (setX x ⟨x.now + n, nd, tg⟩).now, .int .i64 (setX x ⟨x.now + n, nd, tg⟩).next, .sl z1 s1 ((setX x ⟨x.now + n, nd, tg⟩).way.map Letter.c) .no, .sl z2 s2 ((setX x ⟨x.now + n, nd, tg⟩).cuts.map Link.c) .no, .sl z3 s3 ((setX x ⟨x.now + n, nd, tg⟩).timers.map Timer.c) .no], .int .i64 0]) h) :
    ACall C Pg 27 [.agg [.int .i64 x.nodes, .int .i64 x.now, .int .i64 x.next, .sl z1 s1 (x.way.map Letter.c) .no, .sl z2 s2 (x.cuts.map Link.c) .no, .sl z3 s3 (x.timers.map Timer.c) .no], .int .i64 nd, .int .i64 tg, .int .i64 n] h K := by
  refine ACall.closed (by simp [AV.deep.deeps, AV.deep, deep_L, deep_C, deep_T]) (ACall.weaken (ACall.freeze (ACall.freeze (ACall.freeze ?_))))
  refine run27 ?_
  simp -implicitDefEqProofs [b27, r27, bld125, ld1_e, ld1_l, ld1_m, ldA_e, ldA_l, ldA_m, ldcm33, ldcm29, ixs_l, ixs_m, st_m, st_l, wrC, readC, getE, fits, TD.fit, optO, runN_succ, more_n, more_exit, more_ret, -List.getD_eq_getElem?_getD, ru, ruc, vK, putU, putK, arithK, intK, faK, hd1, ofV, lenSK, AV.nol, enumL, AV.nol.nols, loadC, loadS, extK, extK.extL, notK, nilckK, callvK, laid]
  refine changed58 hk hc rfl (fun hw => ?_) (fun hw cid A B D g hcid hge hch => ?_)
  · simp -implicitDefEqProofs [r27, zeroN, bld125, ld1_e, ld1_l, ld1_m, ldA_e, ldA_l, ldA_m, ldcm33, ldcm29, ixs_l, ixs_m, st_m, st_l, wrC, readC, getE, fits, TD.fit, optO, runN_succ, more_n, more_exit, more_ret, -List.getD_eq_getElem?_getD, ru, ruc, vK, putU, putK, arithK, intK, faK, hd1, ofV, lenSK, AV.nol, enumL, AV.nol.nols, loadC, loadS, extK, extK.extL, notK, nilckK, callvK, laid]
    exact frz3 ⟨rfl, rfl, h1 hw⟩
  · have ha := hch.all
    refine run66 ?_
    simp -implicitDefEqProofs [b66, r66, ha, bld125, ld1_e, ld1_l, ld1_m, ldA_e, ldA_l, ldA_m, ldcm33, ldcm29, ixs_l, ixs_m, st_m, st_l, wrC, readC, getE, fits, TD.fit, optO, runN_succ, more_n, more_exit, more_ret, -List.getD_eq_getElem?_getD, ru, ruc, vK, putU, putK, arithK, intK, faK, hd1, ofV, lenSK, AV.nol, enumL, AV.nol.nols, loadC, loadS, extK, extK.extL, notK, nilckK, callvK, laid]
    refine set67 hch he ⟨hw.w1, hw.w2⟩ (fun he => ?_) (fun he h' D' hf hc2 hv => ?_)
    · simp -implicitDefEqProofs [r66, ha, bld125, ld1_e, ld1_l, ld1_m, ldA_e, ldA_l, ldA_m, ldcm33, ldcm29, ixs_l, ixs_m, st_m, st_l, wrC, readC, getE, fits, TD.fit, optO, runN_succ, more_n, more_exit, more_ret, -List.getD_eq_getElem?_getD, ru, ruc, vK, putU, putK, arithK, intK, faK, hd1, ofV, lenSK, AV.nol, enumL, AV.nol.nols, loadC, loadS, extK, extK.extL, notK, nilckK, callvK, laid]
      refine ⟨1, x, A, B, D, rfl, hch, fun _ => ?_, fun h0 => by cases h0⟩
      simp -implicitDefEqProofs [r27, zeroN, bld125, ld1_e, ld1_l, ld1_m, ldA_e, ldA_l, ldA_m, ldcm33, ldcm29, ixs_l, ixs_m, st_m, st_l, wrC, readC, getE, fits, TD.fit, optO, runN_succ, more_n, more_exit, more_ret, -List.getD_eq_getElem?_getD, ru, ruc, vK, putU, putK, arithK, intK, faK, hd1, ofV, lenSK, AV.nol, enumL, AV.nol.nols, loadC, loadS, extK, extK.extL, notK, nilckK, callvK, laid]
      exact frz3 ⟨rfl, rfl, h2 hw he⟩
    · have ha2 := hc2.all
      simp -implicitDefEqProofs [r66, ha2, bld125, ld1_e, ld1_l, ld1_m, ldA_e, ldA_l, ldA_m, ldcm33, ldcm29, ixs_l, ixs_m, st_m, st_l, wrC, readC, getE, fits, TD.fit, optO, runN_succ, more_n, more_exit, more_ret, -List.getD_eq_getElem?_getD, ru, ruc, vK, putU, putK, arithK, intK, faK, hd1, ofV, lenSK, AV.nol, enumL, AV.nol.nols, loadC, loadS, extK, extK.extL, notK, nilckK, callvK, laid]
      refine ⟨0, _, A, B, D', rfl, hc2, fun h0 => absurd rfl h0, fun _ => ?_⟩
      simp -implicitDefEqProofs [r27, ha2, bld125, ld1_e, ld1_l, ld1_m, ldA_e, ldA_l, ldA_m, ldcm33, ldcm29, ixs_l, ixs_m, st_m, st_l, wrC, readC, getE, fits, TD.fit, optO, runN_succ, more_n, more_exit, more_ret, -List.getD_eq_getElem?_getD, ru, ruc, vK, putU, putK, arithK, intK, faK, hd1, ofV, lenSK, AV.nol, enumL, AV.nol.nols, loadC, loadS, extK, extK.extL, notK, nilckK, callvK, laid]
      exact fin (K := fun r => K r h) hc2 (rest := [_]) rfl (fun _ _ => rfl) rfl fun z1 s1 z2 s2 z3 s3 hk2 => h3 hw he z1 s1 z2 s2 z3 s3 hk2

theorem accU_deepT {l : List Timer} : (accU 3 Timer.c l).deep = true := by
  unfold accU
  split
  · rfl
  · simp only [AV.deep]
    exact deep_T
theorem tick31 (hk : Nk z1 s1 z2 s2 z3 s3 x) (hc : x.cuts.length < 1000000)
    (h1 : ¬ WF x → K (.tup [zeroN, .sl true 0 [] .no, .int .i64 2]) h)
    (h2 : WF x → x.now = 1099511627776 → K (.tup [zeroN, .sl true 0 [] .no, .int .i64 3]) h)
    (h3 : WF x → x.now ≠ 1099511627776 → ∀ k, k ≤ x.timers.length → (∀ t ∈ x.timers.take k, t.tm = x.now + 1) → (∀ (hk : k < x.timers.length), x.timers[k].tm ≠ x.now + 1) →
      ∀ z1 s1 z2 s2 z3 s3, Nk z1 s1 z2 s2 z3 s3 (tickTo x k) → K (.tup [.agg [.int .i64 (tickTo x k).nodes, .int .i64 (tickTo x k).now, .int .i64 (tickTo x k).next, .sl z1 s1 ((tickTo x k).way.map Letter.c) .no, .sl z2 s2 ((tickTo x k).cuts.map Link.c) .no, .sl z3 s3 ((tickTo x k).timers.map Timer.c) .no], accU 3 Timer.c (x.timers.take k), .int .i64 0]) h) :
    ACall C Pg 31 [.agg [.int .i64 x.nodes, .int .i64 x.now, .int .i64 x.next, .sl z1 s1 (x.way.map Letter.c) .no, .sl z2 s2 (x.cuts.map Link.c) .no, .sl z3 s3 (x.timers.map Timer.c) .no]] h K := by
  refine ACall.closed (by simp [AV.deep.deeps, AV.deep, deep_L, deep_C, deep_T]) (ACall.weaken (ACall.freeze (ACall.freeze (ACall.freeze ?_))))
  refine run31 ?_
  simp -implicitDefEqProofs [b31, r31, bld125, ld1_e, ld1_l, ld1_m, ldA_e, ldA_l, ldA_m, ldcm33, ldcm29, ixs_l, ixs_m, st_m, st_l, wrC, readC, getE, fits, TD.fit, optO, runN_succ, more_n, more_exit, more_ret, -List.getD_eq_getElem?_getD, ru, ruc, vK, putU, putK, arithK, intK, faK, hd1, ofV, lenSK, AV.nol, enumL, AV.nol.nols, loadC, loadS, extK, extK.extL, notK, nilckK, callvK, laid]
  refine changing45 hk hc (fun hw => ?_) (fun hw cid A B D g hcid hge hch => ?_)
  · simp -implicitDefEqProofs [r31, bld125, ld1_e, ld1_l, ld1_m, ldA_e, ldA_l, ldA_m, ldcm33, ldcm29, ixs_l, ixs_m, st_m, st_l, wrC, readC, getE, fits, TD.fit, optO, runN_succ, more_n, more_exit, more_ret, -List.getD_eq_getElem?_getD, ru, ruc, vK, putU, putK, arithK, intK, faK, hd1, ofV, lenSK, AV.nol, enumL, AV.nol.nols, loadC, loadS, extK, extK.extL, notK, nilckK, callvK, laid]
    exact frz3 ⟨rfl, rfl, h1 hw⟩
  · have ha := hch.all
    simp -implicitDefEqProofs [r31, ha, bld125, ld1_e, ld1_l, ld1_m, ldA_e, ldA_l, ldA_m, ldcm33, ldcm29, ixs_l, ixs_m, st_m, st_l, wrC, readC, getE, fits, TD.fit, optO, runN_succ, more_n, more_exit, more_ret, -List.getD_eq_getElem?_getD, ru, ruc, vK, putU, putK, arithK, intK, faK, hd1, ofV, lenSK, AV.nol, enumL, AV.nol.nols, loadC, loadS, extK, extK.extL, notK, nilckK, callvK, laid]
    refine tick72 hch ⟨hw.w1, hw.w2⟩ (by have := hw.tl; omega) (fun he => ?_) (fun he k hk1 hk2 hk3 h' D' hf hc2 hv => ?_)
    · simp -implicitDefEqProofs [r31, bld125, ld1_e, ld1_l, ld1_m, ldA_e, ldA_l, ldA_m, ldcm33, ldcm29, ixs_l, ixs_m, st_m, st_l, wrC, readC, getE, fits, TD.fit, optO, runN_succ, more_n, more_exit, more_ret, -List.getD_eq_getElem?_getD, ru, ruc, vK, putU, putK, arithK, intK, faK, hd1, ofV, lenSK, AV.nol, enumL, AV.nol.nols, loadC, loadS, extK, extK.extL, notK, nilckK, callvK, laid]
      refine done73 hch (fun _ => ?_) (fun h0 => by cases h0)
      simp -implicitDefEqProofs [r31, bld125, ld1_e, ld1_l, ld1_m, ldA_e, ldA_l, ldA_m, ldcm33, ldcm29, ixs_l, ixs_m, st_m, st_l, wrC, readC, getE, fits, TD.fit, optO, runN_succ, more_n, more_exit, more_ret, -List.getD_eq_getElem?_getD, ru, ruc, vK, putU, putK, arithK, intK, faK, hd1, ofV, lenSK, AV.nol, enumL, AV.nol.nols, loadC, loadS, extK, extK.extL, notK, nilckK, callvK, laid]
      exact frz3 ⟨rfl, rfl, h2 hw he⟩
    · have ha2 := hc2.all
      simp -implicitDefEqProofs [r31, accU_un, accU_nol, accU_ow, ha2, bld125, ld1_e, ld1_l, ld1_m, ldA_e, ldA_l, ldA_m, ldcm33, ldcm29, ixs_l, ixs_m, st_m, st_l, wrC, readC, getE, fits, TD.fit, optO, runN_succ, more_n, more_exit, more_ret, -List.getD_eq_getElem?_getD, ru, ruc, vK, putU, putK, arithK, intK, faK, hd1, ofV, lenSK, AV.nol, enumL, AV.nol.nols, loadC, loadS, extK, extK.extL, notK, nilckK, callvK, laid]
      refine done73 hc2 (fun h0 => absurd rfl h0) (fun _ => ?_)
      simp -implicitDefEqProofs [r31, ha2, accU_un, accU_nol, accU_ow, bld125, ld1_e, ld1_l, ld1_m, ldA_e, ldA_l, ldA_m, ldcm33, ldcm29, ixs_l, ixs_m, st_m, st_l, wrC, readC, getE, fits, TD.fit, optO, runN_succ, more_n, more_exit, more_ret, -List.getD_eq_getElem?_getD, ru, ruc, vK, putU, putK, arithK, intK, faK, hd1, ofV, lenSK, AV.nol, enumL, AV.nol.nols, loadC, loadS, extK, extK.extL, notK, nilckK, callvK, laid]
      exact fin (K := fun r => K r h) hc2 (rest := [_, _]) (by rw [AV.deep.deeps, AV.deep.deeps, AV.deep.deeps, accU_deepT]; rfl) (fun _ _ => by unfold accU; split <;> rfl) (by unfold accU; split <;> rfl) fun z1 s1 z2 s2 z3 s3 hk4 => h3 hw he k hk1 hk2 hk3 z1 s1 z2 s2 z3 s3 hk4
end
end Go.Ab
end
section
/- The letters that can be delivered: a function that is ranged over. -/
set_option linter.unusedSimpArgs false
set_option linter.unusedVariables false
set_option maxRecDepth 100000
namespace Go.Ab

theorem AYield.mono {C : CX} {P : Program} {l : Nat} {args : List AV} {h : List AObj} {K K' : AV → List AObj → Prop} (hc : AYield C P l args h K) (hk : ∀ r h', K r h' → K' r h') : AYield C P l args h K' := by
  refine ⟨fun X hC Γ w vs k hl b s hI => ?_⟩
  have conv : ∀ v w', CallPost X Γ K v w' → CallPost X Γ K' v w' := fun v w' hp => by
    obtain ⟨r, h', Γ', hK, rest⟩ := hp
    exact ⟨r, h', Γ', hk r h' hK, rest⟩
  obtain ⟨l', f, tmps, assign, body, h1, h2⟩ := hc.run X hC Γ w vs k hl b s hI
  refine ⟨l', f, tmps, assign, body, h1, h2.mono fun e w' he => ?_⟩
  cases e with
  | returned v => exact conv _ _ he
  | panicked c => exact he.elim
  | outgrown => exact he.elim
section
variable {C : CX} {h : List AObj} {a b : Int} {x : Net} {A B D : AV} {cid : Nat}
def linkK (t : Link) : AV × AV := (.agg [.int .i64 t.a, .int .i64 t.b], .bool true)
theorem afind_link {l : List Link} : afind T 100 (.agg [.int .i64 a, .int .i64 b]) (l.map linkK) = some (((l.findIdx? fun t => decide (a = t.a) && decide (b = t.b)).map fun i => (i, .bool true))) := by
  induction l with
  | nil => rfl
  | cons t l ih =>
    have e : aeq T 100 (.agg [.int .i64 a, .int .i64 b]) (linkK t).1 = some (decide (a = t.a) && decide (b = t.b)) := rfl
    simp only [List.map_cons, afind, e, ih, List.findIdx?_cons]
    cases hb : (decide (a = t.a) && decide (b = t.b)) with
    | true => simp [linkK]
    | false =>
      simp only [Bool.false_eq_true, if_false]
      cases l.findIdx? fun t => decide (a = t.a) && decide (b = t.b) <;> simp
theorem mapKey135 : mapKeyOK T 100 (.agg [.int .i64 a, .int .i64 b]) := ⟨by simp, rfl⟩
theorem any_link {l : List Link} : (l.any fun t => decide (a = t.a) && decide (b = t.b)) = decide (Link.mk a b ∈ l) := by
  rw [Bool.eq_iff_iff, List.any_eq_true, decide_eq_true_eq]
  constructor
  · rintro ⟨t, ht, h1⟩
    simp only [Bool.and_eq_true, decide_eq_true_eq] at h1
    obtain ⟨rfl, rfl⟩ := h1
    exact ht
  · intro h
    exact ⟨_, h, by simp⟩
theorem lkp135 {l : List Link} {id : Nat} {K : AV → Prop} (hh : h[id]? = some (.map (l.map linkK))) (hK : K (.bool (decide (Link.mk a b ∈ l)))) : lookupK T 135 (.map id) (.agg [.int .i64 a, .int .i64 b]) false h K := by
  refine ⟨mapKey135, rfl, _, hh, _, afind_link, ?_⟩
  rw [← any_link] at hK
  cases hf : l.findIdx? fun t => decide (a = t.a) && decide (b = t.b) with
  | none =>
    have : (l.any fun t => decide (a = t.a) && decide (b = t.b)) = false := by
      rw [List.findIdx?_eq_none_iff] at hf
      rw [List.any_eq_false]
      intro t ht; simpa using hf t ht
    rw [this] at hK
    exact hK
  | some i =>
    have : (l.any fun t => decide (a = t.a) && decide (b = t.b)) = true := by
      rw [List.findIdx?_eq_some_iff_getElem] at hf
      obtain ⟨hi, h1, _⟩ := hf
      rw [List.any_eq_true]
      exact ⟨l[i], List.getElem_mem hi, h1⟩
    rw [this] at hK
    exact hK
theorem mup135 {l : List Link} {id : Nat} {K : List AObj → Prop} (hh : h[id]? = some (.map (l.map linkK))) (hn : Link.mk a b ∉ l) (hK : K (h.set id (.map ((l ++ [Link.mk a b]).map linkK)))) : mapUpdateK T 135 (.map id) (.agg [.int .i64 a, .int .i64 b]) (.bool true) h K := by
  refine ⟨mapKey135, rfl, rfl, _, hh, _, afind_link, ?_⟩
  have : (l.findIdx? fun t => decide (a = t.a) && decide (b = t.b)) = none := by
    rw [List.findIdx?_eq_none_iff]
    intro t ht
    have h0 : (l.any fun t => decide (a = t.a) && decide (b = t.b)) = false := by rw [any_link]; simpa using hn
    have := List.any_eq_false.1 h0 t ht
    simpa using this
  rw [this]
  simpa [linkK] using hK

def mapO (l : List Link) (i : Nat) : AObj := .map ((l.take i).map linkK)
/-- A letter can be delivered now. -/
def canX (x : Net) (l : Letter) : Bool := decide (l.rdy ≤ x.now) && !decide (pairOf l.fr l.to ∈ x.cuts)

theorem ready87 {lid xid : Nat} (hd : x.cuts.Nodup) (hlw : x.way.length < 1000000) (hlc : x.cuts.length < 1000000) (hx : h[xid]? = some (.cells [.mptr cid 0] 1)) (hc : Chg h cid x A B D) (J : Nat → List AObj → Prop) {K : AV → List AObj → Prop}
    (hi : ∀ i h', J i h' → h'[h.length]? = some (mapO x.cuts x.cuts.length) ∧ h'[xid]? = some (.cells [.mptr cid 0] 1) ∧ Chg h' cid x A B D)
    (h0 : J 0 (h ++ [mapO x.cuts x.cuts.length]))
    (hn : ∀ i (hi : i < x.way.length) h', J i h' → canX x x.way[i] = false → J (i + 1) h')
    (hy : ∀ i (hi : i < x.way.length) h', J i h' → canX x x.way[i] = true → AYield C Pg lid [.int .i64 i] h' (fun r h' => (r = .bool true ∧ J (i + 1) h') ∨ (r = .bool false ∧ K (.tup []) h')))
    (hK : ∀ h', J x.way.length h' → K (.tup []) h') : ACall C Pg 87 [.yld lid, .mptr xid 0] h K := by
  have ha := hc.all
  have happ := (hc.app [.map []]).all
  refine run87 ?_
  simp -implicitDefEqProofs [b87, r87, makeMapK, bld125, ld1_e, ld1_l, ld1_m, ldA_e, ldA_l, ldA_m, ldcm33, ldcm29, ixs_l, ixs_m, st_m, st_l, wrC, readC, getE, fits, TD.fit, optO, runN_succ, more_n, more_exit, more_ret, -List.getD_eq_getElem?_getD, ru, ruc, vK, putU, putK, arithK, intK, faK, hd1, ofV, lenSK, AV.nol, enumL, AV.nol.nols, loadC, loadS, extK, extK.extL, notK, nilckK, callvK, laid]
  have hx1 : (h ++ [AObj.map []])[xid]? = some (.cells [.mptr cid 0] 1) := by rw [List.getElem?_append_left (List.getElem?_eq_some_iff.1 hx).1]; exact hx
  simp -implicitDefEqProofs [r87, hx1, happ, bld125, ld1_e, ld1_l, ld1_m, ldA_e, ldA_l, ldA_m, ldcm33, ldcm29, ixs_l, ixs_m, st_m, st_l, wrC, readC, getE, fits, TD.fit, optO, runN_succ, more_n, more_exit, more_ret, -List.getD_eq_getElem?_getD, ru, ruc, vK, putU, putK, arithK, intK, faK, hd1, ofV, lenSK, AV.nol, enumL, AV.nol.nols, loadC, loadS, extK, extK.extL, notK, nilckK, callvK, laid]
  refine lp87_0 (α := Nat) 0 (fun i => [(0, .yld lid), (1, .mptr xid 0), (3, .map h.length), (13, B), (14, .int .i64 x.cuts.length), (15, .int .i64 i)]) (fun _ => []) (fun i => h ++ [mapO x.cuts i])
    (fun i => i ≤ x.cuts.length) (fun i => x.cuts.length - i) 0 (Nat.zero_le _) (fun _ => rfl) ?_ rfl rfl rfl ?_
  · simp [allIn, lk, AV.lb, AV.lb.lbs, hc.cuts.lb]
  · rintro i hil
    have hB : LV (h ++ [mapO x.cuts i]) 2 Link.c B x.cuts := hc.cuts.app
    have hget : (h ++ [mapO x.cuts i])[h.length]? = some (mapO x.cuts i) := by simp
    have hset : ∀ o, (h ++ [mapO x.cuts i]).set h.length o = h ++ [o] := fun o => by simp
    have hx2 : (h ++ [mapO x.cuts i])[xid]? = some (.cells [.mptr cid 0] 1) := by rw [List.getElem?_append_left (List.getElem?_eq_some_iff.1 hx).1]; exact hx
    have ha2 := (hc.app [mapO x.cuts i]).all
    simp -implicitDefEqProofs [b87_0, r87, bld125, ld1_e, ld1_l, ld1_m, ldA_e, ldA_l, ldA_m, ldcm33, ldcm29, ixs_l, ixs_m, st_m, st_l, wrC, readC, getE, fits, TD.fit, optO, runN_succ, more_n, more_exit, more_ret, -List.getD_eq_getElem?_getD, ru, ruc, vK, putU, putK, arithK, intK, faK, hd1, ofV, lenSK, AV.nol, enumL, AV.nol.nols, loadC, loadS, extK, extK.extL, notK, nilckK, callvK, laid]
    refine condV_split (fun g => ?_) (fun g => ?_)
    · have g' : i < x.cuts.length := by simpa using g
      simp -implicitDefEqProofs [r87, hc.cuts.all, bld125, ld1_e, ld1_l, ld1_m, ldA_e, ldA_l, ldA_m, ldcm33, ldcm29, ixs_l, ixs_m, st_m, st_l, wrC, readC, getE, fits, TD.fit, optO, runN_succ, more_n, more_exit, more_ret, -List.getD_eq_getElem?_getD, ru, ruc, vK, putU, putK, arithK, intK, faK, hd1, ofV, lenSK, AV.nol, enumL, AV.nol.nols, loadC, loadS, extK, extK.extL, notK, nilckK, callvK, laid]
      refine hB.at lenC g' rfl (fun id off hrd => ?_)
      simp -implicitDefEqProofs [r87, ha2, bld125, ld1_e, ld1_l, ld1_m, ldA_e, ldA_l, ldA_m, ldcm33, ldcm29, ixs_l, ixs_m, st_m, st_l, getE, fits, TD.fit, optO, runN_succ, more_n, more_exit, more_ret, -List.getD_eq_getElem?_getD, ru, ruc, vK, putU, putK, arithK, intK, faK, hd1, ofV, lenSK, AV.nol, enumL, AV.nol.nols, loadC, loadS, extK, extK.extL, notK, nilckK, callvK]
      refine hrd _ ?_
      simp -implicitDefEqProofs [r87, ha2, Link.c, bld125, ld1_e, ld1_l, ld1_m, ldA_e, ldA_l, ldA_m, ldcm33, ldcm29, ixs_l, ixs_m, st_m, st_l, wrC, readC, getE, fits, TD.fit, optO, runN_succ, more_n, more_exit, more_ret, -List.getD_eq_getElem?_getD, ru, ruc, vK, putU, putK, arithK, intK, faK, hd1, ofV, lenSK, AV.nol, enumL, AV.nol.nols, loadC, loadS, extK, extK.extL, notK, nilckK, callvK, laid]
      refine mup135 hget ?_ ?_
      · intro hm
        rw [List.mem_take_iff_getElem] at hm
        obtain ⟨j, hj, e⟩ := hm
        exact List.pairwise_iff_getElem.1 hd j i _ _ (by omega) e
      · rw [hset]
        simp -implicitDefEqProofs [r87, bld125, ld1_e, ld1_l, ld1_m, ldA_e, ldA_l, ldA_m, ldcm33, ldcm29, ixs_l, ixs_m, st_m, st_l, wrC, readC, getE, fits, TD.fit, optO, runN_succ, more_n, more_exit, more_ret, -List.getD_eq_getElem?_getD, ru, ruc, vK, putU, putK, arithK, intK, faK, hd1, ofV, lenSK, AV.nol, enumL, AV.nol.nols, loadC, loadS, extK, extK.extL, notK, nilckK, callvK, laid]
        refine next_normal (i + 1) g' (by omega) ?_ ?_ rfl rfl
        · unfold mapO
          rw [← List.map_take, List.take_add_one, List.getElem?_eq_getElem g', List.map_append]
          rfl
        · simp [allIn, lk, AV.lb, AV.lb.lbs, hc.cuts.lb, wrap_i (show i < 9223372036854775807 by omega)]
    · have g' : i = x.cuts.length := by simp at g; omega
      subst g'
      simp -implicitDefEqProofs [r87, hx2, ha2, bld125, ld1_e, ld1_l, ld1_m, ldA_e, ldA_l, ldA_m, ldcm33, ldcm29, ixs_l, ixs_m, st_m, st_l, wrC, readC, getE, fits, TD.fit, optO, runN_succ, more_n, more_exit, more_ret, -List.getD_eq_getElem?_getD, ru, ruc, vK, putU, putK, arithK, intK, faK, hd1, ofV, lenSK, AV.nol, enumL, AV.nol.nols, loadC, loadS, extK, extK.extL, notK, nilckK, callvK, laid]
      refine lp87_1 (α := Nat × List AObj) 0 (fun g => [(0, .yld lid), (1, .mptr xid 0), (3, .map h.length), (26, A), (27, .int .i64 x.way.length), (28, .int .i64 g.1)]) (fun _ => []) (fun g => g.2)
        (fun g => g.1 ≤ x.way.length ∧ J g.1 g.2) (fun g => x.way.length - g.1) (0, _) ⟨Nat.zero_le _, h0⟩ (fun _ => rfl) ?_ rfl rfl rfl ?_
      · simp [allIn, lk, AV.lb, AV.lb.lbs, hc.way.lb]
      · rintro ⟨i, h1⟩ ⟨hil, hJ⟩
        obtain ⟨hm1, hx3, hc3⟩ := hi i h1 hJ
        have ha3 := hc3.all
        simp -implicitDefEqProofs [b87_1, r87, bld125, ld1_e, ld1_l, ld1_m, ldA_e, ldA_l, ldA_m, ldcm33, ldcm29, ixs_l, ixs_m, st_m, st_l, wrC, readC, getE, fits, TD.fit, optO, runN_succ, more_n, more_exit, more_ret, -List.getD_eq_getElem?_getD, ru, ruc, vK, putU, putK, arithK, intK, faK, hd1, ofV, lenSK, AV.nol, enumL, AV.nol.nols, loadC, loadS, extK, extK.extL, notK, nilckK, callvK, laid]
        refine condV_split (fun g => ?_) (fun g => ?_)
        · have g' : i < x.way.length := by simpa using g
          simp -implicitDefEqProofs [r87, ha3, bld125, ld1_e, ld1_l, ld1_m, ldA_e, ldA_l, ldA_m, ldcm33, ldcm29, ixs_l, ixs_m, st_m, st_l, wrC, readC, getE, fits, TD.fit, optO, runN_succ, more_n, more_exit, more_ret, -List.getD_eq_getElem?_getD, ru, ruc, vK, putU, putK, arithK, intK, faK, hd1, ofV, lenSK, AV.nol, enumL, AV.nol.nols, loadC, loadS, extK, extK.extL, notK, nilckK, callvK, laid]
          refine hc3.way.at lenL g' rfl (fun id off hrd => ?_)
          simp -implicitDefEqProofs [r87, ha3, bld125, ld1_e, ld1_l, ld1_m, ldA_e, ldA_l, ldA_m, ldcm33, ldcm29, ixs_l, ixs_m, st_m, st_l, getE, fits, TD.fit, optO, runN_succ, more_n, more_exit, more_ret, -List.getD_eq_getElem?_getD, ru, ruc, vK, putU, putK, arithK, intK, faK, hd1, ofV, lenSK, AV.nol, enumL, AV.nol.nols, loadC, loadS, extK, extK.extL, notK, nilckK, callvK]
          refine hrd _ ?_
          simp -implicitDefEqProofs [r87, ha3, Letter.c, bld125, ld1_e, ld1_l, ld1_m, ldA_e, ldA_l, ldA_m, ldcm33, ldcm29, ixs_l, ixs_m, st_m, st_l, wrC, readC, getE, fits, TD.fit, optO, runN_succ, more_n, more_exit, more_ret, -List.getD_eq_getElem?_getD, ru, ruc, vK, putU, putK, arithK, intK, faK, hd1, ofV, lenSK, AV.nol, enumL, AV.nol.nols, loadC, loadS, extK, extK.extL, notK, nilckK, callvK, laid]
          refine re87_0 ?_
          simp -implicitDefEqProofs [r87, ha3, hx3, g87_0, bld125, ld1_e, ld1_l, ld1_m, ldA_e, ldA_l, ldA_m, ldcm33, ldcm29, ixs_l, ixs_m, st_m, st_l, wrC, readC, getE, fits, TD.fit, optO, runN_succ, more_n, more_exit, more_ret, -List.getD_eq_getElem?_getD, ru, ruc, vK, putU, putK, arithK, intK, faK, hd1, ofV, lenSK, AV.nol, enumL, AV.nol.nols, loadC, loadS, extK, extK.extL, notK, nilckK, callvK, laid]
          repeat' (first | (refine guardV_split (fun g => ?_) (fun g => ?_) <;> try simp -implicitDefEqProofs [r87, ha3, hx3, Link.c, bld125, ld1_e, ld1_l, ld1_m, ldA_e, ldA_l, ldA_m, ldcm33, ldcm29, ixs_l, ixs_m, st_m, st_l, getE, fits, TD.fit, optO, runN_succ, more_n, more_exit, more_ret, -List.getD_eq_getElem?_getD, ru, ruc, vK, putU, putK, arithK, intK, faK, hd1, ofV, lenSK, AV.nol, enumL, AV.nol.nols, loadC, loadS, extK, extK.extL, notK, nilckK, callvK]) | (refine condV_split (fun g => ?_) (fun g => ?_) <;> try simp -implicitDefEqProofs [r87, ha3, hx3, Link.c, bld125, ld1_e, ld1_l, ld1_m, ldA_e, ldA_l, ldA_m, ldcm33, ldcm29, ixs_l, ixs_m, st_m, st_l, getE, fits, TD.fit, optO, runN_succ, more_n, more_exit, more_ret, -List.getD_eq_getElem?_getD, ru, ruc, vK, putU, putK, arithK, intK, faK, hd1, ofV, lenSK, AV.nol, enumL, AV.nol.nols, loadC, loadS, extK, extK.extL, notK, nilckK, callvK]) | (refine link88 ?_ <;> try simp -implicitDefEqProofs [r87, ha3, hx3, Link.c, bld125, ld1_e, ld1_l, ld1_m, ldA_e, ldA_l, ldA_m, ldcm33, ldcm29, ixs_l, ixs_m, st_m, st_l, getE, fits, TD.fit, optO, runN_succ, more_n, more_exit, more_ret, -List.getD_eq_getElem?_getD, ru, ruc, vK, putU, putK, arithK, intK, faK, hd1, ofV, lenSK, AV.nol, enumL, AV.nol.nols, loadC, loadS, extK, extK.extL, notK, nilckK, callvK]) | (refine lkp135 hm1 ?_ <;> try simp -implicitDefEqProofs [r87, ha3, hx3, Link.c, bld125, ld1_e, ld1_l, ld1_m, ldA_e, ldA_l, ldA_m, ldcm33, ldcm29, ixs_l, ixs_m, st_m, st_l, getE, fits, TD.fit, optO, runN_succ, more_n, more_exit, more_ret, -List.getD_eq_getElem?_getD, ru, ruc, vK, putU, putK, arithK, intK, faK, hd1, ofV, lenSK, AV.nol, enumL, AV.nol.nols, loadC, loadS, extK, extK.extL, notK, nilckK, callvK]) | ((refine And.intro ?_ ?_) <;> try simp -implicitDefEqProofs [r87, ha3, hx3, Link.c, bld125, ld1_e, ld1_l, ld1_m, ldA_e, ldA_l, ldA_m, ldcm33, ldcm29, ixs_l, ixs_m, st_m, st_l, getE, fits, TD.fit, optO, runN_succ, more_n, more_exit, more_ret, -List.getD_eq_getElem?_getD, ru, ruc, vK, putU, putK, arithK, intK, faK, hd1, ofV, lenSK, AV.nol, enumL, AV.nol.nols, loadC, loadS, extK, extK.extL, notK, nilckK, callvK]))
          all_goals first
            | (refine (hy i g' h1 hJ (by simp_all [canX])).mono fun r h' hr => ?_
               rcases hr with ⟨rfl, hJ'⟩ | ⟨rfl, hK'⟩
               · simp -implicitDefEqProofs [r87, bld125, ld1_e, ld1_l, ld1_m, ldA_e, ldA_l, ldA_m, ldcm33, ldcm29, ixs_l, ixs_m, st_m, st_l, wrC, readC, getE, fits, TD.fit, optO, runN_succ, more_n, more_exit, more_ret, -List.getD_eq_getElem?_getD, ru, ruc, vK, putU, putK, arithK, intK, faK, hd1, ofV, lenSK, AV.nol, enumL, AV.nol.nols, loadC, loadS, extK, extK.extL, notK, nilckK, callvK, laid]
                 refine next_normal (i + 1, h') ⟨g', hJ'⟩ (by simp only; omega) rfl ?_ rfl rfl
                 simp [allIn, lk, AV.lb, AV.lb.lbs, hc.way.lb, wrap_i (show i < 9223372036854775807 by omega)]
               · simp -implicitDefEqProofs [r87, bld125, ld1_e, ld1_l, ld1_m, ldA_e, ldA_l, ldA_m, ldcm33, ldcm29, ixs_l, ixs_m, st_m, st_l, wrC, readC, getE, fits, TD.fit, optO, runN_succ, more_n, more_exit, more_ret, -List.getD_eq_getElem?_getD, ru, ruc, vK, putU, putK, arithK, intK, faK, hd1, ofV, lenSK, AV.nol, enumL, AV.nol.nols, loadC, loadS, extK, extK.extL, notK, nilckK, callvK, laid]
                 exact hK')
            | (refine next_normal (i + 1, h1) ⟨g', hn i g' h1 hJ (by by_cases e : x.way[i].rdy ≤ x.now <;> simp_all [canX] <;> intro h9 <;> omega)⟩ (by simp only; omega) rfl ?_ rfl rfl
               simp [allIn, lk, AV.lb, AV.lb.lbs, hc.way.lb, wrap_i (show i < 9223372036854775807 by omega)])
        · have g' : i = x.way.length := by simp at g; simp at hil; omega
          subst g'
          simp -implicitDefEqProofs [r87, bld125, ld1_e, ld1_l, ld1_m, ldA_e, ldA_l, ldA_m, ldcm33, ldcm29, ixs_l, ixs_m, st_m, st_l, wrC, readC, getE, fits, TD.fit, optO, runN_succ, more_n, more_exit, more_ret, -List.getD_eq_getElem?_getD, ru, ruc, vK, putU, putK, arithK, intK, faK, hd1, ofV, lenSK, AV.nol, enumL, AV.nol.nols, loadC, loadS, extK, extK.extL, notK, nilckK, callvK, laid]
          exact hK _ hJ
end
end Go.Ab
end
section
/- The letters that can be delivered now, as a list; delivering. -/
set_option linter.unusedSimpArgs false
set_option linter.unusedVariables false
set_option maxRecDepth 100000
namespace Go.Ab

theorem cmpC_lt {p q : Link} : cmpC p q < 0 ↔ p.a < q.a ∨ (p.a = q.a ∧ p.b < q.b) := by
  unfold cmpC cmpI
  simp only [orI]
  split <;> split <;> (try split) <;> (try split) <;> simp_all <;> omega
theorem cmpC_trans {p q r : Link} (h1 : cmpC p q < 0) (h2 : cmpC q r < 0) : cmpC p r < 0 := by
  rw [cmpC_lt] at *
  omega
theorem rises_lt {α : Type} {f : α → α → Int} (ht : ∀ p q r, f p q < 0 → f q r < 0 → f p r < 0) {l : List α} (hr : rises f l) : ∀ (d i : Nat) (h : i + d + 1 < l.length), f l[i] l[i + d + 1] < 0 := by
  intro d
  induction d with
  | zero => intro i h; exact hr i h
  | succ d ih => intro i h; exact ht _ _ _ (ih i (by omega)) (hr (i + d + 1) h)
theorem rises_lt' {α : Type} {f : α → α → Int} (ht : ∀ p q r, f p q < 0 → f q r < 0 → f p r < 0) {l : List α} (hr : rises f l) {i j : Nat} (hij : i < j) (hj : j < l.length) : f (l[i]'(by omega)) l[j] < 0 := by
  have := rises_lt ht hr (j - i - 1) i (by omega)
  have e : i + (j - i - 1) + 1 = j := by omega
  simp only [e] at this
  exact this
theorem cmpC_irr {p q : Link} (e : p = q) : ¬ cmpC p q < 0 := by
  subst e
  rw [cmpC_lt]
  omega
theorem nodup_of_rises {α : Type} {f : α → α → Int} (ht : ∀ p q r, f p q < 0 → f q r < 0 → f p r < 0) (hi : ∀ p q, p = q → ¬ f p q < 0) {l : List α} (hr : rises f l) : l.Nodup := by
  rw [List.Nodup, List.pairwise_iff_getElem]
  intro i j h1 h2 hij e
  exact hi _ _ e (rises_lt' ht hr hij h2)
theorem nodupC {l : List Link} (hr : rises cmpC l) : l.Nodup := nodup_of_rises (f := cmpC) (fun p q r h1 h2 => cmpC_trans h1 h2) (fun p q e => cmpC_irr e) hr
theorem cuts_nodup {x : Net} (hr : rises cmpC x.cuts) : x.cuts.Nodup := nodupC hr
theorem lk_owns {d : AV} (hd : d.owns = false) : ∀ {l : List (Nat × AV)}, (∀ p ∈ l, p.2.owns = false) → ∀ t, (lk d l t).owns = false
  | [], _, _ => hd
  | p :: l, h, t => by
    obtain ⟨k, v⟩ := p
    simp only [lk]
    split
    · exact h _ (List.mem_cons_self ..)
    · exact lk_owns hd (fun p hp => h p (List.mem_cons_of_mem _ hp)) t
section
variable {C : CX} {h : List AObj} {K : AV → List AObj → Prop} {d : AV} {n : Nat}
theorem AYield.of_runs {lid : Nat} {l l1 : List (Nat × AV)} {ps : Array Tmp} {A B : Code} {xs : List AV} {ann : Ann} {pl : List (Nat × Plan)} {ra rb : List It} (ca : compR T ann pl A = ra) (cb : compR T ann pl B = rb)
    (hps : ps.size = xs.length) (hh : h[lid]? = some (.loop none)) (ht : ∀ t ∈ ps.toList, t < n) (hd : d.owns = false) (hown : ∀ p ∈ (ps.toList.zip xs).reverse ++ l, p.2.owns = false)
    (ha : ∀ ro, Run (C.loop lid (ofL d n l) ps A B) Pg T ann ro ra (S d n ((ps.toList.zip xs).reverse ++ l) [] h) (fun e s' => e = .normal ∧ s' = S d n l1 [] h))
    (hb : ∀ ro, Run (C.loop lid (ofL d n l) ps A B) Pg T ann ro rb (S d n l1 [] (h.set lid .dead)) (roundK lid K)) : AYield (C.loop lid (ofL d n l) ps A B) Pg lid xs h K := by
  subst ca cb
  have e : setPs (ofL d n l) ps.toList xs = ofL d n ((ps.toList.zip xs).reverse ++ l) := ofL_setPs (by simpa using hps) ht
  refine AYield.of_round (s1 := S d n l1 [] h) hps hh ?_ (fun ro => ?_) (fun ro => ?_)
  · rw [e, List.all_eq_true]
    intro x hx
    simp only [ofL, List.mem_map] at hx
    obtain ⟨t, _, rfl⟩ := hx
    simp [lk_owns hd hown t]
  · rw [e]
    exact runR_sound T_ok (ann := ann) (pl := pl) A _ _ (Run_eq ▸ ha ro)
  · exact runR_sound T_ok (ann := ann) (pl := pl) B _ _ (Run_eq ▸ hb ro)

theorem AWp.rangeS {l l' : List (Nat × AV)} {bx : List (List AV)} {g : Operand} {gf : FuncId} {caps : List AV} {ps : Array Tmp} {A B : Code} {fn : Func} {K : Exit → ASt → Prop} (hf : Pg.funcs[gf]? = some fn) (hbd : fn.body.isSome = true) (hnm : (fn.name == "runtime.NumGoroutine") = false) (hg : ev (S d n l bx h) g = .fn gf caps) (hn : AV.nol.nols caps = true) (hd : roundV d = d) (hl : (l.map fun p => (p.1, roundV p.2)) = l')
    (hc : ACall (C.loop h.length (ofL d n l') ps A B) Pg gf (.yld h.length :: caps) (h ++ [.loop none]) (rangeK (S d n l bx h) K)) : AWp C Pg none (.rangeFunc g ps A B) (S d n l bx h) K := by
  refine AWp.range hf hbd hnm hg hn ?_
  rw [S_round hd, hl]
  exact hc
theorem rangeS_n {l : List (Nat × AV)} {bx : List (List AV)} {K : Exit → ASt → Prop} {r : AV} {h' : List AObj} (h1 : h'[h.length]? = some (.loop none)) (h2 : K .normal (S d n l bx (h'.set h.length .dead))) : rangeK (S d n l bx h) K r h' := ⟨none, h1, h2⟩
theorem rangeS_ret {l : List (Nat × AV)} {bx : List (List AV)} {K : Exit → ASt → Prop} {r : AV} {h' : List AObj} (h1 : h'[h.length]? = some (.loop (some .ret))) (h2 : K .ret (S d n l bx (h'.set h.length .dead))) : rangeK (S d n l bx h) K r h' := ⟨some .ret, h1, h2⟩
theorem roundS_n {lid : Nat} {l : List (Nat × AV)} {bx : List (List AV)} (h1 : h[lid]? = some .dead) (h2 : K (.bool true) (h.set lid (.loop none))) : roundK lid K .normal (S d n l bx h) := ⟨h1, h2⟩
theorem roundS_ret {lid : Nat} {l : List (Nat × AV)} {bx : List (List AV)} (h1 : h[lid]? = some .dead) (h2 : K (.bool false) (h.set lid (.loop (some .ret)))) : roundK lid K .ret (S d n l bx h) := ⟨h1, h2⟩
def readyTo (x : Net) (k : Nat) : List Int := ((List.range k).filter fun i => (x.way[i]?).any (canX x)).map Int.ofNat
theorem readyTo_succ {x : Net} {k : Nat} (hk : k < x.way.length) : readyTo x (k + 1) = if canX x x.way[k] then readyTo x k ++ [(k : Int)] else readyTo x k := by
  unfold readyTo
  rw [List.range_succ, List.filter_append, List.map_append]
  simp only [List.filter_cons, List.filter_nil, List.getElem?_eq_getElem hk, Option.any_some]
  split <;> simp
theorem readyTo_len {x : Net} {k : Nat} : (readyTo x k).length ≤ k := by
  unfold readyTo
  rw [List.length_map]
  have := List.length_filter_le (fun i => (x.way[i]?).any (canX x)) (List.range k)
  rwa [List.length_range] at this
end
section
variable {C : CX} {h : List AObj} {K : AV → List AObj → Prop} {a b : Int} {x : Net} {A B D : AV} {cid : Nat} {z1 z2 z3 : Bool} {s1 s2 s3 : Nat}
theorem Chg.keep (hc : Chg h cid x A B D) {h' : List AObj} (hs : ∀ j, j < h.length → h'[j]? = h[j]?) : Chg h' cid x A B D :=
  ⟨(hs _ hc.clt).trans hc.cell, hc.way.more fun i hi => hs _ (hc.way.lt i hi), hc.cuts.more fun i hi => hs _ (hc.cuts.lt i hi), hc.tims.more fun i hi => hs _ (hc.tims.lt i hi), hc.apart⟩
theorem Chg.moreS (hc : Chg h cid x A B D) {h' : List AObj} (hs : ∀ j ∈ cid :: (vid A ++ vid B ++ vid D), h'[j]? = h[j]?) : Chg h' cid x A B D :=
  ⟨(hs _ (by simp)).trans hc.cell, hc.way.more fun i hi => hs _ (by simp [hi]), hc.cuts.more fun i hi => hs _ (by simp [hi]), hc.tims.more fun i hi => hs _ (by simp [hi]), hc.apart⟩
theorem ready47 {v : AV} (hv : v = .mptr cid 0) (hK : K (.fn 87 [.mptr h.length 0]) (h ++ [.cells [.mptr cid 0] 1])) : ACall C Pg 47 [v] h K := by
  subst hv
  refine run47 ?_
  simp -implicitDefEqProofs [b47, r47, bld125, ld1_e, ld1_l, ld1_m, ldA_e, ldA_l, ldA_m, ldcm33, ldcm29, ixs_l, ixs_m, st_m, st_l, wrC, readC, getE, fits, TD.fit, optO, runN_succ, more_n, more_exit, more_ret, -List.getD_eq_getElem?_getD, ru, ruc, vK, putU, putK, arithK, intK, faK, hd1, ofV, lenSK, AV.nol, enumL, AV.nol.nols, loadC, loadS, extK, extK.extL, notK, nilckK, callvK, laid]
  exact hK
theorem bsl37_1 {K : AV → List AObj → Prop} : buildSliceK T false 37 1 [(0, .int .i64 a)] h K = K (.sl false 1 [intc a] .full) h := by
  simp [buildSliceK, T37, T3, fillA, AV.cells, AV.one, AV.nol, chunks, intc]
theorem lenI (x : Int) : (intc x).length = 1 := rfl
theorem e86 : lp (bodyOf Go.Proofs.Try.f86) 0 = .rangeFunc (.tmp 6) #[7] (rfA (lp (bodyOf Go.Proofs.Try.f86) 0)) (rfB (lp (bodyOf Go.Proofs.Try.f86) 0)) := by kernel_rfl
structure J86 (h : List AObj) (x : Net) (i : Nat) (h' : List AObj) (v : AV) : Prop where
  cell : h'[h.length]? = some (.cells [v] 1)
  lv : LV h' 1 intc v (readyTo x i)
  lo : h'[h.length + 1]? = some (.loop none)
  mp : h'[h.length + 2]? = some (mapO x.cuts x.cuts.length)
  old : ∀ j, j < h.length → h'[j]? = h[j]?
  vid : ∀ j ∈ vid v, h.length + 3 ≤ j
theorem seq86 {xid : Nat} (hd : x.cuts.Nodup) (hlw : x.way.length < 1000000) (hlc : x.cuts.length < 1000000) (hx : h[xid]? = some (.cells [.mptr cid 0] 1)) (hc : Chg h cid x A B D)
    (hK : ∀ v h', LV h' 1 intc v (readyTo x x.way.length) → (∀ j, j < h.length → h'[j]? = h[j]?) → (∀ j ∈ vid v, h.length ≤ j) → K v h') : ACall C Pg 86 [.sl true 0 [] .no, .fn 87 [.mptr xid 0]] h K := by
  refine run86 ?_
  simp -implicitDefEqProofs [b86, r86, bld125, ld1_e, ld1_l, ld1_m, ldA_e, ldA_l, ldA_m, ldcm33, ldcm29, ixs_l, ixs_m, st_m, st_l, wrC, readC, getE, fits, TD.fit, optO, runN_succ, more_n, more_exit, more_ret, -List.getD_eq_getElem?_getD, ru, ruc, vK, putU, putK, arithK, intK, faK, hd1, ofV, lenSK, AV.nol, enumL, AV.nol.nols, loadC, loadS, extK, extK.extL, notK, nilckK, callvK, laid]
  rw [e86]
  refine AWp.rangeS f87 (by kernel_rfl) (by kernel_rfl) (gf := 87) (caps := [.mptr xid 0]) (by simp -implicitDefEqProofs [r86, bld125, ld1_e, ld1_l, ld1_m, ldA_e, ldA_l, ldA_m, ldcm33, ldcm29, ixs_l, ixs_m, st_m, st_l, wrC, readC, getE, fits, TD.fit, optO, runN_succ, more_n, more_exit, more_ret, -List.getD_eq_getElem?_getD, ru, ruc, vK, putU, putK, arithK, intK, faK, hd1, ofV, lenSK, AV.nol, enumL, AV.nol.nols, loadC, loadS, extK, extK.extL, notK, nilckK, callvK, laid]) rfl rfl (l' := [(6, .fn 87 [.mptr xid 0]), (4, .sl true 0 [] .no), (2, .mptr h.length 0), (0, .sl true 0 [] .no), (1, .fn 87 [.mptr xid 0])]) (by simp [roundV, AV.nol, AV.nol.nols, AV.un, un_fn, un_no, un_mptr]) ?_
  have hxl := (List.getElem?_eq_some_iff.1 hx).1
  have hcl := hc.clt
  have el : (h ++ [AObj.cells [AV.sl true 0 [] .no] 1]).length = h.length + 1 := by simp
  have el2 : (h ++ [AObj.cells [AV.sl true 0 [] .no] 1] ++ [AObj.loop none]).length = h.length + 2 := by simp
  have hx2 : (h ++ [AObj.cells [AV.sl true 0 [] .no] 1] ++ [AObj.loop none])[xid]? = some (.cells [.mptr cid 0] 1) := by
    rw [List.append_assoc, List.getElem?_append_left hxl]; exact hx
  rw [el]
  refine ready87 (J := fun i h' => ∃ v, J86 h x i h' v) hd hlw hlc hx2 ((hc.app _).app _) ?_ ?_ ?_ ?_ ?_
  · rintro i h' ⟨v, j⟩
    exact ⟨by rw [el2]; exact j.mp, (j.old _ hxl).trans hx, hc.keep j.old⟩
  · refine ⟨.sl true 0 [] .no, ?_, .inl ⟨rfl, .inl rfl⟩, ?_, ?_, ?_, by simp [vid]⟩
    · simp
    · simp
    · simp
    · intro j hj
      rw [List.append_assoc, List.append_assoc, List.getElem?_append_left hj]
  · rintro i hi h' ⟨v, j⟩ hcan
    exact ⟨v, { j with lv := by rw [readyTo_succ hi, hcan]; exact j.lv }⟩
  · rintro i hi h' ⟨v, j⟩ hcan
    have jv := j.lv.all
    refine AYield.of_runs xc86_0 yc86_0 rfl j.lo (by simp) rfl (by simp [AV.owns, ow_no]) (fun ro => ?_) (l1 := [(5, .int .i64 i), (7, .int .i64 i), (6, .fn 87 [.mptr xid 0]), (4, .sl true 0 [] .no), (2, .mptr h.length 0), (0, .sl true 0 [] .no), (1, .fn 87 [.mptr xid 0])]) (fun ro => ?_)
    · simp -implicitDefEqProofs [x86_0, bld125, ld1_e, ld1_l, ld1_m, ldA_e, ldA_l, ldA_m, ldcm33, ldcm29, ixs_l, ixs_m, st_m, st_l, wrC, readC, getE, fits, TD.fit, optO, runN_succ, more_n, more_exit, more_ret, -List.getD_eq_getElem?_getD, ru, ruc, vK, putU, putK, arithK, intK, faK, hd1, ofV, lenSK, AV.nol, enumL, AV.nol.nols, loadC, loadS, extK, extK.extL, notK, nilckK, callvK, laid]
    · have hc1 : (h'.set (h.length + 1) .dead)[h.length]? = some (.cells [v] 1) := by rw [List.getElem?_set_ne (by omega)]; exact j.cell
      simp -implicitDefEqProofs [y86_0, hc1, jv, bld125, ld1_e, ld1_l, ld1_m, ldA_e, ldA_l, ldA_m, ldcm33, ldcm29, ixs_l, ixs_m, st_m, st_l, wrC, readC, getE, fits, TD.fit, optO, runN_succ, more_n, more_exit, more_ret, -List.getD_eq_getElem?_getD, ru, ruc, vK, putU, putK, arithK, intK, faK, hd1, ofV, lenSK, AV.nol, enumL, AV.nol.nols, loadC, loadS, extK, extK.extL, notK, nilckK, callvK, laid]
      rw [bsl37_1]
      simp -implicitDefEqProofs [jv, bld125, ld1_e, ld1_l, ld1_m, ldA_e, ldA_l, ldA_m, ldcm33, ldcm29, ixs_l, ixs_m, st_m, st_l, wrC, readC, getE, fits, TD.fit, optO, runN_succ, more_n, more_exit, more_ret, -List.getD_eq_getElem?_getD, ru, ruc, vK, putU, putK, arithK, intK, faK, hd1, ofV, lenSK, AV.nol, enumL, AV.nol.nols, loadC, loadS, extK, extK.extL, notK, nilckK, callvK, laid]
      refine (j.lv.more (h' := h'.set (h.length + 1) .dead) fun i hi => ?_).append (y := (i : Int)) rfl (by decide) (fun _ => rfl) T37 rfl T3 rfl (by decide) (by decide) (by have := readyTo_len (x := x) (k := i); omega) (fun v' h'' hv' hf hvv hlt => ?_)
      · have := j.vid i hi
        rw [List.getElem?_set_ne (by omega)]
      · have hall := hv'.all
        have l2 := (List.getElem?_eq_some_iff.1 j.mp).1
        have lhs : (h'.set (h.length + 1) AObj.dead).length = h'.length := by simp
        have hlen := hf.len
        rw [lhs] at hlen
        have nv : ∀ i, i ≤ h.length + 2 → i ∉ vid v := fun i hi hm => by have := j.vid i hm; omega
        have sm : ∀ i, i ≤ h.length + 2 → i ≠ h.length + 1 → h''[i]? = h'[i]? := fun i hi hne => by
          rw [hf.same i (by omega) (nv i hi), List.getElem?_set_ne (by omega)]
        have hcell : h''[h.length]? = some (.cells [v] 1) := (sm _ (by omega) (by omega)).trans j.cell
        have hdead : h''[h.length + 1]? = some .dead := by
          rw [hf.same _ (by omega) (nv _ (by omega)), List.getElem?_set_self (by omega)]
        simp -implicitDefEqProofs [hall, jv, hcell, bld125, ld1_e, ld1_l, ld1_m, ldA_e, ldA_l, ldA_m, ldcm33, ldcm29, ixs_l, ixs_m, st_m, st_l, wrC, readC, getE, fits, TD.fit, optO, runN_succ, more_n, more_exit, more_ret, -List.getD_eq_getElem?_getD, ru, ruc, vK, putU, putK, arithK, intK, faK, hd1, ofV, lenSK, AV.nol, enumL, AV.nol.nols, loadC, loadS, extK, extK.extL, notK, nilckK, callvK, laid]
        refine roundS_n ?_ ?_
        · rw [List.getElem?_set_ne (by omega)]; exact hdead
        refine Or.inl ⟨rfl, v', ?_⟩
        refine ⟨?_, ?_, ?_, ?_, ?_, ?_⟩
        · rw [List.getElem?_set_ne (by omega), List.getElem?_set_self (by omega)]
        · rw [readyTo_succ hi, hcan]
          refine hv'.more fun i hi => ?_
          have := hvv i hi
          rw [List.getElem?_set_ne ?_, List.getElem?_set_ne ?_]
          all_goals
            rcases this with h1 | h1
            · have := j.vid i h1; omega
            · omega
        · rw [List.getElem?_set_self (by simp; omega)]
        · rw [List.getElem?_set_ne (by omega), List.getElem?_set_ne (by omega), sm _ (by omega) (by omega)]
          exact j.mp
        · intro i hi
          rw [List.getElem?_set_ne (by omega), List.getElem?_set_ne (by omega), sm _ (by omega) (by omega)]
          exact j.old i hi
        · intro i hi
          rcases hvv i hi with h1 | h1
          · exact j.vid i h1
          · omega
  · rintro h' ⟨v, j⟩
    have jv := j.lv.all
    refine rangeS_n (by rw [el]; exact j.lo) ?_
    have hc1 : (h'.set (h.length + 1) .dead)[h.length]? = some (.cells [v] 1) := by rw [List.getElem?_set_ne (by omega)]; exact j.cell
    rw [el]
    simp -implicitDefEqProofs [r86, hc1, jv, bld125, ld1_e, ld1_l, ld1_m, ldA_e, ldA_l, ldA_m, ldcm33, ldcm29, ixs_l, ixs_m, st_m, st_l, wrC, readC, getE, fits, TD.fit, optO, runN_succ, more_n, more_exit, more_ret, -List.getD_eq_getElem?_getD, ru, ruc, vK, putU, putK, arithK, intK, faK, hd1, ofV, lenSK, AV.nol, enumL, AV.nol.nols, loadC, loadS, extK, extK.extL, notK, nilckK, callvK, laid]
    refine hK v _ (j.lv.more fun i hi => ?_) (fun i hi => ?_) (fun i hi => ?_)
    · have := j.vid i hi
      rw [List.getElem?_set_ne (by omega)]
    · rw [List.getElem?_set_ne (by omega)]
      exact j.old i hi
    · have := j.vid i hi
      omega

theorem collect46 {xid : Nat} (hd : x.cuts.Nodup) (hlw : x.way.length < 1000000) (hlc : x.cuts.length < 1000000) (hx : h[xid]? = some (.cells [.mptr cid 0] 1)) (hc : Chg h cid x A B D)
    (hK : ∀ v h', LV h' 1 intc v (readyTo x x.way.length) → (∀ j, j < h.length → h'[j]? = h[j]?) → (∀ j ∈ vid v, h.length ≤ j) → K v h') : ACall C Pg 46 [.fn 87 [.mptr xid 0]] h K := by
  refine run46 ?_
  simp -implicitDefEqProofs [b46, r46, bld125, ld1_e, ld1_l, ld1_m, ldA_e, ldA_l, ldA_m, ldcm33, ldcm29, ixs_l, ixs_m, st_m, st_l, wrC, readC, getE, fits, TD.fit, optO, runN_succ, more_n, more_exit, more_ret, -List.getD_eq_getElem?_getD, ru, ruc, vK, putU, putK, arithK, intK, faK, hd1, ofV, lenSK, AV.nol, enumL, AV.nol.nols, loadC, loadS, extK, extK.extL, notK, nilckK, callvK, laid]
  refine seq86 hd hlw hlc hx hc fun v h' hv ho hl => ?_
  have hall := hv.all
  simp -implicitDefEqProofs [r46, hall, bld125, ld1_e, ld1_l, ld1_m, ldA_e, ldA_l, ldA_m, ldcm33, ldcm29, ixs_l, ixs_m, st_m, st_l, wrC, readC, getE, fits, TD.fit, optO, runN_succ, more_n, more_exit, more_ret, -List.getD_eq_getElem?_getD, ru, ruc, vK, putU, putK, arithK, intK, faK, hd1, ofV, lenSK, AV.nol, enumL, AV.nol.nols, loadC, loadS, extK, extK.extL, notK, nilckK, callvK, laid]
  exact hK v h' hv ho hl
theorem ready16 (hk : Nk z1 s1 z2 s2 z3 s3 x) (hc : x.cuts.length < 1000000)
    (h1 : ¬ WF x → K (.tup [.sl true 0 [] .no, .int .i64 2]) h)
    (h2 : WF x → ∀ z s, Slk z s 1 (readyTo x x.way.length).length → K (.tup [.sl z s ((readyTo x x.way.length).map intc) .no, .int .i64 0]) h) :
    ACall C Pg 16 [.agg [.int .i64 x.nodes, .int .i64 x.now, .int .i64 x.next, .sl z1 s1 (x.way.map Letter.c) .no, .sl z2 s2 (x.cuts.map Link.c) .no, .sl z3 s3 (x.timers.map Timer.c) .no]] h K := by
  refine ACall.closed (by simp [AV.deep.deeps, AV.deep, deep_L, deep_C, deep_T]) (ACall.weaken (ACall.freeze ?_))
  refine run16 ?_
  simp -implicitDefEqProofs [b16, r16, bld125, ld1_e, ld1_l, ld1_m, ldA_e, ldA_l, ldA_m, ldcm33, ldcm29, ixs_l, ixs_m, st_m, st_l, wrC, readC, getE, fits, TD.fit, optO, runN_succ, more_n, more_exit, more_ret, -List.getD_eq_getElem?_getD, ru, ruc, vK, putU, putK, arithK, intK, faK, hd1, ofV, lenSK, AV.nol, enumL, AV.nol.nols, loadC, loadS, extK, extK.extL, notK, nilckK, callvK, laid]
  refine changing45 hk hc (fun hw => ?_) (fun hw cid A B D g hcid hge hch => ?_)
  · simp -implicitDefEqProofs [r16, bld125, ld1_e, ld1_l, ld1_m, ldA_e, ldA_l, ldA_m, ldcm33, ldcm29, ixs_l, ixs_m, st_m, st_l, wrC, readC, getE, fits, TD.fit, optO, runN_succ, more_n, more_exit, more_ret, -List.getD_eq_getElem?_getD, ru, ruc, vK, putU, putK, arithK, intK, faK, hd1, ofV, lenSK, AV.nol, enumL, AV.nol.nols, loadC, loadS, extK, extK.extL, notK, nilckK, callvK, laid]
    exact .inl ⟨rfl, rfl, h1 hw⟩
  · simp -implicitDefEqProofs [r16, bld125, ld1_e, ld1_l, ld1_m, ldA_e, ldA_l, ldA_m, ldcm33, ldcm29, ixs_l, ixs_m, st_m, st_l, wrC, readC, getE, fits, TD.fit, optO, runN_succ, more_n, more_exit, more_ret, -List.getD_eq_getElem?_getD, ru, ruc, vK, putU, putK, arithK, intK, faK, hd1, ofV, lenSK, AV.nol, enumL, AV.nol.nols, loadC, loadS, extK, extK.extL, notK, nilckK, callvK, laid]
    refine ready47 rfl ?_
    simp -implicitDefEqProofs [r16, bld125, ld1_e, ld1_l, ld1_m, ldA_e, ldA_l, ldA_m, ldcm33, ldcm29, ixs_l, ixs_m, st_m, st_l, wrC, readC, getE, fits, TD.fit, optO, runN_succ, more_n, more_exit, more_ret, -List.getD_eq_getElem?_getD, ru, ruc, vK, putU, putK, arithK, intK, faK, hd1, ofV, lenSK, AV.nol, enumL, AV.nol.nols, loadC, loadS, extK, extK.extL, notK, nilckK, callvK, laid]
    refine collect46 (cuts_nodup hw.cr) (by have := hw.fl; omega) hc (by simp) (hch.app _) fun v h' hv ho hl => ?_
    have hall := hv.all
    simp -implicitDefEqProofs [r16, hall, bld125, ld1_e, ld1_l, ld1_m, ldA_e, ldA_l, ldA_m, ldcm33, ldcm29, ixs_l, ixs_m, st_m, st_l, wrC, readC, getE, fits, TD.fit, optO, runN_succ, more_n, more_exit, more_ret, -List.getD_eq_getElem?_getD, ru, ruc, vK, putU, putK, arithK, intK, faK, hd1, ofV, lenSK, AV.nol, enumL, AV.nol.nols, loadC, loadS, extK, extK.extL, notK, nilckK, callvK, laid]
    have := hv.frz lenI (Q := fun v h' => (AV.tup [v, .int .i64 0]).weak.deep = true ∧ (AV.tup [v, .int .i64 0]).weak.owns = false ∧ K (AV.tup [v, .int .i64 0]).weak h) (fun z s v' h' k3 e3 _ _ _ => by
      simp only [AV.weak, AV.weak.weaks, e3]
      exact ⟨by simp [AV.deep.deeps, AV.deep, deep_I], rfl, h2 hw z s k3⟩)
    rcases this with h3 | ⟨id, cs, n, _, hid, hlt, h3⟩
    · exact .inl h3
    · exact .inr ⟨id, cs, n, hid, hlt, h3⟩

theorem e76 : lp (bodyOf Go.Proofs.Try.f76) 0 = .rangeFunc (.tmp 13) #[14] (rfA (lp (bodyOf Go.Proofs.Try.f76) 0)) (rfB (lp (bodyOf Go.Proofs.Try.f76) 0)) := by kernel_rfl
theorem deliver76 {ii : Int} (hd : x.cuts.Nodup) (hlw : x.way.length < 1000000) (hlc : x.cuts.length < 1000000) (hc : Chg h cid x A B D)
    (hK1 : ¬ (0 ≤ ii ∧ ii < x.way.length) → ∀ g, K (.tup [.agg (Letter.c ⟨0, 0, 0, 0, []⟩), .int .i64 4]) (h ++ g))
    (hK2 : ∀ i (hi : i < x.way.length), ii = (i : Int) → canX x x.way[i] = false → ∀ g, K (.tup [.agg (Letter.c ⟨0, 0, 0, 0, []⟩), .int .i64 6]) (h ++ g))
    (hK : ∀ i (hi : i < x.way.length), ii = (i : Int) → canX x x.way[i] = true → ∀ h' A', Fr (cid :: vid A) h h' → Chg h' cid (dropX x i) A' B D → vid A' = vid A → K (.tup [.agg (Letter.c x.way[i]), .int .i64 0]) h') : ACall C Pg 76 [.mptr cid 0, .int .i64 ii] h K := by
  have ha := hc.all
  refine run76 ?_
  simp -implicitDefEqProofs [b76, r76, ha, bld125, ld1_e, ld1_l, ld1_m, ldA_e, ldA_l, ldA_m, ldcm33, ldcm29, ixs_l, ixs_m, st_m, st_l, wrC, readC, getE, fits, TD.fit, optO, runN_succ, more_n, more_exit, more_ret, -List.getD_eq_getElem?_getD, ru, ruc, vK, putU, putK, arithK, intK, faK, hd1, ofV, lenSK, AV.nol, enumL, AV.nol.nols, loadC, loadS, extK, extK.extL, notK, nilckK, callvK, laid]
  have hB : ∀ g, Chg (h ++ g) cid x A B D := fun g => hc.app g
  have hsh : ∀ (a : AObj) (p : List AObj) (k : Nat), (h ++ p)[h.length + k]? = p[k]? := fun a p k => by rw [List.getElem?_append_right (by omega)]; congr 1; omega
  refine has112 (hB _) ?_
  simp -implicitDefEqProofs [r76, bld125, ld1_e, ld1_l, ld1_m, ldA_e, ldA_l, ldA_m, ldcm33, ldcm29, ixs_l, ixs_m, st_m, st_l, wrC, readC, getE, fits, TD.fit, optO, runN_succ, more_n, more_exit, more_ret, -List.getD_eq_getElem?_getD, ru, ruc, vK, putU, putK, arithK, intK, faK, hd1, ofV, lenSK, AV.nol, enumL, AV.nol.nols, loadC, loadS, extK, extK.extL, notK, nilckK, callvK, laid]
  refine condV_split (fun g => ?_) (fun g => ?_)
  · simp -implicitDefEqProofs [r76, bld125, ld1_e, ld1_l, ld1_m, ldA_e, ldA_l, ldA_m, ldcm33, ldcm29, ixs_l, ixs_m, st_m, st_l, wrC, readC, getE, fits, TD.fit, optO, runN_succ, more_n, more_exit, more_ret, -List.getD_eq_getElem?_getD, ru, ruc, vK, putU, putK, arithK, intK, faK, hd1, ofV, lenSK, AV.nol, enumL, AV.nol.nols, loadC, loadS, extK, extK.extL, notK, nilckK, callvK, laid]
    exact hK1 (by simp at g; omega) _
  · have g0 : 0 ≤ ii ∧ ii < x.way.length := by simpa using g
    obtain ⟨i, rfl⟩ := Int.eq_ofNat_of_zero_le g0.1
    have hi : i < x.way.length := by omega
    simp -implicitDefEqProofs [r76, bld125, ld1_e, ld1_l, ld1_m, ldA_e, ldA_l, ldA_m, ldcm33, ldcm29, ixs_l, ixs_m, st_m, st_l, wrC, readC, getE, fits, TD.fit, optO, runN_succ, more_n, more_exit, more_ret, -List.getD_eq_getElem?_getD, ru, ruc, vK, putU, putK, arithK, intK, faK, hd1, ofV, lenSK, AV.nol, enumL, AV.nol.nols, loadC, loadS, extK, extK.extL, notK, nilckK, callvK, laid]
    refine ready47 rfl ?_
    simp -implicitDefEqProofs [r76, bld125, ld1_e, ld1_l, ld1_m, ldA_e, ldA_l, ldA_m, ldcm33, ldcm29, ixs_l, ixs_m, st_m, st_l, wrC, readC, getE, fits, TD.fit, optO, runN_succ, more_n, more_exit, more_ret, -List.getD_eq_getElem?_getD, ru, ruc, vK, putU, putK, arithK, intK, faK, hd1, ofV, lenSK, AV.nol, enumL, AV.nol.nols, loadC, loadS, extK, extK.extL, notK, nilckK, callvK, laid]
    rw [e76]
    refine AWp.rangeS f87 (by kernel_rfl) (by kernel_rfl) (gf := 87) (caps := [.mptr (h.length + 4) 0]) (by simp -implicitDefEqProofs [r76, bld125, ld1_e, ld1_l, ld1_m, ldA_e, ldA_l, ldA_m, ldcm33, ldcm29, ixs_l, ixs_m, st_m, st_l, wrC, readC, getE, fits, TD.fit, optO, runN_succ, more_n, more_exit, more_ret, -List.getD_eq_getElem?_getD, ru, ruc, vK, putU, putK, arithK, intK, faK, hd1, ofV, lenSK, AV.nol, enumL, AV.nol.nols, loadC, loadS, extK, extK.extL, notK, nilckK, callvK, laid]) rfl rfl (by simp [roundV, AV.nol, AV.nol.nols, AV.un, un_fn, un_no, un_mptr]; rfl) ?_
    generalize hP : [AObj.cells [AV.mptr cid 0] 1, AObj.cells [AV.int .i64 i] 1, AObj.cells [AV.int .i64 0, AV.int .i64 0, AV.int .i64 0, AV.int .i64 0, AV.str []] 5, AObj.cells [AV.int .i64 0] 1, AObj.cells [AV.mptr cid 0] 1] = P
    have eP : P.length = 5 := by rw [← hP]; rfl
    have el : (h ++ P).length = h.length + 5 := by simp [eP]
    have el2 : (h ++ P ++ [AObj.loop none]).length = h.length + 6 := by simp [eP]
    rw [el]
    have g4 : (h ++ P ++ [AObj.loop none])[h.length + 4]? = some (.cells [.mptr cid 0] 1) := by rw [← hP]; simp
    refine ready87 (J := fun k h' => h' = h ++ P ++ [AObj.loop none] ++ [mapO x.cuts x.cuts.length] ∧ ∀ j (hj : j < x.way.length), j < k → canX x x.way[j] = true → j ≠ i) hd hlw hlc g4 ((hB _).app _) ?_ ?_ ?_ ?_ ?_
    · rintro k h' ⟨rfl, _⟩
      refine ⟨by rw [el2]; simp [eP], ?_, ((hB _).app _).app _⟩
      rw [List.getElem?_append_left (by omega)]
      exact g4
    · exact ⟨rfl, fun j _ hj => by omega⟩
    · rintro k hk h' ⟨rfl, hj⟩ hcan
      refine ⟨rfl, fun j hj1 hj2 hj3 => ?_⟩
      by_cases e : j = k
      · subst e; rw [hcan] at hj3; cases hj3
      · exact hj j hj1 (by omega) hj3
    · rintro k hk h' ⟨rfl, hj⟩ hcan
      have hs : (h ++ P ++ [AObj.loop none] ++ [mapO x.cuts x.cuts.length]).set (h.length + 5) .dead = h ++ [AObj.cells [AV.mptr cid 0] 1, AObj.cells [AV.int .i64 i] 1, AObj.cells [AV.int .i64 0, AV.int .i64 0, AV.int .i64 0, AV.int .i64 0, AV.str []] 5, AObj.cells [AV.int .i64 0] 1, AObj.cells [AV.mptr cid 0] 1, AObj.dead, mapO x.cuts x.cuts.length] := by
        rw [← hP]; simp
      refine AYield.of_runs xc76_0 yc76_0 rfl (by rw [← hP]; simp) (by simp) rfl (by simp [AV.owns, ow_no]) (fun ro => ?_) (l1 := [(6, .int .i64 k), (14, .int .i64 k), (13, .fn 87 [.mptr (h.length + 4) 0]), (12, .mptr cid 0), (10, .bool false), (10, .bool !decide (i < x.way.length)), (9, .bool (decide (i < x.way.length))), (8, .int .i64 i), (7, .mptr cid 0), (5, .mptr (h.length + 3) 0), (4, .mptr (h.length + 2) 0), (3, .mptr (h.length + 1) 0), (2, .mptr h.length 0), (0, .mptr cid 0), (1, .int .i64 i)]) (fun ro => ?_)
      · simp -implicitDefEqProofs [x76_0, bld125, ld1_e, ld1_l, ld1_m, ldA_e, ldA_l, ldA_m, ldcm33, ldcm29, ixs_l, ixs_m, st_m, st_l, wrC, readC, getE, fits, TD.fit, optO, runN_succ, more_n, more_exit, more_ret, -List.getD_eq_getElem?_getD, ru, ruc, vK, putU, putK, arithK, intK, faK, hd1, ofV, lenSK, AV.nol, enumL, AV.nol.nols, loadC, loadS, extK, extK.extL, notK, nilckK, callvK, laid]
      · rw [hs]
        simp -implicitDefEqProofs [y76_0, bld125, ld1_e, ld1_l, ld1_m, ldA_e, ldA_l, ldA_m, ldcm33, ldcm29, ixs_l, ixs_m, st_m, st_l, wrC, readC, getE, fits, TD.fit, optO, runN_succ, more_n, more_exit, more_ret, -List.getD_eq_getElem?_getD, ru, ruc, vK, putU, putK, arithK, intK, faK, hd1, ofV, lenSK, AV.nol, enumL, AV.nol.nols, loadC, loadS, extK, extK.extL, notK, nilckK, callvK, laid]
        refine condV_split (fun g => ?_) (fun g => ?_)
        · have e : k = i := by have := of_decide_eq_true g; omega
          subst e
          simp -implicitDefEqProofs [r76, bld125, ld1_e, ld1_l, ld1_m, ldA_e, ldA_l, ldA_m, ldcm33, ldcm29, ixs_l, ixs_m, st_m, st_l, wrC, readC, getE, fits, TD.fit, optO, runN_succ, more_n, more_exit, more_ret, -List.getD_eq_getElem?_getD, ru, ruc, vK, putU, putK, arithK, intK, faK, hd1, ofV, lenSK, AV.nol, enumL, AV.nol.nols, loadC, loadS, extK, extK.extL, notK, nilckK, callvK, laid]
          generalize hQ : [AObj.cells [AV.mptr cid 0] 1, AObj.cells [AV.int .i64 k] 1, AObj.cells [AV.int .i64 0, AV.int .i64 0, AV.int .i64 0, AV.int .i64 0, AV.str []] 5, AObj.cells [AV.int .i64 0] 1, AObj.cells [AV.mptr cid 0] 1, AObj.dead, mapO x.cuts x.cuts.length] = Q
          have eQ : Q.length = 7 := by rw [← hQ]; rfl
          refine lose78 (hB _) hlw (fun hn => absurd g0 hn) (fun j hj1 hj2 h2 A' hf hc2 hv => ?_)
          have e : j = k := by omega
          subst e
          have q2 : (h ++ Q)[h.length + 2]? = some (.cells [AV.int .i64 0, AV.int .i64 0, AV.int .i64 0, AV.int .i64 0, AV.str []] 5) := by rw [← hQ]; simp
          have q3 : (h ++ Q)[h.length + 3]? = some (.cells [AV.int .i64 0] 1) := by rw [← hQ]; simp
          have q5 : (h ++ Q)[h.length + 5]? = some .dead := by rw [← hQ]; simp
          have l2 := hf.len
          have lQ : (h ++ Q).length = h.length + 7 := by simp [eQ]
          rw [lQ] at l2
          have hcl := hc.clt
          have hal := hc.way.lt
          have hbl := hc.cuts.lt
          have hdl := hc.tims.lt
          have nn : ∀ i, h.length ≤ i → i ∉ cid :: vid A := fun i hi hm => by
            rcases List.mem_cons.1 hm with h1 | h1
            · omega
            · have := hal i h1; omega
          have r2 := (hf.same (h.length + 2) (by omega) (nn _ (by omega))).trans q2
          have r3 := (hf.same (h.length + 3) (by omega) (nn _ (by omega))).trans q3
          have r5 := (hf.same (h.length + 5) (by omega) (nn _ (by omega))).trans q5
          have r3' : ∀ o, (h2.set (h.length + 2) o)[h.length + 3]? = some (.cells [AV.int .i64 0] 1) := fun o => by rw [List.getElem?_set_ne (by omega)]; exact r3
          simp -implicitDefEqProofs [Letter.c, r2, r3, r3', bld125, ld1_e, ld1_l, ld1_m, ldA_e, ldA_l, ldA_m, ldcm33, ldcm29, ixs_l, ixs_m, st_m, st_l, wrC, readC, getE, fits, TD.fit, optO, runN_succ, more_n, more_exit, more_ret, -List.getD_eq_getElem?_getD, ru, ruc, vK, putU, putK, arithK, intK, faK, hd1, ofV, lenSK, AV.nol, enumL, AV.nol.nols, loadC, loadS, extK, extK.extL, notK, nilckK, callvK, laid]
          refine roundS_ret ?_ ?_
          · rw [List.getElem?_set_ne (by omega), List.getElem?_set_ne (by omega)]; exact r5
          refine Or.inr ⟨rfl, ?_⟩
          refine rangeS_ret ?_ ?_
          · rw [el, List.getElem?_set_self (by simp; omega)]
          · rw [el]
            have f2 : ((((h2.set (h.length + 2) (.cells (Letter.c x.way[j]) 5)).set (h.length + 3) (.cells [.int .i64 0] 1)).set (h.length + 5) (.loop (some .ret))).set (h.length + 5) .dead)[h.length + 2]? = some (.cells (Letter.c x.way[j]) 5) := by
              rw [List.getElem?_set_ne (by omega), List.getElem?_set_ne (by omega), List.getElem?_set_ne (by omega), List.getElem?_set_self (by omega)]
            have f3 : ((((h2.set (h.length + 2) (.cells (Letter.c x.way[j]) 5)).set (h.length + 3) (.cells [.int .i64 0] 1)).set (h.length + 5) (.loop (some .ret))).set (h.length + 5) .dead)[h.length + 3]? = some (.cells [.int .i64 0] 1) := by
              rw [List.getElem?_set_ne (by omega), List.getElem?_set_ne (by omega), List.getElem?_set_self (by simp; omega)]
            have fo : ∀ i, i < h.length → ((((h2.set (h.length + 2) (.cells (Letter.c x.way[j]) 5)).set (h.length + 3) (.cells [.int .i64 0] 1)).set (h.length + 5) (.loop (some .ret))).set (h.length + 5) .dead)[i]? = h2[i]? := fun i hi => by
              rw [List.getElem?_set_ne (by omega), List.getElem?_set_ne (by omega), List.getElem?_set_ne (by omega), List.getElem?_set_ne (by omega)]
            have hk9 := hK j hi rfl hcan ((((h2.set (h.length + 2) (.cells (Letter.c x.way[j]) 5)).set (h.length + 3) (.cells [.int .i64 0] 1)).set (h.length + 5) (.loop (some .ret))).set (h.length + 5) .dead) A' ⟨by simp; omega, fun i hi hn => ?_⟩ (hc2.moreS fun i hi => ?_) hv
            · simp only [Letter.c] at f2 f3 hk9
              generalize ((((h2.set (h.length + 2) (AObj.cells [AV.int .i64 x.way[j].id, AV.int .i64 x.way[j].fr, AV.int .i64 x.way[j].to, AV.int .i64 x.way[j].rdy, AV.str x.way[j].data] 5)).set (h.length + 3) (.cells [.int .i64 0] 1)).set (h.length + 5) (.loop (some .ret))).set (h.length + 5) .dead) = F at f2 f3 hk9 ⊢
              simp -implicitDefEqProofs [r76, f2, f3, bld125, ld1_e, ld1_l, ld1_m, ldA_e, ldA_l, ldA_m, ldcm33, ldcm29, ixs_l, ixs_m, st_m, st_l, wrC, readC, getE, fits, TD.fit, optO, runN_succ, more_n, more_exit, more_ret, -List.getD_eq_getElem?_getD, ru, ruc, vK, putU, putK, arithK, intK, faK, hd1, ofV, lenSK, AV.nol, enumL, AV.nol.nols, loadC, loadS, extK, extK.extL, notK, nilckK, callvK, laid]
              exact hk9
            · rw [fo i hi, hf.same i (by omega) hn, List.getElem?_append_left hi]
            · refine fo i ?_
              simp only [hv, List.mem_cons, List.mem_append] at hi
              rcases hi with h1 | (h1 | h1) | h1
              · omega
              · exact hal i h1
              · exact hbl i h1
              · exact hdl i h1
        · have e : k ≠ i := by have := of_decide_eq_false g; omega
          simp -implicitDefEqProofs [r76, bld125, ld1_e, ld1_l, ld1_m, ldA_e, ldA_l, ldA_m, ldcm33, ldcm29, ixs_l, ixs_m, st_m, st_l, wrC, readC, getE, fits, TD.fit, optO, runN_succ, more_n, more_exit, more_ret, -List.getD_eq_getElem?_getD, ru, ruc, vK, putU, putK, arithK, intK, faK, hd1, ofV, lenSK, AV.nol, enumL, AV.nol.nols, loadC, loadS, extK, extK.extL, notK, nilckK, callvK, laid]
          refine roundS_n (by simp) (Or.inl ⟨rfl, ?_, fun j h1 h2 h3 => ?_⟩)
          · rw [← hP]; simp
          · by_cases e2 : j = k
            · omega
            · exact hj j h1 (by omega) h3
    · rintro h' ⟨rfl, hj⟩
      refine rangeS_n (by rw [el, ← hP]; simp) ?_
      rw [el]
      have hs : (h ++ P ++ [AObj.loop none] ++ [mapO x.cuts x.cuts.length]).set (h.length + 5) .dead = h ++ (P ++ [.dead, mapO x.cuts x.cuts.length]) := by
        rw [← hP]; simp
      rw [hs, ← hP]
      simp -implicitDefEqProofs [r76, bld125, ld1_e, ld1_l, ld1_m, ldA_e, ldA_l, ldA_m, ldcm33, ldcm29, ixs_l, ixs_m, st_m, st_l, wrC, readC, getE, fits, TD.fit, optO, runN_succ, more_n, more_exit, more_ret, -List.getD_eq_getElem?_getD, ru, ruc, vK, putU, putK, arithK, intK, faK, hd1, ofV, lenSK, AV.nol, enumL, AV.nol.nols, loadC, loadS, extK, extK.extL, notK, nilckK, callvK, laid]
      refine hK2 i hi rfl ?_ _
      cases hcan : canX x x.way[i] with
      | false => rfl
      | true => exact absurd rfl (hj i hi hi hcan)

def zeroL : AV := .agg [.int .i64 0, .int .i64 0, .int .i64 0, .int .i64 0, .str []]
theorem deliver35 {ii : Int} (hk : Nk z1 s1 z2 s2 z3 s3 x) (hc : x.cuts.length < 1000000)
    (h1 : ¬ WF x → K (.tup [zeroN, zeroL, .int .i64 2]) h)
    (h2 : WF x → ¬ (0 ≤ ii ∧ ii < x.way.length) → K (.tup [zeroN, zeroL, .int .i64 4]) h)
    (h3 : WF x → ∀ i (hi : i < x.way.length), ii = (i : Int) → canX x x.way[i] = false → K (.tup [zeroN, zeroL, .int .i64 6]) h)
    (h4 : WF x → ∀ i (hi : i < x.way.length), ii = (i : Int) → canX x x.way[i] = true → ∀ z1 s1 z2 s2 z3 s3, Nk z1 s1 z2 s2 z3 s3 (dropX x i) → K (.tup [.agg [.int .i64 (dropX x i).nodes, .int .i64 (dropX x i).now, .int .i64 (dropX x i).next, .sl z1 s1 ((dropX x i).way.map Letter.c) .no, .sl z2 s2 ((dropX x i).cuts.map Link.c) .no, .sl z3 s3 ((dropX x i).timers.map Timer.c) .no], .agg (Letter.c x.way[i]), .int .i64 0]) h) :
    ACall C Pg 35 [.agg [.int .i64 x.nodes, .int .i64 x.now, .int .i64 x.next, .sl z1 s1 (x.way.map Letter.c) .no, .sl z2 s2 (x.cuts.map Link.c) .no, .sl z3 s3 (x.timers.map Timer.c) .no], .int .i64 ii] h K := by
  refine ACall.closed (by simp [AV.deep.deeps, AV.deep, deep_L, deep_C, deep_T]) (ACall.weaken (ACall.freeze (ACall.freeze (ACall.freeze ?_))))
  refine run35 ?_
  simp -implicitDefEqProofs [b35, r35, bld125, ld1_e, ld1_l, ld1_m, ldA_e, ldA_l, ldA_m, ldcm33, ldcm29, ixs_l, ixs_m, st_m, st_l, wrC, readC, getE, fits, TD.fit, optO, runN_succ, more_n, more_exit, more_ret, -List.getD_eq_getElem?_getD, ru, ruc, vK, putU, putK, arithK, intK, faK, hd1, ofV, lenSK, AV.nol, enumL, AV.nol.nols, loadC, loadS, extK, extK.extL, notK, nilckK, callvK, laid]
  refine changing45 hk hc (fun hw => ?_) (fun hw cid A B D g hcid hge hch => ?_)
  · simp -implicitDefEqProofs [r35, bld125, ld1_e, ld1_l, ld1_m, ldA_e, ldA_l, ldA_m, ldcm33, ldcm29, ixs_l, ixs_m, st_m, st_l, wrC, readC, getE, fits, TD.fit, optO, runN_succ, more_n, more_exit, more_ret, -List.getD_eq_getElem?_getD, ru, ruc, vK, putU, putK, arithK, intK, faK, hd1, ofV, lenSK, AV.nol, enumL, AV.nol.nols, loadC, loadS, extK, extK.extL, notK, nilckK, callvK, laid]
    exact frz3 ⟨rfl, rfl, h1 hw⟩
  · have ha := hch.all
    simp -implicitDefEqProofs [r35, ha, bld125, ld1_e, ld1_l, ld1_m, ldA_e, ldA_l, ldA_m, ldcm33, ldcm29, ixs_l, ixs_m, st_m, st_l, wrC, readC, getE, fits, TD.fit, optO, runN_succ, more_n, more_exit, more_ret, -List.getD_eq_getElem?_getD, ru, ruc, vK, putU, putK, arithK, intK, faK, hd1, ofV, lenSK, AV.nol, enumL, AV.nol.nols, loadC, loadS, extK, extK.extL, notK, nilckK, callvK, laid]
    refine deliver76 (cuts_nodup hw.cr) (by have := hw.fl; omega) hc hch (fun he g2 => ?_) (fun i hi he hcan g2 => ?_) (fun i hi he hcan h' A' hf hc2 hv => ?_)
    · simp -implicitDefEqProofs [r35, Letter.c, bld125, ld1_e, ld1_l, ld1_m, ldA_e, ldA_l, ldA_m, ldcm33, ldcm29, ixs_l, ixs_m, st_m, st_l, wrC, readC, getE, fits, TD.fit, optO, runN_succ, more_n, more_exit, more_ret, -List.getD_eq_getElem?_getD, ru, ruc, vK, putU, putK, arithK, intK, faK, hd1, ofV, lenSK, AV.nol, enumL, AV.nol.nols, loadC, loadS, extK, extK.extL, notK, nilckK, callvK, laid]
      refine done73 (hch.app g2) (fun _ => ?_) (fun h0 => by cases h0)
      simp -implicitDefEqProofs [r35, bld125, ld1_e, ld1_l, ld1_m, ldA_e, ldA_l, ldA_m, ldcm33, ldcm29, ixs_l, ixs_m, st_m, st_l, wrC, readC, getE, fits, TD.fit, optO, runN_succ, more_n, more_exit, more_ret, -List.getD_eq_getElem?_getD, ru, ruc, vK, putU, putK, arithK, intK, faK, hd1, ofV, lenSK, AV.nol, enumL, AV.nol.nols, loadC, loadS, extK, extK.extL, notK, nilckK, callvK, laid]
      refine re35_0 ?_
      simp -implicitDefEqProofs [g35_0, r35, bld125, ld1_e, ld1_l, ld1_m, ldA_e, ldA_l, ldA_m, ldcm33, ldcm29, ixs_l, ixs_m, st_m, st_l, wrC, readC, getE, fits, TD.fit, optO, runN_succ, more_n, more_exit, more_ret, -List.getD_eq_getElem?_getD, ru, ruc, vK, putU, putK, arithK, intK, faK, hd1, ofV, lenSK, AV.nol, enumL, AV.nol.nols, loadC, loadS, extK, extK.extL, notK, nilckK, callvK, laid]
      repeat' (first | (refine And.intro ?_ ?_))
      all_goals exact frz3 ⟨rfl, rfl, h2 hw he⟩
    · simp -implicitDefEqProofs [r35, Letter.c, bld125, ld1_e, ld1_l, ld1_m, ldA_e, ldA_l, ldA_m, ldcm33, ldcm29, ixs_l, ixs_m, st_m, st_l, wrC, readC, getE, fits, TD.fit, optO, runN_succ, more_n, more_exit, more_ret, -List.getD_eq_getElem?_getD, ru, ruc, vK, putU, putK, arithK, intK, faK, hd1, ofV, lenSK, AV.nol, enumL, AV.nol.nols, loadC, loadS, extK, extK.extL, notK, nilckK, callvK, laid]
      refine done73 (hch.app g2) (fun _ => ?_) (fun h0 => by cases h0)
      simp -implicitDefEqProofs [r35, bld125, ld1_e, ld1_l, ld1_m, ldA_e, ldA_l, ldA_m, ldcm33, ldcm29, ixs_l, ixs_m, st_m, st_l, wrC, readC, getE, fits, TD.fit, optO, runN_succ, more_n, more_exit, more_ret, -List.getD_eq_getElem?_getD, ru, ruc, vK, putU, putK, arithK, intK, faK, hd1, ofV, lenSK, AV.nol, enumL, AV.nol.nols, loadC, loadS, extK, extK.extL, notK, nilckK, callvK, laid]
      refine re35_0 ?_
      simp -implicitDefEqProofs [g35_0, r35, bld125, ld1_e, ld1_l, ld1_m, ldA_e, ldA_l, ldA_m, ldcm33, ldcm29, ixs_l, ixs_m, st_m, st_l, wrC, readC, getE, fits, TD.fit, optO, runN_succ, more_n, more_exit, more_ret, -List.getD_eq_getElem?_getD, ru, ruc, vK, putU, putK, arithK, intK, faK, hd1, ofV, lenSK, AV.nol, enumL, AV.nol.nols, loadC, loadS, extK, extK.extL, notK, nilckK, callvK, laid]
      repeat' (first | (refine And.intro ?_ ?_))
      all_goals exact frz3 ⟨rfl, rfl, h3 hw i hi he hcan⟩
    · have ha2 := hc2.all
      simp -implicitDefEqProofs [r35, Letter.c, bld125, ld1_e, ld1_l, ld1_m, ldA_e, ldA_l, ldA_m, ldcm33, ldcm29, ixs_l, ixs_m, st_m, st_l, wrC, readC, getE, fits, TD.fit, optO, runN_succ, more_n, more_exit, more_ret, -List.getD_eq_getElem?_getD, ru, ruc, vK, putU, putK, arithK, intK, faK, hd1, ofV, lenSK, AV.nol, enumL, AV.nol.nols, loadC, loadS, extK, extK.extL, notK, nilckK, callvK, laid]
      refine done73 hc2 (fun h0 => absurd rfl h0) (fun _ => ?_)
      simp -implicitDefEqProofs [r35, ha2, bld125, ld1_e, ld1_l, ld1_m, ldA_e, ldA_l, ldA_m, ldcm33, ldcm29, ixs_l, ixs_m, st_m, st_l, wrC, readC, getE, fits, TD.fit, optO, runN_succ, more_n, more_exit, more_ret, -List.getD_eq_getElem?_getD, ru, ruc, vK, putU, putK, arithK, intK, faK, hd1, ofV, lenSK, AV.nol, enumL, AV.nol.nols, loadC, loadS, extK, extK.extL, notK, nilckK, callvK, laid]
      refine re35_0 ?_
      simp -implicitDefEqProofs [g35_0, r35, ha2, bld125, ld1_e, ld1_l, ld1_m, ldA_e, ldA_l, ldA_m, ldcm33, ldcm29, ixs_l, ixs_m, st_m, st_l, wrC, readC, getE, fits, TD.fit, optO, runN_succ, more_n, more_exit, more_ret, -List.getD_eq_getElem?_getD, ru, ruc, vK, putU, putK, arithK, intK, faK, hd1, ofV, lenSK, AV.nol, enumL, AV.nol.nols, loadC, loadS, extK, extK.extL, notK, nilckK, callvK, laid]
      repeat' (first | (refine And.intro ?_ ?_))
      all_goals exact fin (K := fun r => K r h) hc2 (rest := [_, _]) rfl (fun _ _ => rfl) rfl fun z1 s1 z2 s2 z3 s3 hk2 => h4 hw i hi he hcan z1 s1 z2 s2 z3 s3 hk2
end
end Go.Ab
end
section
/- Acts. -/
set_option linter.unusedSimpArgs false
set_option linter.unusedVariables false
set_option maxRecDepth 100000
namespace Go.Ab

structure Act where
  (k a b n : Int) (data : List UInt8)
  deriving DecidableEq
def Act.c (a : Act) : List AV := [.int .i64 a.k, .int .i64 a.a, .int .i64 a.b, .int .i64 a.n, .str a.data]
def seenC (a : Act) (e now : Int) (l : Letter) (ts : AV) : List AV := [.int .i64 a.k, .int .i64 a.a, .int .i64 a.b, .int .i64 a.n, .str a.data, .int .i64 e, .int .i64 now, .int .i64 l.id, .int .i64 l.fr, .int .i64 l.to, .int .i64 l.rdy, .str l.data, ts]
def noAct : Act := ⟨0, 0, 0, 0, []⟩
def noLetter : Letter := ⟨0, 0, 0, 0, []⟩
def actN (k : Int) : FuncId := if k = 1 then 101 else if k = 2 then 102 else if k = 3 then 103 else if k = 4 then 104 else if k = 5 then 106 else if k = 6 then 107 else if k = 7 then 108 else if k = 8 then 109 else 110
def actT (k : Int) : TypeId := if 1 ≤ k ∧ k ≤ 5 then 149 else if k = 10 then 152 else 150
def actM (k : Int) : FuncId := if 1 ≤ k ∧ k ≤ 5 then 144 else if k = 10 then 146 else 145
def actF (id : Nat) (k : Int) : AV := if 1 ≤ k ∧ k ≤ 9 then .fn (actN k) [.mptr id 0] else if k = 10 then .agg [] else .fn 111 []
def actV (id : Nat) (k : Int) : AV := .iface (actT k) (actF id k)
def showsK (k : Int) : Bool := decide (1 ≤ k ∧ k ≤ 5 ∨ k = 10)
theorem m149 : AMethod Pg 149 "understory/net.does" 144 := ⟨fun v w => by kernel_rfl⟩
theorem m150 : AMethod Pg 150 "understory/net.does" 145 := ⟨fun v w => by kernel_rfl⟩
theorem m152 : AMethod Pg 152 "understory/net.does" 146 := ⟨fun v w => by kernel_rfl⟩
theorem actM_ok (k : Int) : AMethod Pg (actT k) "understory/net.does" (actM k) := by
  unfold actT actM
  split
  · exact m149
  · split
    · exact m152
    · exact m150
theorem actF_un {id : Nat} {k : Int} : (actF id k).un = actF id k := by
  unfold actF
  split
  · rfl
  · split <;> rfl
theorem actF_nol {id : Nat} {k : Int} : (actF id k).nol = true := by
  unfold actF
  split
  · rfl
  · split <;> rfl
theorem bld152 {K : AV → Prop} : agK (abuild T 152 []) K = K (.agg []) := rfl
theorem accU_all {α : Type} {sz : Nat} {c : α → List AV} {l : List α} : (accU sz c l).un = accU sz c l ∧ (accU sz c l).nol = true ∧ (accU sz c l).one = true ∧ (accU sz c l).owns = false ∧ (accU sz c l).cells = [accU sz c l] ∧ (accU sz c l).scells = [accU sz c l] := by
  unfold accU
  split <;> exact ⟨rfl, rfl, rfl, rfl, rfl, rfl⟩

section
variable {C : CX} {h : List AObj} {K : AV → List AObj → Prop} {x : Net} {A B D : AV} {cid : Nat} {z1 z2 z3 : Bool} {s1 s2 s3 : Nat}
theorem bld55_13 {K : AV → Prop} {e a b c d : Int} {y : List UInt8} : agK (abuild T 55 [(1, .int .i64 e), (3, .agg [.int .i64 a, .int .i64 b, .int .i64 c, .int .i64 d, .str y])]) K = K (.agg [.int .i64 0, .int .i64 0, .int .i64 0, .int .i64 0, .str [], .int .i64 e, .int .i64 0, .int .i64 a, .int .i64 b, .int .i64 c, .int .i64 d, .str y, .sl true 0 [] .own]) := rfl
theorem bld55_1 {K : AV → Prop} {e : Int} : agK (abuild T 55 [(1, .int .i64 e)]) K = K (.agg [.int .i64 0, .int .i64 0, .int .i64 0, .int .i64 0, .str [], .int .i64 e, .int .i64 0, .int .i64 0, .int .i64 0, .int .i64 0, .int .i64 0, .str [], .sl true 0 [] .own]) := rfl
theorem bld55_0 {K : AV → Prop} : agK (abuild T 55 []) K = K (.agg [.int .i64 0, .int .i64 0, .int .i64 0, .int .i64 0, .str [], .int .i64 0, .int .i64 0, .int .i64 0, .int .i64 0, .int .i64 0, .int .i64 0, .str [], .sl true 0 [] .own]) := rfl

theorem actOf74 {a : Act} (hK : K (actV h.length a.k) (h ++ [.cells (Act.c a) 5])) : ACall C Pg 74 [.agg (Act.c a)] h K := by
  refine run74 ?_
  simp -implicitDefEqProofs [b74, r74, Act.c, bld125, ld1_e, ld1_l, ld1_m, ldA_e, ldA_l, ldA_m, ldcm33, ldcm29, ixs_l, ixs_m, st_m, st_l, wrC, readC, getE, fits, TD.fit, optO, runN_succ, more_n, more_exit, more_ret, -List.getD_eq_getElem?_getD, ru, ruc, vK, putU, putK, arithK, intK, faK, hd1, ofV, lenSK, AV.nol, enumL, AV.nol.nols, loadC, loadS, extK, extK.extL, notK, nilckK, callvK, laid]
  repeat' (first | (refine guardV_split (fun g => ?_) (fun g => ?_) <;> try simp -implicitDefEqProofs [r74, bld152, Act.c, bld125, ld1_e, ld1_l, ld1_m, ldA_e, ldA_l, ldA_m, ldcm33, ldcm29, ixs_l, ixs_m, st_m, st_l, getE, fits, TD.fit, optO, runN_succ, more_n, more_exit, more_ret, -List.getD_eq_getElem?_getD, ru, ruc, vK, putU, putK, arithK, intK, faK, hd1, ofV, lenSK, AV.nol, enumL, AV.nol.nols, loadC, loadS, extK, extK.extL, notK, nilckK, callvK]) | (refine condV_split (fun g => ?_) (fun g => ?_) <;> try simp -implicitDefEqProofs [r74, bld152, Act.c, bld125, ld1_e, ld1_l, ld1_m, ldA_e, ldA_l, ldA_m, ldcm33, ldcm29, ixs_l, ixs_m, st_m, st_l, getE, fits, TD.fit, optO, runN_succ, more_n, more_exit, more_ret, -List.getD_eq_getElem?_getD, ru, ruc, vK, putU, putK, arithK, intK, faK, hd1, ofV, lenSK, AV.nol, enumL, AV.nol.nols, loadC, loadS, extK, extK.extL, notK, nilckK, callvK]))
  all_goals simp only [decide_eq_true_eq, decide_eq_false_iff_not] at *
  all_goals simp only [actV, Act.c] at hK
  all_goals first
    | (simp_all [actT, actF, actN]; done)
    | (have n1 : ¬ (1 ≤ a.k ∧ a.k ≤ 5) := by omega
       have n2 : ¬ a.k = 10 := by omega
       have n3 : ¬ (1 ≤ a.k ∧ a.k ≤ 9) := by omega
       simp only [actT, actF, if_neg n1, if_neg n2, if_neg n3] at hK
       exact hK)
theorem T149 : T.get 149 = some (TI.mk .func 1 8 [.nilf] []) := rfl
theorem T152 : T.get 152 = some (TI.mk (.struct []) 0 0 [] []) := rfl
theorem ldc55 {bx : List (List AV)} {i off : Nat} {K : AV → Prop} : loadK T 55 (.lptr i off) bx h K = getBx bx i (loadC 13 off K) := by simp only [loadK, show T.get 55 = some _ from rfl, getBx]; cases bx[i]? <;> simp [TD.known, TD.isAgg, loadC]
theorem shows75 {id : Nat} {k : Int} (hK : K (.bool (showsK k)) h) : ACall C Pg 75 [actV id k] h K := by
  refine run75 ?_ rfl
  by_cases h1 : 1 ≤ k ∧ k ≤ 5
  · have hs : showsK k = true := by simp [showsK, h1]
    rw [hs] at hK
    simp -implicitDefEqProofs [b75, r75, T149, T152, TD.isAgg, actV, actF_un, actT, tasK, h1, and_self, if_true, bld125, ld1_e, ld1_l, ld1_m, ldA_e, ldA_l, ldA_m, ldcm33, ldcm29, ixs_l, ixs_m, st_m, st_l, wrC, readC, getE, fits, TD.fit, optO, runN_succ, more_n, more_exit, more_ret, -List.getD_eq_getElem?_getD, ru, ruc, vK, putU, putK, arithK, intK, faK, hd1, ofV, lenSK, AV.nol, enumL, AV.nol.nols, loadC, loadS, extK, extK.extL, notK, nilckK, callvK, laid]
    exact hK
  · by_cases h2 : k = 10
    · have hs : showsK k = true := by simp [showsK, h2]
      rw [hs] at hK
      subst h2
      simp -implicitDefEqProofs [b75, r75, T149, T152, TD.isAgg, actV, actF_un, actT, tasK, bld125, ld1_e, ld1_l, ld1_m, ldA_e, ldA_l, ldA_m, ldcm33, ldcm29, ixs_l, ixs_m, st_m, st_l, wrC, readC, getE, fits, TD.fit, optO, runN_succ, more_n, more_exit, more_ret, -List.getD_eq_getElem?_getD, ru, ruc, vK, putU, putK, arithK, intK, faK, hd1, ofV, lenSK, AV.nol, enumL, AV.nol.nols, loadC, loadS, extK, extK.extL, notK, nilckK, callvK, laid]
      exact hK
    · have hs : showsK k = false := by simp [showsK, h2]; omega
      rw [hs] at hK
      simp -implicitDefEqProofs [b75, r75, T149, T152, TD.isAgg, actV, actF_un, actT, tasK, if_neg h1, if_neg h2, bld125, ld1_e, ld1_l, ld1_m, ldA_e, ldA_l, ldA_m, ldcm33, ldcm29, ixs_l, ixs_m, st_m, st_l, wrC, readC, getE, fits, TD.fit, optO, runN_succ, more_n, more_exit, more_ret, -List.getD_eq_getElem?_getD, ru, ruc, vK, putU, putK, arithK, intK, faK, hd1, ofV, lenSK, AV.nol, enumL, AV.nol.nols, loadC, loadS, extK, extK.extL, notK, nilckK, callvK, laid]
      exact hK
def seenK (K : AV → List AObj → Prop) (r : AV) (h' : List AObj) : Prop := ∃ l e, r = .tup [.agg (Letter.c l), .int .i64 e] ∧ K (.agg (seenC noAct e 0 l (.sl true 0 [] .no))) h'
theorem does144 {f : FuncId} {aid : Nat} (hc : ACall C Pg f [.mptr cid 0, .mptr aid 0] h (seenK K)) : ACall C Pg 144 [.fn f [.mptr aid 0], .mptr cid 0] h K := by
  refine run144 ?_
  simp -implicitDefEqProofs [b144, r144, bld125, ld1_e, ld1_l, ld1_m, ldA_e, ldA_l, ldA_m, ldcm33, ldcm29, ixs_l, ixs_m, st_m, st_l, wrC, readC, getE, fits, TD.fit, optO, runN_succ, more_n, more_exit, more_ret, -List.getD_eq_getElem?_getD, ru, ruc, vK, putU, putK, arithK, intK, faK, hd1, ofV, lenSK, AV.nol, enumL, AV.nol.nols, loadC, loadS, extK, extK.extL, notK, nilckK, callvK, laid]
  refine hc.mono fun r h' hr => ?_
  obtain ⟨l, e, rfl, hK⟩ := hr
  simp -implicitDefEqProofs [r144, Letter.c, bld55_13, ldc55, bld125, ld1_e, ld1_l, ld1_m, ldA_e, ldA_l, ldA_m, ldcm33, ldcm29, ixs_l, ixs_m, st_m, st_l, wrC, readC, getE, fits, TD.fit, optO, runN_succ, more_n, more_exit, more_ret, -List.getD_eq_getElem?_getD, ru, ruc, vK, putU, putK, arithK, intK, faK, hd1, ofV, lenSK, AV.nol, enumL, AV.nol.nols, loadC, loadS, extK, extK.extL, notK, nilckK, callvK, laid]
  exact hK
end
end Go.Ab
end
section
/- The laws' arguments: networks, acts, logs. -/
set_option linter.unusedSimpArgs false
set_option linter.unusedVariables false
set_option maxRecDepth 100000
namespace Go.Ab

def inI (n : Int) : Prop := -9223372036854775808 ≤ n ∧ n ≤ 9223372036854775807
section
variable {P : Program} {m t e : Nat} {avs : List AV}
theorem isT_int (hu : P.underlying t = some (.int .i64)) (h : isT P (m + 1) t avs) : ∃ n, avs = [.int .i64 n] ∧ inI n := by
  unfold isT at h
  rw [hu] at h
  obtain ⟨n, rfl, hw⟩ := h
  refine ⟨n, rfl, ?_⟩
  have h1 : (IntKind.min .i64) = -9223372036854775808 := by decide
  have h2 : (IntKind.max .i64) = 9223372036854775807 := by decide
  unfold Lit.wf at hw
  rw [Bool.and_eq_true, decide_eq_true_eq, decide_eq_true_eq, h1, h2] at hw
  exact hw
theorem isT_str (hu : P.underlying t = some .string) (h : isT P (m + 1) t avs) : ∃ s, avs = [.str s] ∧ s.length ≤ maxLen := by
  unfold isT at h
  rw [hu] at h
  exact h
theorem isT_slice {α : Type} {c : α → List AV} {p : α → Prop} (hu : P.underlying t = some (.slice e)) (hc : ∀ a, isT P m e a → ∃ x, a = c x ∧ p x) (h : isT P (m + 1) t avs) :
    ∃ (z : Bool) (s : Nat) (l : List α), avs = [.sl z s (l.map c) .no] ∧ Slk z s (P.cellsOf e) l.length ∧ l.length ≤ maxLen ∧ ∀ x ∈ l, p x := by
  unfold isT at h
  rw [hu] at h
  obtain ⟨z, s, es, rfl, h1, h2, h3, h4⟩ := h
  have : ∃ l : List α, es = l.map c ∧ ∀ x ∈ l, p x := by
    clear h1 h3
    induction es with
    | nil => exact ⟨[], rfl, by simp⟩
    | cons a r ih =>
      obtain ⟨x, rfl, hx⟩ := hc a (h4 a (by simp))
      obtain ⟨l, rfl, hl⟩ := ih (fun y hy => h4 y (by simp [hy]))
      exact ⟨x :: l, rfl, by simpa using ⟨hx, hl⟩⟩
  obtain ⟨l, rfl, hl⟩ := this
  refine ⟨z, s, l, rfl, ⟨fun hz => ?_, h2⟩, by simpa using h3, hl⟩
  have := h1 hz
  simpa using this
theorem isT_struct {fs : Array Field} (hu : P.underlying t = some (.struct fs)) (h : isT P (m + 1) t avs) : fieldsT (isT P m) fs.toList avs := by
  unfold isT at h
  rw [hu] at h
  exact h
theorem isT_f {F : Nat → List AV → Prop} {f : Field} {r : List Field} (h : fieldsT F (f :: r) avs) : ∃ a b, avs = a ++ b ∧ F f.type a ∧ fieldsT F r b := h
theorem isT_n {F : Nat → List AV → Prop} (h : fieldsT F [] avs) : avs = [] := h
end
def Letter.inI (l : Letter) : Prop := Go.Ab.inI l.id ∧ Go.Ab.inI l.fr ∧ Go.Ab.inI l.to ∧ Go.Ab.inI l.rdy
def Link.inI (l : Link) : Prop := Go.Ab.inI l.a ∧ Go.Ab.inI l.b
def Timer.inI (l : Timer) : Prop := Go.Ab.inI l.tm ∧ Go.Ab.inI l.nd ∧ Go.Ab.inI l.tg
def Act.inI (l : Act) : Prop := Go.Ab.inI l.k ∧ Go.Ab.inI l.a ∧ Go.Ab.inI l.b ∧ Go.Ab.inI l.n
structure Net.inI (x : Net) : Prop where
  nodes : Go.Ab.inI x.nodes
  now : Go.Ab.inI x.now
  next : Go.Ab.inI x.next
  way : ∀ l ∈ x.way, l.inI
  cuts : ∀ l ∈ x.cuts, l.inI
  timers : ∀ l ∈ x.timers, l.inI
section
variable {m : Nat} {avs : List AV}
open Go.Proofs
theorem u9 : Pg.underlying 9 = some .string := by kernel_rfl
theorem u3 : Pg.underlying 3 = some (.int .i64) := by kernel_rfl
theorem isLetter (h : isT Pg (m + 2) 33 avs) : ∃ l : Letter, avs = Letter.c l ∧ l.inI := by
  have := isT_struct Try.underlying33 h
  obtain ⟨a1, r1, rfl, h1, this⟩ := isT_f this
  obtain ⟨a2, r2, rfl, h2, this⟩ := isT_f this
  obtain ⟨a3, r3, rfl, h3, this⟩ := isT_f this
  obtain ⟨a4, r4, rfl, h4, this⟩ := isT_f this
  obtain ⟨a5, r5, rfl, h5, this⟩ := isT_f this
  obtain rfl := isT_n this
  obtain ⟨n1, rfl, w1⟩ := isT_int u3 h1
  obtain ⟨n2, rfl, w2⟩ := isT_int u3 h2
  obtain ⟨n3, rfl, w3⟩ := isT_int u3 h3
  obtain ⟨n4, rfl, w4⟩ := isT_int u3 h4
  obtain ⟨s, rfl, _⟩ := isT_str u9 h5
  exact ⟨⟨n1, n2, n3, n4, s⟩, rfl, w1, w2, w3, w4⟩
theorem isLink (h : isT Pg (m + 2) 100 avs) : ∃ l : Link, avs = Link.c l ∧ l.inI := by
  have := isT_struct Try.underlying100 h
  obtain ⟨a1, r1, rfl, h1, this⟩ := isT_f this
  obtain ⟨a2, r2, rfl, h2, this⟩ := isT_f this
  obtain rfl := isT_n this
  obtain ⟨n1, rfl, w1⟩ := isT_int u3 h1
  obtain ⟨n2, rfl, w2⟩ := isT_int u3 h2
  exact ⟨⟨n1, n2⟩, rfl, w1, w2⟩
theorem isTimer (h : isT Pg (m + 2) 86 avs) : ∃ l : Timer, avs = Timer.c l ∧ l.inI := by
  have := isT_struct Try.underlying86 h
  obtain ⟨a1, r1, rfl, h1, this⟩ := isT_f this
  obtain ⟨a2, r2, rfl, h2, this⟩ := isT_f this
  obtain ⟨a3, r3, rfl, h3, this⟩ := isT_f this
  obtain rfl := isT_n this
  obtain ⟨n1, rfl, w1⟩ := isT_int u3 h1
  obtain ⟨n2, rfl, w2⟩ := isT_int u3 h2
  obtain ⟨n3, rfl, w3⟩ := isT_int u3 h3
  exact ⟨⟨n1, n2, n3⟩, rfl, w1, w2, w3⟩
theorem isNet (h : isT Pg (m + 4) 26 avs) : ∃ (x : Net) (z1 : Bool) (s1 : Nat) (z2 : Bool) (s2 : Nat) (z3 : Bool) (s3 : Nat), avs = [.int .i64 x.nodes, .int .i64 x.now, .int .i64 x.next, .sl z1 s1 (x.way.map Letter.c) .no, .sl z2 s2 (x.cuts.map Link.c) .no, .sl z3 s3 (x.timers.map Timer.c) .no] ∧ Nk z1 s1 z2 s2 z3 s3 x ∧ x.inI := by
  have := isT_struct Try.underlying26 h
  obtain ⟨a1, r1, rfl, h1, this⟩ := isT_f this
  obtain ⟨a2, r2, rfl, h2, this⟩ := isT_f this
  obtain ⟨a3, r3, rfl, h3, this⟩ := isT_f this
  obtain ⟨a4, r4, rfl, h4, this⟩ := isT_f this
  obtain ⟨a5, r5, rfl, h5, this⟩ := isT_f this
  obtain ⟨a6, r6, rfl, h6, this⟩ := isT_f this
  obtain rfl := isT_n this
  obtain ⟨n1, rfl, w1⟩ := isT_int u3 h1
  obtain ⟨n2, rfl, w2⟩ := isT_int u3 h2
  obtain ⟨n3, rfl, w3⟩ := isT_int u3 h3
  obtain ⟨z1, s1, l1, rfl, k1, _, q1⟩ := isT_slice (c := Letter.c) (p := Letter.inI) (show Pg.underlying 22 = some (.slice 33) by kernel_rfl) (fun a ha => isLetter ha) h4
  obtain ⟨z2, s2, l2, rfl, k2, _, q2⟩ := isT_slice (c := Link.c) (p := Link.inI) (show Pg.underlying 23 = some (.slice 100) by kernel_rfl) (fun a ha => isLink ha) h5
  obtain ⟨z3, s3, l3, rfl, k3, _, q3⟩ := isT_slice (c := Timer.c) (p := Timer.inI) (show Pg.underlying 24 = some (.slice 86) by kernel_rfl) (fun a ha => isTimer ha) h6
  have e1 : Pg.cellsOf 33 = 5 := by kernel_rfl
  have e2 : Pg.cellsOf 100 = 2 := by kernel_rfl
  have e3 : Pg.cellsOf 86 = 3 := by kernel_rfl
  rw [e1] at k1
  rw [e2] at k2
  rw [e3] at k3
  exact ⟨⟨n1, n2, n3, l1, l2, l3⟩, z1, s1, z2, s2, z3, s3, rfl, ⟨k1, k2, k3⟩, ⟨w1, w2, w3, q1, q2, q3⟩⟩
end
theorem spot_none {P : Program} {w : World} {r : Reach} {b u : Nat} {a : Addr} {l c : Nat} (h : Cell.okWide P w r b u (.slice (some a) l c)) : a.spot = none := by
  unfold Cell.okWide at h
  split at h
  all_goals first
    | (rename_i heq; cases heq; done)
    | skip
  unfold Cell.ok at h
  split at h
  all_goals first
    | (rename_i heq; cases heq; done)
    | exact h.elim
    | skip
  · rename_i heq
    cases heq
    exact h.2.2.2.1
theorem agg_spots {P : Program} {w : World} {r : Reach} {b t : Nat} {fs : Array Field} {cs : Array Value} (hu : P.underlying t = some (.struct fs)) (h : Value.okWide P w r b t (.agg cs)) : ∀ a l c, Value.slice (some a) l c ∈ cs.toList → a.spot = none := by
  intro a l c hm
  unfold Value.okWide at h
  rw [hu] at h
  obtain ⟨cs', e, _, ts, _, _, h2⟩ := h
  cases e
  obtain ⟨i, hi, e⟩ := List.mem_iff_getElem.1 hm
  obtain ⟨u, _, h3⟩ := h2 i (.slice (some a) l c) (by rw [← e]; simp at hi ⊢)
  exact spot_none h3
end Go.Ab
end
section
/- Do. -/
set_option linter.unusedSimpArgs false
set_option linter.unusedVariables false
set_option maxRecDepth 100000
namespace Go.Ab

def StepOK (x : Net) (a : Act) (e : Int) (x' : Net) (l : Letter) (ts : List Timer) : Prop :=
  ∀ (C : CX) (h : List AObj) (cid aid : Nat) (A B D : AV) (K : AV → List AObj → Prop), Chg h cid x A B D → h[aid]? = some (.cells (Act.c a) 5) →
    (∀ h' A' B' D', Chg h' cid x' A' B' D' → K (.agg (seenC noAct e 0 l (accU 3 Timer.c ts))) h') → ACall C Pg (actM a.k) [actF aid a.k, .mptr cid 0] h K

section
variable {C : CX} {h : List AObj} {K : AV → List AObj → Prop} {x : Net} {A B D : AV} {cid : Nat} {z1 z2 z3 : Bool} {s1 s2 s3 : Nat}
theorem accU_frz {α : Type} {sz : Nat} {c : α → List AV} {l : List α} {id : Nat} {cs : List AV} : (accU sz c l).frz id cs = accU sz c l := by unfold accU; split <;> rfl
theorem accU_weak {α : Type} {sz : Nat} {c : α → List AV} {l : List α} : (accU sz c l).weak = accU sz c l := by unfold accU; split <;> rfl
theorem seen_frz {a : Act} {e n m : Int} {l : Letter} {ts : List Timer} {id : Nat} {cs : List AV} : AV.frz.frzs id cs [.agg (seenC a e n l (accU 3 Timer.c ts)), .int .i64 m] = [.agg (seenC a e n l (accU 3 Timer.c ts)), .int .i64 m] := by
  simp [AV.frz, AV.frz.frzs, seenC, accU_frz]
theorem seen_weak {a : Act} {e n m : Int} {l : Letter} {ts : List Timer} : AV.weak.weaks [.agg (seenC a e n l (accU 3 Timer.c ts)), .int .i64 m] = [.agg (seenC a e n l (accU 3 Timer.c ts)), .int .i64 m] := by
  simp [AV.weak, AV.weak.weaks, seenC, accU_weak]
theorem seen_deep {a : Act} {e n m : Int} {l : Letter} {ts : List Timer} : AV.deep.deeps [.agg (seenC a e n l (accU 3 Timer.c ts)), .int .i64 m] = true := by
  simp [AV.deep, AV.deep.deeps, seenC, accU_deepT]
theorem step_send {a : Act} {e : Int} (hk : a.k = 1) (hw : x.way.length < 1000000) (hx : 0 ≤ x.next ∧ x.next ≤ 1099511627776) (he : sendE x a.a a.b a.data = e) :
    StepOK x a e (if e = 0 then sendX x a.a a.b a.data else x) (if e = 0 then sendL x a.a a.b a.data else noLetter) [] := by
  intro C h cid aid A B D K hc ha hK
  have e1 : actM a.k = 144 := by rw [hk]; rfl
  have e2 : actF aid a.k = .fn 101 [.mptr aid 0] := by rw [hk]; rfl
  rw [e1, e2]
  refine does144 ?_
  refine run101 ?_
  simp -implicitDefEqProofs [b101, r101, ha, Act.c, bld125, ld1_e, ld1_l, ld1_m, ldA_e, ldA_l, ldA_m, ldcm33, ldcm29, ixs_l, ixs_m, st_m, st_l, wrC, readC, getE, fits, TD.fit, optO, runN_succ, more_n, more_exit, more_ret, -List.getD_eq_getElem?_getD, ru, ruc, vK, putU, putK, arithK, intK, faK, hd1, ofV, lenSK, AV.nol, enumL, AV.nol.nols, loadC, loadS, extK, extK.extL, notK, nilckK, callvK, laid]
  refine send80 hc hx hw (fun h0 => ?_) (fun h0 h' A' hf hc2 hv => ?_)
  · simp -implicitDefEqProofs [r101, Letter.c, bld125, ld1_e, ld1_l, ld1_m, ldA_e, ldA_l, ldA_m, ldcm33, ldcm29, ixs_l, ixs_m, st_m, st_l, wrC, readC, getE, fits, TD.fit, optO, runN_succ, more_n, more_exit, more_ret, -List.getD_eq_getElem?_getD, ru, ruc, vK, putU, putK, arithK, intK, faK, hd1, ofV, lenSK, AV.nol, enumL, AV.nol.nols, loadC, loadS, extK, extK.extL, notK, nilckK, callvK, laid]
    refine ⟨noLetter, _, rfl, ?_⟩
    rw [he] at h0 ⊢
    have := hK h A B D (by rw [if_neg h0]; exact hc)
    rw [if_neg h0] at this
    exact this
  · simp -implicitDefEqProofs [r101, Letter.c, bld125, ld1_e, ld1_l, ld1_m, ldA_e, ldA_l, ldA_m, ldcm33, ldcm29, ixs_l, ixs_m, st_m, st_l, wrC, readC, getE, fits, TD.fit, optO, runN_succ, more_n, more_exit, more_ret, -List.getD_eq_getElem?_getD, ru, ruc, vK, putU, putK, arithK, intK, faK, hd1, ofV, lenSK, AV.nol, enumL, AV.nol.nols, loadC, loadS, extK, extK.extL, notK, nilckK, callvK, laid]
    refine ⟨sendL x a.a a.b a.data, 0, rfl, ?_⟩
    rw [he] at h0
    have := hK h' A' B D (by rw [if_pos h0]; exact hc2)
    rw [if_pos h0, h0] at this
    exact this

theorem step_deliver {a : Act} (hk : a.k = 2) (hd : x.cuts.Nodup) (hlw : x.way.length < 1000000) (hlc : x.cuts.length < 1000000) {i : Nat} (hi : i < x.way.length) (hn : a.n = i) (hcan : canX x x.way[i] = true) :
    StepOK x a 0 (dropX x i) x.way[i] [] := by
  intro C h cid aid A B D K hc ha hK
  have e1 : actM a.k = 144 := by rw [hk]; rfl
  have e2 : actF aid a.k = .fn 102 [.mptr aid 0] := by rw [hk]; rfl
  rw [e1, e2]
  refine does144 ?_
  refine run102 ?_
  simp -implicitDefEqProofs [b102, r102, ha, Act.c, bld125, ld1_e, ld1_l, ld1_m, ldA_e, ldA_l, ldA_m, ldcm33, ldcm29, ixs_l, ixs_m, st_m, st_l, wrC, readC, getE, fits, TD.fit, optO, runN_succ, more_n, more_exit, more_ret, -List.getD_eq_getElem?_getD, ru, ruc, vK, putU, putK, arithK, intK, faK, hd1, ofV, lenSK, AV.nol, enumL, AV.nol.nols, loadC, loadS, extK, extK.extL, notK, nilckK, callvK, laid]
  refine deliver76 hd hlw hlc hc (fun h0 => absurd ⟨by omega, by omega⟩ h0) (fun j hj h0 h1 => ?_) (fun j hj h0 h1 h' A' hf hc2 hv => ?_)
  · have : j = i := by omega
    subst this
    rw [hcan] at h1; cases h1
  · have : j = i := by omega
    subst this
    simp -implicitDefEqProofs [r102, Letter.c, bld125, ld1_e, ld1_l, ld1_m, ldA_e, ldA_l, ldA_m, ldcm33, ldcm29, ixs_l, ixs_m, st_m, st_l, wrC, readC, getE, fits, TD.fit, optO, runN_succ, more_n, more_exit, more_ret, -List.getD_eq_getElem?_getD, ru, ruc, vK, putU, putK, arithK, intK, faK, hd1, ofV, lenSK, AV.nol, enumL, AV.nol.nols, loadC, loadS, extK, extK.extL, notK, nilckK, callvK, laid]
    exact ⟨x.way[j], 0, rfl, hK h' A' B D hc2⟩
theorem step_double {a : Act} (hk : a.k = 4) (hlw : x.way.length < 1000000) {i : Nat} (hi : i < x.way.length) (hn : a.n = i) (hf : x.way.length ≠ 200) :
    StepOK x a 0 (doubleX x i hi) x.way[i] [] := by
  intro C h cid aid A B D K hc ha hK
  have e1 : actM a.k = 144 := by rw [hk]; rfl
  have e2 : actF aid a.k = .fn 104 [.mptr aid 0] := by rw [hk]; rfl
  rw [e1, e2]
  refine does144 ?_
  refine run104 ?_
  simp -implicitDefEqProofs [b104, r104, ha, Act.c, bld125, ld1_e, ld1_l, ld1_m, ldA_e, ldA_l, ldA_m, ldcm33, ldcm29, ixs_l, ixs_m, st_m, st_l, wrC, readC, getE, fits, TD.fit, optO, runN_succ, more_n, more_exit, more_ret, -List.getD_eq_getElem?_getD, ru, ruc, vK, putU, putK, arithK, intK, faK, hd1, ofV, lenSK, AV.nol, enumL, AV.nol.nols, loadC, loadS, extK, extK.extL, notK, nilckK, callvK, laid]
  refine double105 hc hlw (fun h0 => absurd ⟨by omega, by omega⟩ h0) (fun _ h0 => absurd h0 hf) (fun j hj h0 h1 h' A' hf hc2 hv => ?_)
  have : j = i := by omega
  subst this
  simp -implicitDefEqProofs [r104, Letter.c, bld125, ld1_e, ld1_l, ld1_m, ldA_e, ldA_l, ldA_m, ldcm33, ldcm29, ixs_l, ixs_m, st_m, st_l, wrC, readC, getE, fits, TD.fit, optO, runN_succ, more_n, more_exit, more_ret, -List.getD_eq_getElem?_getD, ru, ruc, vK, putU, putK, arithK, intK, faK, hd1, ofV, lenSK, AV.nol, enumL, AV.nol.nols, loadC, loadS, extK, extK.extL, notK, nilckK, callvK, laid]
  exact ⟨x.way[j], 0, rfl, hK h' A' B D hc2⟩

theorem do34 {a : Act} {e : Int} {x' : Net} {l : Letter} {ts : List Timer} (hk : Nk z1 s1 z2 s2 z3 s3 x) (hc : x.cuts.length < 1000000) (hs : WF x → StepOK x a e x' l ts) (hq : showsK a.k = false → e = 0 → l = noLetter ∧ ts = [])
    (h1 : ¬ WF x → K (.tup [zeroN, .agg (seenC noAct 0 0 noLetter (.sl true 0 [] .no)), .int .i64 2]) h)
    (h2 : WF x → e ≠ 0 → ∀ z1 s1 z2 s2 z3 s3, Nk z1 s1 z2 s2 z3 s3 x → K (.tup [.agg [.int .i64 x.nodes, .int .i64 x.now, .int .i64 x.next, .sl z1 s1 (x.way.map Letter.c) .no, .sl z2 s2 (x.cuts.map Link.c) .no, .sl z3 s3 (x.timers.map Timer.c) .no], .agg (seenC a e x.now noLetter (.sl true 0 [] .no)), .int .i64 0]) h)
    (h3 : WF x → e = 0 → ∀ z1 s1 z2 s2 z3 s3, Nk z1 s1 z2 s2 z3 s3 x' → K (.tup [.agg [.int .i64 (x').nodes, .int .i64 (x').now, .int .i64 (x').next, .sl z1 s1 ((x').way.map Letter.c) .no, .sl z2 s2 ((x').cuts.map Link.c) .no, .sl z3 s3 ((x').timers.map Timer.c) .no], .agg (seenC a 0 x'.now l (accU 3 Timer.c ts)), .int .i64 0]) h) :
    ACall C Pg 34 [.agg [.int .i64 x.nodes, .int .i64 x.now, .int .i64 x.next, .sl z1 s1 (x.way.map Letter.c) .no, .sl z2 s2 (x.cuts.map Link.c) .no, .sl z3 s3 (x.timers.map Timer.c) .no], .agg (Act.c a)] h K := by
  refine ACall.closed (by simp [AV.deep.deeps, AV.deep, deep_L, deep_C, deep_T, Act.c]) (ACall.weaken (ACall.freeze (ACall.freeze (ACall.freeze ?_))))
  refine run34 ?_
  simp -implicitDefEqProofs [b34, r34, Act.c, bld55_0, bld125, ld1_e, ld1_l, ld1_m, ldA_e, ldA_l, ldA_m, ldcm33, ldcm29, ixs_l, ixs_m, st_m, st_l, wrC, readC, getE, fits, TD.fit, optO, runN_succ, more_n, more_exit, more_ret, -List.getD_eq_getElem?_getD, ru, ruc, vK, putU, putK, arithK, intK, faK, hd1, ofV, lenSK, AV.nol, enumL, AV.nol.nols, loadC, loadS, extK, extK.extL, notK, nilckK, callvK, laid]
  refine changing45 hk hc (fun hw => ?_) (fun hw cid A B D g hcid hge hch => ?_)
  · simp -implicitDefEqProofs [r34, bld55_0, ldc55, bld125, ld1_e, ld1_l, ld1_m, ldA_e, ldA_l, ldA_m, ldcm33, ldcm29, ixs_l, ixs_m, st_m, st_l, wrC, readC, getE, fits, TD.fit, optO, runN_succ, more_n, more_exit, more_ret, -List.getD_eq_getElem?_getD, ru, ruc, vK, putU, putK, arithK, intK, faK, hd1, ofV, lenSK, AV.nol, enumL, AV.nol.nols, loadC, loadS, extK, extK.extL, notK, nilckK, callvK, laid]
    exact frz3 ⟨rfl, rfl, h1 hw⟩
  · have ha := hch.all
    simp -implicitDefEqProofs [r34, bld125, ld1_e, ld1_l, ld1_m, ldA_e, ldA_l, ldA_m, ldcm33, ldcm29, ixs_l, ixs_m, st_m, st_l, wrC, readC, getE, fits, TD.fit, optO, runN_succ, more_n, more_exit, more_ret, -List.getD_eq_getElem?_getD, ru, ruc, vK, putU, putK, arithK, intK, faK, hd1, ofV, lenSK, AV.nol, enumL, AV.nol.nols, loadC, loadS, extK, extK.extL, notK, nilckK, callvK, laid]
    refine actOf74 ?_
    simp -implicitDefEqProofs [r34, actV, bld125, ld1_e, ld1_l, ld1_m, ldA_e, ldA_l, ldA_m, ldcm33, ldcm29, ixs_l, ixs_m, st_m, st_l, wrC, readC, getE, fits, TD.fit, optO, runN_succ, more_n, more_exit, more_ret, -List.getD_eq_getElem?_getD, ru, ruc, vK, putU, putK, arithK, intK, faK, hd1, ofV, lenSK, AV.nol, enumL, AV.nol.nols, loadC, loadS, extK, extK.extL, notK, nilckK, callvK, laid]
    refine ⟨by simp [AV.nol.nols, AV.nol, actF_un, actF_nol, un_mptr], actM a.k, actM_ok a.k, ?_⟩
    rw [actF_un]
    have haid : (g ++ [AObj.cells (Act.c a) 5])[g.length]? = some (.cells (Act.c a) 5) := by simp
    refine hs hw _ _ _ _ _ _ _ _ (hch.app _) haid (fun h' A' B' D' hc2 => ?_)
    have ha2 := hc2.all
    have ht : ∀ (ts : List Timer), (accU 3 Timer.c ts).un = accU 3 Timer.c ts ∧ (accU 3 Timer.c ts).nol = true ∧ (accU 3 Timer.c ts).one = true ∧ (accU 3 Timer.c ts).owns = false ∧ (accU 3 Timer.c ts).cells = [accU 3 Timer.c ts] ∧ (accU 3 Timer.c ts).scells = [accU 3 Timer.c ts] := fun _ => accU_all
    simp -implicitDefEqProofs [r34, ht, seenC, bld125, ld1_e, ld1_l, ld1_m, ldA_e, ldA_l, ldA_m, ldcm33, ldcm29, ixs_l, ixs_m, st_m, st_l, wrC, readC, getE, fits, TD.fit, optO, runN_succ, more_n, more_exit, more_ret, -List.getD_eq_getElem?_getD, ru, ruc, vK, putU, putK, arithK, intK, faK, hd1, ofV, lenSK, AV.nol, enumL, AV.nol.nols, loadC, loadS, extK, extK.extL, notK, nilckK, callvK, laid]
    by_cases he : e = 0
    · subst he
      simp -implicitDefEqProofs [r34, ht, seenC, bld125, ld1_e, ld1_l, ld1_m, ldA_e, ldA_l, ldA_m, ldcm33, ldcm29, ixs_l, ixs_m, st_m, st_l, wrC, readC, getE, fits, TD.fit, optO, runN_succ, more_n, more_exit, more_ret, -List.getD_eq_getElem?_getD, ru, ruc, vK, putU, putK, arithK, intK, faK, hd1, ofV, lenSK, AV.nol, enumL, AV.nol.nols, loadC, loadS, extK, extK.extL, notK, nilckK, callvK, laid]
      refine ⟨actF_nol, shows75 (id := g.length) (k := a.k) ?_⟩
      cases hsh : showsK a.k with
      | true =>
        simp -implicitDefEqProofs [r34, ht, seenC, bld125, ld1_e, ld1_l, ld1_m, ldA_e, ldA_l, ldA_m, ldcm33, ldcm29, ixs_l, ixs_m, st_m, st_l, wrC, readC, getE, fits, TD.fit, optO, runN_succ, more_n, more_exit, more_ret, -List.getD_eq_getElem?_getD, ru, ruc, vK, putU, putK, arithK, intK, faK, hd1, ofV, lenSK, AV.nol, enumL, AV.nol.nols, loadC, loadS, extK, extK.extL, notK, nilckK, callvK, laid]
        refine re34_0 ?_
        simp -implicitDefEqProofs [r34, g34_0, ht, ha2, bld125, ld1_e, ld1_l, ld1_m, ldA_e, ldA_l, ldA_m, ldcm33, ldcm29, ixs_l, ixs_m, st_m, st_l, wrC, readC, getE, fits, TD.fit, optO, runN_succ, more_n, more_exit, more_ret, -List.getD_eq_getElem?_getD, ru, ruc, vK, putU, putK, arithK, intK, faK, hd1, ofV, lenSK, AV.nol, enumL, AV.nol.nols, loadC, loadS, extK, extK.extL, notK, nilckK, callvK, laid]
        repeat' (first | (refine And.intro ?_ ?_))
        all_goals (
          refine re34_1 ?_
          simp -implicitDefEqProofs [r34, g34_1, ht, ha2, ldc55, bld125, ld1_e, ld1_l, ld1_m, ldA_e, ldA_l, ldA_m, ldcm33, ldcm29, ixs_l, ixs_m, st_m, st_l, wrC, readC, getE, fits, TD.fit, optO, runN_succ, more_n, more_exit, more_ret, -List.getD_eq_getElem?_getD, ru, ruc, vK, putU, putK, arithK, intK, faK, hd1, ofV, lenSK, AV.nol, enumL, AV.nol.nols, loadC, loadS, extK, extK.extL, notK, nilckK, callvK, laid])
        all_goals repeat' (first | (refine And.intro ?_ ?_))
        all_goals exact fin (K := fun r => K r h) hc2 (rest := [.agg (seenC a 0 x'.now l (accU 3 Timer.c ts)), .int .i64 0]) seen_deep (fun _ _ => seen_frz) seen_weak fun z1 s1 z2 s2 z3 s3 hk2 => h3 hw rfl z1 s1 z2 s2 z3 s3 hk2
      | false =>
        obtain ⟨rfl, rfl⟩ := hq hsh rfl
        simp -implicitDefEqProofs [r34, ht, seenC, bld55_1, bld125, ld1_e, ld1_l, ld1_m, ldA_e, ldA_l, ldA_m, ldcm33, ldcm29, ixs_l, ixs_m, st_m, st_l, wrC, readC, getE, fits, TD.fit, optO, runN_succ, more_n, more_exit, more_ret, -List.getD_eq_getElem?_getD, ru, ruc, vK, putU, putK, arithK, intK, faK, hd1, ofV, lenSK, AV.nol, enumL, AV.nol.nols, loadC, loadS, extK, extK.extL, notK, nilckK, callvK, laid]
        refine re34_0 ?_
        simp -implicitDefEqProofs [r34, g34_0, ht, ha2, bld125, ld1_e, ld1_l, ld1_m, ldA_e, ldA_l, ldA_m, ldcm33, ldcm29, ixs_l, ixs_m, st_m, st_l, wrC, readC, getE, fits, TD.fit, optO, runN_succ, more_n, more_exit, more_ret, -List.getD_eq_getElem?_getD, ru, ruc, vK, putU, putK, arithK, intK, faK, hd1, ofV, lenSK, AV.nol, enumL, AV.nol.nols, loadC, loadS, extK, extK.extL, notK, nilckK, callvK, laid]
        repeat' (first | (refine And.intro ?_ ?_))
        all_goals (
          refine re34_1 ?_
          simp -implicitDefEqProofs [r34, g34_1, ht, ha2, ldc55, bld125, ld1_e, ld1_l, ld1_m, ldA_e, ldA_l, ldA_m, ldcm33, ldcm29, ixs_l, ixs_m, st_m, st_l, wrC, readC, getE, fits, TD.fit, optO, runN_succ, more_n, more_exit, more_ret, -List.getD_eq_getElem?_getD, ru, ruc, vK, putU, putK, arithK, intK, faK, hd1, ofV, lenSK, AV.nol, enumL, AV.nol.nols, loadC, loadS, extK, extK.extL, notK, nilckK, callvK, laid])
        all_goals repeat' (first | (refine And.intro ?_ ?_))
        all_goals exact fin (K := fun r => K r h) hc2 (rest := [.agg (seenC a 0 x'.now noLetter (accU 3 Timer.c [])), .int .i64 0]) seen_deep (fun _ _ => seen_frz) seen_weak fun z1 s1 z2 s2 z3 s3 hk2 => h3 hw rfl z1 s1 z2 s2 z3 s3 hk2
    · have hd : decide (e = 0) = false := by simp [he]
      simp -implicitDefEqProofs [r34, ht, seenC, hd, bld125, ld1_e, ld1_l, ld1_m, ldA_e, ldA_l, ldA_m, ldcm33, ldcm29, ixs_l, ixs_m, st_m, st_l, wrC, readC, getE, fits, TD.fit, optO, runN_succ, more_n, more_exit, more_ret, -List.getD_eq_getElem?_getD, ru, ruc, vK, putU, putK, arithK, intK, faK, hd1, ofV, lenSK, AV.nol, enumL, AV.nol.nols, loadC, loadS, extK, extK.extL, notK, nilckK, callvK, laid]
      refine changing45 hk hc (fun hn => absurd hw hn) (fun _ cid2 A2 B2 D2 g2 _ _ hch2 => ?_)
      have ha3 := hch2.all
      simp -implicitDefEqProofs [r34, ht, seenC, hd, bld55_1, ha3, bld125, ld1_e, ld1_l, ld1_m, ldA_e, ldA_l, ldA_m, ldcm33, ldcm29, ixs_l, ixs_m, st_m, st_l, wrC, readC, getE, fits, TD.fit, optO, runN_succ, more_n, more_exit, more_ret, -List.getD_eq_getElem?_getD, ru, ruc, vK, putU, putK, arithK, intK, faK, hd1, ofV, lenSK, AV.nol, enumL, AV.nol.nols, loadC, loadS, extK, extK.extL, notK, nilckK, callvK, laid]
      refine re34_0 ?_
      simp -implicitDefEqProofs [r34, g34_0, ht, hd, ha3, bld125, ld1_e, ld1_l, ld1_m, ldA_e, ldA_l, ldA_m, ldcm33, ldcm29, ixs_l, ixs_m, st_m, st_l, wrC, readC, getE, fits, TD.fit, optO, runN_succ, more_n, more_exit, more_ret, -List.getD_eq_getElem?_getD, ru, ruc, vK, putU, putK, arithK, intK, faK, hd1, ofV, lenSK, AV.nol, enumL, AV.nol.nols, loadC, loadS, extK, extK.extL, notK, nilckK, callvK, laid]
      repeat' (first | (refine And.intro ?_ ?_))
      all_goals (
        refine re34_1 ?_
        simp -implicitDefEqProofs [r34, g34_1, ht, ha3, ldc55, bld125, ld1_e, ld1_l, ld1_m, ldA_e, ldA_l, ldA_m, ldcm33, ldcm29, ixs_l, ixs_m, st_m, st_l, wrC, readC, getE, fits, TD.fit, optO, runN_succ, more_n, more_exit, more_ret, -List.getD_eq_getElem?_getD, ru, ruc, vK, putU, putK, arithK, intK, faK, hd1, ofV, lenSK, AV.nol, enumL, AV.nol.nols, loadC, loadS, extK, extK.extL, notK, nilckK, callvK, laid])
      all_goals repeat' (first | (refine And.intro ?_ ?_))
      all_goals exact fin (K := fun r => K r h) hch2 (rest := [.agg (seenC a e x.now noLetter (accU 3 Timer.c [])), .int .i64 0]) seen_deep (fun _ _ => seen_frz) seen_weak fun z1 s1 z2 s2 z3 s3 hk2 => h2 hw he z1 s1 z2 s2 z3 s3 hk2
end
end Go.Ab
end
