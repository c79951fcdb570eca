/- One text out of several: see the remark at the head of each part. -/
import Derived.Test.YtpjcpmmcaccgiaaBs6
set_option linter.all false
section
/- Plain laws: acts keep a network well-formed. -/
set_option linter.unusedSimpArgs false
set_option linter.unusedVariables false
set_option maxRecDepth 100000
set_option maxHeartbeats 1000000
namespace Go.Ab

section
variable {α : Type} {f : α → α → Int}
theorem rises_pair (ht : ∀ p q r, f p q < 0 → f q r < 0 → f p r < 0) {l : List α} : rises f l ↔ l.Pairwise fun a b => f a b < 0 := by
  rw [List.pairwise_iff_getElem]
  exact ⟨fun hr i j _ hj hij => rises_lt' ht hr hij hj, fun h i hi => h i (i + 1) (by omega) hi (by omega)⟩
theorem take_tw {p : α → Bool} : ∀ {l : List α}, l.take (l.takeWhile p).length = l.takeWhile p
  | [] => rfl
  | x :: l => by
    by_cases h : p x = true
    · simp [List.takeWhile_cons, h, take_tw (l := l)]
    · simp [List.takeWhile_cons, h]
theorem drop_tw {p : α → Bool} : ∀ {l : List α}, l.drop (l.takeWhile p).length = l.dropWhile p
  | [] => rfl
  | x :: l => by
    by_cases h : p x = true
    · simp [List.takeWhile_cons, List.dropWhile_cons, h, drop_tw (l := l)]
    · simp [List.takeWhile_cons, List.dropWhile_cons, h]
theorem insAt_tw {p : α → Bool} {l : List α} {y : α} : insAt l (l.takeWhile p).length y = l.takeWhile p ++ y :: l.dropWhile p := by
  simp only [insAt, take_tw, drop_tw]
theorem mem_insAt {l : List α} {i : Nat} {y z : α} : z ∈ insAt l i y ↔ z = y ∨ z ∈ l := by
  conv => rhs; rw [← List.take_append_drop i l]
  simp only [insAt, List.mem_append, List.mem_cons]
  constructor
  · rintro (h | h | h)
    · exact .inr (.inl h)
    · exact .inl h
    · exact .inr (.inr h)
  · rintro (h | h | h)
    · exact .inr (.inl h)
    · exact .inl h
    · exact .inr (.inr h)
theorem tw_mem {p : α → Bool} : ∀ {l : List α} {x : α}, x ∈ l.takeWhile p → p x = true
  | [], x, h => by simp at h
  | a :: l, x, h => by
    by_cases h1 : p a = true
    · rw [List.takeWhile_cons, if_pos h1] at h
      rcases List.mem_cons.1 h with rfl | h
      · exact h1
      · exact tw_mem h
    · rw [List.takeWhile_cons, if_neg h1] at h
      cases h
theorem dw_mem (ht : ∀ p q r, f p q < 0 → f q r < 0 → f p r < 0) {y : α} (h3 : ∀ q, ¬ f q y < 0 → q = y ∨ f y q < 0) : ∀ {l : List α} (hs : l.Pairwise fun a b => f a b < 0) (hy : y ∉ l), ∀ x ∈ l.dropWhile (fun q => decide (f q y < 0)), f y x < 0
  | [], _, _ => by simp
  | a :: l, hs, hy => by
    intro x hx
    rw [List.dropWhile_cons] at hx
    rw [List.pairwise_cons] at hs
    split at hx
    · exact dw_mem ht h3 hs.2 (fun h => hy (List.mem_cons_of_mem _ h)) x hx
    · rename_i h1
      have h2 : f y a < 0 := (h3 a (by simpa using h1)).resolve_left fun e => hy (by rw [← e]; exact List.mem_cons_self ..)
      rcases List.mem_cons.1 hx with rfl | hx
      · exact h2
      · exact ht _ _ _ h2 (hs.1 x hx)
theorem pair_ins (ht : ∀ p q r, f p q < 0 → f q r < 0 → f p r < 0) {y : α} (h3 : ∀ q, ¬ f q y < 0 → q = y ∨ f y q < 0) {l : List α} (hs : l.Pairwise fun a b => f a b < 0) (hy : y ∉ l) : (insAt l (l.takeWhile fun q => decide (f q y < 0)).length y).Pairwise fun a b => f a b < 0 := by
  rw [insAt_tw]
  have h1 : ∀ x ∈ l.takeWhile (fun q => decide (f q y < 0)), f x y < 0 := fun x hx => by simpa using tw_mem hx
  have h2 := dw_mem ht h3 hs hy
  have hs2 := hs
  rw [← List.takeWhile_append_dropWhile (p := fun q => decide (f q y < 0)) (l := l), List.pairwise_append] at hs2
  rw [List.pairwise_append]
  refine ⟨hs2.1, ?_, ?_⟩
  · rw [List.pairwise_cons]
    exact ⟨h2, hs2.2.1⟩
  · intro a ha b hb
    rcases List.mem_cons.1 hb with rfl | hb
    · exact h1 a ha
    · exact hs2.2.2 a ha b hb
end
theorem riseC {l : List Link} : rises cmpC l ↔ l.Pairwise fun a b => cmpC a b < 0 := rises_pair (f := cmpC) fun p q r h1 h2 => cmpC_trans h1 h2
theorem riseT {l : List Timer} : rises cmpT l ↔ l.Pairwise fun a b => cmpT a b < 0 := rises_pair (f := cmpT) fun p q r h1 h2 => cmpT_trans h1 h2
theorem cmpC_tri {p q : Link} (h : ¬ cmpC p q < 0) : p = q ∨ cmpC q p < 0 := by
  rw [cmpC_lt] at h ⊢
  cases p; cases q
  simp only [Link.mk.injEq] at h ⊢
  omega
theorem cmpT_tri {p q : Timer} (h : ¬ cmpT p q < 0) : p = q ∨ cmpT q p < 0 := by
  rw [cmpT_lt] at h ⊢
  cases p; cases q
  simp only [Timer.mk.injEq] at h ⊢
  omega
theorem pairC {l : List Link} {p : Link} (hs : rises cmpC l) (hp : p ∉ l) : rises cmpC (insC l p) := riseC.2 (pair_ins (f := cmpC) (fun p q r h1 h2 => cmpC_trans h1 h2) (fun q h => cmpC_tri h) (riseC.1 hs) hp)
theorem pairT {l : List Timer} {p : Timer} (hs : rises cmpT l) (hp : p ∉ l) : rises cmpT (insT l p) := riseT.2 (pair_ins (f := cmpT) (fun p q r h1 h2 => cmpT_trans h1 h2) (fun q h => cmpT_tri h) (riseT.1 hs) hp)
theorem filterC {l : List Link} (hs : rises cmpC l) (p : Link → Bool) : rises cmpC (l.filter p) := rises_filter (f := cmpC) (fun p q r h1 h2 => cmpC_trans h1 h2) hs p
theorem filterT {l : List Timer} (hs : rises cmpT l) (p : Timer → Bool) : rises cmpT (l.filter p) := rises_filter (f := cmpT) (fun p q r h1 h2 => cmpT_trans h1 h2) hs p

/-- Timers of different owners. -/
def apartT (s t : Timer) : Prop := ¬ (s.nd = t.nd ∧ s.tg = t.tg)
theorem owns_pair {l : List Timer} : (∀ i j (hi : i < l.length) (hj : j < i), ¬ (l[j].nd = l[i].nd ∧ l[j].tg = l[i].tg)) ↔ l.Pairwise apartT := by
  rw [List.pairwise_iff_getElem]
  exact ⟨fun h i j h1 h2 h3 => h j i h2 h3, fun h i j h1 h2 => h j i (by omega) h1 h2⟩
section
variable {x : Net}
theorem WF.cl (w : WF x) : x.cuts.length ≤ 256 := by
  have key : ∀ i (hi : i < x.cuts.length), (i : Int) ≤ x.cuts[i].a * 16 + x.cuts[i].b := by
    intro i
    induction i with
    | zero =>
      intro hi
      have := w.co _ (List.getElem_mem hi)
      simp only [cutOk, nodeOk] at this
      omega
    | succ i ih =>
      intro hi
      have h1 := ih (by omega)
      have h2 := w.cr i hi
      rw [cmpC_lt] at h2
      have h3 := w.co _ (List.getElem_mem hi)
      have h4 := w.co _ (List.getElem_mem (show i < x.cuts.length by omega))
      simp only [cutOk, nodeOk] at h3 h4
      have := w.n2
      omega
  rcases Nat.eq_zero_or_pos x.cuts.length with h | h
  · omega
  · have h1 := key (x.cuts.length - 1) (by omega)
    have h3 := w.co _ (List.getElem_mem (show x.cuts.length - 1 < x.cuts.length by omega))
    simp only [cutOk, nodeOk] at h3
    have := w.n2
    omega
theorem WF.cb (w : WF x) : x.cuts.length < 1000000 := by have := w.cl; omega
theorem WF.send (w : WF x) {fr to : Int} {data : List UInt8} (h : sendE x fr to data = 0) : WF (sendX x fr to data) := by
  unfold sendE at h
  split at h
  · cases h
  split at h
  · cases h
  split at h
  · cases h
  rename_i g1 g2 g3
  have w1 := w.w1; have w2 := w.w2; have x1 := w.x1; have x2 := w.x2; have fl := w.fl
  refine { n1 := w.n1, n2 := w.n2, w1 := w1, w2 := w2, x1 := by simp only [sendX]; omega, x2 := by simp only [sendX]; omega, fl := by simp only [sendX, List.length_append, List.length_singleton]; omega, tl := w.tl, cr := w.cr, tr := w.tr, lo := fun l hl => ?_, co := w.co, to := w.to, ow := w.ow }
  simp only [sendX, List.mem_append, List.mem_singleton] at hl
  rcases hl with hl | rfl
  · have := w.lo l hl
    simp only [letterOk, nodeOk, sendX] at this ⊢
    omega
  · simp only [nodeOk] at g1
    simp only [letterOk, nodeOk, sendX, sendL]
    omega
theorem WF.sub (w : WF x) {way : List Letter} (h : ∀ l ∈ way, l ∈ x.way) (hl : way.length ≤ 200) : WF { x with way := way } :=
  { n1 := w.n1, n2 := w.n2, w1 := w.w1, w2 := w.w2, x1 := w.x1, x2 := w.x2, fl := hl, tl := w.tl, cr := w.cr, tr := w.tr, lo := fun l hl => w.lo l (h l hl), co := w.co, to := w.to, ow := w.ow }
theorem WF.lose (w : WF x) {i : Int} : WF (loseG x i) := by
  refine w.sub (fun l hl => List.mem_of_mem_eraseIdx hl) ?_
  have := w.fl
  have := List.length_eraseIdx_le x.way i.toNat
  omega
theorem atL_mem {i : Int} (h : atOk x i) : atL x i ∈ x.way := by
  unfold atOk at h
  unfold atL
  rw [List.getD_eq_getElem?_getD, List.getElem?_eq_getElem (by omega)]
  exact List.getElem_mem _
theorem WF.double (w : WF x) {i : Int} (h : doubleE x i = 0) : WF (doubleG x i) := by
  unfold doubleE at h
  split at h
  · cases h
  split at h
  · cases h
  rename_i g1 g2
  refine w.sub (fun l hl => ?_) (by have := w.fl; simp only [List.length_append, List.length_singleton]; omega)
  rcases List.mem_append.1 hl with hl | hl
  · exact hl
  · rw [List.mem_singleton.1 hl]
    exact atL_mem (by simpa using g1)
theorem WF.delay (w : WF x) {i d : Int} (h : delayE x i d = 0) : WF (delayG x i d) := by
  unfold delayE at h
  split at h
  · cases h
  split at h
  · cases h
  rename_i g1 g2
  have w1 := w.w1; have w2 := w.w2
  have hm := w.lo _ (atL_mem (x := x) (i := i) (by simpa using g1))
  refine { n1 := w.n1, n2 := w.n2, w1 := w1, w2 := w2, x1 := w.x1, x2 := w.x2, fl := by simp only [delayG, List.length_set]; exact w.fl, tl := w.tl, cr := w.cr, tr := w.tr, lo := fun l hl => ?_, co := w.co, to := w.to, ow := w.ow }
  simp only [delayG] at hl
  rcases List.mem_or_eq_of_mem_set hl with hl | rfl
  · exact w.lo l hl
  · simp only [letterOk, nodeOk, setRdy, delayG] at hm ⊢
    omega
theorem pairOf_ok {a b : Int} (h : pairP x a b) : cutOk x (pairOf a b) := by
  simp only [pairP, nodeOk] at h
  unfold pairOf
  split <;> simp only [cutOk, nodeOk] <;> omega
theorem WF.cut (w : WF x) {a b : Int} (h : cutE x a b = 0) : WF (cutG x a b) := by
  unfold cutE at h
  split at h
  · cases h
  split at h
  · cases h
  rename_i g1 g2
  refine { n1 := w.n1, n2 := w.n2, w1 := w.w1, w2 := w.w2, x1 := w.x1, x2 := w.x2, fl := w.fl, tl := w.tl, cr := pairC w.cr g2, tr := w.tr, lo := w.lo, co := fun c hc => ?_, to := w.to, ow := w.ow }
  rcases mem_insAt.1 hc with rfl | hc
  · exact (pairOf_ok (x := x) (by simpa using g1) : cutOk x (pairOf a b))
  · exact w.co c hc
theorem WF.heal (w : WF x) {a b : Int} : WF (healG x a b) :=
  { n1 := w.n1, n2 := w.n2, w1 := w.w1, w2 := w.w2, x1 := w.x1, x2 := w.x2, fl := w.fl, tl := w.tl, cr := filterC w.cr _, tr := w.tr, lo := w.lo, co := fun c hc => w.co c (List.mem_filter.1 hc).1, to := w.to, ow := w.ow }
theorem WF.tims (w : WF x) (p : Timer → Bool) : WF { x with timers := x.timers.filter p } :=
  { n1 := w.n1, n2 := w.n2, w1 := w.w1, w2 := w.w2, x1 := w.x1, x2 := w.x2, fl := w.fl, tl := Nat.le_trans (List.length_filter_le ..) w.tl, cr := w.cr, tr := filterT w.tr p, lo := w.lo, co := w.co, to := fun t ht => w.to t (List.mem_filter.1 ht).1, ow := owns_pair.2 ((owns_pair.1 w.ow).filter p) }
theorem WF.stop (w : WF x) {nd tg : Int} : WF (stopG x nd tg) := w.tims _
theorem WF.set (w : WF x) {nd tg n : Int} (h : setE x nd tg n = 0) : WF (setG x nd tg n) := by
  unfold setE at h
  split at h
  · cases h
  split at h
  · cases h
  rename_i g1 g2
  have w1 := w.w1; have w2 := w.w2
  have ws := w.stop (nd := nd) (tg := tg)
  have g1' : setOk x nd tg n := by simpa using g1
  have hno : ∀ t ∈ dropT x.timers nd tg, ¬ (t.nd = nd ∧ t.tg = tg) := fun t ht => by
    have := (List.mem_filter.1 ht).2
    intro hh
    rw [show isTm nd tg t = true by simp [isTm, hh.1, hh.2]] at this
    cases this
  have hnew : (⟨x.now + n, nd, tg⟩ : Timer) ∉ dropT x.timers nd tg := fun hm => hno _ hm ⟨rfl, rfl⟩
  have hlen : (dropT x.timers nd tg).length ≤ 64 := ws.tl
  refine { n1 := w.n1, n2 := w.n2, w1 := w1, w2 := w2, x1 := w.x1, x2 := w.x2, fl := w.fl, tl := ?_, cr := w.cr, tr := pairT ws.tr hnew, lo := w.lo, co := w.co, to := fun t ht => ?_, ow := owns_pair.2 ?_ }
  · simp only [setG, insT, insAt_len]
    omega
  · rcases mem_insAt.1 ht with rfl | ht
    · simp only [setOk, nodeOk] at g1'
      simp only [timerOk, nodeOk, setG]
      omega
    · exact ws.to t ht
  · have hp : (dropT x.timers nd tg).Pairwise apartT := owns_pair.1 ws.ow
    simp only [setG, insT, insAt]
    rw [List.pairwise_append, List.pairwise_cons]
    rw [← List.take_append_drop ((dropT x.timers nd tg).takeWhile fun q => decide (cmpT q ⟨x.now + n, nd, tg⟩ < 0)).length (dropT x.timers nd tg), List.pairwise_append] at hp
    refine ⟨hp.1, ⟨fun t ht h => hno t (List.mem_of_mem_drop ht) ⟨h.1.symm, h.2.symm⟩, hp.2.1⟩, fun a ha b hb => ?_⟩
    rcases List.mem_cons.1 hb with rfl | hb
    · exact fun h => hno a (List.mem_of_mem_take ha) h
    · exact hp.2.2 a ha b hb
theorem WF.tick (w : WF x) (h : tickE x = 0) : WF (tickG x) := by
  unfold tickE at h
  split at h
  · cases h
  have w1 := w.w1; have w2 := w.w2
  have ws := w.tims fun t => !decide (t.tm = x.now + 1)
  refine { n1 := w.n1, n2 := w.n2, w1 := by simp only [tickG]; omega, w2 := by simp only [tickG]; omega, x1 := w.x1, x2 := w.x2, fl := w.fl, tl := ws.tl, cr := w.cr, tr := ws.tr, lo := w.lo, co := w.co, to := fun t ht => ?_, ow := ws.ow }
  have h1 := w.to t (List.mem_filter.1 ht).1
  have h2 := (List.mem_filter.1 ht).2
  simp only [Bool.not_eq_true', decide_eq_false_iff_not] at h2
  simp only [timerOk, nodeOk, tickG] at h1 ⊢
  omega
theorem WF.step (w : WF x) {a : Act} (h : (stepF x a).e = 0) : WF (stepF x a).x := by
  revert h
  unfold stepF
  split
  · exact fun h => w.send h
  split
  · exact fun _ => w.lose
  split
  · exact fun _ => w.lose
  split
  · exact fun h => w.double h
  split
  · exact fun h => w.delay h
  split
  · exact fun h => w.cut h
  split
  · exact fun _ => w.heal
  split
  · exact fun h => w.set h
  split
  · exact fun _ => w.stop
  split
  · exact fun h => w.tick h
  · exact fun h => by cases h
theorem WF.after (w : WF x) (a : Act) : WF (afterX (stepF x a) x) := by
  unfold afterX
  split
  · exact w.step (by assumption)
  · exact w
theorem WF.zero {n : Int} (h : 1 ≤ n ∧ n ≤ 16) : WF (zeroNet n) :=
  ⟨h.1, h.2, by simp [zeroNet], by simp [zeroNet], by simp [zeroNet], by simp [zeroNet], by simp [zeroNet], by simp [zeroNet], fun i hi => by simp [zeroNet] at hi, fun i hi => by simp [zeroNet] at hi, by simp [zeroNet], by simp [zeroNet], by simp [zeroNet], fun i j hi hj => by simp [zeroNet] at hi⟩
theorem WF.plays : ∀ (l : List Act) {x : Net}, WF x → WF (playR stepF x l).1
  | [], _, w => w
  | a :: l, _, w => WF.plays l (w.after a)
theorem WF.play {n : Int} (h : 1 ≤ n ∧ n ≤ 16) (l : List Act) : WF (playX stepF n l) := WF.plays l (WF.zero h)
end
end Go.Ab
end
section
/- The exported functions of one change, for all networks; Play. -/
set_option linter.unusedSimpArgs false
set_option linter.unusedVariables false
set_option maxRecDepth 100000
set_option maxHeartbeats 4000000
namespace Go.Ab

section
variable {C : CX} {h : List AObj} {K : AV → List AObj → Prop} {a b nd tg n : Int} {x : Net} {A B D : AV} {cid : Nat} {z1 z2 z3 : Bool} {s1 s2 s3 : Nat}
theorem cut23g (hk : Nk z1 s1 z2 s2 z3 s3 x) (hc : x.cuts.length < 1000000)
    (h1 : ¬ WF x → K (.tup [zeroN, .int .i64 2]) h)
    (h2 : WF x → cutE x a b ≠ 0 → K (.tup [zeroN, .int .i64 (cutE x a b)]) h)
    (h3 : WF x → cutE x a b = 0 → ∀ z1 s1 z2 s2 z3 s3, Nk z1 s1 z2 s2 z3 s3 (cutG x a b) → K (.tup [.agg [.int .i64 (cutG x a b).nodes, .int .i64 (cutG x a b).now, .int .i64 (cutG x a b).next, .sl z1 s1 ((cutG x a b).way.map Letter.c) .no, .sl z2 s2 ((cutG x a b).cuts.map Link.c) .no, .sl z3 s3 ((cutG x a b).timers.map Timer.c) .no], .int .i64 0]) h) :
    ACall C Pg 23 [.agg [.int .i64 x.nodes, .int .i64 x.now, .int .i64 x.next, .sl z1 s1 (x.way.map Letter.c) .no, .sl z2 s2 (x.cuts.map Link.c) .no, .sl z3 s3 (x.timers.map Timer.c) .no], .int .i64 a, .int .i64 b] h K := by
  refine ACall.closed (by simp [AV.deep.deeps, AV.deep, deep_L, deep_C, deep_T]) (ACall.weaken (ACall.freeze (ACall.freeze (ACall.freeze ?_))))
  refine run23 ?_
  simp -implicitDefEqProofs [b23, r23, rue, wrC, readC, -List.getD_eq_getElem?_getD, ru, ruc, rud, laid]
  refine changed58 hk hc rfl (fun hw => ?_) (fun hw cid A B D g hcid hge hch => ?_)
  · simp -implicitDefEqProofs [r23, zeroN, rue, wrC, readC, -List.getD_eq_getElem?_getD, ru, ruc, rud, laid]
    exact frz3 ⟨rfl, rfl, h1 hw⟩
  · have ha := hch.all
    refine run59 ?_
    simp -implicitDefEqProofs [b59, r59, ha, rue, wrC, readC, -List.getD_eq_getElem?_getD, ru, ruc, rud, laid]
    refine (cut60g hw hch hc fun h' y A' B' D' hc2 hy => ?_)
    simp -implicitDefEqProofs [r59, Letter.c, rue, wrC, readC, -List.getD_eq_getElem?_getD, ru, ruc, rud, laid]
    refine ⟨cutE x a b, y, A', B', D', rfl, hc2, fun h0 => ?_, fun h0 => ?_⟩
    · simp -implicitDefEqProofs [r23, zeroN, rue, wrC, readC, -List.getD_eq_getElem?_getD, ru, ruc, rud, laid]
      exact frz3 ⟨rfl, rfl, h2 hw h0⟩
    · have e := hy h0
      subst e
      have ha2 := hc2.all
      simp -implicitDefEqProofs [r23, ha2, rue, wrC, readC, -List.getD_eq_getElem?_getD, ru, ruc, rud, laid]
      exact fin (K := fun r => K r h) hc2 (rest := [_]) rfl (fun _ _ => rfl) rfl fun z1 s1 z2 s2 z3 s3 hk2 => h3 hw h0 z1 s1 z2 s2 z3 s3 hk2
theorem set27g (hk : Nk z1 s1 z2 s2 z3 s3 x) (hc : x.cuts.length < 1000000)
    (h1 : ¬ WF x → K (.tup [zeroN, .int .i64 2]) h)
    (h2 : WF x → setE x nd tg n ≠ 0 → K (.tup [zeroN, .int .i64 (setE x nd tg n)]) h)
    (h3 : WF x → setE x nd tg n = 0 → ∀ z1 s1 z2 s2 z3 s3, Nk z1 s1 z2 s2 z3 s3 (setG x nd tg n) → K (.tup [.agg [.int .i64 (setG x nd tg n).nodes, .int .i64 (setG x nd tg n).now, .int .i64 (setG x nd tg n).next, .sl z1 s1 ((setG x nd tg n).way.map Letter.c) .no, .sl z2 s2 ((setG x nd tg n).cuts.map Link.c) .no, .sl z3 s3 ((setG x nd tg n).timers.map Timer.c) .no], .int .i64 0]) h) :
    ACall C Pg 27 [.agg [.int .i64 x.nodes, .int .i64 x.now, .int .i64 x.next, .sl z1 s1 (x.way.map Letter.c) .no, .sl z2 s2 (x.cuts.map Link.c) .no, .sl z3 s3 (x.timers.map Timer.c) .no], .int .i64 nd, .int .i64 tg, .int .i64 n] h K := by
  refine ACall.closed (by simp [AV.deep.deeps, AV.deep, deep_L, deep_C, deep_T]) (ACall.weaken (ACall.freeze (ACall.freeze (ACall.freeze ?_))))
  refine run27 ?_
  simp -implicitDefEqProofs [b27, r27, rue, wrC, readC, -List.getD_eq_getElem?_getD, ru, ruc, rud, laid]
  refine changed58 hk hc rfl (fun hw => ?_) (fun hw cid A B D g hcid hge hch => ?_)
  · simp -implicitDefEqProofs [r27, zeroN, rue, wrC, readC, -List.getD_eq_getElem?_getD, ru, ruc, rud, laid]
    exact frz3 ⟨rfl, rfl, h1 hw⟩
  · have ha := hch.all
    refine run66 ?_
    simp -implicitDefEqProofs [b66, r66, ha, rue, wrC, readC, -List.getD_eq_getElem?_getD, ru, ruc, rud, laid]
    refine (set67g hw hch fun h' y A' B' D' hc2 hy => ?_)
    simp -implicitDefEqProofs [r66, Letter.c, rue, wrC, readC, -List.getD_eq_getElem?_getD, ru, ruc, rud, laid]
    refine ⟨setE x nd tg n, y, A', B', D', rfl, hc2, fun h0 => ?_, fun h0 => ?_⟩
    · simp -implicitDefEqProofs [r27, zeroN, rue, wrC, readC, -List.getD_eq_getElem?_getD, ru, ruc, rud, laid]
      exact frz3 ⟨rfl, rfl, h2 hw h0⟩
    · have e := hy h0
      subst e
      have ha2 := hc2.all
      simp -implicitDefEqProofs [r27, ha2, rue, wrC, readC, -List.getD_eq_getElem?_getD, ru, ruc, rud, laid]
      exact fin (K := fun r => K r h) hc2 (rest := [_]) rfl (fun _ _ => rfl) rfl fun z1 s1 z2 s2 z3 s3 hk2 => h3 hw h0 z1 s1 z2 s2 z3 s3 hk2
theorem play22g {za : Bool} {sa : Nat} {ta : Tip} {acts : List Act} (hz : Slk za sa 5 acts.length) (hta : ta = .no ∨ ta = .full) (hl : acts.length < 1000000)
    (h1 : n < 1 ∨ 16 < n → K (.tup [zeroN, .sl true 0 [] .no, .int .i64 1]) h)
    (h2 : 1 ≤ n ∧ n ≤ 16 → ∀ z1 s1 z2 s2 z3 s3, Nk z1 s1 z2 s2 z3 s3 (playX stepF n acts) → K (.tup [.agg [.int .i64 (playX stepF n acts).nodes, .int .i64 (playX stepF n acts).now, .int .i64 (playX stepF n acts).next, .sl z1 s1 ((playX stepF n acts).way.map Letter.c) .no, .sl z2 s2 ((playX stepF n acts).cuts.map Link.c) .no, .sl z3 s3 ((playX stepF n acts).timers.map Timer.c) .no], accU 13 Seen.c (playL stepF n acts), .int .i64 0]) h) :
    ACall C Pg 22 [.int .i64 n, .sl za sa (acts.map Act.c) ta] h K := by
  have hu : (AV.sl za sa (acts.map Act.c) ta).un = .sl za sa (acts.map Act.c) ta := by rcases hta with rfl | rfl <;> rfl
  have how : (AV.sl za sa (acts.map Act.c) ta).owns = false := by rcases hta with rfl | rfl <;> exact (by cases za <;> rfl)
  refine run22 ?_ (by simp [how, ow_int])
  simp -implicitDefEqProofs [b22, r22, hu, how, rue, wrC, readC, -List.getD_eq_getElem?_getD, ru, ruc, rud, laid]
  refine new14 ?_
  by_cases hn : n < 1 ∨ 16 < n
  · rw [if_pos hn]
    simp -implicitDefEqProofs [r22, hu, how, rue, wrC, readC, -List.getD_eq_getElem?_getD, ru, ruc, rud, laid]
    exact h1 hn
  · rw [if_neg hn]
    have hn' : 1 ≤ n ∧ n ≤ 16 := by omega
    simp -implicitDefEqProofs [r22, hu, how, rue, wrC, readC, -List.getD_eq_getElem?_getD, ru, ruc, rud, laid]
    refine lp22q0 (α := Nat × (Bool × Nat × Bool × Nat × Bool × Nat)) 2 (fun g => [(4, .lptr 0 0), (7, .lptr 1 0), (9, accV 13 Seen.c (playL stepF n (acts.take g.1))), (22, .sl za sa (acts.map Act.c) ta), (23, .int .i64 acts.length), (24, .int .i64 g.1)])
      (fun g => [[.int .i64 0, .int .i64 0, .int .i64 0, .sl true 0 [] .no, .sl true 0 [] .no, .sl true 0 [] .no], [.int .i64 (playX stepF n (acts.take g.1)).nodes, .int .i64 (playX stepF n (acts.take g.1)).now, .int .i64 (playX stepF n (acts.take g.1)).next, .sl g.2.1 g.2.2.1 ((playX stepF n (acts.take g.1)).way.map Letter.c) .no, .sl g.2.2.2.1 g.2.2.2.2.1 ((playX stepF n (acts.take g.1)).cuts.map Link.c) .no, .sl g.2.2.2.2.2.1 g.2.2.2.2.2.2 ((playX stepF n (acts.take g.1)).timers.map Timer.c) .no]])
      (fun _ => h) (fun g => g.1 ≤ acts.length ∧ Nk g.2.1 g.2.2.1 g.2.2.2.1 g.2.2.2.2.1 g.2.2.2.2.2.1 g.2.2.2.2.2.2 (playX stepF n (acts.take g.1))) (fun g => acts.length - g.1) (0, (true, 0, true, 0, true, 0)) ?_ (fun _ => rfl) ?_ ?_ ?_ rfl ?_
    · refine ⟨Nat.zero_le _, ?_⟩
      refine Nk.of ?_
      simp [playX, playR, zeroNet]
    · simp [allIn, lk, AV.lb, AV.lb.lbs, playL, playR, accV]
    · rfl
    · rfl
    · rintro ⟨i, f1, f2, f3, f4, f5, f6⟩ ⟨hi, hk⟩
      simp only at hi hk
      have ha : (accV 13 Seen.c (playL stepF n (acts.take i))).owns = true ∨ ¬ (accV 13 Seen.c (playL stepF n (acts.take i))).owns = true := Classical.em _
      simp -implicitDefEqProofs [b22q0, r22, hu, how, List.length_map, accV_un, rue, wrC, readC, -List.getD_eq_getElem?_getD, ru, ruc, rud, laid]
      refine condV_split (fun g => ?_) (fun g => ?_)
      · have g' : i < acts.length := by simpa using g
        have hw : WF (playX stepF n (acts.take i)) := WF.play hn' _
        generalize hX : playX stepF n (acts.take i) = X at hk hw
        have hx1 : playX stepF n (acts.take (i + 1)) = afterX (stepF X acts[i]) X := by
          rw [List.take_add_one, List.getElem?_eq_getElem g', ← hX]
          simp only [playX, Option.toList_some, playR_append]
        have hl1 : playL stepF n (acts.take (i + 1)) = playL stepF n (acts.take i) ++ [seenOf (stepF X acts[i]) X acts[i]] := by
          rw [List.take_add_one, List.getElem?_eq_getElem g', ← hX]
          simp only [playL, playX, Option.toList_some, playR_append]
        simp -implicitDefEqProofs only [r22, hu, how, ru, ruc, rud, ru5, Nat.reduceLT, Nat.reduceEqDiff, reduceIte, Nat.reduceAdd, Nat.reduceLeDiff, Int.reduceEq, Int.reduceLT, Int.reduceLE, Int.reduceNeg]
        refine ixA hz rfl g' ?_
        simp -implicitDefEqProofs [hu, how, r22, Act.c, rue, wrC, readC, -List.getD_eq_getElem?_getD, ru, ruc, rud, laid]
        have ht : ∀ (ts : List Timer), (accU 3 Timer.c ts).un = accU 3 Timer.c ts ∧ (accU 3 Timer.c ts).nol = true ∧ (accU 3 Timer.c ts).one = true ∧ (accU 3 Timer.c ts).owns = false ∧ (accU 3 Timer.c ts).cells = [accU 3 Timer.c ts] ∧ (accU 3 Timer.c ts).scells = [accU 3 Timer.c ts] := fun _ => accU_all
        refine do34g (a := acts[i]) hk hw.cb (fun h0 => absurd hw h0) (fun _ y1 t1 y2 t2 y3 t3 hk2 => ?_)
        generalize hS : seenOf (stepF X acts[i]) X acts[i] = sn at hl1
        generalize hY : afterX (stepF X acts[i]) X = Y at hk2 hx1
        have hlen : (playL stepF n (acts.take i)).length < 1000000 := by
          unfold playL
          rw [playR_len, List.length_take]
          omega
        have hacc2 : (accV 13 Seen.c (playL stepF n (acts.take (i + 1)))).owns = true ∨ ¬ (accV 13 Seen.c (playL stepF n (acts.take (i + 1)))).owns = true := Classical.em _
        rcases ha with ha | ha
        all_goals (
          simp -implicitDefEqProofs [hu, how, r22, ha, Seen.c, seenC, ht, accV_un, accU_ow, rue, wrC, readC, -List.getD_eq_getElem?_getD, ru, ruc, rud, laid]
          refine Eq.mpr (bsl48q1 (s := sn)) ?_
          simp -implicitDefEqProofs [hu, how, r22, ha, accV_un, accU_ow, rue, wrC, readC, -List.getD_eq_getElem?_getD, ru, ruc, rud, laid]
          refine app_acc (y := sn) (by decide) T48 rfl T55 rfl (by decide) (by decide) hlen ?_
          rw [← hl1]
          rcases hacc2 with hacc2 | hacc2
          all_goals (
            simp -implicitDefEqProofs [hu, how, r22, ha, hacc2, accV_un, rue, wrC, readC, -List.getD_eq_getElem?_getD, ru, ruc, rud, laid]
            refine next_normal (i + 1, (y1, t1, y2, t2, y3, t3)) ⟨g', by simp only; rw [hx1]; exact hk2⟩ (by simp only; omega) rfl ?_ ?_ rfl
            · simp [allIn, lk, AV.lb, AV.lb.lbs, accV_lb, wrap_i (show i < 9223372036854775807 by omega)]
            · simp only [hx1]
              rfl))
      · have g' : i = acts.length := by simp at g; omega
        subst g'
        rw [List.take_length] at ha hk
        rcases ha with ha | ha
        all_goals (
          simp -implicitDefEqProofs [hu, how, r22, ha, accV_un, accV_nol, accU_un, accU_nol, accU_ow, rue, wrC, readC, -List.getD_eq_getElem?_getD, ru, ruc, rud, laid]
          exact h2 hn' f1 f2 f3 f4 f5 f6 hk)
end
end Go.Ab
end
section
/- The specification's Check and Ready; networks compared; small networks. -/
set_option linter.unusedSimpArgs false
set_option linter.unusedVariables false
set_option maxRecDepth 100000
set_option maxHeartbeats 4000000
namespace Go.Ab

section
variable {C : CX} {h : List AObj} {K : AV → List AObj → Prop} {a b c d e n : Int} {z1 z2 z3 z1' z2' z3' : Bool} {s1 s2 s3 s1' s2' s3' : Nat} {x y : Net}

theorem same18 (hk : Nk z1 s1 z2 s2 z3 s3 x) (hk' : Nk z1' s1' z2' s2' z3' s3' y) (hw : x.way.length < 1000000) (hc : x.cuts.length < 1000000) (ht : x.timers.length < 1000000) (hK : K (.bool (decide (x = y))) h) : ACall C Pg 18 [.agg [.int .i64 x.nodes, .int .i64 x.now, .int .i64 x.next, .sl z1 s1 (x.way.map Letter.c) .no, .sl z2 s2 (x.cuts.map Link.c) .no, .sl z3 s3 (x.timers.map Timer.c) .no], .agg [.int .i64 y.nodes, .int .i64 y.now, .int .i64 y.next, .sl z1' s1' (y.way.map Letter.c) .no, .sl z2' s2' (y.cuts.map Link.c) .no, .sl z3' s3' (y.timers.map Timer.c) .no]] h K := by
  have hF : x ≠ y → K (.bool false) h := fun hn => by rwa [decide_eq_false hn] at hK
  have hT : x = y → K (.bool true) h := fun hn => by rwa [decide_eq_true hn] at hK
  clear hK
  refine run18 ?_; simp -implicitDefEqProofs only [b18, r18, List.length_map, ru, ruc, rud, ru5, Nat.reduceLT, Nat.reduceEqDiff, reduceIte, Nat.reduceAdd, Nat.reduceLeDiff, Int.reduceEq, Int.reduceLT, Int.reduceLE, Int.reduceNeg]
  repeat' (first | (refine guardV_split (fun g => ?_) (fun g => ?_) <;> simp -implicitDefEqProofs only [List.length_map, r18, ru, ruc, rud, ru5, Nat.reduceLT, Nat.reduceEqDiff, reduceIte, Nat.reduceAdd, Nat.reduceLeDiff, Int.reduceEq, Int.reduceLT, Int.reduceLE, Int.reduceNeg]) | (refine condV_split (fun g => ?_) (fun g => ?_) <;> simp -implicitDefEqProofs only [List.length_map, r18, ru, ruc, rud, ru5, Nat.reduceLT, Nat.reduceEqDiff, reduceIte, Nat.reduceAdd, Nat.reduceLeDiff, Int.reduceEq, Int.reduceLT, Int.reduceLE, Int.reduceNeg]) | (refine same50 hk.w hk'.w hw ?_ <;> try simp -implicitDefEqProofs only [List.length_map, r18, ru, ruc, rud, ru5, Nat.reduceLT, Nat.reduceEqDiff, reduceIte, Nat.reduceAdd, Nat.reduceLeDiff, Int.reduceEq, Int.reduceLT, Int.reduceLE, Int.reduceNeg]) | (refine same33 hk.t hk'.t ht ?_ <;> try simp -implicitDefEqProofs only [List.length_map, r18, ru, ruc, rud, ru5, Nat.reduceLT, Nat.reduceEqDiff, reduceIte, Nat.reduceAdd, Nat.reduceLeDiff, Int.reduceEq, Int.reduceLT, Int.reduceLE, Int.reduceNeg]))
  all_goals simp only [decide_eq_true_eq, decide_eq_false_iff_not, Bool.not_eq_true', Bool.not_eq_false', if_true, Bool.false_eq_true, if_false] at *
  all_goals try (
    refine hF fun e => ?_
    subst e
    omega)
  all_goals try (
    refine hF fun e => ?_
    subst e
    simp_all
    done)
  refine lp18q0 (α := Nat) 2 (fun i => [(2, .lptr 0 0), (3, .lptr 1 0), (5, .int .i64 i)]) (fun _ => [[.int .i64 x.nodes, .int .i64 x.now, .int .i64 x.next, .sl z1 s1 (x.way.map Letter.c) .no, .sl z2 s2 (x.cuts.map Link.c) .no, .sl z3 s3 (x.timers.map Timer.c) .no], [.int .i64 y.nodes, .int .i64 y.now, .int .i64 y.next, .sl z1' s1' (y.way.map Letter.c) .no, .sl z2' s2' (y.cuts.map Link.c) .no, .sl z3' s3' (y.timers.map Timer.c) .no]]) (fun _ => h)
    (fun i => i ≤ x.cuts.length ∧ ∀ j (h1 : j < x.cuts.length) (h2 : j < y.cuts.length), j < i → x.cuts[j] = y.cuts[j]) (fun i => x.cuts.length - i) 0 ⟨Nat.zero_le _, fun j h1 h2 h3 => by omega⟩ (fun _ => rfl) ?_ rfl rfl rfl ?_
  · simp [allIn, lk, AV.lb, AV.lb.lbs]
  · rintro i ⟨hi, hall⟩
    simp -implicitDefEqProofs only [b18q0, r18, List.length_map, ru, ruc, rud, ru5, Nat.reduceLT, Nat.reduceEqDiff, reduceIte, Nat.reduceAdd, Nat.reduceLeDiff, Int.reduceEq, Int.reduceLT, Int.reduceLE, Int.reduceNeg]
    refine condV_split (fun g => ?_) (fun g => ?_)
    · simp -implicitDefEqProofs only [r18, ru, ruc, rud, ru5, Nat.reduceLT, Nat.reduceEqDiff, reduceIte, Nat.reduceAdd, Nat.reduceLeDiff, Int.reduceEq, Int.reduceLT, Int.reduceLE, Int.reduceNeg]
      simp only [decide_eq_true_eq] at g
      have g' : i < x.cuts.length := by omega
      have g2 : i < y.cuts.length := by omega
      refine re18q0 ?_
      simp -implicitDefEqProofs only [g18q0, r18, ru, ruc, rud, ru5, Nat.reduceLT, Nat.reduceEqDiff, reduceIte, Nat.reduceAdd, Nat.reduceLeDiff, Int.reduceEq, Int.reduceLT, Int.reduceLE, Int.reduceNeg]
      repeat' (first | (refine guardV_split (fun g => ?_) (fun g => ?_) <;> simp -implicitDefEqProofs only [Link.c, r18, ru, ruc, rud, ru5, Nat.reduceLT, Nat.reduceEqDiff, reduceIte, Nat.reduceAdd, Nat.reduceLeDiff, Int.reduceEq, Int.reduceLT, Int.reduceLE, Int.reduceNeg]) | (refine condV_split (fun g => ?_) (fun g => ?_) <;> simp -implicitDefEqProofs only [Link.c, r18, ru, ruc, rud, ru5, Nat.reduceLT, Nat.reduceEqDiff, reduceIte, Nat.reduceAdd, Nat.reduceLeDiff, Int.reduceEq, Int.reduceLT, Int.reduceLE, Int.reduceNeg]) | (refine ixC hk.c rfl g' ?_ <;> try simp -implicitDefEqProofs only [Link.c, r18, ru, ruc, rud, ru5, Nat.reduceLT, Nat.reduceEqDiff, reduceIte, Nat.reduceAdd, Nat.reduceLeDiff, Int.reduceEq, Int.reduceLT, Int.reduceLE, Int.reduceNeg]) | (refine ixC hk'.c rfl g2 ?_ <;> try simp -implicitDefEqProofs only [Link.c, r18, ru, ruc, rud, ru5, Nat.reduceLT, Nat.reduceEqDiff, reduceIte, Nat.reduceAdd, Nat.reduceLeDiff, Int.reduceEq, Int.reduceLT, Int.reduceLE, Int.reduceNeg]) | (refine And.intro ?_ ?_ <;> try simp -implicitDefEqProofs only [Link.c, r18, ru, ruc, rud, ru5, Nat.reduceLT, Nat.reduceEqDiff, reduceIte, Nat.reduceAdd, Nat.reduceLeDiff, Int.reduceEq, Int.reduceLT, Int.reduceLE, Int.reduceNeg]))
      all_goals (try simp only [decide_eq_true_eq, decide_eq_false_iff_not, Bool.not_eq_true', Bool.not_eq_false', if_true, Bool.false_eq_true, if_false] at *)
      all_goals first
        | (refine next_normal (i + 1) ⟨by omega, fun j h1 h2 h3 => ?_⟩ (by omega) rfl ?_ rfl rfl
           · by_cases e : j = i
             · subst e
               simp_all
             · exact hall j h1 h2 (by omega)
           · simp [allIn, lk, AV.lb, AV.lb.lbs, wrap_i (show i < 9223372036854775807 by omega)])
        | (refine hF fun e => ?_
           subst e
           simp_all
           done)
    · simp -implicitDefEqProofs only [r18, ru, ruc, rud, ru5, Nat.reduceLT, Nat.reduceEqDiff, reduceIte, Nat.reduceAdd, Nat.reduceLeDiff, Int.reduceEq, Int.reduceLT, Int.reduceLE, Int.reduceNeg]
      simp only [decide_eq_false_iff_not] at g
      refine hT ?_
      have hcu : x.cuts = y.cuts := List.ext_getElem (by omega) fun j h1 h2 => hall j h1 h2 (by omega)
      cases x
      cases y
      simp_all

def smallP (x : Net) : Prop := x.way.length ≤ 250 ∧ x.cuts.length ≤ 200 ∧ x.timers.length ≤ 100 ∧ ∀ l ∈ x.way, l.data.length ≤ 300
theorem small12 (hk : Nk z1 s1 z2 s2 z3 s3 x) (h1 : smallP x → K (.bool true) h) (h2 : ¬ smallP x → K (.bool false) h) : ACall C Pg 12 [.agg [.int .i64 x.nodes, .int .i64 x.now, .int .i64 x.next, .sl z1 s1 (x.way.map Letter.c) .no, .sl z2 s2 (x.cuts.map Link.c) .no, .sl z3 s3 (x.timers.map Timer.c) .no]] h K := by
  refine run12 ?_; simp -implicitDefEqProofs only [b12, r12, List.length_map, ru, ruc, rud, ru5, Nat.reduceLT, Nat.reduceEqDiff, reduceIte, Nat.reduceAdd, Nat.reduceLeDiff, Int.reduceEq, Int.reduceLT, Int.reduceLE, Int.reduceNeg]
  repeat' (first | (refine guardV_split (fun g => ?_) (fun g => ?_) <;> simp -implicitDefEqProofs only [List.length_map, r12, ru, ruc, rud, ru5, Nat.reduceLT, Nat.reduceEqDiff, reduceIte, Nat.reduceAdd, Nat.reduceLeDiff, Int.reduceEq, Int.reduceLT, Int.reduceLE, Int.reduceNeg]) | (refine condV_split (fun g => ?_) (fun g => ?_) <;> simp -implicitDefEqProofs only [List.length_map, r12, ru, ruc, rud, ru5, Nat.reduceLT, Nat.reduceEqDiff, reduceIte, Nat.reduceAdd, Nat.reduceLeDiff, Int.reduceEq, Int.reduceLT, Int.reduceLE, Int.reduceNeg]))
  all_goals simp only [decide_eq_true_eq, decide_eq_false_iff_not, Bool.not_eq_true', Bool.not_eq_false', if_true, Bool.false_eq_true, if_false] at *
  all_goals try (
    refine h2 fun w => ?_
    have a1 := w.1; have a2 := w.2.1; have a3 := w.2.2.1
    omega)
  refine lp12q0 (α := Nat) 1 (fun i => [(1, .lptr 0 0), (3, .int .i64 i)]) (fun _ => [[.int .i64 x.nodes, .int .i64 x.now, .int .i64 x.next, .sl z1 s1 (x.way.map Letter.c) .no, .sl z2 s2 (x.cuts.map Link.c) .no, .sl z3 s3 (x.timers.map Timer.c) .no]]) (fun _ => h)
    (fun i => i ≤ x.way.length ∧ upTo (fun l => l.data.length ≤ 300) x.way i) (fun i => x.way.length - i) 0 ⟨Nat.zero_le _, upTo.zero⟩ (fun _ => rfl) ?_ rfl rfl rfl ?_
  · simp [allIn, lk, AV.lb, AV.lb.lbs]
  · rintro i ⟨hi, hall⟩
    simp -implicitDefEqProofs only [b12q0, r12, List.length_map, ru, ruc, rud, ru5, Nat.reduceLT, Nat.reduceEqDiff, reduceIte, Nat.reduceAdd, Nat.reduceLeDiff, Int.reduceEq, Int.reduceLT, Int.reduceLE, Int.reduceNeg]
    refine condV_split (fun g => ?_) (fun g => ?_)
    · simp -implicitDefEqProofs only [r12, ru, ruc, rud, ru5, Nat.reduceLT, Nat.reduceEqDiff, reduceIte, Nat.reduceAdd, Nat.reduceLeDiff, Int.reduceEq, Int.reduceLT, Int.reduceLE, Int.reduceNeg]
      simp only [decide_eq_true_eq] at g
      have g' : i < x.way.length := by omega
      refine ixL hk.w rfl g' ?_
      simp -implicitDefEqProofs only [r12, Letter.c, ru, ruc, rud, ru5, Nat.reduceLT, Nat.reduceEqDiff, reduceIte, Nat.reduceAdd, Nat.reduceLeDiff, Int.reduceEq, Int.reduceLT, Int.reduceLE, Int.reduceNeg]
      repeat' (first | (refine guardV_split (fun g => ?_) (fun g => ?_) <;> simp -implicitDefEqProofs only [r12, ru, ruc, rud, ru5, Nat.reduceLT, Nat.reduceEqDiff, reduceIte, Nat.reduceAdd, Nat.reduceLeDiff, Int.reduceEq, Int.reduceLT, Int.reduceLE, Int.reduceNeg]) | (refine condV_split (fun g => ?_) (fun g => ?_) <;> simp -implicitDefEqProofs only [r12, ru, ruc, rud, ru5, Nat.reduceLT, Nat.reduceEqDiff, reduceIte, Nat.reduceAdd, Nat.reduceLeDiff, Int.reduceEq, Int.reduceLT, Int.reduceLE, Int.reduceNeg]))
      all_goals simp only [decide_eq_true_eq, decide_eq_false_iff_not, Bool.not_eq_true', Bool.not_eq_false', if_true, Bool.false_eq_true, if_false] at *
      all_goals first
        | (refine next_normal (i + 1) ⟨by omega, hall.succ g' (by show x.way[i].data.length ≤ 300; omega)⟩ (by omega) rfl ?_ rfl rfl
           · simp [allIn, lk, AV.lb, AV.lb.lbs, wrap_i (show i < 9223372036854775807 by omega)])
        | (refine h2 fun w => ?_
           have := w.2.2.2 _ (List.getElem_mem g')
           omega)
    · simp -implicitDefEqProofs only [r12, ru, ruc, rud, ru5, Nat.reduceLT, Nat.reduceEqDiff, reduceIte, Nat.reduceAdd, Nat.reduceLeDiff, Int.reduceEq, Int.reduceLT, Int.reduceLE, Int.reduceNeg]
      simp only [decide_eq_false_iff_not] at g
      exact h1 ⟨by omega, by omega, by omega, hall.all (by omega)⟩
end
end Go.Ab
end
section
/- NetChecks. -/
set_option linter.unusedSimpArgs false
set_option linter.unusedVariables false
set_option maxRecDepth 100000
set_option maxHeartbeats 4000000
namespace Go.Ab

section
variable {C : CX} {h : List AObj} {K : AV → List AObj → Prop} {a b c d e n : Int} {z1 z2 z3 z1' z2' z3' : Bool} {s1 s2 s3 s1' s2' s3' : Nat} {x y : Net}
theorem accU_sl {α : Type} (sz : Nat) (c : α → List AV) (l : List α) : ∃ z s, accU sz c l = .sl z s (l.map c) .no ∧ Slk z s sz l.length := by
  unfold accU
  cases l with
  | nil => exact ⟨true, 0, rfl, by simp, by simp⟩
  | cons x l => exact ⟨false, sz, rfl, by simp, by simp⟩
def readyIs (x : Net) (L : List Int) (e : Int) : Prop := (WF x ∧ e = 0 ∧ L = readyTo x x.way.length) ∨ (¬ WF x ∧ e = 2 ∧ L = [])
theorem readyIs.len {L : List Int} (h : readyIs x L e) : L.length ≤ x.way.length := by
  rcases h with ⟨_, _, rfl⟩ | ⟨_, _, rfl⟩
  · exact readyTo_len
  · simp
end
end Go.Ab
end
section
/- What a change returns, told in one; NetLinks. -/
set_option linter.unusedSimpArgs false
set_option linter.unusedVariables false
set_option maxRecDepth 100000
set_option maxHeartbeats 4000000
namespace Go.Ab

def zN : Net := ⟨0, 0, 0, [], [], []⟩
def resOf (x : Net) (e : Int) (g : Net) (y : Net) (ee : Int) : Prop := (¬ WF x ∧ ee = 2 ∧ y = zN) ∨ (WF x ∧ e ≠ 0 ∧ ee = e ∧ y = zN) ∨ (WF x ∧ e = 0 ∧ ee = 0 ∧ y = g)
theorem resOf.lens {x g y : Net} {e ee : Int} (h : resOf x e g y ee) (hg : WF x → e = 0 → WF g) : y.way.length < 1000000 ∧ y.cuts.length < 1000000 ∧ y.timers.length < 1000000 := by
  rcases h with ⟨_, _, rfl⟩ | ⟨_, _, _, rfl⟩ | ⟨w, he, _, rfl⟩
  · simp [zN]
  · simp [zN]
  · have w2 := hg w he
    have := w2.fl; have := w2.cl; have := w2.tl
    omega
section
variable {C : CX} {h : List AObj} {K : AV → List AObj → Prop} {a b nd tg n ee : Int} {z1 z2 z3 : Bool} {s1 s2 s3 : Nat} {x y : Net}
theorem nkZ : Nk true 0 true 0 true 0 zN := Nk.of (by simp [zN])
theorem cut23u (hk : Nk z1 s1 z2 s2 z3 s3 x) (hc : x.cuts.length < 1000000) (hr : resOf x (cutE x a b) (cutG x a b) y ee)
    (hK : ∀ z1 s1 z2 s2 z3 s3, Nk z1 s1 z2 s2 z3 s3 y → K (.tup [.agg [.int .i64 y.nodes, .int .i64 y.now, .int .i64 y.next, .sl z1 s1 (y.way.map Letter.c) .no, .sl z2 s2 (y.cuts.map Link.c) .no, .sl z3 s3 (y.timers.map Timer.c) .no], .int .i64 ee]) h) : ACall C Pg 23 [.agg [.int .i64 x.nodes, .int .i64 x.now, .int .i64 x.next, .sl z1 s1 (x.way.map Letter.c) .no, .sl z2 s2 (x.cuts.map Link.c) .no, .sl z3 s3 (x.timers.map Timer.c) .no], .int .i64 a, .int .i64 b] h K := by
  refine cut23g hk hc (fun w => ?_) (fun w he => ?_) (fun w he z1 s1 z2 s2 z3 s3 hk2 => ?_)
  · rcases hr with ⟨_, rfl, rfl⟩ | ⟨w2, _⟩ | ⟨w2, _⟩
    · exact hK _ _ _ _ _ _ nkZ
    · exact absurd w2 w
    · exact absurd w2 w
  · rcases hr with ⟨w2, _⟩ | ⟨_, _, rfl, rfl⟩ | ⟨_, h0, _⟩
    · exact absurd w w2
    · exact hK _ _ _ _ _ _ nkZ
    · exact absurd h0 he
  · rcases hr with ⟨w2, _⟩ | ⟨_, h0, _⟩ | ⟨_, _, rfl, rfl⟩
    · exact absurd w w2
    · exact absurd he h0
    · exact hK _ _ _ _ _ _ hk2
end
end Go.Ab
end
section
/- The examples of the chapter. -/
set_option linter.unusedSimpArgs false
set_option linter.unusedVariables false
set_option maxRecDepth 100000
set_option maxHeartbeats 4000000
namespace Go.Ab
section
variable {C : CX} {h : List AObj} {K : AV → List AObj → Prop}
def netA : Net := ⟨3, 0, 0, [], [], []⟩
def netB : Net := ⟨3, 0, 1, [⟨0, 0, 2, 0, [97]⟩], [], []⟩
def netC : Net := ⟨3, 0, 1, [], [], []⟩
def netD : Net := ⟨3, 0, 1, [⟨0, 0, 2, 2, [97]⟩], [], []⟩
def netE : Net := ⟨3, 0, 1, [⟨0, 0, 2, 0, [97]⟩], [⟨0, 2⟩], []⟩
def netF : Net := ⟨3, 0, 0, [], [], [⟨2, 1, 7⟩]⟩
def netG : Net := ⟨3, 1, 0, [], [], [⟨2, 1, 7⟩]⟩
def netH : Net := ⟨3, 2, 0, [], [], []⟩
def netJ : Net := ⟨2, 0, 1, [⟨0, 0, 1, 0, []⟩], [], []⟩
theorem wfA : WF netA := ⟨by decide, by decide, by decide, by decide, by decide, by decide, by decide, by decide, fun i hi => by simp [netA] at hi, fun i hi => by simp [netA] at hi, by simp [netA], by simp [netA], by simp [netA], fun i j hi hj => by simp [netA] at hi⟩
theorem wfB : WF netB := ⟨by decide, by decide, by decide, by decide, by decide, by decide, by decide, by decide, fun i hi => by simp [netB] at hi, fun i hi => by simp [netB] at hi, by simp [netB, letterOk, nodeOk], by simp [netB], by simp [netB], fun i j hi hj => by simp [netB] at hi⟩
theorem wfC : WF netC := ⟨by decide, by decide, by decide, by decide, by decide, by decide, by decide, by decide, fun i hi => by simp [netC] at hi, fun i hi => by simp [netC] at hi, by simp [netC, letterOk, nodeOk], by simp [netC], by simp [netC], fun i j hi hj => by simp [netC] at hi⟩
theorem wfD : WF netD := ⟨by decide, by decide, by decide, by decide, by decide, by decide, by decide, by decide, fun i hi => by simp [netD] at hi, fun i hi => by simp [netD] at hi, by simp [netD, letterOk, nodeOk], by simp [netD], by simp [netD], fun i j hi hj => by simp [netD] at hi⟩
theorem wfE : WF netE := ⟨by decide, by decide, by decide, by decide, by decide, by decide, by decide, by decide, fun i hi => by simp [netE] at hi, fun i hi => by simp [netE] at hi, by simp [netE, letterOk, nodeOk], by simp [netE, cutOk, nodeOk], by simp [netE], fun i j hi hj => by simp [netE] at hi⟩
theorem wfF : WF netF := ⟨by decide, by decide, by decide, by decide, by decide, by decide, by decide, by decide, fun i hi => by simp [netF] at hi, fun i hi => by simp [netF] at hi, by simp [netF, letterOk, nodeOk], by simp [netF], by simp [netF, timerOk, nodeOk], fun i j hi hj => by simp [netF] at hi; omega⟩
theorem wfG : WF netG := ⟨by decide, by decide, by decide, by decide, by decide, by decide, by decide, by decide, fun i hi => by simp [netG] at hi, fun i hi => by simp [netG] at hi, by simp [netG, letterOk, nodeOk], by simp [netG], by simp [netG, timerOk, nodeOk], fun i j hi hj => by simp [netG] at hi; omega⟩
theorem bld53a {K : AV → Prop} {a b : Int} : agK (abuild T 53 [(0, .int .i64 a), (2, .int .i64 b)]) K = K (.agg [.int .i64 a, .int .i64 0, .int .i64 b, .int .i64 0, .str []]) := rfl
theorem bld53b {K : AV → Prop} {a : Int} : agK (abuild T 53 [(0, .int .i64 a)]) K = K (.agg [.int .i64 a, .int .i64 0, .int .i64 0, .int .i64 0, .str []]) := rfl
theorem bld53c {K : AV → Prop} {a b : Int} : agK (abuild T 53 [(0, .int .i64 a), (3, .int .i64 b)]) K = K (.agg [.int .i64 a, .int .i64 0, .int .i64 0, .int .i64 b, .str []]) := rfl
theorem T46 : T.get 46 = some (TI.mk (.slice 53) 1 24 [.sl true 0 [] .own] []) := rfl
theorem T53 : T.get 53 = some (TI.mk (.struct [(0, 3), (1, 3), (2, 3), (3, 3), (4, 9)]) 5 48 [.int .i64 0, .int .i64 0, .int .i64 0, .int .i64 0, .str []] [.int .i64, .int .i64, .int .i64, .int .i64, .str]) := rfl
theorem bsl46q3 {a b c : Act} {K : AV → List AObj → Prop} : buildSliceK T false 46 3 [(0, .agg (Act.c a)), (1, .agg (Act.c b)), (2, .agg (Act.c c))] h K = K (.sl false 5 ([a, b, c].map Act.c) .full) h := by
  simp [buildSliceK, T46, T53, fillA, AV.cells, AV.one, AV.nol, chunks, Act.c, AV.nol.nols]
def actsS : List Act := [⟨1, 0, 1, 0, []⟩, ⟨4, 0, 0, 0, []⟩, ⟨2, 0, 0, 1, []⟩]
def letS : Letter := ⟨0, 0, 1, 0, []⟩
theorem sane13 (hK : K (.bool true) h) : ACall C Pg 13 [] h K := by
  refine run13 ?_
  simp -implicitDefEqProofs [b13, r13, rue, wrC, readC, -List.getD_eq_getElem?_getD, ru, ruc, rud, laid]
  refine new14 ?_
  simp -implicitDefEqProofs [r13, rue, wrC, readC, -List.getD_eq_getElem?_getD, ru, ruc, rud, laid]
  refine new14 ?_
  simp -implicitDefEqProofs [r13, rue, wrC, readC, -List.getD_eq_getElem?_getD, ru, ruc, rud, laid]
  refine send42 (x := netA) (z1 := true) (s1 := 0) (z2 := true) (s2 := 0) (z3 := true) (s3 := 0) (Nk.of (by simp [netA])) (by decide) (fun hn => absurd wfA hn) (fun _ he => absurd (by decide) he) (fun _ _ b1 t1 b2 t2 b3 t3 hB => ?_)
  rw [show sendX netA 0 2 [97] = netB from rfl] at hB ⊢
  simp -implicitDefEqProofs [r13, netA, netB, Letter.c, rue, wrC, readC, -List.getD_eq_getElem?_getD, ru, ruc, rud, laid]
  refine deliver35 (x := netB) (z1 := b1) (s1 := t1) (z2 := b2) (s2 := t2) (z3 := b3) (s3 := t3) hB (by decide) (fun hn => absurd wfB hn) (fun _ he => absurd (by decide) he) (fun _ i hi he hc => ?_) (fun _ i hi he _ c1 u1 c2 u2 c3 u3 hC => ?_)
  · obtain rfl : i = 0 := by omega
    have h9 : canX netB netB.way[0] = true := rfl
    rw [h9] at hc
    cases hc
  obtain rfl : i = 0 := by omega
  rw [show dropX netB 0 = netC from rfl] at hC ⊢
  simp -implicitDefEqProofs [r13, netA, netB, netC, Letter.c, rue, wrC, readC, -List.getD_eq_getElem?_getD, ru, ruc, rud, laid]
  refine deliver35 (x := netC) (z1 := c1) (s1 := u1) (z2 := c2) (s2 := u2) (z3 := c3) (s3 := u3) hC (by decide) (fun hn => absurd wfC hn) (fun _ _ => ?_) (fun _ i hi _ _ => absurd hi (by simp [netC])) (fun _ i hi => absurd hi (by simp [netC]))
  simp -implicitDefEqProofs [r13, netA, netB, netC, zeroN, zeroL, Letter.c, rue, wrC, readC, -List.getD_eq_getElem?_getD, ru, ruc, rud, laid]
  refine delay43 (x := netB) (z1 := b1) (s1 := t1) (z2 := b2) (s2 := t2) (z3 := b3) (s3 := t3) hB (by decide) (fun hn => absurd wfB hn) (fun _ he => absurd (by decide) he) (fun _ _ he => absurd he (by decide)) (fun _ i hi he _ _ d1 v1 d2 v2 d3 v3 hD => ?_)
  obtain rfl : i = 0 := by omega
  rw [show delayX netB 0 hi 2 = netD from rfl] at hD ⊢
  simp -implicitDefEqProofs [r13, netA, netB, netC, netD, zeroN, zeroL, Letter.c, rue, wrC, readC, -List.getD_eq_getElem?_getD, ru, ruc, rud, laid]
  refine deliver35 (x := netD) (z1 := d1) (s1 := v1) (z2 := d2) (s2 := v2) (z3 := d3) (s3 := v3) hD (by decide) (fun hn => absurd wfD hn) (fun _ he => absurd (by decide) he) (fun _ i hi he hc => ?_) (fun _ i hi he hc => ?_)
  rotate_left
  · obtain rfl : i = 0 := by omega
    have h9 : canX netD netD.way[0] = false := rfl
    rw [h9] at hc
    cases hc
  simp -implicitDefEqProofs [r13, netA, netB, netC, netD, zeroN, zeroL, Letter.c, rue, wrC, readC, -List.getD_eq_getElem?_getD, ru, ruc, rud, laid]
  have hp1 : pairOf 2 0 = ⟨0, 2⟩ := rfl
  have hp2 : pairOf 0 2 = ⟨0, 2⟩ := rfl
  refine cut23u (x := netB) (y := netE) (ee := 0) (z1 := b1) (s1 := t1) (z2 := b2) (s2 := t2) (z3 := b3) (s3 := t3) hB (by decide) (.inr (.inr ⟨wfB, rfl, rfl, rfl⟩)) (fun e1 w1 e2 w2 e3 w3 hE => ?_)
  simp -implicitDefEqProofs [r13, netA, netB, netC, netD, netE, zeroN, zeroL, Letter.c, Link.c, rue, wrC, readC, -List.getD_eq_getElem?_getD, ru, ruc, rud, laid]
  refine cut23u (x := netE) (y := zN) (ee := 5) (z1 := e1) (s1 := w1) (z2 := e2) (s2 := w2) (z3 := e3) (s3 := w3) hE (by decide) (.inr (.inl ⟨wfE, by decide, rfl, rfl⟩)) (fun e4 w4 e5 w5 e6 w6 hE2 => ?_)
  simp -implicitDefEqProofs [r13, netA, netB, netC, netD, netE, zN, zeroN, zeroL, Letter.c, Link.c, rue, wrC, readC, -List.getD_eq_getElem?_getD, ru, ruc, rud, laid]
  refine ready16 (x := netE) (z1 := e1) (s1 := w1) (z2 := e2) (s2 := w2) (z3 := e3) (s3 := w3) hE (by decide) (fun hn => absurd wfE hn) (fun _ y1 x1 hr => ?_)
  have hr0 : readyTo netE netE.way.length = [] := rfl
  rw [hr0] at hr ⊢
  simp -implicitDefEqProofs [r13, netA, netB, netC, netD, netE, zeroN, zeroL, Letter.c, Link.c, rue, wrC, readC, -List.getD_eq_getElem?_getD, ru, ruc, rud, laid]
  refine set27g (x := netA) (z1 := true) (s1 := 0) (z2 := true) (s2 := 0) (z3 := true) (s3 := 0) (nd := 1) (tg := 7) (n := 2) (Nk.of (by simp [netA])) (by decide) (fun hn => absurd wfA hn) (fun _ he => absurd rfl he) (fun _ _ f1 g1 f2 g2 f3 g3 hF => ?_)
  rw [show setG netA 1 7 2 = netF from rfl] at hF ⊢
  simp -implicitDefEqProofs [r13, netA, netB, netC, netD, netE, netF, zeroN, zeroL, Letter.c, Link.c, Timer.c, rue, wrC, readC, -List.getD_eq_getElem?_getD, ru, ruc, rud, laid]
  refine tick31 (x := netF) (z1 := f1) (s1 := g1) (z2 := f2) (s2 := g2) (z3 := f3) (s3 := g3) hF (by decide) (fun hn => absurd wfF hn) (fun _ he => absurd he (by decide)) (fun _ _ k hk1 hk2 hk3 i1 j1 i2 j2 i3 j3 hG => ?_)
  obtain rfl : k = 0 := by
    have h6 : k ≤ 1 := hk1
    rcases Nat.lt_or_ge k 1 with h8 | h8
    · omega
    · obtain rfl : k = 1 := by omega
      have := hk2 ⟨2, 1, 7⟩ (by simp [netF])
      simp [netF] at this
  rw [show tickTo netF 0 = netG from rfl] at hG ⊢
  rw [show accU 3 Timer.c (netF.timers.take 0) = .sl true 0 [] .no from rfl]
  simp -implicitDefEqProofs [r13, netA, netB, netC, netD, netE, netF, netG, zeroN, zeroL, Letter.c, Link.c, Timer.c, rue, wrC, readC, -List.getD_eq_getElem?_getD, ru, ruc, rud, laid]
  refine tick31 (x := netG) (z1 := i1) (s1 := j1) (z2 := i2) (s2 := j2) (z3 := i3) (s3 := j3) hG (by decide) (fun hn => absurd wfG hn) (fun _ he => absurd he (by decide)) (fun _ _ k hk1 hk2 hk3 k1 l1 k2 l2 k3 l3 hH => ?_)
  obtain rfl : k = 1 := by
    have h6 : k ≤ 1 := hk1
    rcases Nat.lt_or_ge k 1 with h8 | h8
    · obtain rfl : k = 0 := by omega
      exact absurd rfl (hk3 Nat.one_pos)
    · omega
  rw [show tickTo netG 1 = netH from rfl] at hH ⊢
  rw [show accU 3 Timer.c (netG.timers.take 1) = .sl false 3 [[.int .i64 2, .int .i64 1, .int .i64 7]] .no from rfl]
  simp -implicitDefEqProofs [r13, netA, netB, netC, netD, netE, netF, netG, netH, zeroN, zeroL, Letter.c, Link.c, Timer.c, rue, wrC, readC, -List.getD_eq_getElem?_getD, ru, ruc, rud, laid]
  refine send42 (x := netA) (z1 := true) (s1 := 0) (z2 := true) (s2 := 0) (z3 := true) (s3 := 0) (Nk.of (by simp [netA])) (by decide) (fun hn => absurd wfA hn) (fun _ _ => ?_) (fun _ he => absurd he (by decide))
  rw [show sendE netA 1 1 [] = 1 from rfl]
  simp -implicitDefEqProofs [r13, netA, netB, netC, netD, netE, netF, netG, netH, zeroN, zeroL, Letter.c, Link.c, Timer.c, rue, wrC, readC, -List.getD_eq_getElem?_getD, ru, ruc, rud, laid]
  rw [bld53a]
  simp -implicitDefEqProofs [r13, rue, wrC, readC, -List.getD_eq_getElem?_getD, ru, ruc, rud, laid]
  rw [bld53b]
  simp -implicitDefEqProofs [r13, rue, wrC, readC, -List.getD_eq_getElem?_getD, ru, ruc, rud, laid]
  rw [bld53c]
  simp -implicitDefEqProofs [r13, rue, wrC, readC, -List.getD_eq_getElem?_getD, ru, ruc, rud, laid]
  refine Eq.mpr (bsl46q3 (a := ⟨1, 0, 1, 0, []⟩) (b := ⟨4, 0, 0, 0, []⟩) (c := ⟨2, 0, 0, 1, []⟩)) ?_
  simp -implicitDefEqProofs [r13, Act.c, rue, wrC, readC, -List.getD_eq_getElem?_getD, ru, ruc, rud, laid]
  refine play22g (n := 2) (acts := actsS) (za := false) (sa := 5) (ta := .full) ⟨by decide, fun _ => rfl⟩ (.inr rfl) (by decide) (fun he => absurd he (by decide)) (fun _ m1 n1 m2 n2 m3 n3 hM => ?_)
  rw [show playX stepF 2 actsS = netJ from rfl]
  rw [show playL stepF 2 actsS = [⟨⟨1, 0, 1, 0, []⟩, 0, 0, letS, []⟩, ⟨⟨4, 0, 0, 0, []⟩, 0, 0, letS, []⟩, ⟨⟨2, 0, 0, 1, []⟩, 0, 0, letS, []⟩] from rfl]
  rw [show ∀ (a b c : Seen), accU 13 Seen.c [a, b, c] = .sl false 13 [Seen.c a, Seen.c b, Seen.c c] .no from fun _ _ _ => rfl]
  simp -implicitDefEqProofs [r13, netA, netB, netC, netD, netE, netF, netG, netH, netJ, zeroN, zeroL, Letter.c, Link.c, Timer.c, T86, rue, wrC, readC, -List.getD_eq_getElem?_getD, ru, ruc, rud, laid]
  refine Eq.mpr (eqt86 (a := ⟨2, 1, 7⟩) (b := ⟨2, 1, 7⟩)) ?_
  simp -implicitDefEqProofs [r13, rue, wrC, readC, -List.getD_eq_getElem?_getD, ru, ruc, rud, laid]
  exact hK
end
end Go.Ab
end
