/- One text out of several: see the remark at the head of each part. -/
import Derived.Test.YtpjcpmmcaccgiaaYd1
set_option linter.all false
section
/- The examples of the chapter. -/
set_option linter.unusedSimpArgs false
set_option linter.unusedVariables false
set_option maxRecDepth 100000
set_option maxHeartbeats 4000000
namespace Go.Ab
section
variable {C : CX} {h : List AObj} {K : AV → List AObj → Prop}
def netA : Net := ⟨3, 0, 0, [], [], []⟩
def netB : Net := ⟨3, 0, 1, [⟨0, 0, 2, 0, [97]⟩], [], []⟩
def netC : Net := ⟨3, 0, 1, [], [], []⟩
def netD : Net := ⟨3, 0, 1, [⟨0, 0, 2, 2, [97]⟩], [], []⟩
def netE : Net := ⟨3, 0, 1, [⟨0, 0, 2, 0, [97]⟩], [⟨0, 2⟩], []⟩
def netF : Net := ⟨3, 0, 0, [], [], [⟨2, 1, 7⟩]⟩
def netG : Net := ⟨3, 1, 0, [], [], [⟨2, 1, 7⟩]⟩
def netH : Net := ⟨3, 2, 0, [], [], []⟩
def netJ : Net := ⟨2, 0, 1, [⟨0, 0, 1, 0, []⟩], [], []⟩
theorem wfA : WF netA := ⟨by decide, by decide, by decide, by decide, by decide, by decide, by decide, by decide, fun i hi => by simp [netA] at hi, fun i hi => by simp [netA] at hi, by simp [netA], by simp [netA], by simp [netA], fun i j hi hj => by simp [netA] at hi⟩
theorem wfB : WF netB := ⟨by decide, by decide, by decide, by decide, by decide, by decide, by decide, by decide, fun i hi => by simp [netB] at hi, fun i hi => by simp [netB] at hi, by simp [netB, letterOk, nodeOk], by simp [netB], by simp [netB], fun i j hi hj => by simp [netB] at hi⟩
theorem wfC : WF netC := ⟨by decide, by decide, by decide, by decide, by decide, by decide, by decide, by decide, fun i hi => by simp [netC] at hi, fun i hi => by simp [netC] at hi, by simp [netC, letterOk, nodeOk], by simp [netC], by simp [netC], fun i j hi hj => by simp [netC] at hi⟩
theorem wfD : WF netD := ⟨by decide, by decide, by decide, by decide, by decide, by decide, by decide, by decide, fun i hi => by simp [netD] at hi, fun i hi => by simp [netD] at hi, by simp [netD, letterOk, nodeOk], by simp [netD], by simp [netD], fun i j hi hj => by simp [netD] at hi⟩
theorem wfE : WF netE := ⟨by decide, by decide, by decide, by decide, by decide, by decide, by decide, by decide, fun i hi => by simp [netE] at hi, fun i hi => by simp [netE] at hi, by simp [netE, letterOk, nodeOk], by simp [netE, cutOk, nodeOk], by simp [netE], fun i j hi hj => by simp [netE] at hi⟩
theorem wfF : WF netF := ⟨by decide, by decide, by decide, by decide, by decide, by decide, by decide, by decide, fun i hi => by simp [netF] at hi, fun i hi => by simp [netF] at hi, by simp [netF, letterOk, nodeOk], by simp [netF], by simp [netF, timerOk, nodeOk], fun i j hi hj => by simp [netF] at hi; omega⟩
theorem wfG : WF netG := ⟨by decide, by decide, by decide, by decide, by decide, by decide, by decide, by decide, fun i hi => by simp [netG] at hi, fun i hi => by simp [netG] at hi, by simp [netG, letterOk, nodeOk], by simp [netG], by simp [netG, timerOk, nodeOk], fun i j hi hj => by simp [netG] at hi; omega⟩
theorem bld53a {K : AV → Prop} {a b : Int} : agK (abuild T 53 [(0, .int .i64 a), (2, .int .i64 b)]) K = K (.agg [.int .i64 a, .int .i64 0, .int .i64 b, .int .i64 0, .str []]) := rfl
theorem bld53b {K : AV → Prop} {a : Int} : agK (abuild T 53 [(0, .int .i64 a)]) K = K (.agg [.int .i64 a, .int .i64 0, .int .i64 0, .int .i64 0, .str []]) := rfl
theorem bld53c {K : AV → Prop} {a b : Int} : agK (abuild T 53 [(0, .int .i64 a), (3, .int .i64 b)]) K = K (.agg [.int .i64 a, .int .i64 0, .int .i64 0, .int .i64 b, .str []]) := rfl
theorem T46 : T.get 46 = some (TI.mk (.slice 53) 1 24 [.sl true 0 [] .own] []) := rfl
theorem T53 : T.get 53 = some (TI.mk (.struct [(0, 3), (1, 3), (2, 3), (3, 3), (4, 9)]) 5 48 [.int .i64 0, .int .i64 0, .int .i64 0, .int .i64 0, .str []] [.int .i64, .int .i64, .int .i64, .int .i64, .str]) := rfl
theorem bsl46q3 {a b c : Act} {K : AV → List AObj → Prop} : buildSliceK T false 46 3 [(0, .agg (Act.c a)), (1, .agg (Act.c b)), (2, .agg (Act.c c))] h K = K (.sl false 5 ([a, b, c].map Act.c) .full) h := by
  simp [buildSliceK, T46, T53, fillA, AV.cells, AV.one, AV.nol, chunks, Act.c, AV.nol.nols]
def actsS : List Act := [⟨1, 0, 1, 0, []⟩, ⟨4, 0, 0, 0, []⟩, ⟨2, 0, 0, 1, []⟩]
def letS : Letter := ⟨0, 0, 1, 0, []⟩
theorem sane13 (hK : K (.bool true) h) : ACall C Pg 13 [] h K := by
  refine run13 ?_
  simp -implicitDefEqProofs [b13, r13, rue, wrC, readC, -List.getD_eq_getElem?_getD, ru, ruc, rud, laid]
  refine new14 ?_
  simp -implicitDefEqProofs [r13, rue, wrC, readC, -List.getD_eq_getElem?_getD, ru, ruc, rud, laid]
  refine new14 ?_
  simp -implicitDefEqProofs [r13, rue, wrC, readC, -List.getD_eq_getElem?_getD, ru, ruc, rud, laid]
  refine send42 (x := netA) (z1 := true) (s1 := 0) (z2 := true) (s2 := 0) (z3 := true) (s3 := 0) (Nk.of (by simp [netA])) (by decide) (fun hn => absurd wfA hn) (fun _ he => absurd (by decide) he) (fun _ _ b1 t1 b2 t2 b3 t3 hB => ?_)
  rw [show sendX netA 0 2 [97] = netB from rfl] at hB ⊢
  simp -implicitDefEqProofs [r13, netA, netB, Letter.c, rue, wrC, readC, -List.getD_eq_getElem?_getD, ru, ruc, rud, laid]
  refine deliver35 (x := netB) (z1 := b1) (s1 := t1) (z2 := b2) (s2 := t2) (z3 := b3) (s3 := t3) hB (by decide) (fun hn => absurd wfB hn) (fun _ he => absurd (by decide) he) (fun _ i hi he hc => ?_) (fun _ i hi he _ c1 u1 c2 u2 c3 u3 hC => ?_)
  · obtain rfl : i = 0 := by omega
    have h9 : canX netB netB.way[0] = true := rfl
    rw [h9] at hc
    cases hc
  obtain rfl : i = 0 := by omega
  rw [show dropX netB 0 = netC from rfl] at hC ⊢
  simp -implicitDefEqProofs [r13, netA, netB, netC, Letter.c, rue, wrC, readC, -List.getD_eq_getElem?_getD, ru, ruc, rud, laid]
  refine deliver35 (x := netC) (z1 := c1) (s1 := u1) (z2 := c2) (s2 := u2) (z3 := c3) (s3 := u3) hC (by decide) (fun hn => absurd wfC hn) (fun _ _ => ?_) (fun _ i hi _ _ => absurd hi (by simp [netC])) (fun _ i hi => absurd hi (by simp [netC]))
  simp -implicitDefEqProofs [r13, netA, netB, netC, zeroN, zeroL, Letter.c, rue, wrC, readC, -List.getD_eq_getElem?_getD, ru, ruc, rud, laid]
  refine delay43 (x := netB) (z1 := b1) (s1 := t1) (z2 := b2) (s2 := t2) (z3 := b3) (s3 := t3) hB (by decide) (fun hn => absurd wfB hn) (fun _ he => absurd (by decide) he) (fun _ _ he => absurd he (by decide)) (fun _ i hi he _ _ d1 v1 d2 v2 d3 v3 hD => ?_)
  obtain rfl : i = 0 := by omega
  rw [show delayX netB 0 hi 2 = netD from rfl] at hD ⊢
  simp -implicitDefEqProofs [r13, netA, netB, netC, netD, zeroN, zeroL, Letter.c, rue, wrC, readC, -List.getD_eq_getElem?_getD, ru, ruc, rud, laid]
  refine deliver35 (x := netD) (z1 := d1) (s1 := v1) (z2 := d2) (s2 := v2) (z3 := d3) (s3 := v3) hD (by decide) (fun hn => absurd wfD hn) (fun _ he => absurd (by decide) he) (fun _ i hi he hc => ?_) (fun _ i hi he hc => ?_)
  rotate_left
  · obtain rfl : i = 0 := by omega
    have h9 : canX netD netD.way[0] = false := rfl
    rw [h9] at hc
    cases hc
  simp -implicitDefEqProofs [r13, netA, netB, netC, netD, zeroN, zeroL, Letter.c, rue, wrC, readC, -List.getD_eq_getElem?_getD, ru, ruc, rud, laid]
  have hp1 : pairOf 2 0 = ⟨0, 2⟩ := rfl
  have hp2 : pairOf 0 2 = ⟨0, 2⟩ := rfl
  refine cut23u (x := netB) (y := netE) (ee := 0) (z1 := b1) (s1 := t1) (z2 := b2) (s2 := t2) (z3 := b3) (s3 := t3) hB (by decide) (.inr (.inr ⟨wfB, rfl, rfl, rfl⟩)) (fun e1 w1 e2 w2 e3 w3 hE => ?_)
  simp -implicitDefEqProofs [r13, netA, netB, netC, netD, netE, zeroN, zeroL, Letter.c, Link.c, rue, wrC, readC, -List.getD_eq_getElem?_getD, ru, ruc, rud, laid]
  refine cut23u (x := netE) (y := zN) (ee := 5) (z1 := e1) (s1 := w1) (z2 := e2) (s2 := w2) (z3 := e3) (s3 := w3) hE (by decide) (.inr (.inl ⟨wfE, by decide, rfl, rfl⟩)) (fun e4 w4 e5 w5 e6 w6 hE2 => ?_)
  simp -implicitDefEqProofs [r13, netA, netB, netC, netD, netE, zN, zeroN, zeroL, Letter.c, Link.c, rue, wrC, readC, -List.getD_eq_getElem?_getD, ru, ruc, rud, laid]
  refine ready16 (x := netE) (z1 := e1) (s1 := w1) (z2 := e2) (s2 := w2) (z3 := e3) (s3 := w3) hE (by decide) (fun hn => absurd wfE hn) (fun _ y1 x1 hr => ?_)
  have hr0 : readyTo netE netE.way.length = [] := rfl
  rw [hr0] at hr ⊢
  simp -implicitDefEqProofs [r13, netA, netB, netC, netD, netE, zeroN, zeroL, Letter.c, Link.c, rue, wrC, readC, -List.getD_eq_getElem?_getD, ru, ruc, rud, laid]
  refine set27g (x := netA) (z1 := true) (s1 := 0) (z2 := true) (s2 := 0) (z3 := true) (s3 := 0) (nd := 1) (tg := 7) (n := 2) (Nk.of (by simp [netA])) (by decide) (fun hn => absurd wfA hn) (fun _ he => absurd rfl he) (fun _ _ f1 g1 f2 g2 f3 g3 hF => ?_)
  rw [show setG netA 1 7 2 = netF from rfl] at hF ⊢
  simp -implicitDefEqProofs [r13, netA, netB, netC, netD, netE, netF, zeroN, zeroL, Letter.c, Link.c, Timer.c, rue, wrC, readC, -List.getD_eq_getElem?_getD, ru, ruc, rud, laid]
  refine tick31 (x := netF) (z1 := f1) (s1 := g1) (z2 := f2) (s2 := g2) (z3 := f3) (s3 := g3) hF (by decide) (fun hn => absurd wfF hn) (fun _ he => absurd he (by decide)) (fun _ _ k hk1 hk2 hk3 i1 j1 i2 j2 i3 j3 hG => ?_)
  obtain rfl : k = 0 := by
    have h6 : k ≤ 1 := hk1
    rcases Nat.lt_or_ge k 1 with h8 | h8
    · omega
    · obtain rfl : k = 1 := by omega
      have := hk2 ⟨2, 1, 7⟩ (by simp [netF])
      simp [netF] at this
  rw [show tickTo netF 0 = netG from rfl] at hG ⊢
  rw [show accU 3 Timer.c (netF.timers.take 0) = .sl true 0 [] .no from rfl]
  simp -implicitDefEqProofs [r13, netA, netB, netC, netD, netE, netF, netG, zeroN, zeroL, Letter.c, Link.c, Timer.c, rue, wrC, readC, -List.getD_eq_getElem?_getD, ru, ruc, rud, laid]
  refine tick31 (x := netG) (z1 := i1) (s1 := j1) (z2 := i2) (s2 := j2) (z3 := i3) (s3 := j3) hG (by decide) (fun hn => absurd wfG hn) (fun _ he => absurd he (by decide)) (fun _ _ k hk1 hk2 hk3 k1 l1 k2 l2 k3 l3 hH => ?_)
  obtain rfl : k = 1 := by
    have h6 : k ≤ 1 := hk1
    rcases Nat.lt_or_ge k 1 with h8 | h8
    · obtain rfl : k = 0 := by omega
      exact absurd rfl (hk3 Nat.one_pos)
    · omega
  rw [show tickTo netG 1 = netH from rfl] at hH ⊢
  rw [show accU 3 Timer.c (netG.timers.take 1) = .sl false 3 [[.int .i64 2, .int .i64 1, .int .i64 7]] .no from rfl]
  simp -implicitDefEqProofs [r13, netA, netB, netC, netD, netE, netF, netG, netH, zeroN, zeroL, Letter.c, Link.c, Timer.c, rue, wrC, readC, -List.getD_eq_getElem?_getD, ru, ruc, rud, laid]
  refine send42 (x := netA) (z1 := true) (s1 := 0) (z2 := true) (s2 := 0) (z3 := true) (s3 := 0) (Nk.of (by simp [netA])) (by decide) (fun hn => absurd wfA hn) (fun _ _ => ?_) (fun _ he => absurd he (by decide))
  rw [show sendE netA 1 1 [] = 1 from rfl]
  simp -implicitDefEqProofs [r13, netA, netB, netC, netD, netE, netF, netG, netH, zeroN, zeroL, Letter.c, Link.c, Timer.c, rue, wrC, readC, -List.getD_eq_getElem?_getD, ru, ruc, rud, laid]
  rw [bld53a]
  simp -implicitDefEqProofs [r13, rue, wrC, readC, -List.getD_eq_getElem?_getD, ru, ruc, rud, laid]
  rw [bld53b]
  simp -implicitDefEqProofs [r13, rue, wrC, readC, -List.getD_eq_getElem?_getD, ru, ruc, rud, laid]
  rw [bld53c]
  simp -implicitDefEqProofs [r13, rue, wrC, readC, -List.getD_eq_getElem?_getD, ru, ruc, rud, laid]
  refine Eq.mpr (bsl46q3 (a := ⟨1, 0, 1, 0, []⟩) (b := ⟨4, 0, 0, 0, []⟩) (c := ⟨2, 0, 0, 1, []⟩)) ?_
  simp -implicitDefEqProofs [r13, Act.c, rue, wrC, readC, -List.getD_eq_getElem?_getD, ru, ruc, rud, laid]
  refine play22g (n := 2) (acts := actsS) (za := false) (sa := 5) (ta := .full) ⟨by decide, fun _ => rfl⟩ (.inr rfl) (by decide) (fun he => absurd he (by decide)) (fun _ m1 n1 m2 n2 m3 n3 hM => ?_)
  rw [show playX stepF 2 actsS = netJ from rfl]
  rw [show playL stepF 2 actsS = [⟨⟨1, 0, 1, 0, []⟩, 0, 0, letS, []⟩, ⟨⟨4, 0, 0, 0, []⟩, 0, 0, letS, []⟩, ⟨⟨2, 0, 0, 1, []⟩, 0, 0, letS, []⟩] from rfl]
  rw [show ∀ (a b c : Seen), accU 13 Seen.c [a, b, c] = .sl false 13 [Seen.c a, Seen.c b, Seen.c c] .no from fun _ _ _ => rfl]
  simp -implicitDefEqProofs [r13, netA, netB, netC, netD, netE, netF, netG, netH, netJ, zeroN, zeroL, Letter.c, Link.c, Timer.c, T86, rue, wrC, readC, -List.getD_eq_getElem?_getD, ru, ruc, rud, laid]
  refine Eq.mpr (eqt86 (a := ⟨2, 1, 7⟩) (b := ⟨2, 1, 7⟩)) ?_
  simp -implicitDefEqProofs [r13, rue, wrC, readC, -List.getD_eq_getElem?_getD, ru, ruc, rud, laid]
  exact hK
end
end Go.Ab
end
section
/- Plain laws: what becomes of the letters. -/
set_option linter.unusedSimpArgs false
set_option linter.unusedVariables false
set_option maxRecDepth 100000
set_option maxHeartbeats 4000000
namespace Go.Ab

structure Acc where
  (inn out : Int)
  deriving DecidableEq
def Acc.c (a : Acc) : List AV := [.int .i64 a.inn, .int .i64 a.out]
def nOf (k : Nat) (l : List Letter) : Nat := l.countP fun m => decide (m.id = (k : Int))
def same3 (m l : Letter) : Prop := m.fr = l.fr ∧ m.to = l.to ∧ m.data = l.data
/-- What holds behind some acts. -/
structure CI (N : Nat) (X : Net) (sent : List Letter) (all : List Acc) : Prop where
  wf : WF X
  next : X.next = sent.length
  alen : all.length = sent.length
  way : ∀ m ∈ X.way, ∃ k, ∃ hk : k < sent.length, m.id = (k : Int) ∧ same3 m sent[k]
  cnt : ∀ k (hk : k < all.length), all[k].inn = all[k].out + nOf k X.way
  bnd : ∀ k (hk : k < all.length), 0 ≤ all[k].out ∧ all[k].out ≤ N ∧ all[k].inn ≤ N + 1
  few : sent.length ≤ N

section
variable {N : Nat} {X : Net} {sent : List Letter} {all : List Acc} {a : Act}
theorem CI.zero {n : Int} (h : 1 ≤ n ∧ n ≤ 16) : CI 0 (zeroNet n) [] [] := ⟨WF.zero h, rfl, rfl, by simp [zeroNet], fun k hk => by simp at hk, fun k hk => by simp at hk, by simp⟩
theorem CI.skip (c : CI N X sent all) {Y : Net} (wy : WF Y) (h1 : Y.next = X.next) (h2 : Y.way = X.way) : CI (N + 1) Y sent all :=
  ⟨wy, by rw [h1]; exact c.next, c.alen, by rw [h2]; exact c.way, by rw [h2]; exact c.cnt, fun k hk => by have := c.bnd k hk; omega, by have := c.few; omega⟩
theorem nOf_app {k : Nat} {l : List Letter} {m : Letter} : nOf k (l ++ [m]) = nOf k l + if m.id = (k : Int) then 1 else 0 := by
  unfold nOf
  rw [List.countP_append, List.countP_cons, List.countP_nil]
  simp
theorem nOf_erase {k : Nat} : ∀ {l : List Letter} {i : Nat} (hi : i < l.length), nOf k l = nOf k (l.eraseIdx i) + if l[i].id = (k : Int) then 1 else 0
  | m :: l, 0, _ => by simp [nOf, List.countP_cons]
  | m :: l, i + 1, hi => by
    have := nOf_erase (k := k) (l := l) (i := i) (by simpa using hi)
    simp only [nOf, List.eraseIdx_cons_succ, List.countP_cons, List.getElem_cons_succ] at this ⊢
    omega
theorem nOf_set {k : Nat} {v : Int} : ∀ {l : List Letter} {i : Nat} (hi : i < l.length), nOf k (l.set i (setRdy l[i] v)) = nOf k l
  | m :: l, 0, _ => by simp [nOf, List.countP_cons, setRdy]
  | m :: l, i + 1, hi => by
    have := nOf_set (k := k) (v := v) (l := l) (i := i) (by simpa using hi)
    simp only [nOf, List.set_cons_succ, List.countP_cons, List.getElem_cons_succ] at this ⊢
    omega
theorem nOf_none {l : List Letter} {n : Nat} (h : ∀ m ∈ l, ∃ k, k < n ∧ m.id = (k : Int)) : nOf n l = 0 := by
  unfold nOf
  rw [List.countP_eq_zero]
  intro m hm
  obtain ⟨k, h1, h2⟩ := h m hm
  simp
  omega
theorem CI.send (c : CI N X sent all) (h : sendE X a.a a.b a.data = 0) : CI (N + 1) (sendX X a.a a.b a.data) (sent ++ [sendL X a.a a.b a.data]) (all ++ [⟨1, 0⟩]) := by
  have hn := c.next
  have hal := c.alen
  refine ⟨c.wf.send h, ?_, by simp [hal], fun m hm => ?_, fun k hk => ?_, fun k hk => ?_, by simp; exact c.few⟩
  · simp only [sendX, List.length_append, List.length_singleton]
    omega
  · simp only [sendX, List.mem_append, List.mem_singleton] at hm
    rcases hm with hm | rfl
    · obtain ⟨k, hk, h1, h2⟩ := c.way m hm
      exact ⟨k, by simp; omega, h1, by rw [List.getElem_append_left hk]; exact h2⟩
    · refine ⟨sent.length, by simp, by simp only [sendL]; exact hn, ?_⟩
      rw [List.getElem_append_right (Nat.le_refl _)]
      simp [same3]
  · simp only [sendX, nOf_app]
    rcases Nat.lt_or_ge k all.length with h1 | h1
    · rw [List.getElem_append_left h1, if_neg (by simp only [sendL]; omega)]
      have := c.cnt k h1
      simpa using this
    · have e : k = all.length := by simp at hk; omega
      subst e
      rw [List.getElem_append_right (Nat.le_refl _), if_pos (by simp only [sendL]; omega), nOf_none (n := all.length) (fun m hm => ?_)]
      · simp
      · obtain ⟨k, hk, h1, _⟩ := c.way m hm
        exact ⟨k, by omega, h1⟩
  · rcases Nat.lt_or_ge k all.length with h1 | h1
    · rw [List.getElem_append_left h1]
      have := c.bnd k h1
      omega
    · have e : k = all.length := by simp at hk; omega
      subst e
      rw [List.getElem_append_right (Nat.le_refl _)]
      simp
      omega
theorem CI.take (c : CI N X sent all) {i : Nat} (hi : i < X.way.length) : ∃ k, ∃ hk : k < sent.length, ∃ hk2 : k < all.length, X.way[i].id = (k : Int) ∧ same3 X.way[i] sent[k] ∧ all[k].out + 1 ≤ all[k].inn ∧
    CI (N + 1) { X with way := X.way.eraseIdx i } sent (all.set k ⟨all[k].inn, all[k].out + 1⟩) := by
  obtain ⟨k, hk, h1, h2⟩ := c.way _ (List.getElem_mem hi)
  have hal := c.alen
  have hk2 : k < all.length := by omega
  have he := nOf_erase (k := k) (i := i) hi
  rw [if_pos h1] at he
  have hc := c.cnt k hk2
  have wl : WF { X with way := X.way.eraseIdx i } := by
    have := c.wf.lose (i := (i : Int))
    simpa [loseG] using this
  refine ⟨k, hk, hk2, h1, h2, by omega, wl, c.next, by simpa using hal, fun m hm => c.way m (List.mem_of_mem_eraseIdx hm), fun j hj => ?_, fun j hj => ?_, by have := c.few; omega⟩
  · have hj2 : j < all.length := by simpa using hj
    simp only [List.getElem_set]
    by_cases e : k = j
    · subst e
      rw [if_pos rfl]
      (try simp only)
      omega
    · rw [if_neg e]
      have h3 := nOf_erase (k := j) (i := i) hi
      rw [if_neg (by omega)] at h3
      have := c.cnt j hj2
      (try simp only at h3 ⊢)
      omega
  · have hj2 : j < all.length := by simpa using hj
    simp only [List.getElem_set]
    have := c.bnd j hj2
    have := c.bnd k hk2
    split <;> (try simp only) <;> omega
theorem CI.more (c : CI N X sent all) {i : Nat} (hi : i < X.way.length) (hl : X.way.length ≠ 200) : ∃ k, ∃ hk : k < sent.length, ∃ hk2 : k < all.length, X.way[i].id = (k : Int) ∧ same3 X.way[i] sent[k] ∧ all[k].out ≤ all[k].inn + 1 ∧
    CI (N + 1) { X with way := X.way ++ [X.way[i]] } sent (all.set k ⟨all[k].inn + 1, all[k].out⟩) := by
  obtain ⟨k, hk, h1, h2⟩ := c.way _ (List.getElem_mem hi)
  have hal := c.alen
  have hk2 : k < all.length := by omega
  have hc := c.cnt k hk2
  have wl : WF { X with way := X.way ++ [X.way[i]] } := by
    have := c.wf.double (i := (i : Int)) (by unfold doubleE; rw [if_neg (fun h => h ⟨by omega, by omega⟩), if_neg hl])
    simpa [doubleG, atL_eq hi] using this
  refine ⟨k, hk, hk2, h1, h2, by omega, wl, c.next, by simpa using hal, fun m hm => ?_, fun j hj => ?_, fun j hj => ?_, by have := c.few; omega⟩
  · rcases List.mem_append.1 hm with hm | hm
    · exact c.way m hm
    · rw [List.mem_singleton.1 hm]
      exact ⟨k, hk, h1, h2⟩
  · have hj2 : j < all.length := by simpa using hj
    simp only [List.getElem_set, nOf_app]
    have h4 := c.cnt j hj2
    by_cases e : k = j
    · subst e
      rw [if_pos rfl, if_pos h1]
      (try simp only)
      omega
    · rw [if_neg e, if_neg (by omega)]
      omega
  · have hj2 : j < all.length := by simpa using hj
    simp only [List.getElem_set]
    have := c.bnd j hj2
    have := c.bnd k hk2
    split <;> (try simp only) <;> omega
theorem CI.late (c : CI N X sent all) {i : Nat} {d : Int} (hi : i < X.way.length) (h : delayE X i d = 0) : ∃ k, ∃ hk : k < sent.length, ∃ hk2 : k < all.length, X.way[i].id = (k : Int) ∧ same3 X.way[i] sent[k] ∧ all[k].out ≤ all[k].inn ∧
    CI (N + 1) { X with way := X.way.set i (setRdy X.way[i] (X.now + d)) } sent all := by
  obtain ⟨k, hk, h1, h2⟩ := c.way _ (List.getElem_mem hi)
  have hal := c.alen
  have hk2 : k < all.length := by omega
  have hc := c.cnt k hk2
  have wl : WF { X with way := X.way.set i (setRdy X.way[i] (X.now + d)) } := by
    have := c.wf.delay h
    simpa [delayG, atL_eq hi] using this
  refine ⟨k, hk, hk2, h1, h2, by omega, wl, c.next, hal, fun m hm => ?_, fun j hj => ?_, fun j hj => ?_, by have := c.few; omega⟩
  · rcases List.mem_or_eq_of_mem_set hm with hm | rfl
    · exact c.way m hm
    · exact ⟨k, hk, h1, h2⟩
  · simp only [nOf_set hi]
    exact c.cnt j hj
  · have := c.bnd j hj
    omega

theorem seen_a {r : StepR} {x : Net} {a : Act} : (seenOf r x a).a = a := by unfold seenOf; split <;> rfl
/-- What an act leads to. -/
theorem CI.stepC (c : CI N X sent all) (a : Act) : ∃ sent' all', CI (N + 1) (afterX (stepF X a) X) sent' all' ∧
    ((((seenOf (stepF X a) X a).e ≠ 0 ∨ a.k < 1 ∨ 5 < a.k) ∧ sent' = sent ∧ all' = all) ∨
     ((seenOf (stepF X a) X a).e = 0 ∧ a.k = 1 ∧ (seenOf (stepF X a) X a).l.id = sent.length ∧ (seenOf (stepF X a) X a).l.fr = a.a ∧ (seenOf (stepF X a) X a).l.to = a.b ∧ (seenOf (stepF X a) X a).l.data = a.data ∧ (seenOf (stepF X a) X a).l.rdy = (seenOf (stepF X a) X a).now ∧ sent' = sent ++ [(seenOf (stepF X a) X a).l] ∧ all' = all ++ [⟨1, 0⟩]) ∨
     ((seenOf (stepF X a) X a).e = 0 ∧ 2 ≤ a.k ∧ a.k ≤ 5 ∧ sent' = sent ∧ ∃ k, ∃ hk : k < sent.length, ∃ hk2 : k < all.length, (seenOf (stepF X a) X a).l.id = (k : Int) ∧ same3 (seenOf (stepF X a) X a).l sent[k] ∧ (a.k = 2 → (seenOf (stepF X a) X a).l.rdy ≤ (seenOf (stepF X a) X a).now) ∧
       ((a.k = 4 ∧ all' = all.set k ⟨all[k].inn + 1, all[k].out⟩ ∧ all[k].out ≤ all[k].inn + 1) ∨ (a.k = 5 ∧ all' = all ∧ all[k].out ≤ all[k].inn) ∨ ((a.k = 2 ∨ a.k = 3) ∧ all' = all.set k ⟨all[k].inn, all[k].out + 1⟩ ∧ all[k].out + 1 ≤ all[k].inn)))) := by
  by_cases he : (stepF X a).e = 0
  · have hs : seenOf (stepF X a) X a = ⟨a, 0, (stepF X a).x.now, (stepF X a).l, (stepF X a).ts⟩ := if_pos he
    have hx : afterX (stepF X a) X = (stepF X a).x := if_pos he
    rw [hs, hx]
    by_cases h1 : a.k = 1
    · have e : stepF X a = ⟨sendE X a.a a.b a.data, sendX X a.a a.b a.data, sendL X a.a a.b a.data, []⟩ := by simp [stepF, h1]
      rw [e] at he ⊢
      exact ⟨_, _, c.send he, .inr (.inl ⟨rfl, h1, c.next, rfl, rfl, rfl, rfl, rfl, rfl⟩)⟩
    by_cases h2 : a.k = 2
    · have e : stepF X a = ⟨deliverE X a.n, loseG X a.n, atL X a.n, []⟩ := by simp [stepF, h2]
      rw [e] at he ⊢
      simp only at he ⊢
      unfold deliverE at he
      split at he
      · cases he
      rename_i hat
      have hat' : atOk X a.n := by simpa using hat
      split at he
      · rename_i hcan
        obtain ⟨i, hi⟩ := Int.eq_ofNat_of_zero_le hat'.1
        have hlt : i < X.way.length := by have := hat'.2; omega
        obtain ⟨k, hk, hk2, g1, g2, g3, g4⟩ := c.take hlt
        have ea : atL X a.n = X.way[i] := by rw [hi]; exact atL_eq hlt
        have eg : loseG X a.n = { X with way := X.way.eraseIdx i } := by rw [hi]; simp [loseG]
        rw [ea] at hcan ⊢
        rw [eg]
        simp only [canX, Bool.and_eq_true, decide_eq_true_eq] at hcan
        exact ⟨_, _, g4, .inr (.inr ⟨by first | trivial | rfl, by omega, by omega, rfl, k, hk, hk2, g1, g2, fun _ => hcan.1, .inr (.inr ⟨.inl h2, rfl, g3⟩)⟩)⟩
      · cases he
    by_cases h3 : a.k = 3
    · have e : stepF X a = ⟨loseE X a.n, loseG X a.n, atL X a.n, []⟩ := by simp [stepF, h3]
      rw [e] at he ⊢
      simp only at he ⊢
      unfold loseE at he
      split at he
      · cases he
      rename_i hat
      have hat' : atOk X a.n := by simpa using hat
      obtain ⟨i, hi⟩ := Int.eq_ofNat_of_zero_le hat'.1
      have hlt : i < X.way.length := by have := hat'.2; omega
      obtain ⟨k, hk, hk2, g1, g2, g3, g4⟩ := c.take hlt
      have ea : atL X a.n = X.way[i] := by rw [hi]; exact atL_eq hlt
      have eg : loseG X a.n = { X with way := X.way.eraseIdx i } := by rw [hi]; simp [loseG]
      rw [ea, eg]
      exact ⟨_, _, g4, .inr (.inr ⟨by first | trivial | rfl, by omega, by omega, rfl, k, hk, hk2, g1, g2, fun h => by omega, .inr (.inr ⟨.inr h3, rfl, g3⟩)⟩)⟩
    by_cases h4 : a.k = 4
    · have e : stepF X a = ⟨doubleE X a.n, doubleG X a.n, atL X a.n, []⟩ := by simp [stepF, h4]
      rw [e] at he ⊢
      simp only at he ⊢
      unfold doubleE at he
      split at he
      · cases he
      rename_i hat
      have hat' : atOk X a.n := by simpa using hat
      split at he
      · cases he
      rename_i hfull
      obtain ⟨i, hi⟩ := Int.eq_ofNat_of_zero_le hat'.1
      have hlt : i < X.way.length := by have := hat'.2; omega
      obtain ⟨k, hk, hk2, g1, g2, g3, g4⟩ := c.more hlt hfull
      have ea : atL X a.n = X.way[i] := by rw [hi]; exact atL_eq hlt
      have eg : doubleG X a.n = { X with way := X.way ++ [X.way[i]] } := by unfold doubleG; rw [ea]
      rw [ea, eg]
      exact ⟨_, _, g4, .inr (.inr ⟨by first | trivial | rfl, by omega, by omega, rfl, k, hk, hk2, g1, g2, fun h => by omega, .inl ⟨h4, rfl, g3⟩⟩)⟩
    by_cases h5 : a.k = 5
    · have e : stepF X a = ⟨delayE X a.n a.b, delayG X a.n a.b, setRdy (atL X a.n) (X.now + a.b), []⟩ := by simp [stepF, h5]
      rw [e] at he ⊢
      simp only at he ⊢
      have he2 := he
      unfold delayE at he2
      split at he2
      · cases he2
      rename_i hat
      have hat' : atOk X a.n := by simpa using hat
      obtain ⟨i, hi⟩ := Int.eq_ofNat_of_zero_le hat'.1
      have hlt : i < X.way.length := by have := hat'.2; omega
      obtain ⟨k, hk, hk2, g1, g2, g3, g4⟩ := c.late hlt (by rw [← hi]; exact he)
      have ea : atL X a.n = X.way[i] := by rw [hi]; exact atL_eq hlt
      have eg : delayG X a.n a.b = { X with way := X.way.set i (setRdy X.way[i] (X.now + a.b)) } := by unfold delayG; rw [ea, hi]; rfl
      rw [ea, eg]
      exact ⟨_, _, g4, .inr (.inr ⟨by first | trivial | rfl, by omega, by omega, rfl, k, hk, hk2, g1, g2, fun h => by omega, .inr (.inl ⟨h5, rfl, g3⟩)⟩)⟩
    · have hw := c.wf.step he
      have hkeep : (stepF X a).x.next = X.next ∧ (stepF X a).x.way = X.way := by
        unfold stepF
        rw [if_neg h1, if_neg h2, if_neg h3, if_neg h4, if_neg h5]
        split
        · exact ⟨rfl, rfl⟩
        split
        · exact ⟨rfl, rfl⟩
        split
        · exact ⟨rfl, rfl⟩
        split
        · exact ⟨rfl, rfl⟩
        split
        · exact ⟨rfl, rfl⟩
        · exact ⟨rfl, rfl⟩
      exact ⟨_, _, c.skip hw hkeep.1 hkeep.2, .inl ⟨.inr (by omega), rfl, rfl⟩⟩
  · have hs : (seenOf (stepF X a) X a).e ≠ 0 := by unfold seenOf; rw [if_neg he]; exact he
    have hx : afterX (stepF X a) X = X := if_neg he
    rw [hx]
    exact ⟨_, _, c.skip c.wf rfl rfl, .inl ⟨.inl hs, rfl, rfl⟩⟩
end
/-- What holds while the letters that are left are counted. -/
structure FI (X : Net) (all : List Acc) (j : Nat) (al : List Acc) : Prop where
  len : al.length = all.length
  inn : ∀ k (h1 : k < al.length) (h2 : k < all.length), al[k].inn = all[k].inn
  out : ∀ k (h1 : k < al.length) (h2 : k < all.length), al[k].out = all[k].out + nOf k (X.way.take j)
section
variable {N j : Nat} {X : Net} {sent : List Letter} {all al : List Acc}
theorem FI.zero : FI X all 0 all := ⟨rfl, fun _ _ _ => rfl, fun k _ _ => by simp [nOf]⟩
theorem nOf_le {k : Nat} {l : List Letter} : nOf k l ≤ l.length := List.countP_le_length ..
theorem FI.next (f : FI X all j al) {k : Nat} (hk : k < al.length) (hj : j < X.way.length) (hm : X.way[j].id = (k : Int)) : FI X all (j + 1) (al.set k ⟨al[k].inn, al[k].out + 1⟩) := by
  have ht : X.way.take (j + 1) = X.way.take j ++ [X.way[j]] := by rw [List.take_add_one, List.getElem?_eq_getElem hj]; rfl
  refine ⟨by rw [List.length_set]; exact f.len, fun i h1 h2 => ?_, fun i h1 h2 => ?_⟩
  · rw [List.length_set] at h1
    rw [List.getElem_set]
    split
    · rename_i e; subst e; exact f.inn k h1 h2
    · exact f.inn i h1 h2
  · rw [List.length_set] at h1
    rw [List.getElem_set, ht, nOf_app]
    have h3 := f.out i h1 h2
    split
    · rename_i e
      subst e
      rw [if_pos hm]
      simp only
      omega
    · rename_i e
      rw [if_neg (by omega)]
      omega
theorem FI.last (f : FI X all X.way.length al) (c : CI N X sent all) {k : Nat} (hk : k < al.length) : al[k].inn = al[k].out := by
  have h2 : k < all.length := by rw [← f.len]; exact hk
  have h3 := f.inn k hk h2
  have h4 := f.out k hk h2
  have h5 := c.cnt k h2
  rw [List.take_length] at h4
  omega
theorem FI.bnd (f : FI X all j al) (c : CI N X sent all) {k : Nat} (hk : k < al.length) (hN : N ≤ 300) : 0 ≤ al[k].out ∧ al[k].out ≤ 1000 := by
  have h2 : k < all.length := by rw [← f.len]; exact hk
  have h4 := f.out k hk h2
  have h5 := c.bnd k h2
  have h6 := nOf_le (k := k) (l := X.way.take j)
  have h7 : (X.way.take j).length ≤ X.way.length := List.length_take_le' ..
  have h8 := c.wf.fl
  omega
end
end Go.Ab
end
section
/- The program's functions as lists of items. -/
set_option maxRecDepth 100000
namespace Go.Ab
section
variable {C : CX} {d : AV} {l : List (Nat × AV)} {bx bx' : List (List AV)} {h h' : List AObj} {s : ASt} {K : Exit → ASt → Prop}
noncomputable def b4q2 : List It := [.o (some 291) (.mv (.t 15)) none, .o (some 292) (.mv (.t 9)) none, .o (some 293) (.lens (.t 292)) none, .o (some 294) (.ar .lss (.t 291) (.t 293)) none, .cond (.tmp 294) [] [.exit 5], .block 6 [.rf (rg (bodyOf Go.Proofs.Try.f4) 5), .cond (.tmp 307) [.o (some 4) (.tk (.const (.bool false))) none, .ret] []], .o (some 295) (.mv (.t 15)) none, .o (some 296) (.ar .add (.t 295) (.c (.int .i64 1))) none, .o (some 15) (.tk (.tmp 296)) none]
noncomputable def b4q1 : List It := [.o (some 227) (.mv (.t 13)) none, .o (some 228) (.fa 3 (.t 5)) none, .o (some 229) (.ld1 (.slice 33) (.t 228)) none, .o (some 230) (.lens (.t 229)) none, .o (some 231) (.ar .lss (.t 227) (.t 230)) none, .cond (.tmp 231) [] [.exit 3], .block 4 [.o (some 234) (.fa 3 (.t 5)) none, .o (some 235) (.ld1 (.slice 33) (.t 234)) none, .o (some 236) (.mv (.t 13)) none, .o (some 237) (.ixs 5 [.int .i64, .int .i64, .int .i64, .int .i64, .str] (.t 235) (.t 236)) none, .o (some 238) (.ldA 5 [.int .i64, .int .i64, .int .i64, .int .i64, .str] (.t 237)) none, .o (some 14) (.alloc false [.int .i64 0, .int .i64 0, .int .i64 0, .int .i64 0, .str []]) none, .o none (.st 5 (.t 14) (.tmp 238)) none, .rf (rg (bodyOf Go.Proofs.Try.f4) 4), .cond (.tmp 281) [.o (some 4) (.tk (.const (.bool false))) none, .ret] [], .o (some 282) (.mv (.t 9)) none, .o (some 283) (.fa 0 (.t 14)) none, .o (some 284) (.ld1 (.int .i64) (.t 283)) none, .o (some 285) (.ixs 2 [.int .i64, .int .i64] (.t 282) (.t 284)) none, .o (some 286) (.fa 1 (.t 285)) none, .o (some 287) (.ld1 (.int .i64) (.t 286)) none, .o (some 288) (.ar .add (.t 287) (.c (.int .i64 1))) none, .o (some 289) (.ixs 2 [.int .i64, .int .i64] (.t 282) (.t 284)) none, .o (some 290) (.fa 1 (.t 289)) none, .o none (.st 1 (.t 290) (.tmp 288)) none], .o (some 232) (.mv (.t 13)) none, .o (some 233) (.ar .add (.t 232) (.c (.int .i64 1))) none, .o (some 13) (.tk (.tmp 233)) none]
noncomputable def b4q0 : List It := [.o (some 43) (.mv (.t 10)) none, .o (some 44) (.mv (.t 6)) none, .o (some 45) (.lens (.t 44)) none, .o (some 46) (.ar .lss (.t 43) (.t 45)) none, .cond (.tmp 46) [] [.exit 0], .block 1 [.o (some 49) (.mv (.t 6)) none, .o (some 50) (.mv (.t 10)) none, .o (some 51) (.ixs 13 [.other, .other, .other, .other, .other, .int .i64, .int .i64, .other, .other, .other, .other, .other, .slice 86] (.t 49) (.t 50)) none, .o (some 52) (.fa 0 (.t 51)) none, .o (some 53) (.fa 0 (.t 52)) none, .o (some 54) (.ld1 (.int .i64) (.t 53)) none, .o (some 11) (.tk (.tmp 54)) none, .o (some 55) (.mv (.t 6)) none, .o (some 56) (.mv (.t 10)) none, .o (some 57) (.ixs 13 [.other, .other, .other, .other, .other, .int .i64, .int .i64, .other, .other, .other, .other, .other, .slice 86] (.t 55) (.t 56)) none, .o (some 58) (.fa 7 (.t 57)) none, .o (some 59) (.ldA 5 [.int .i64, .int .i64, .int .i64, .int .i64, .str] (.t 58)) none, .o (some 12) (.alloc false [.int .i64 0, .int .i64 0, .int .i64 0, .int .i64 0, .str []]) none, .o none (.st 5 (.t 12) (.tmp 59)) none, .o (some 60) (.mv (.t 6)) none, .o (some 61) (.mv (.t 10)) none, .o (some 62) (.ixs 13 [.other, .other, .other, .other, .other, .int .i64, .int .i64, .other, .other, .other, .other, .other, .slice 86] (.t 60) (.t 61)) none, .o (some 63) (.fa 5 (.t 62)) none, .o (some 64) (.ld1 (.int .i64) (.t 63)) none, .o (some 65) (.eq1 (.int .i64) true (.t 64) (.c (.int .i64 0))) none, .o (some 66) (.mv (.t 65)) none, .o (some 67) (.mv (.t 11)) (some (some 66, false)), .o (some 68) (.ar .lss (.t 67) (.c (.int .i64 1))) (some (some 66, false)), .o (some 69) (.pick (.t 66) (.c (.bool true)) (.t 68)) none, .o (some 70) (.mv (.t 69)) none, .o (some 71) (.mv (.t 11)) (some (some 70, false)), .o (some 72) (.ar .gtr (.t 71) (.c (.int .i64 5))) (some (some 70, false)), .o (some 73) (.pick (.t 70) (.c (.bool true)) (.t 72)) none, .cond (.tmp 73) [.exit 1] [], .o (some 74) (.mv (.t 11)) none, .o (some 75) (.eq1 (.int .i64) false (.t 74) (.c (.int .i64 1))) none, .cond (.tmp 75) [.rf (rg (bodyOf Go.Proofs.Try.f4) 0), .cond (.tmp 120) [.o (some 4) (.tk (.const (.bool false))) none, .ret] [], .o (some 121) (.tk (.tmp 8)) none, .o (some 122) (.ldA 5 [.int .i64, .int .i64, .int .i64, .int .i64, .str] (.t 12)) none, .o (some 123) (.bsl false 22 1 [(0, .t 122)]) none, .o (some 124) (.app false 22 22 (.tmp 121) (.tmp 123)) none, .o (some 8) (.tk (.tmp 124)) none, .o (some 125) (.mv (.t 9)) none, .o (some 126) (.bld 57 [(0, .c (.int .i64 1))]) none, .o (some 127) (.bsl false 51 1 [(0, .t 126)]) none, .o (some 128) (.app true 51 51 (.tmp 125) (.tmp 127)) none, .o (some 9) (.tk (.tmp 128)) none, .exit 1] [], .rf (rg (bodyOf Go.Proofs.Try.f4) 1), .cond (.tmp 171) [.o (some 4) (.tk (.const (.bool false))) none, .ret] [], .o (some 172) (.mv (.t 11)) none, .block 2 [.o (some 174) (.eq1 (.int .i64) false (.t 172) (.c (.int .i64 4))) none, .o (some 173) (.tk (.tmp 174)) none, .cond (.tmp 173) [.o (some 175) (.mv (.t 9)) none, .o (some 176) (.fa 0 (.t 12)) none, .o (some 177) (.ld1 (.int .i64) (.t 176)) none, .o (some 178) (.ixs 2 [.int .i64, .int .i64] (.t 175) (.t 177)) none, .o (some 179) (.fa 0 (.t 178)) none, .o (some 180) (.ld1 (.int .i64) (.t 179)) none, .o (some 181) (.ar .add (.t 180) (.c (.int .i64 1))) none, .o (some 182) (.ixs 2 [.int .i64, .int .i64] (.t 175) (.t 177)) none, .o (some 183) (.fa 0 (.t 182)) none, .o none (.st 1 (.t 183) (.tmp 181)) none] [.o (some 185) (.eq1 (.int .i64) false (.t 172) (.c (.int .i64 2))) none, .o (some 184) (.tk (.tmp 185)) none, .cond (.tmp 184) [.rf (rg (bodyOf Go.Proofs.Try.f4) 2), .cond (.tmp 193) [.o (some 4) (.tk (.const (.bool false))) none, .ret] [], .o (some 194) (.mv (.t 9)) none, .o (some 195) (.fa 0 (.t 12)) none, .o (some 196) (.ld1 (.int .i64) (.t 195)) none, .o (some 197) (.ixs 2 [.int .i64, .int .i64] (.t 194) (.t 196)) none, .o (some 198) (.fa 1 (.t 197)) none, .o (some 199) (.ld1 (.int .i64) (.t 198)) none, .o (some 200) (.ar .add (.t 199) (.c (.int .i64 1))) none, .o (some 201) (.ixs 2 [.int .i64, .int .i64] (.t 194) (.t 196)) none, .o (some 202) (.fa 1 (.t 201)) none, .o none (.st 1 (.t 202) (.tmp 200)) none] [.o (some 204) (.eq1 (.int .i64) false (.t 172) (.c (.int .i64 3))) none, .o (some 203) (.tk (.tmp 204)) none, .cond (.tmp 203) [.o (some 205) (.mv (.t 9)) none, .o (some 206) (.fa 0 (.t 12)) none, .o (some 207) (.ld1 (.int .i64) (.t 206)) none, .o (some 208) (.ixs 2 [.int .i64, .int .i64] (.t 205) (.t 207)) none, .o (some 209) (.fa 1 (.t 208)) none, .o (some 210) (.ld1 (.int .i64) (.t 209)) none, .o (some 211) (.ar .add (.t 210) (.c (.int .i64 1))) none, .o (some 212) (.ixs 2 [.int .i64, .int .i64] (.t 205) (.t 207)) none, .o (some 213) (.fa 1 (.t 212)) none, .o none (.st 1 (.t 213) (.tmp 211)) none] []]]], .rf (rg (bodyOf Go.Proofs.Try.f4) 3), .cond (.tmp 226) [.o (some 4) (.tk (.const (.bool false))) none, .ret] []], .o (some 47) (.mv (.t 10)) none, .o (some 48) (.ar .add (.t 47) (.c (.int .i64 1))) none, .o (some 10) (.tk (.tmp 48)) none]
noncomputable def b4 : List It := [.o (some 4) (.tk (.const (.bool false))) none, .o (some 16) (.mv (.t 1)) none, .o (some 17) (.call 21 [.t 16, .c (.int .i64 300)]) none, .o (some 18) (.not (.t 17)) none, .cond (.tmp 18) [.o (some 19) (.call 13 []) none, .o (some 4) (.tk (.tmp 19)) none, .ret] [], .o (some 21) (.mv (.t 0)) none, .o (some 22) (.mv (.t 1)) none, .o (some 23) (.call 22 [.t 21, .t 22]) none, .o (some 20) (.mv (.t 23)) none, .o (some 24) (.ext (.t 20) 0) none, .o (some 25) (.ext (.t 20) 1) none, .o (some 26) (.ext (.t 20) 2) none, .o (some 5) (.alloc false [.int .i64 0, .int .i64 0, .int .i64 0, .sl true 0 [] .own, .sl true 0 [] .own, .sl true 0 [] .own]) none, .o none (.st 6 (.t 5) (.tmp 24)) none, .o (some 6) (.tk (.tmp 25)) none, .o (some 7) (.tk (.tmp 26)) none, .o (some 27) (.mv (.t 7)) none, .o (some 28) (.eq1 (.int .i64) true (.t 27) (.c (.int .i64 0))) none, .cond (.tmp 28) [.o (some 29) (.call 13 []) none, .o (some 30) (.mv (.t 29)) none, .o (some 31) (.mv (.t 0)) (some (some 30, true)), .o (some 32) (.ar .lss (.t 31) (.c (.int .i64 1))) (some (some 30, true)), .o (some 33) (.mv (.t 32)) (some (some 30, true)), .o (some 34) (.mv (.t 0)) (some (some 33, false)), .o (some 35) (.ar .gtr (.t 34) (.c (.int .i64 16))) (some (some 33, false)), .o (some 36) (.pick (.t 33) (.c (.bool true)) (.t 35)) (some (some 30, true)), .o (some 37) (.pick (.t 30) (.t 36) (.c (.bool false))) none, .o (some 4) (.tk (.tmp 37)) none, .ret] [], .o (some 38) (.mv (.t 6)) none, .o (some 39) (.lens (.t 38)) none, .o (some 40) (.mv (.t 1)) none, .o (some 41) (.lens (.t 40)) none, .o (some 42) (.eq1 (.int .i64) true (.t 39) (.t 41)) none, .cond (.tmp 42) [.o (some 4) (.tk (.const (.bool false))) none, .ret] [], .o (some 8) (.tk (.const (.slice none 0 0))) none, .o (some 9) (.tk (.const (.slice none 0 0))) none, .o (some 10) (.tk (.const (.int .i64 0))) none, .block 0 [.loop b4q0 (lp (bodyOf Go.Proofs.Try.f4) 0)], .o (some 13) (.tk (.const (.int .i64 0))) none, .block 3 [.loop b4q1 (lp (bodyOf Go.Proofs.Try.f4) 1)], .o (some 15) (.tk (.const (.int .i64 0))) none, .block 5 [.loop b4q2 (lp (bodyOf Go.Proofs.Try.f4) 2)], .o (some 308) (.call 13 []) none, .o (some 309) (.mv (.t 308)) none, .o (some 310) (.fa 2 (.t 5)) (some (some 309, true)), .o (some 311) (.ld1 (.int .i64) (.t 310)) (some (some 309, true)), .o (some 312) (.mv (.t 8)) (some (some 309, true)), .o (some 313) (.lens (.t 312)) (some (some 309, true)), .o (some 314) (.eq1 (.int .i64) false (.t 311) (.t 313)) (some (some 309, true)), .o (some 315) (.pick (.t 309) (.t 314) (.c (.bool false))) none, .o (some 4) (.tk (.tmp 315)) none, .ret]
theorem c4q0 : compR T ann4 pl4 (lp (bodyOf Go.Proofs.Try.f4) 0) = b4q0 := by kernel_rfl
theorem lp4q0 {α : Type} (m : Nat) (ls : α → List (Nat × AV)) (bs : α → List (List AV)) (hs : α → List AObj) (φ : α → Prop) (μ : α → Nat) (g0 : α) (h0 : φ g0) (hkeys : ∀ g, (ls g).map (·.1) = (ls g0).map (·.1)) (e1 : allIn d l m (ls g0)) (e2 : bs g0 = bx.take m) (e3 : (bs g0).all (fun cs => AV.lb.lbs m cs) = true) (e4 : h = hs g0) (round : ∀ g, φ g → Run C Pg T ann4 none b4q0 (S .undef 316 (ls g) (bs g) (hs g)) (nextR d 316 m ls bs hs φ μ g K)) : AWp C Pg none (.loop (lp (bodyOf Go.Proofs.Try.f4) 0)) (S d 316 l bx h) K := AWp.loopQ T_ok ann4 pl4 c4q0 m ls bs hs φ μ g0 h0 hkeys e1 e2 e3 e4 round
theorem c4q1 : compR T ann4 pl4 (lp (bodyOf Go.Proofs.Try.f4) 1) = b4q1 := by kernel_rfl
theorem lp4q1 {α : Type} (m : Nat) (ls : α → List (Nat × AV)) (bs : α → List (List AV)) (hs : α → List AObj) (φ : α → Prop) (μ : α → Nat) (g0 : α) (h0 : φ g0) (hkeys : ∀ g, (ls g).map (·.1) = (ls g0).map (·.1)) (e1 : allIn d l m (ls g0)) (e2 : bs g0 = bx.take m) (e3 : (bs g0).all (fun cs => AV.lb.lbs m cs) = true) (e4 : h = hs g0) (round : ∀ g, φ g → Run C Pg T ann4 none b4q1 (S .undef 316 (ls g) (bs g) (hs g)) (nextR d 316 m ls bs hs φ μ g K)) : AWp C Pg none (.loop (lp (bodyOf Go.Proofs.Try.f4) 1)) (S d 316 l bx h) K := AWp.loopQ T_ok ann4 pl4 c4q1 m ls bs hs φ μ g0 h0 hkeys e1 e2 e3 e4 round
theorem c4q2 : compR T ann4 pl4 (lp (bodyOf Go.Proofs.Try.f4) 2) = b4q2 := by kernel_rfl
theorem lp4q2 {α : Type} (m : Nat) (ls : α → List (Nat × AV)) (bs : α → List (List AV)) (hs : α → List AObj) (φ : α → Prop) (μ : α → Nat) (g0 : α) (h0 : φ g0) (hkeys : ∀ g, (ls g).map (·.1) = (ls g0).map (·.1)) (e1 : allIn d l m (ls g0)) (e2 : bs g0 = bx.take m) (e3 : (bs g0).all (fun cs => AV.lb.lbs m cs) = true) (e4 : h = hs g0) (round : ∀ g, φ g → Run C Pg T ann4 none b4q2 (S .undef 316 (ls g) (bs g) (hs g)) (nextR d 316 m ls bs hs φ μ g K)) : AWp C Pg none (.loop (lp (bodyOf Go.Proofs.Try.f4) 2)) (S d 316 l bx h) K := AWp.loopQ T_ok ann4 pl4 c4q2 m ls bs hs φ μ g0 h0 hkeys e1 e2 e3 e4 round
theorem c4 : compR T ann4 pl4 (bodyOf Go.Proofs.Try.f4) = b4 := by kernel_rfl
theorem dc4q0 : detC T ann4 (rg (bodyOf Go.Proofs.Try.f4) 0) = some ([76, 77, 78, 79, 80, 81, 82, 83, 84, 85, 86, 87, 88, 89, 90, 91, 92, 93, 94, 95, 96, 97, 98, 99, 100, 101, 102, 103, 104, 105, 106, 107, 108, 109, 110, 111, 112, 113, 114, 115, 116, 117, 118, 119, 120], [(.o (some 76) (.fa 0 (.t 12)) none, []), (.o (some 77) (.ld1 (.int .i64) (.t 76)) none, [76]), (.o (some 78) (.mv (.t 8)) none, []), (.o (some 79) (.lens (.t 78)) none, [78]), (.o (some 80) (.eq1 (.int .i64) true (.t 77) (.t 79)) none, [77, 79]), (.o (some 81) (.mv (.t 80)) none, [80]), (.o (some 82) (.fa 1 (.t 12)) (some (some 81, false)), [81]), (.o (some 83) (.ld1 (.int .i64) (.t 82)) (some (some 81, false)), [82, 81]), (.o (some 84) (.mv (.t 1)) (some (some 81, false)), [81]), (.o (some 85) (.mv (.t 10)) (some (some 81, false)), [81]), (.o (some 86) (.ixs 5 [.int .i64, .int .i64, .int .i64, .int .i64, .str] (.t 84) (.t 85)) (some (some 81, false)), [84, 85, 81]), (.o (some 87) (.fa 1 (.t 86)) (some (some 81, false)), [86, 81]), (.o (some 88) (.ld1 (.int .i64) (.t 87)) (some (some 81, false)), [87, 81]), (.o (some 89) (.eq1 (.int .i64) true (.t 83) (.t 88)) (some (some 81, false)), [83, 88, 81]), (.o (some 90) (.pick (.t 81) (.c (.bool true)) (.t 89)) none, [81, 89]), (.o (some 91) (.mv (.t 90)) none, [90, 81]), (.o (some 92) (.fa 2 (.t 12)) (some (some 91, false)), [91]), (.o (some 93) (.ld1 (.int .i64) (.t 92)) (some (some 91, false)), [92, 91]), (.o (some 94) (.mv (.t 1)) (some (some 91, false)), [91]), (.o (some 95) (.mv (.t 10)) (some (some 91, false)), [91]), (.o (some 96) (.ixs 5 [.int .i64, .int .i64, .int .i64, .int .i64, .str] (.t 94) (.t 95)) (some (some 91, false)), [94, 95, 91]), (.o (some 97) (.fa 2 (.t 96)) (some (some 91, false)), [96, 91]), (.o (some 98) (.ld1 (.int .i64) (.t 97)) (some (some 91, false)), [97, 91]), (.o (some 99) (.eq1 (.int .i64) true (.t 93) (.t 98)) (some (some 91, false)), [93, 98, 91]), (.o (some 100) (.pick (.t 91) (.c (.bool true)) (.t 99)) none, [91, 99]), (.o (some 101) (.mv (.t 100)) none, [100, 91]), (.o (some 102) (.fa 4 (.t 12)) (some (some 101, false)), [101]), (.o (some 103) (.ld1 .str (.t 102)) (some (some 101, false)), [102, 101]), (.o (some 104) (.mv (.t 1)) (some (some 101, false)), [101]), (.o (some 105) (.mv (.t 10)) (some (some 101, false)), [101]), (.o (some 106) (.ixs 5 [.int .i64, .int .i64, .int .i64, .int .i64, .str] (.t 104) (.t 105)) (some (some 101, false)), [104, 105, 101]), (.o (some 107) (.fa 4 (.t 106)) (some (some 101, false)), [106, 101]), (.o (some 108) (.ld1 .str (.t 107)) (some (some 101, false)), [107, 101]), (.o (some 109) (.eq1 .str true (.t 103) (.t 108)) (some (some 101, false)), [103, 108, 101]), (.o (some 110) (.pick (.t 101) (.c (.bool true)) (.t 109)) none, [101, 109]), (.o (some 111) (.mv (.t 110)) none, [110, 101]), (.o (some 112) (.fa 3 (.t 12)) (some (some 111, false)), [111]), (.o (some 113) (.ld1 (.int .i64) (.t 112)) (some (some 111, false)), [112, 111]), (.o (some 114) (.mv (.t 6)) (some (some 111, false)), [111]), (.o (some 115) (.mv (.t 10)) (some (some 111, false)), [111]), (.o (some 116) (.ixs 13 [.other, .other, .other, .other, .other, .int .i64, .int .i64, .other, .other, .other, .other, .other, .slice 86] (.t 114) (.t 115)) (some (some 111, false)), [114, 115, 111]), (.o (some 117) (.fa 6 (.t 116)) (some (some 111, false)), [116, 111]), (.o (some 118) (.ld1 (.int .i64) (.t 117)) (some (some 111, false)), [117, 111]), (.o (some 119) (.eq1 (.int .i64) true (.t 113) (.t 118)) (some (some 111, false)), [113, 118, 111]), (.o (some 120) (.pick (.t 111) (.c (.bool true)) (.t 119)) none, [111, 119])]) := by kernel_rfl
theorem rd4q0 {v76 v77 v78 v79 v80 v81 v82 v83 v84 v85 v86 v87 v88 v89 v90 v91 v92 v93 v94 v95 v96 v97 v98 v99 v100 v101 v102 v103 v104 v105 v106 v107 v108 v109 v110 v111 v112 v113 v114 v115 v116 v117 v118 v119 v120 : AV} (s0 : ∀ l', lk d l' 12 = lk d l 12 → Run C Pg T ann4 none [.o (some 76) (.fa 0 (.t 12)) none] (S d 316 l' bx h) (stepR d 316 bx h (some 76) l' v76)) (s1 : ∀ l', lk d l' 76 = v76 → Run C Pg T ann4 none [.o (some 77) (.ld1 (.int .i64) (.t 76)) none] (S d 316 l' bx h) (stepR d 316 bx h (some 77) l' v77)) (s2 : ∀ l', lk d l' 8 = lk d l 8 → Run C Pg T ann4 none [.o (some 78) (.mv (.t 8)) none] (S d 316 l' bx h) (stepR d 316 bx h (some 78) l' v78)) (s3 : ∀ l', lk d l' 78 = v78 → Run C Pg T ann4 none [.o (some 79) (.lens (.t 78)) none] (S d 316 l' bx h) (stepR d 316 bx h (some 79) l' v79)) (s4 : ∀ l', lk d l' 77 = v77 → lk d l' 79 = v79 → Run C Pg T ann4 none [.o (some 80) (.eq1 (.int .i64) true (.t 77) (.t 79)) none] (S d 316 l' bx h) (stepR d 316 bx h (some 80) l' v80)) (s5 : ∀ l', lk d l' 80 = v80 → Run C Pg T ann4 none [.o (some 81) (.mv (.t 80)) none] (S d 316 l' bx h) (stepR d 316 bx h (some 81) l' v81)) (s6 : ∀ l', lk d l' 12 = lk d l 12 → lk d l' 81 = v81 → Run C Pg T ann4 none [.o (some 82) (.fa 1 (.t 12)) (some (some 81, false))] (S d 316 l' bx h) (stepR d 316 bx h (some 82) l' v82)) (s7 : ∀ l', lk d l' 81 = v81 → lk d l' 82 = v82 → Run C Pg T ann4 none [.o (some 83) (.ld1 (.int .i64) (.t 82)) (some (some 81, false))] (S d 316 l' bx h) (stepR d 316 bx h (some 83) l' v83)) (s8 : ∀ l', lk d l' 1 = lk d l 1 → lk d l' 81 = v81 → Run C Pg T ann4 none [.o (some 84) (.mv (.t 1)) (some (some 81, false))] (S d 316 l' bx h) (stepR d 316 bx h (some 84) l' v84)) (s9 : ∀ l', lk d l' 10 = lk d l 10 → lk d l' 81 = v81 → Run C Pg T ann4 none [.o (some 85) (.mv (.t 10)) (some (some 81, false))] (S d 316 l' bx h) (stepR d 316 bx h (some 85) l' v85)) (s10 : ∀ l', lk d l' 81 = v81 → lk d l' 84 = v84 → lk d l' 85 = v85 → Run C Pg T ann4 none [.o (some 86) (.ixs 5 [.int .i64, .int .i64, .int .i64, .int .i64, .str] (.t 84) (.t 85)) (some (some 81, false))] (S d 316 l' bx h) (stepR d 316 bx h (some 86) l' v86)) (s11 : ∀ l', lk d l' 81 = v81 → lk d l' 86 = v86 → Run C Pg T ann4 none [.o (some 87) (.fa 1 (.t 86)) (some (some 81, false))] (S d 316 l' bx h) (stepR d 316 bx h (some 87) l' v87)) (s12 : ∀ l', lk d l' 81 = v81 → lk d l' 87 = v87 → Run C Pg T ann4 none [.o (some 88) (.ld1 (.int .i64) (.t 87)) (some (some 81, false))] (S d 316 l' bx h) (stepR d 316 bx h (some 88) l' v88)) (s13 : ∀ l', lk d l' 81 = v81 → lk d l' 83 = v83 → lk d l' 88 = v88 → Run C Pg T ann4 none [.o (some 89) (.eq1 (.int .i64) true (.t 83) (.t 88)) (some (some 81, false))] (S d 316 l' bx h) (stepR d 316 bx h (some 89) l' v89)) (s14 : ∀ l', lk d l' 81 = v81 → lk d l' 89 = v89 → Run C Pg T ann4 none [.o (some 90) (.pick (.t 81) (.c (.bool true)) (.t 89)) none] (S d 316 l' bx h) (stepR d 316 bx h (some 90) l' v90)) (s15 : ∀ l', lk d l' 90 = v90 → Run C Pg T ann4 none [.o (some 91) (.mv (.t 90)) none] (S d 316 l' bx h) (stepR d 316 bx h (some 91) l' v91)) (s16 : ∀ l', lk d l' 12 = lk d l 12 → lk d l' 91 = v91 → Run C Pg T ann4 none [.o (some 92) (.fa 2 (.t 12)) (some (some 91, false))] (S d 316 l' bx h) (stepR d 316 bx h (some 92) l' v92)) (s17 : ∀ l', lk d l' 91 = v91 → lk d l' 92 = v92 → Run C Pg T ann4 none [.o (some 93) (.ld1 (.int .i64) (.t 92)) (some (some 91, false))] (S d 316 l' bx h) (stepR d 316 bx h (some 93) l' v93)) (s18 : ∀ l', lk d l' 1 = lk d l 1 → lk d l' 91 = v91 → Run C Pg T ann4 none [.o (some 94) (.mv (.t 1)) (some (some 91, false))] (S d 316 l' bx h) (stepR d 316 bx h (some 94) l' v94)) (s19 : ∀ l', lk d l' 10 = lk d l 10 → lk d l' 91 = v91 → Run C Pg T ann4 none [.o (some 95) (.mv (.t 10)) (some (some 91, false))] (S d 316 l' bx h) (stepR d 316 bx h (some 95) l' v95)) (s20 : ∀ l', lk d l' 91 = v91 → lk d l' 94 = v94 → lk d l' 95 = v95 → Run C Pg T ann4 none [.o (some 96) (.ixs 5 [.int .i64, .int .i64, .int .i64, .int .i64, .str] (.t 94) (.t 95)) (some (some 91, false))] (S d 316 l' bx h) (stepR d 316 bx h (some 96) l' v96)) (s21 : ∀ l', lk d l' 91 = v91 → lk d l' 96 = v96 → Run C Pg T ann4 none [.o (some 97) (.fa 2 (.t 96)) (some (some 91, false))] (S d 316 l' bx h) (stepR d 316 bx h (some 97) l' v97)) (s22 : ∀ l', lk d l' 91 = v91 → lk d l' 97 = v97 → Run C Pg T ann4 none [.o (some 98) (.ld1 (.int .i64) (.t 97)) (some (some 91, false))] (S d 316 l' bx h) (stepR d 316 bx h (some 98) l' v98)) (s23 : ∀ l', lk d l' 91 = v91 → lk d l' 93 = v93 → lk d l' 98 = v98 → Run C Pg T ann4 none [.o (some 99) (.eq1 (.int .i64) true (.t 93) (.t 98)) (some (some 91, false))] (S d 316 l' bx h) (stepR d 316 bx h (some 99) l' v99)) (s24 : ∀ l', lk d l' 91 = v91 → lk d l' 99 = v99 → Run C Pg T ann4 none [.o (some 100) (.pick (.t 91) (.c (.bool true)) (.t 99)) none] (S d 316 l' bx h) (stepR d 316 bx h (some 100) l' v100)) (s25 : ∀ l', lk d l' 100 = v100 → Run C Pg T ann4 none [.o (some 101) (.mv (.t 100)) none] (S d 316 l' bx h) (stepR d 316 bx h (some 101) l' v101)) (s26 : ∀ l', lk d l' 12 = lk d l 12 → lk d l' 101 = v101 → Run C Pg T ann4 none [.o (some 102) (.fa 4 (.t 12)) (some (some 101, false))] (S d 316 l' bx h) (stepR d 316 bx h (some 102) l' v102)) (s27 : ∀ l', lk d l' 101 = v101 → lk d l' 102 = v102 → Run C Pg T ann4 none [.o (some 103) (.ld1 .str (.t 102)) (some (some 101, false))] (S d 316 l' bx h) (stepR d 316 bx h (some 103) l' v103)) (s28 : ∀ l', lk d l' 1 = lk d l 1 → lk d l' 101 = v101 → Run C Pg T ann4 none [.o (some 104) (.mv (.t 1)) (some (some 101, false))] (S d 316 l' bx h) (stepR d 316 bx h (some 104) l' v104)) (s29 : ∀ l', lk d l' 10 = lk d l 10 → lk d l' 101 = v101 → Run C Pg T ann4 none [.o (some 105) (.mv (.t 10)) (some (some 101, false))] (S d 316 l' bx h) (stepR d 316 bx h (some 105) l' v105)) (s30 : ∀ l', lk d l' 101 = v101 → lk d l' 104 = v104 → lk d l' 105 = v105 → Run C Pg T ann4 none [.o (some 106) (.ixs 5 [.int .i64, .int .i64, .int .i64, .int .i64, .str] (.t 104) (.t 105)) (some (some 101, false))] (S d 316 l' bx h) (stepR d 316 bx h (some 106) l' v106)) (s31 : ∀ l', lk d l' 101 = v101 → lk d l' 106 = v106 → Run C Pg T ann4 none [.o (some 107) (.fa 4 (.t 106)) (some (some 101, false))] (S d 316 l' bx h) (stepR d 316 bx h (some 107) l' v107)) (s32 : ∀ l', lk d l' 101 = v101 → lk d l' 107 = v107 → Run C Pg T ann4 none [.o (some 108) (.ld1 .str (.t 107)) (some (some 101, false))] (S d 316 l' bx h) (stepR d 316 bx h (some 108) l' v108)) (s33 : ∀ l', lk d l' 101 = v101 → lk d l' 103 = v103 → lk d l' 108 = v108 → Run C Pg T ann4 none [.o (some 109) (.eq1 .str true (.t 103) (.t 108)) (some (some 101, false))] (S d 316 l' bx h) (stepR d 316 bx h (some 109) l' v109)) (s34 : ∀ l', lk d l' 101 = v101 → lk d l' 109 = v109 → Run C Pg T ann4 none [.o (some 110) (.pick (.t 101) (.c (.bool true)) (.t 109)) none] (S d 316 l' bx h) (stepR d 316 bx h (some 110) l' v110)) (s35 : ∀ l', lk d l' 110 = v110 → Run C Pg T ann4 none [.o (some 111) (.mv (.t 110)) none] (S d 316 l' bx h) (stepR d 316 bx h (some 111) l' v111)) (s36 : ∀ l', lk d l' 12 = lk d l 12 → lk d l' 111 = v111 → Run C Pg T ann4 none [.o (some 112) (.fa 3 (.t 12)) (some (some 111, false))] (S d 316 l' bx h) (stepR d 316 bx h (some 112) l' v112)) (s37 : ∀ l', lk d l' 111 = v111 → lk d l' 112 = v112 → Run C Pg T ann4 none [.o (some 113) (.ld1 (.int .i64) (.t 112)) (some (some 111, false))] (S d 316 l' bx h) (stepR d 316 bx h (some 113) l' v113)) (s38 : ∀ l', lk d l' 6 = lk d l 6 → lk d l' 111 = v111 → Run C Pg T ann4 none [.o (some 114) (.mv (.t 6)) (some (some 111, false))] (S d 316 l' bx h) (stepR d 316 bx h (some 114) l' v114)) (s39 : ∀ l', lk d l' 10 = lk d l 10 → lk d l' 111 = v111 → Run C Pg T ann4 none [.o (some 115) (.mv (.t 10)) (some (some 111, false))] (S d 316 l' bx h) (stepR d 316 bx h (some 115) l' v115)) (s40 : ∀ l', lk d l' 111 = v111 → lk d l' 114 = v114 → lk d l' 115 = v115 → Run C Pg T ann4 none [.o (some 116) (.ixs 13 [.other, .other, .other, .other, .other, .int .i64, .int .i64, .other, .other, .other, .other, .other, .slice 86] (.t 114) (.t 115)) (some (some 111, false))] (S d 316 l' bx h) (stepR d 316 bx h (some 116) l' v116)) (s41 : ∀ l', lk d l' 111 = v111 → lk d l' 116 = v116 → Run C Pg T ann4 none [.o (some 117) (.fa 6 (.t 116)) (some (some 111, false))] (S d 316 l' bx h) (stepR d 316 bx h (some 117) l' v117)) (s42 : ∀ l', lk d l' 111 = v111 → lk d l' 117 = v117 → Run C Pg T ann4 none [.o (some 118) (.ld1 (.int .i64) (.t 117)) (some (some 111, false))] (S d 316 l' bx h) (stepR d 316 bx h (some 118) l' v118)) (s43 : ∀ l', lk d l' 111 = v111 → lk d l' 113 = v113 → lk d l' 118 = v118 → Run C Pg T ann4 none [.o (some 119) (.eq1 (.int .i64) true (.t 113) (.t 118)) (some (some 111, false))] (S d 316 l' bx h) (stepR d 316 bx h (some 119) l' v119)) (s44 : ∀ l', lk d l' 111 = v111 → lk d l' 119 = v119 → Run C Pg T ann4 none [.o (some 120) (.pick (.t 111) (.c (.bool true)) (.t 119)) none] (S d 316 l' bx h) (stepR d 316 bx h (some 120) l' v120)) (hK : K .normal (S d 316 ((120, v120) :: (119, v119) :: (118, v118) :: (117, v117) :: (116, v116) :: (115, v115) :: (114, v114) :: (113, v113) :: (112, v112) :: (111, v111) :: (110, v110) :: (109, v109) :: (108, v108) :: (107, v107) :: (106, v106) :: (105, v105) :: (104, v104) :: (103, v103) :: (102, v102) :: (101, v101) :: (100, v100) :: (99, v99) :: (98, v98) :: (97, v97) :: (96, v96) :: (95, v95) :: (94, v94) :: (93, v93) :: (92, v92) :: (91, v91) :: (90, v90) :: (89, v89) :: (88, v88) :: (87, v87) :: (86, v86) :: (85, v85) :: (84, v84) :: (83, v83) :: (82, v82) :: (81, v81) :: (80, v80) :: (79, v79) :: (78, v78) :: (77, v77) :: (76, v76) :: l) bx h)) : AWp C Pg none (rg (bodyOf Go.Proofs.Try.f4) 0) (S d 316 l bx h) K := AWp.regT T_ok mixed dc4q0 ((120, v120) :: (119, v119) :: (118, v118) :: (117, v117) :: (116, v116) :: (115, v115) :: (114, v114) :: (113, v113) :: (112, v112) :: (111, v111) :: (110, v110) :: (109, v109) :: (108, v108) :: (107, v107) :: (106, v106) :: (105, v105) :: (104, v104) :: (103, v103) :: (102, v102) :: (101, v101) :: (100, v100) :: (99, v99) :: (98, v98) :: (97, v97) :: (96, v96) :: (95, v95) :: (94, v94) :: (93, v93) :: (92, v92) :: (91, v91) :: (90, v90) :: (89, v89) :: (88, v88) :: (87, v87) :: (86, v86) :: (85, v85) :: (84, v84) :: (83, v83) :: (82, v82) :: (81, v81) :: (80, v80) :: (79, v79) :: (78, v78) :: (77, v77) :: (76, v76) :: l) (Sk.cons rfl (Sk.cons rfl (Sk.cons rfl (Sk.cons rfl (Sk.cons rfl (Sk.cons rfl (Sk.cons rfl (Sk.cons rfl (Sk.cons rfl (Sk.cons rfl (Sk.cons rfl (Sk.cons rfl (Sk.cons rfl (Sk.cons rfl (Sk.cons rfl (Sk.cons rfl (Sk.cons rfl (Sk.cons rfl (Sk.cons rfl (Sk.cons rfl (Sk.cons rfl (Sk.cons rfl (Sk.cons rfl (Sk.cons rfl (Sk.cons rfl (Sk.cons rfl (Sk.cons rfl (Sk.cons rfl (Sk.cons rfl (Sk.cons rfl (Sk.cons rfl (Sk.cons rfl (Sk.cons rfl (Sk.cons rfl (Sk.cons rfl (Sk.cons rfl (Sk.cons rfl (Sk.cons rfl (Sk.cons rfl (Sk.cons rfl (Sk.cons rfl (Sk.cons rfl (Sk.cons rfl (Sk.cons rfl (Sk.cons rfl (Sk.refl)))))))))))))))))))))))))))))))))))))))))))))) ⟨fun l' ag => s0 l' (ag 12 rfl), fun l' ag => s1 l' (ag 76 rfl), fun l' ag => s2 l' (ag 8 rfl), fun l' ag => s3 l' (ag 78 rfl), fun l' ag => s4 l' (ag 77 rfl) (ag 79 rfl), fun l' ag => s5 l' (ag 80 rfl), fun l' ag => s6 l' (ag 12 rfl) (ag 81 rfl), fun l' ag => s7 l' (ag 81 rfl) (ag 82 rfl), fun l' ag => s8 l' (ag 1 rfl) (ag 81 rfl), fun l' ag => s9 l' (ag 10 rfl) (ag 81 rfl), fun l' ag => s10 l' (ag 81 rfl) (ag 84 rfl) (ag 85 rfl), fun l' ag => s11 l' (ag 81 rfl) (ag 86 rfl), fun l' ag => s12 l' (ag 81 rfl) (ag 87 rfl), fun l' ag => s13 l' (ag 81 rfl) (ag 83 rfl) (ag 88 rfl), fun l' ag => s14 l' (ag 81 rfl) (ag 89 rfl), fun l' ag => s15 l' (ag 90 rfl), fun l' ag => s16 l' (ag 12 rfl) (ag 91 rfl), fun l' ag => s17 l' (ag 91 rfl) (ag 92 rfl), fun l' ag => s18 l' (ag 1 rfl) (ag 91 rfl), fun l' ag => s19 l' (ag 10 rfl) (ag 91 rfl), fun l' ag => s20 l' (ag 91 rfl) (ag 94 rfl) (ag 95 rfl), fun l' ag => s21 l' (ag 91 rfl) (ag 96 rfl), fun l' ag => s22 l' (ag 91 rfl) (ag 97 rfl), fun l' ag => s23 l' (ag 91 rfl) (ag 93 rfl) (ag 98 rfl), fun l' ag => s24 l' (ag 91 rfl) (ag 99 rfl), fun l' ag => s25 l' (ag 100 rfl), fun l' ag => s26 l' (ag 12 rfl) (ag 101 rfl), fun l' ag => s27 l' (ag 101 rfl) (ag 102 rfl), fun l' ag => s28 l' (ag 1 rfl) (ag 101 rfl), fun l' ag => s29 l' (ag 10 rfl) (ag 101 rfl), fun l' ag => s30 l' (ag 101 rfl) (ag 104 rfl) (ag 105 rfl), fun l' ag => s31 l' (ag 101 rfl) (ag 106 rfl), fun l' ag => s32 l' (ag 101 rfl) (ag 107 rfl), fun l' ag => s33 l' (ag 101 rfl) (ag 103 rfl) (ag 108 rfl), fun l' ag => s34 l' (ag 101 rfl) (ag 109 rfl), fun l' ag => s35 l' (ag 110 rfl), fun l' ag => s36 l' (ag 12 rfl) (ag 111 rfl), fun l' ag => s37 l' (ag 111 rfl) (ag 112 rfl), fun l' ag => s38 l' (ag 6 rfl) (ag 111 rfl), fun l' ag => s39 l' (ag 10 rfl) (ag 111 rfl), fun l' ag => s40 l' (ag 111 rfl) (ag 114 rfl) (ag 115 rfl), fun l' ag => s41 l' (ag 111 rfl) (ag 116 rfl), fun l' ag => s42 l' (ag 111 rfl) (ag 117 rfl), fun l' ag => s43 l' (ag 111 rfl) (ag 113 rfl) (ag 118 rfl), fun l' ag => s44 l' (ag 111 rfl) (ag 119 rfl), trivial⟩ hK
theorem dc4q1 : detC T ann4 (rg (bodyOf Go.Proofs.Try.f4) 1) = some ([129, 130, 131, 132, 133, 134, 135, 136, 137, 138, 139, 140, 141, 142, 143, 144, 145, 146, 147, 148, 149, 150, 151, 152, 153, 154, 155, 156, 157, 158, 159, 160, 161, 162, 163, 164, 165, 166, 167, 168, 169, 170, 171], [(.o (some 129) (.fa 0 (.t 12)) none, []), (.o (some 130) (.ld1 (.int .i64) (.t 129)) none, [129]), (.o (some 131) (.ar .lss (.t 130) (.c (.int .i64 0))) none, [130]), (.o (some 132) (.mv (.t 131)) none, [131]), (.o (some 133) (.fa 0 (.t 12)) (some (some 132, false)), [132]), (.o (some 134) (.ld1 (.int .i64) (.t 133)) (some (some 132, false)), [133, 132]), (.o (some 135) (.mv (.t 8)) (some (some 132, false)), [132]), (.o (some 136) (.lens (.t 135)) (some (some 132, false)), [135, 132]), (.o (some 137) (.ar .geq (.t 134) (.t 136)) (some (some 132, false)), [134, 136, 132]), (.o (some 138) (.pick (.t 132) (.c (.bool true)) (.t 137)) none, [132, 137]), (.o (some 139) (.mv (.t 138)) none, [138, 132]), (.o (some 140) (.fa 1 (.t 12)) (some (some 139, false)), [139]), (.o (some 141) (.ld1 (.int .i64) (.t 140)) (some (some 139, false)), [140, 139]), (.o (some 142) (.mv (.t 8)) (some (some 139, false)), [139]), (.o (some 143) (.fa 0 (.t 12)) (some (some 139, false)), [139]), (.o (some 144) (.ld1 (.int .i64) (.t 143)) (some (some 139, false)), [143, 139]), (.o (some 145) (.ixs 5 [.int .i64, .int .i64, .int .i64, .int .i64, .str] (.t 142) (.t 144)) (some (some 139, false)), [142, 144, 139]), (.o (some 146) (.fa 1 (.t 145)) (some (some 139, false)), [145, 139]), (.o (some 147) (.ld1 (.int .i64) (.t 146)) (some (some 139, false)), [146, 139]), (.o (some 148) (.eq1 (.int .i64) true (.t 141) (.t 147)) (some (some 139, false)), [141, 147, 139]), (.o (some 149) (.pick (.t 139) (.c (.bool true)) (.t 148)) none, [139, 148]), (.o (some 150) (.mv (.t 149)) none, [149, 139]), (.o (some 151) (.fa 2 (.t 12)) (some (some 150, false)), [150]), (.o (some 152) (.ld1 (.int .i64) (.t 151)) (some (some 150, false)), [151, 150]), (.o (some 153) (.mv (.t 8)) (some (some 150, false)), [150]), (.o (some 154) (.fa 0 (.t 12)) (some (some 150, false)), [150]), (.o (some 155) (.ld1 (.int .i64) (.t 154)) (some (some 150, false)), [154, 150]), (.o (some 156) (.ixs 5 [.int .i64, .int .i64, .int .i64, .int .i64, .str] (.t 153) (.t 155)) (some (some 150, false)), [153, 155, 150]), (.o (some 157) (.fa 2 (.t 156)) (some (some 150, false)), [156, 150]), (.o (some 158) (.ld1 (.int .i64) (.t 157)) (some (some 150, false)), [157, 150]), (.o (some 159) (.eq1 (.int .i64) true (.t 152) (.t 158)) (some (some 150, false)), [152, 158, 150]), (.o (some 160) (.pick (.t 150) (.c (.bool true)) (.t 159)) none, [150, 159]), (.o (some 161) (.mv (.t 160)) none, [160, 150]), (.o (some 162) (.fa 4 (.t 12)) (some (some 161, false)), [161]), (.o (some 163) (.ld1 .str (.t 162)) (some (some 161, false)), [162, 161]), (.o (some 164) (.mv (.t 8)) (some (some 161, false)), [161]), (.o (some 165) (.fa 0 (.t 12)) (some (some 161, false)), [161]), (.o (some 166) (.ld1 (.int .i64) (.t 165)) (some (some 161, false)), [165, 161]), (.o (some 167) (.ixs 5 [.int .i64, .int .i64, .int .i64, .int .i64, .str] (.t 164) (.t 166)) (some (some 161, false)), [164, 166, 161]), (.o (some 168) (.fa 4 (.t 167)) (some (some 161, false)), [167, 161]), (.o (some 169) (.ld1 .str (.t 168)) (some (some 161, false)), [168, 161]), (.o (some 170) (.eq1 .str true (.t 163) (.t 169)) (some (some 161, false)), [163, 169, 161]), (.o (some 171) (.pick (.t 161) (.c (.bool true)) (.t 170)) none, [161, 170])]) := by kernel_rfl
theorem rd4q1 {v129 v130 v131 v132 v133 v134 v135 v136 v137 v138 v139 v140 v141 v142 v143 v144 v145 v146 v147 v148 v149 v150 v151 v152 v153 v154 v155 v156 v157 v158 v159 v160 v161 v162 v163 v164 v165 v166 v167 v168 v169 v170 v171 : AV} (s0 : ∀ l', lk d l' 12 = lk d l 12 → Run C Pg T ann4 none [.o (some 129) (.fa 0 (.t 12)) none] (S d 316 l' bx h) (stepR d 316 bx h (some 129) l' v129)) (s1 : ∀ l', lk d l' 129 = v129 → Run C Pg T ann4 none [.o (some 130) (.ld1 (.int .i64) (.t 129)) none] (S d 316 l' bx h) (stepR d 316 bx h (some 130) l' v130)) (s2 : ∀ l', lk d l' 130 = v130 → Run C Pg T ann4 none [.o (some 131) (.ar .lss (.t 130) (.c (.int .i64 0))) none] (S d 316 l' bx h) (stepR d 316 bx h (some 131) l' v131)) (s3 : ∀ l', lk d l' 131 = v131 → Run C Pg T ann4 none [.o (some 132) (.mv (.t 131)) none] (S d 316 l' bx h) (stepR d 316 bx h (some 132) l' v132)) (s4 : ∀ l', lk d l' 12 = lk d l 12 → lk d l' 132 = v132 → Run C Pg T ann4 none [.o (some 133) (.fa 0 (.t 12)) (some (some 132, false))] (S d 316 l' bx h) (stepR d 316 bx h (some 133) l' v133)) (s5 : ∀ l', lk d l' 132 = v132 → lk d l' 133 = v133 → Run C Pg T ann4 none [.o (some 134) (.ld1 (.int .i64) (.t 133)) (some (some 132, false))] (S d 316 l' bx h) (stepR d 316 bx h (some 134) l' v134)) (s6 : ∀ l', lk d l' 8 = lk d l 8 → lk d l' 132 = v132 → Run C Pg T ann4 none [.o (some 135) (.mv (.t 8)) (some (some 132, false))] (S d 316 l' bx h) (stepR d 316 bx h (some 135) l' v135)) (s7 : ∀ l', lk d l' 132 = v132 → lk d l' 135 = v135 → Run C Pg T ann4 none [.o (some 136) (.lens (.t 135)) (some (some 132, false))] (S d 316 l' bx h) (stepR d 316 bx h (some 136) l' v136)) (s8 : ∀ l', lk d l' 132 = v132 → lk d l' 134 = v134 → lk d l' 136 = v136 → Run C Pg T ann4 none [.o (some 137) (.ar .geq (.t 134) (.t 136)) (some (some 132, false))] (S d 316 l' bx h) (stepR d 316 bx h (some 137) l' v137)) (s9 : ∀ l', lk d l' 132 = v132 → lk d l' 137 = v137 → Run C Pg T ann4 none [.o (some 138) (.pick (.t 132) (.c (.bool true)) (.t 137)) none] (S d 316 l' bx h) (stepR d 316 bx h (some 138) l' v138)) (s10 : ∀ l', lk d l' 138 = v138 → Run C Pg T ann4 none [.o (some 139) (.mv (.t 138)) none] (S d 316 l' bx h) (stepR d 316 bx h (some 139) l' v139)) (s11 : ∀ l', lk d l' 12 = lk d l 12 → lk d l' 139 = v139 → Run C Pg T ann4 none [.o (some 140) (.fa 1 (.t 12)) (some (some 139, false))] (S d 316 l' bx h) (stepR d 316 bx h (some 140) l' v140)) (s12 : ∀ l', lk d l' 139 = v139 → lk d l' 140 = v140 → Run C Pg T ann4 none [.o (some 141) (.ld1 (.int .i64) (.t 140)) (some (some 139, false))] (S d 316 l' bx h) (stepR d 316 bx h (some 141) l' v141)) (s13 : ∀ l', lk d l' 8 = lk d l 8 → lk d l' 139 = v139 → Run C Pg T ann4 none [.o (some 142) (.mv (.t 8)) (some (some 139, false))] (S d 316 l' bx h) (stepR d 316 bx h (some 142) l' v142)) (s14 : ∀ l', lk d l' 12 = lk d l 12 → lk d l' 139 = v139 → Run C Pg T ann4 none [.o (some 143) (.fa 0 (.t 12)) (some (some 139, false))] (S d 316 l' bx h) (stepR d 316 bx h (some 143) l' v143)) (s15 : ∀ l', lk d l' 139 = v139 → lk d l' 143 = v143 → Run C Pg T ann4 none [.o (some 144) (.ld1 (.int .i64) (.t 143)) (some (some 139, false))] (S d 316 l' bx h) (stepR d 316 bx h (some 144) l' v144)) (s16 : ∀ l', lk d l' 139 = v139 → lk d l' 142 = v142 → lk d l' 144 = v144 → Run C Pg T ann4 none [.o (some 145) (.ixs 5 [.int .i64, .int .i64, .int .i64, .int .i64, .str] (.t 142) (.t 144)) (some (some 139, false))] (S d 316 l' bx h) (stepR d 316 bx h (some 145) l' v145)) (s17 : ∀ l', lk d l' 139 = v139 → lk d l' 145 = v145 → Run C Pg T ann4 none [.o (some 146) (.fa 1 (.t 145)) (some (some 139, false))] (S d 316 l' bx h) (stepR d 316 bx h (some 146) l' v146)) (s18 : ∀ l', lk d l' 139 = v139 → lk d l' 146 = v146 → Run C Pg T ann4 none [.o (some 147) (.ld1 (.int .i64) (.t 146)) (some (some 139, false))] (S d 316 l' bx h) (stepR d 316 bx h (some 147) l' v147)) (s19 : ∀ l', lk d l' 139 = v139 → lk d l' 141 = v141 → lk d l' 147 = v147 → Run C Pg T ann4 none [.o (some 148) (.eq1 (.int .i64) true (.t 141) (.t 147)) (some (some 139, false))] (S d 316 l' bx h) (stepR d 316 bx h (some 148) l' v148)) (s20 : ∀ l', lk d l' 139 = v139 → lk d l' 148 = v148 → Run C Pg T ann4 none [.o (some 149) (.pick (.t 139) (.c (.bool true)) (.t 148)) none] (S d 316 l' bx h) (stepR d 316 bx h (some 149) l' v149)) (s21 : ∀ l', lk d l' 149 = v149 → Run C Pg T ann4 none [.o (some 150) (.mv (.t 149)) none] (S d 316 l' bx h) (stepR d 316 bx h (some 150) l' v150)) (s22 : ∀ l', lk d l' 12 = lk d l 12 → lk d l' 150 = v150 → Run C Pg T ann4 none [.o (some 151) (.fa 2 (.t 12)) (some (some 150, false))] (S d 316 l' bx h) (stepR d 316 bx h (some 151) l' v151)) (s23 : ∀ l', lk d l' 150 = v150 → lk d l' 151 = v151 → Run C Pg T ann4 none [.o (some 152) (.ld1 (.int .i64) (.t 151)) (some (some 150, false))] (S d 316 l' bx h) (stepR d 316 bx h (some 152) l' v152)) (s24 : ∀ l', lk d l' 8 = lk d l 8 → lk d l' 150 = v150 → Run C Pg T ann4 none [.o (some 153) (.mv (.t 8)) (some (some 150, false))] (S d 316 l' bx h) (stepR d 316 bx h (some 153) l' v153)) (s25 : ∀ l', lk d l' 12 = lk d l 12 → lk d l' 150 = v150 → Run C Pg T ann4 none [.o (some 154) (.fa 0 (.t 12)) (some (some 150, false))] (S d 316 l' bx h) (stepR d 316 bx h (some 154) l' v154)) (s26 : ∀ l', lk d l' 150 = v150 → lk d l' 154 = v154 → Run C Pg T ann4 none [.o (some 155) (.ld1 (.int .i64) (.t 154)) (some (some 150, false))] (S d 316 l' bx h) (stepR d 316 bx h (some 155) l' v155)) (s27 : ∀ l', lk d l' 150 = v150 → lk d l' 153 = v153 → lk d l' 155 = v155 → Run C Pg T ann4 none [.o (some 156) (.ixs 5 [.int .i64, .int .i64, .int .i64, .int .i64, .str] (.t 153) (.t 155)) (some (some 150, false))] (S d 316 l' bx h) (stepR d 316 bx h (some 156) l' v156)) (s28 : ∀ l', lk d l' 150 = v150 → lk d l' 156 = v156 → Run C Pg T ann4 none [.o (some 157) (.fa 2 (.t 156)) (some (some 150, false))] (S d 316 l' bx h) (stepR d 316 bx h (some 157) l' v157)) (s29 : ∀ l', lk d l' 150 = v150 → lk d l' 157 = v157 → Run C Pg T ann4 none [.o (some 158) (.ld1 (.int .i64) (.t 157)) (some (some 150, false))] (S d 316 l' bx h) (stepR d 316 bx h (some 158) l' v158)) (s30 : ∀ l', lk d l' 150 = v150 → lk d l' 152 = v152 → lk d l' 158 = v158 → Run C Pg T ann4 none [.o (some 159) (.eq1 (.int .i64) true (.t 152) (.t 158)) (some (some 150, false))] (S d 316 l' bx h) (stepR d 316 bx h (some 159) l' v159)) (s31 : ∀ l', lk d l' 150 = v150 → lk d l' 159 = v159 → Run C Pg T ann4 none [.o (some 160) (.pick (.t 150) (.c (.bool true)) (.t 159)) none] (S d 316 l' bx h) (stepR d 316 bx h (some 160) l' v160)) (s32 : ∀ l', lk d l' 160 = v160 → Run C Pg T ann4 none [.o (some 161) (.mv (.t 160)) none] (S d 316 l' bx h) (stepR d 316 bx h (some 161) l' v161)) (s33 : ∀ l', lk d l' 12 = lk d l 12 → lk d l' 161 = v161 → Run C Pg T ann4 none [.o (some 162) (.fa 4 (.t 12)) (some (some 161, false))] (S d 316 l' bx h) (stepR d 316 bx h (some 162) l' v162)) (s34 : ∀ l', lk d l' 161 = v161 → lk d l' 162 = v162 → Run C Pg T ann4 none [.o (some 163) (.ld1 .str (.t 162)) (some (some 161, false))] (S d 316 l' bx h) (stepR d 316 bx h (some 163) l' v163)) (s35 : ∀ l', lk d l' 8 = lk d l 8 → lk d l' 161 = v161 → Run C Pg T ann4 none [.o (some 164) (.mv (.t 8)) (some (some 161, false))] (S d 316 l' bx h) (stepR d 316 bx h (some 164) l' v164)) (s36 : ∀ l', lk d l' 12 = lk d l 12 → lk d l' 161 = v161 → Run C Pg T ann4 none [.o (some 165) (.fa 0 (.t 12)) (some (some 161, false))] (S d 316 l' bx h) (stepR d 316 bx h (some 165) l' v165)) (s37 : ∀ l', lk d l' 161 = v161 → lk d l' 165 = v165 → Run C Pg T ann4 none [.o (some 166) (.ld1 (.int .i64) (.t 165)) (some (some 161, false))] (S d 316 l' bx h) (stepR d 316 bx h (some 166) l' v166)) (s38 : ∀ l', lk d l' 161 = v161 → lk d l' 164 = v164 → lk d l' 166 = v166 → Run C Pg T ann4 none [.o (some 167) (.ixs 5 [.int .i64, .int .i64, .int .i64, .int .i64, .str] (.t 164) (.t 166)) (some (some 161, false))] (S d 316 l' bx h) (stepR d 316 bx h (some 167) l' v167)) (s39 : ∀ l', lk d l' 161 = v161 → lk d l' 167 = v167 → Run C Pg T ann4 none [.o (some 168) (.fa 4 (.t 167)) (some (some 161, false))] (S d 316 l' bx h) (stepR d 316 bx h (some 168) l' v168)) (s40 : ∀ l', lk d l' 161 = v161 → lk d l' 168 = v168 → Run C Pg T ann4 none [.o (some 169) (.ld1 .str (.t 168)) (some (some 161, false))] (S d 316 l' bx h) (stepR d 316 bx h (some 169) l' v169)) (s41 : ∀ l', lk d l' 161 = v161 → lk d l' 163 = v163 → lk d l' 169 = v169 → Run C Pg T ann4 none [.o (some 170) (.eq1 .str true (.t 163) (.t 169)) (some (some 161, false))] (S d 316 l' bx h) (stepR d 316 bx h (some 170) l' v170)) (s42 : ∀ l', lk d l' 161 = v161 → lk d l' 170 = v170 → Run C Pg T ann4 none [.o (some 171) (.pick (.t 161) (.c (.bool true)) (.t 170)) none] (S d 316 l' bx h) (stepR d 316 bx h (some 171) l' v171)) (hK : K .normal (S d 316 ((171, v171) :: (170, v170) :: (169, v169) :: (168, v168) :: (167, v167) :: (166, v166) :: (165, v165) :: (164, v164) :: (163, v163) :: (162, v162) :: (161, v161) :: (160, v160) :: (159, v159) :: (158, v158) :: (157, v157) :: (156, v156) :: (155, v155) :: (154, v154) :: (153, v153) :: (152, v152) :: (151, v151) :: (150, v150) :: (149, v149) :: (148, v148) :: (147, v147) :: (146, v146) :: (145, v145) :: (144, v144) :: (143, v143) :: (142, v142) :: (141, v141) :: (140, v140) :: (139, v139) :: (138, v138) :: (137, v137) :: (136, v136) :: (135, v135) :: (134, v134) :: (133, v133) :: (132, v132) :: (131, v131) :: (130, v130) :: (129, v129) :: l) bx h)) : AWp C Pg none (rg (bodyOf Go.Proofs.Try.f4) 1) (S d 316 l bx h) K := AWp.regT T_ok mixed dc4q1 ((171, v171) :: (170, v170) :: (169, v169) :: (168, v168) :: (167, v167) :: (166, v166) :: (165, v165) :: (164, v164) :: (163, v163) :: (162, v162) :: (161, v161) :: (160, v160) :: (159, v159) :: (158, v158) :: (157, v157) :: (156, v156) :: (155, v155) :: (154, v154) :: (153, v153) :: (152, v152) :: (151, v151) :: (150, v150) :: (149, v149) :: (148, v148) :: (147, v147) :: (146, v146) :: (145, v145) :: (144, v144) :: (143, v143) :: (142, v142) :: (141, v141) :: (140, v140) :: (139, v139) :: (138, v138) :: (137, v137) :: (136, v136) :: (135, v135) :: (134, v134) :: (133, v133) :: (132, v132) :: (131, v131) :: (130, v130) :: (129, v129) :: l) (Sk.cons rfl (Sk.cons rfl (Sk.cons rfl (Sk.cons rfl (Sk.cons rfl (Sk.cons rfl (Sk.cons rfl (Sk.cons rfl (Sk.cons rfl (Sk.cons rfl (Sk.cons rfl (Sk.cons rfl (Sk.cons rfl (Sk.cons rfl (Sk.cons rfl (Sk.cons rfl (Sk.cons rfl (Sk.cons rfl (Sk.cons rfl (Sk.cons rfl (Sk.cons rfl (Sk.cons rfl (Sk.cons rfl (Sk.cons rfl (Sk.cons rfl (Sk.cons rfl (Sk.cons rfl (Sk.cons rfl (Sk.cons rfl (Sk.cons rfl (Sk.cons rfl (Sk.cons rfl (Sk.cons rfl (Sk.cons rfl (Sk.cons rfl (Sk.cons rfl (Sk.cons rfl (Sk.cons rfl (Sk.cons rfl (Sk.cons rfl (Sk.cons rfl (Sk.cons rfl (Sk.cons rfl (Sk.refl)))))))))))))))))))))))))))))))))))))))))))) ⟨fun l' ag => s0 l' (ag 12 rfl), fun l' ag => s1 l' (ag 129 rfl), fun l' ag => s2 l' (ag 130 rfl), fun l' ag => s3 l' (ag 131 rfl), fun l' ag => s4 l' (ag 12 rfl) (ag 132 rfl), fun l' ag => s5 l' (ag 132 rfl) (ag 133 rfl), fun l' ag => s6 l' (ag 8 rfl) (ag 132 rfl), fun l' ag => s7 l' (ag 132 rfl) (ag 135 rfl), fun l' ag => s8 l' (ag 132 rfl) (ag 134 rfl) (ag 136 rfl), fun l' ag => s9 l' (ag 132 rfl) (ag 137 rfl), fun l' ag => s10 l' (ag 138 rfl), fun l' ag => s11 l' (ag 12 rfl) (ag 139 rfl), fun l' ag => s12 l' (ag 139 rfl) (ag 140 rfl), fun l' ag => s13 l' (ag 8 rfl) (ag 139 rfl), fun l' ag => s14 l' (ag 12 rfl) (ag 139 rfl), fun l' ag => s15 l' (ag 139 rfl) (ag 143 rfl), fun l' ag => s16 l' (ag 139 rfl) (ag 142 rfl) (ag 144 rfl), fun l' ag => s17 l' (ag 139 rfl) (ag 145 rfl), fun l' ag => s18 l' (ag 139 rfl) (ag 146 rfl), fun l' ag => s19 l' (ag 139 rfl) (ag 141 rfl) (ag 147 rfl), fun l' ag => s20 l' (ag 139 rfl) (ag 148 rfl), fun l' ag => s21 l' (ag 149 rfl), fun l' ag => s22 l' (ag 12 rfl) (ag 150 rfl), fun l' ag => s23 l' (ag 150 rfl) (ag 151 rfl), fun l' ag => s24 l' (ag 8 rfl) (ag 150 rfl), fun l' ag => s25 l' (ag 12 rfl) (ag 150 rfl), fun l' ag => s26 l' (ag 150 rfl) (ag 154 rfl), fun l' ag => s27 l' (ag 150 rfl) (ag 153 rfl) (ag 155 rfl), fun l' ag => s28 l' (ag 150 rfl) (ag 156 rfl), fun l' ag => s29 l' (ag 150 rfl) (ag 157 rfl), fun l' ag => s30 l' (ag 150 rfl) (ag 152 rfl) (ag 158 rfl), fun l' ag => s31 l' (ag 150 rfl) (ag 159 rfl), fun l' ag => s32 l' (ag 160 rfl), fun l' ag => s33 l' (ag 12 rfl) (ag 161 rfl), fun l' ag => s34 l' (ag 161 rfl) (ag 162 rfl), fun l' ag => s35 l' (ag 8 rfl) (ag 161 rfl), fun l' ag => s36 l' (ag 12 rfl) (ag 161 rfl), fun l' ag => s37 l' (ag 161 rfl) (ag 165 rfl), fun l' ag => s38 l' (ag 161 rfl) (ag 164 rfl) (ag 166 rfl), fun l' ag => s39 l' (ag 161 rfl) (ag 167 rfl), fun l' ag => s40 l' (ag 161 rfl) (ag 168 rfl), fun l' ag => s41 l' (ag 161 rfl) (ag 163 rfl) (ag 169 rfl), fun l' ag => s42 l' (ag 161 rfl) (ag 170 rfl), trivial⟩ hK
theorem dc4q2 : detC T ann4 (rg (bodyOf Go.Proofs.Try.f4) 2) = some ([186, 187, 188, 189, 190, 191, 192, 193], [(.o (some 186) (.fa 3 (.t 12)) none, []), (.o (some 187) (.ld1 (.int .i64) (.t 186)) none, [186]), (.o (some 188) (.mv (.t 6)) none, []), (.o (some 189) (.mv (.t 10)) none, []), (.o (some 190) (.ixs 13 [.other, .other, .other, .other, .other, .int .i64, .int .i64, .other, .other, .other, .other, .other, .slice 86] (.t 188) (.t 189)) none, [188, 189]), (.o (some 191) (.fa 6 (.t 190)) none, [190]), (.o (some 192) (.ld1 (.int .i64) (.t 191)) none, [191]), (.o (some 193) (.ar .gtr (.t 187) (.t 192)) none, [187, 192])]) := by kernel_rfl
theorem rd4q2 {v186 v187 v188 v189 v190 v191 v192 v193 : AV} (s0 : ∀ l', lk d l' 12 = lk d l 12 → Run C Pg T ann4 none [.o (some 186) (.fa 3 (.t 12)) none] (S d 316 l' bx h) (stepR d 316 bx h (some 186) l' v186)) (s1 : ∀ l', lk d l' 186 = v186 → Run C Pg T ann4 none [.o (some 187) (.ld1 (.int .i64) (.t 186)) none] (S d 316 l' bx h) (stepR d 316 bx h (some 187) l' v187)) (s2 : ∀ l', lk d l' 6 = lk d l 6 → Run C Pg T ann4 none [.o (some 188) (.mv (.t 6)) none] (S d 316 l' bx h) (stepR d 316 bx h (some 188) l' v188)) (s3 : ∀ l', lk d l' 10 = lk d l 10 → Run C Pg T ann4 none [.o (some 189) (.mv (.t 10)) none] (S d 316 l' bx h) (stepR d 316 bx h (some 189) l' v189)) (s4 : ∀ l', lk d l' 188 = v188 → lk d l' 189 = v189 → Run C Pg T ann4 none [.o (some 190) (.ixs 13 [.other, .other, .other, .other, .other, .int .i64, .int .i64, .other, .other, .other, .other, .other, .slice 86] (.t 188) (.t 189)) none] (S d 316 l' bx h) (stepR d 316 bx h (some 190) l' v190)) (s5 : ∀ l', lk d l' 190 = v190 → Run C Pg T ann4 none [.o (some 191) (.fa 6 (.t 190)) none] (S d 316 l' bx h) (stepR d 316 bx h (some 191) l' v191)) (s6 : ∀ l', lk d l' 191 = v191 → Run C Pg T ann4 none [.o (some 192) (.ld1 (.int .i64) (.t 191)) none] (S d 316 l' bx h) (stepR d 316 bx h (some 192) l' v192)) (s7 : ∀ l', lk d l' 187 = v187 → lk d l' 192 = v192 → Run C Pg T ann4 none [.o (some 193) (.ar .gtr (.t 187) (.t 192)) none] (S d 316 l' bx h) (stepR d 316 bx h (some 193) l' v193)) (hK : K .normal (S d 316 ((193, v193) :: (192, v192) :: (191, v191) :: (190, v190) :: (189, v189) :: (188, v188) :: (187, v187) :: (186, v186) :: l) bx h)) : AWp C Pg none (rg (bodyOf Go.Proofs.Try.f4) 2) (S d 316 l bx h) K := AWp.regT T_ok mixed dc4q2 ((193, v193) :: (192, v192) :: (191, v191) :: (190, v190) :: (189, v189) :: (188, v188) :: (187, v187) :: (186, v186) :: l) (Sk.cons rfl (Sk.cons rfl (Sk.cons rfl (Sk.cons rfl (Sk.cons rfl (Sk.cons rfl (Sk.cons rfl (Sk.cons rfl (Sk.refl))))))))) ⟨fun l' ag => s0 l' (ag 12 rfl), fun l' ag => s1 l' (ag 186 rfl), fun l' ag => s2 l' (ag 6 rfl), fun l' ag => s3 l' (ag 10 rfl), fun l' ag => s4 l' (ag 188 rfl) (ag 189 rfl), fun l' ag => s5 l' (ag 190 rfl), fun l' ag => s6 l' (ag 191 rfl), fun l' ag => s7 l' (ag 187 rfl) (ag 192 rfl), trivial⟩ hK
theorem dc4q3 : detC T ann4 (rg (bodyOf Go.Proofs.Try.f4) 3) = some ([214, 215, 216, 217, 218, 219, 220, 221, 222, 223, 224, 225, 226], [(.o (some 214) (.mv (.t 9)) none, []), (.o (some 215) (.fa 0 (.t 12)) none, []), (.o (some 216) (.ld1 (.int .i64) (.t 215)) none, [215]), (.o (some 217) (.ixs 2 [.int .i64, .int .i64] (.t 214) (.t 216)) none, [214, 216]), (.o (some 218) (.fa 1 (.t 217)) none, [217]), (.o (some 219) (.ld1 (.int .i64) (.t 218)) none, [218]), (.o (some 220) (.mv (.t 9)) none, []), (.o (some 221) (.fa 0 (.t 12)) none, []), (.o (some 222) (.ld1 (.int .i64) (.t 221)) none, [221]), (.o (some 223) (.ixs 2 [.int .i64, .int .i64] (.t 220) (.t 222)) none, [220, 222]), (.o (some 224) (.fa 0 (.t 223)) none, [223]), (.o (some 225) (.ld1 (.int .i64) (.t 224)) none, [224]), (.o (some 226) (.ar .gtr (.t 219) (.t 225)) none, [219, 225])]) := by kernel_rfl
theorem rd4q3 {v214 v215 v216 v217 v218 v219 v220 v221 v222 v223 v224 v225 v226 : AV} (s0 : ∀ l', lk d l' 9 = lk d l 9 → Run C Pg T ann4 none [.o (some 214) (.mv (.t 9)) none] (S d 316 l' bx h) (stepR d 316 bx h (some 214) l' v214)) (s1 : ∀ l', lk d l' 12 = lk d l 12 → Run C Pg T ann4 none [.o (some 215) (.fa 0 (.t 12)) none] (S d 316 l' bx h) (stepR d 316 bx h (some 215) l' v215)) (s2 : ∀ l', lk d l' 215 = v215 → Run C Pg T ann4 none [.o (some 216) (.ld1 (.int .i64) (.t 215)) none] (S d 316 l' bx h) (stepR d 316 bx h (some 216) l' v216)) (s3 : ∀ l', lk d l' 214 = v214 → lk d l' 216 = v216 → Run C Pg T ann4 none [.o (some 217) (.ixs 2 [.int .i64, .int .i64] (.t 214) (.t 216)) none] (S d 316 l' bx h) (stepR d 316 bx h (some 217) l' v217)) (s4 : ∀ l', lk d l' 217 = v217 → Run C Pg T ann4 none [.o (some 218) (.fa 1 (.t 217)) none] (S d 316 l' bx h) (stepR d 316 bx h (some 218) l' v218)) (s5 : ∀ l', lk d l' 218 = v218 → Run C Pg T ann4 none [.o (some 219) (.ld1 (.int .i64) (.t 218)) none] (S d 316 l' bx h) (stepR d 316 bx h (some 219) l' v219)) (s6 : ∀ l', lk d l' 9 = lk d l 9 → Run C Pg T ann4 none [.o (some 220) (.mv (.t 9)) none] (S d 316 l' bx h) (stepR d 316 bx h (some 220) l' v220)) (s7 : ∀ l', lk d l' 12 = lk d l 12 → Run C Pg T ann4 none [.o (some 221) (.fa 0 (.t 12)) none] (S d 316 l' bx h) (stepR d 316 bx h (some 221) l' v221)) (s8 : ∀ l', lk d l' 221 = v221 → Run C Pg T ann4 none [.o (some 222) (.ld1 (.int .i64) (.t 221)) none] (S d 316 l' bx h) (stepR d 316 bx h (some 222) l' v222)) (s9 : ∀ l', lk d l' 220 = v220 → lk d l' 222 = v222 → Run C Pg T ann4 none [.o (some 223) (.ixs 2 [.int .i64, .int .i64] (.t 220) (.t 222)) none] (S d 316 l' bx h) (stepR d 316 bx h (some 223) l' v223)) (s10 : ∀ l', lk d l' 223 = v223 → Run C Pg T ann4 none [.o (some 224) (.fa 0 (.t 223)) none] (S d 316 l' bx h) (stepR d 316 bx h (some 224) l' v224)) (s11 : ∀ l', lk d l' 224 = v224 → Run C Pg T ann4 none [.o (some 225) (.ld1 (.int .i64) (.t 224)) none] (S d 316 l' bx h) (stepR d 316 bx h (some 225) l' v225)) (s12 : ∀ l', lk d l' 219 = v219 → lk d l' 225 = v225 → Run C Pg T ann4 none [.o (some 226) (.ar .gtr (.t 219) (.t 225)) none] (S d 316 l' bx h) (stepR d 316 bx h (some 226) l' v226)) (hK : K .normal (S d 316 ((226, v226) :: (225, v225) :: (224, v224) :: (223, v223) :: (222, v222) :: (221, v221) :: (220, v220) :: (219, v219) :: (218, v218) :: (217, v217) :: (216, v216) :: (215, v215) :: (214, v214) :: l) bx h)) : AWp C Pg none (rg (bodyOf Go.Proofs.Try.f4) 3) (S d 316 l bx h) K := AWp.regT T_ok mixed dc4q3 ((226, v226) :: (225, v225) :: (224, v224) :: (223, v223) :: (222, v222) :: (221, v221) :: (220, v220) :: (219, v219) :: (218, v218) :: (217, v217) :: (216, v216) :: (215, v215) :: (214, v214) :: l) (Sk.cons rfl (Sk.cons rfl (Sk.cons rfl (Sk.cons rfl (Sk.cons rfl (Sk.cons rfl (Sk.cons rfl (Sk.cons rfl (Sk.cons rfl (Sk.cons rfl (Sk.cons rfl (Sk.cons rfl (Sk.cons rfl (Sk.refl)))))))))))))) ⟨fun l' ag => s0 l' (ag 9 rfl), fun l' ag => s1 l' (ag 12 rfl), fun l' ag => s2 l' (ag 215 rfl), fun l' ag => s3 l' (ag 214 rfl) (ag 216 rfl), fun l' ag => s4 l' (ag 217 rfl), fun l' ag => s5 l' (ag 218 rfl), fun l' ag => s6 l' (ag 9 rfl), fun l' ag => s7 l' (ag 12 rfl), fun l' ag => s8 l' (ag 221 rfl), fun l' ag => s9 l' (ag 220 rfl) (ag 222 rfl), fun l' ag => s10 l' (ag 223 rfl), fun l' ag => s11 l' (ag 224 rfl), fun l' ag => s12 l' (ag 219 rfl) (ag 225 rfl), trivial⟩ hK
theorem dc4q4 : detC T ann4 (rg (bodyOf Go.Proofs.Try.f4) 4) = some ([239, 240, 241, 242, 243, 244, 245, 246, 247, 248, 249, 250, 251, 252, 253, 254, 255, 256, 257, 258, 259, 260, 261, 262, 263, 264, 265, 266, 267, 268, 269, 270, 271, 272, 273, 274, 275, 276, 277, 278, 279, 280, 281], [(.o (some 239) (.fa 0 (.t 14)) none, []), (.o (some 240) (.ld1 (.int .i64) (.t 239)) none, [239]), (.o (some 241) (.ar .lss (.t 240) (.c (.int .i64 0))) none, [240]), (.o (some 242) (.mv (.t 241)) none, [241]), (.o (some 243) (.fa 0 (.t 14)) (some (some 242, false)), [242]), (.o (some 244) (.ld1 (.int .i64) (.t 243)) (some (some 242, false)), [243, 242]), (.o (some 245) (.mv (.t 8)) (some (some 242, false)), [242]), (.o (some 246) (.lens (.t 245)) (some (some 242, false)), [245, 242]), (.o (some 247) (.ar .geq (.t 244) (.t 246)) (some (some 242, false)), [244, 246, 242]), (.o (some 248) (.pick (.t 242) (.c (.bool true)) (.t 247)) none, [242, 247]), (.o (some 249) (.mv (.t 248)) none, [248, 242]), (.o (some 250) (.fa 1 (.t 14)) (some (some 249, false)), [249]), (.o (some 251) (.ld1 (.int .i64) (.t 250)) (some (some 249, false)), [250, 249]), (.o (some 252) (.mv (.t 8)) (some (some 249, false)), [249]), (.o (some 253) (.fa 0 (.t 14)) (some (some 249, false)), [249]), (.o (some 254) (.ld1 (.int .i64) (.t 253)) (some (some 249, false)), [253, 249]), (.o (some 255) (.ixs 5 [.int .i64, .int .i64, .int .i64, .int .i64, .str] (.t 252) (.t 254)) (some (some 249, false)), [252, 254, 249]), (.o (some 256) (.fa 1 (.t 255)) (some (some 249, false)), [255, 249]), (.o (some 257) (.ld1 (.int .i64) (.t 256)) (some (some 249, false)), [256, 249]), (.o (some 258) (.eq1 (.int .i64) true (.t 251) (.t 257)) (some (some 249, false)), [251, 257, 249]), (.o (some 259) (.pick (.t 249) (.c (.bool true)) (.t 258)) none, [249, 258]), (.o (some 260) (.mv (.t 259)) none, [259, 249]), (.o (some 261) (.fa 2 (.t 14)) (some (some 260, false)), [260]), (.o (some 262) (.ld1 (.int .i64) (.t 261)) (some (some 260, false)), [261, 260]), (.o (some 263) (.mv (.t 8)) (some (some 260, false)), [260]), (.o (some 264) (.fa 0 (.t 14)) (some (some 260, false)), [260]), (.o (some 265) (.ld1 (.int .i64) (.t 264)) (some (some 260, false)), [264, 260]), (.o (some 266) (.ixs 5 [.int .i64, .int .i64, .int .i64, .int .i64, .str] (.t 263) (.t 265)) (some (some 260, false)), [263, 265, 260]), (.o (some 267) (.fa 2 (.t 266)) (some (some 260, false)), [266, 260]), (.o (some 268) (.ld1 (.int .i64) (.t 267)) (some (some 260, false)), [267, 260]), (.o (some 269) (.eq1 (.int .i64) true (.t 262) (.t 268)) (some (some 260, false)), [262, 268, 260]), (.o (some 270) (.pick (.t 260) (.c (.bool true)) (.t 269)) none, [260, 269]), (.o (some 271) (.mv (.t 270)) none, [270, 260]), (.o (some 272) (.fa 4 (.t 14)) (some (some 271, false)), [271]), (.o (some 273) (.ld1 .str (.t 272)) (some (some 271, false)), [272, 271]), (.o (some 274) (.mv (.t 8)) (some (some 271, false)), [271]), (.o (some 275) (.fa 0 (.t 14)) (some (some 271, false)), [271]), (.o (some 276) (.ld1 (.int .i64) (.t 275)) (some (some 271, false)), [275, 271]), (.o (some 277) (.ixs 5 [.int .i64, .int .i64, .int .i64, .int .i64, .str] (.t 274) (.t 276)) (some (some 271, false)), [274, 276, 271]), (.o (some 278) (.fa 4 (.t 277)) (some (some 271, false)), [277, 271]), (.o (some 279) (.ld1 .str (.t 278)) (some (some 271, false)), [278, 271]), (.o (some 280) (.eq1 .str true (.t 273) (.t 279)) (some (some 271, false)), [273, 279, 271]), (.o (some 281) (.pick (.t 271) (.c (.bool true)) (.t 280)) none, [271, 280])]) := by kernel_rfl
theorem rd4q4 {v239 v240 v241 v242 v243 v244 v245 v246 v247 v248 v249 v250 v251 v252 v253 v254 v255 v256 v257 v258 v259 v260 v261 v262 v263 v264 v265 v266 v267 v268 v269 v270 v271 v272 v273 v274 v275 v276 v277 v278 v279 v280 v281 : AV} (s0 : ∀ l', lk d l' 14 = lk d l 14 → Run C Pg T ann4 none [.o (some 239) (.fa 0 (.t 14)) none] (S d 316 l' bx h) (stepR d 316 bx h (some 239) l' v239)) (s1 : ∀ l', lk d l' 239 = v239 → Run C Pg T ann4 none [.o (some 240) (.ld1 (.int .i64) (.t 239)) none] (S d 316 l' bx h) (stepR d 316 bx h (some 240) l' v240)) (s2 : ∀ l', lk d l' 240 = v240 → Run C Pg T ann4 none [.o (some 241) (.ar .lss (.t 240) (.c (.int .i64 0))) none] (S d 316 l' bx h) (stepR d 316 bx h (some 241) l' v241)) (s3 : ∀ l', lk d l' 241 = v241 → Run C Pg T ann4 none [.o (some 242) (.mv (.t 241)) none] (S d 316 l' bx h) (stepR d 316 bx h (some 242) l' v242)) (s4 : ∀ l', lk d l' 14 = lk d l 14 → lk d l' 242 = v242 → Run C Pg T ann4 none [.o (some 243) (.fa 0 (.t 14)) (some (some 242, false))] (S d 316 l' bx h) (stepR d 316 bx h (some 243) l' v243)) (s5 : ∀ l', lk d l' 242 = v242 → lk d l' 243 = v243 → Run C Pg T ann4 none [.o (some 244) (.ld1 (.int .i64) (.t 243)) (some (some 242, false))] (S d 316 l' bx h) (stepR d 316 bx h (some 244) l' v244)) (s6 : ∀ l', lk d l' 8 = lk d l 8 → lk d l' 242 = v242 → Run C Pg T ann4 none [.o (some 245) (.mv (.t 8)) (some (some 242, false))] (S d 316 l' bx h) (stepR d 316 bx h (some 245) l' v245)) (s7 : ∀ l', lk d l' 242 = v242 → lk d l' 245 = v245 → Run C Pg T ann4 none [.o (some 246) (.lens (.t 245)) (some (some 242, false))] (S d 316 l' bx h) (stepR d 316 bx h (some 246) l' v246)) (s8 : ∀ l', lk d l' 242 = v242 → lk d l' 244 = v244 → lk d l' 246 = v246 → Run C Pg T ann4 none [.o (some 247) (.ar .geq (.t 244) (.t 246)) (some (some 242, false))] (S d 316 l' bx h) (stepR d 316 bx h (some 247) l' v247)) (s9 : ∀ l', lk d l' 242 = v242 → lk d l' 247 = v247 → Run C Pg T ann4 none [.o (some 248) (.pick (.t 242) (.c (.bool true)) (.t 247)) none] (S d 316 l' bx h) (stepR d 316 bx h (some 248) l' v248)) (s10 : ∀ l', lk d l' 248 = v248 → Run C Pg T ann4 none [.o (some 249) (.mv (.t 248)) none] (S d 316 l' bx h) (stepR d 316 bx h (some 249) l' v249)) (s11 : ∀ l', lk d l' 14 = lk d l 14 → lk d l' 249 = v249 → Run C Pg T ann4 none [.o (some 250) (.fa 1 (.t 14)) (some (some 249, false))] (S d 316 l' bx h) (stepR d 316 bx h (some 250) l' v250)) (s12 : ∀ l', lk d l' 249 = v249 → lk d l' 250 = v250 → Run C Pg T ann4 none [.o (some 251) (.ld1 (.int .i64) (.t 250)) (some (some 249, false))] (S d 316 l' bx h) (stepR d 316 bx h (some 251) l' v251)) (s13 : ∀ l', lk d l' 8 = lk d l 8 → lk d l' 249 = v249 → Run C Pg T ann4 none [.o (some 252) (.mv (.t 8)) (some (some 249, false))] (S d 316 l' bx h) (stepR d 316 bx h (some 252) l' v252)) (s14 : ∀ l', lk d l' 14 = lk d l 14 → lk d l' 249 = v249 → Run C Pg T ann4 none [.o (some 253) (.fa 0 (.t 14)) (some (some 249, false))] (S d 316 l' bx h) (stepR d 316 bx h (some 253) l' v253)) (s15 : ∀ l', lk d l' 249 = v249 → lk d l' 253 = v253 → Run C Pg T ann4 none [.o (some 254) (.ld1 (.int .i64) (.t 253)) (some (some 249, false))] (S d 316 l' bx h) (stepR d 316 bx h (some 254) l' v254)) (s16 : ∀ l', lk d l' 249 = v249 → lk d l' 252 = v252 → lk d l' 254 = v254 → Run C Pg T ann4 none [.o (some 255) (.ixs 5 [.int .i64, .int .i64, .int .i64, .int .i64, .str] (.t 252) (.t 254)) (some (some 249, false))] (S d 316 l' bx h) (stepR d 316 bx h (some 255) l' v255)) (s17 : ∀ l', lk d l' 249 = v249 → lk d l' 255 = v255 → Run C Pg T ann4 none [.o (some 256) (.fa 1 (.t 255)) (some (some 249, false))] (S d 316 l' bx h) (stepR d 316 bx h (some 256) l' v256)) (s18 : ∀ l', lk d l' 249 = v249 → lk d l' 256 = v256 → Run C Pg T ann4 none [.o (some 257) (.ld1 (.int .i64) (.t 256)) (some (some 249, false))] (S d 316 l' bx h) (stepR d 316 bx h (some 257) l' v257)) (s19 : ∀ l', lk d l' 249 = v249 → lk d l' 251 = v251 → lk d l' 257 = v257 → Run C Pg T ann4 none [.o (some 258) (.eq1 (.int .i64) true (.t 251) (.t 257)) (some (some 249, false))] (S d 316 l' bx h) (stepR d 316 bx h (some 258) l' v258)) (s20 : ∀ l', lk d l' 249 = v249 → lk d l' 258 = v258 → Run C Pg T ann4 none [.o (some 259) (.pick (.t 249) (.c (.bool true)) (.t 258)) none] (S d 316 l' bx h) (stepR d 316 bx h (some 259) l' v259)) (s21 : ∀ l', lk d l' 259 = v259 → Run C Pg T ann4 none [.o (some 260) (.mv (.t 259)) none] (S d 316 l' bx h) (stepR d 316 bx h (some 260) l' v260)) (s22 : ∀ l', lk d l' 14 = lk d l 14 → lk d l' 260 = v260 → Run C Pg T ann4 none [.o (some 261) (.fa 2 (.t 14)) (some (some 260, false))] (S d 316 l' bx h) (stepR d 316 bx h (some 261) l' v261)) (s23 : ∀ l', lk d l' 260 = v260 → lk d l' 261 = v261 → Run C Pg T ann4 none [.o (some 262) (.ld1 (.int .i64) (.t 261)) (some (some 260, false))] (S d 316 l' bx h) (stepR d 316 bx h (some 262) l' v262)) (s24 : ∀ l', lk d l' 8 = lk d l 8 → lk d l' 260 = v260 → Run C Pg T ann4 none [.o (some 263) (.mv (.t 8)) (some (some 260, false))] (S d 316 l' bx h) (stepR d 316 bx h (some 263) l' v263)) (s25 : ∀ l', lk d l' 14 = lk d l 14 → lk d l' 260 = v260 → Run C Pg T ann4 none [.o (some 264) (.fa 0 (.t 14)) (some (some 260, false))] (S d 316 l' bx h) (stepR d 316 bx h (some 264) l' v264)) (s26 : ∀ l', lk d l' 260 = v260 → lk d l' 264 = v264 → Run C Pg T ann4 none [.o (some 265) (.ld1 (.int .i64) (.t 264)) (some (some 260, false))] (S d 316 l' bx h) (stepR d 316 bx h (some 265) l' v265)) (s27 : ∀ l', lk d l' 260 = v260 → lk d l' 263 = v263 → lk d l' 265 = v265 → Run C Pg T ann4 none [.o (some 266) (.ixs 5 [.int .i64, .int .i64, .int .i64, .int .i64, .str] (.t 263) (.t 265)) (some (some 260, false))] (S d 316 l' bx h) (stepR d 316 bx h (some 266) l' v266)) (s28 : ∀ l', lk d l' 260 = v260 → lk d l' 266 = v266 → Run C Pg T ann4 none [.o (some 267) (.fa 2 (.t 266)) (some (some 260, false))] (S d 316 l' bx h) (stepR d 316 bx h (some 267) l' v267)) (s29 : ∀ l', lk d l' 260 = v260 → lk d l' 267 = v267 → Run C Pg T ann4 none [.o (some 268) (.ld1 (.int .i64) (.t 267)) (some (some 260, false))] (S d 316 l' bx h) (stepR d 316 bx h (some 268) l' v268)) (s30 : ∀ l', lk d l' 260 = v260 → lk d l' 262 = v262 → lk d l' 268 = v268 → Run C Pg T ann4 none [.o (some 269) (.eq1 (.int .i64) true (.t 262) (.t 268)) (some (some 260, false))] (S d 316 l' bx h) (stepR d 316 bx h (some 269) l' v269)) (s31 : ∀ l', lk d l' 260 = v260 → lk d l' 269 = v269 → Run C Pg T ann4 none [.o (some 270) (.pick (.t 260) (.c (.bool true)) (.t 269)) none] (S d 316 l' bx h) (stepR d 316 bx h (some 270) l' v270)) (s32 : ∀ l', lk d l' 270 = v270 → Run C Pg T ann4 none [.o (some 271) (.mv (.t 270)) none] (S d 316 l' bx h) (stepR d 316 bx h (some 271) l' v271)) (s33 : ∀ l', lk d l' 14 = lk d l 14 → lk d l' 271 = v271 → Run C Pg T ann4 none [.o (some 272) (.fa 4 (.t 14)) (some (some 271, false))] (S d 316 l' bx h) (stepR d 316 bx h (some 272) l' v272)) (s34 : ∀ l', lk d l' 271 = v271 → lk d l' 272 = v272 → Run C Pg T ann4 none [.o (some 273) (.ld1 .str (.t 272)) (some (some 271, false))] (S d 316 l' bx h) (stepR d 316 bx h (some 273) l' v273)) (s35 : ∀ l', lk d l' 8 = lk d l 8 → lk d l' 271 = v271 → Run C Pg T ann4 none [.o (some 274) (.mv (.t 8)) (some (some 271, false))] (S d 316 l' bx h) (stepR d 316 bx h (some 274) l' v274)) (s36 : ∀ l', lk d l' 14 = lk d l 14 → lk d l' 271 = v271 → Run C Pg T ann4 none [.o (some 275) (.fa 0 (.t 14)) (some (some 271, false))] (S d 316 l' bx h) (stepR d 316 bx h (some 275) l' v275)) (s37 : ∀ l', lk d l' 271 = v271 → lk d l' 275 = v275 → Run C Pg T ann4 none [.o (some 276) (.ld1 (.int .i64) (.t 275)) (some (some 271, false))] (S d 316 l' bx h) (stepR d 316 bx h (some 276) l' v276)) (s38 : ∀ l', lk d l' 271 = v271 → lk d l' 274 = v274 → lk d l' 276 = v276 → Run C Pg T ann4 none [.o (some 277) (.ixs 5 [.int .i64, .int .i64, .int .i64, .int .i64, .str] (.t 274) (.t 276)) (some (some 271, false))] (S d 316 l' bx h) (stepR d 316 bx h (some 277) l' v277)) (s39 : ∀ l', lk d l' 271 = v271 → lk d l' 277 = v277 → Run C Pg T ann4 none [.o (some 278) (.fa 4 (.t 277)) (some (some 271, false))] (S d 316 l' bx h) (stepR d 316 bx h (some 278) l' v278)) (s40 : ∀ l', lk d l' 271 = v271 → lk d l' 278 = v278 → Run C Pg T ann4 none [.o (some 279) (.ld1 .str (.t 278)) (some (some 271, false))] (S d 316 l' bx h) (stepR d 316 bx h (some 279) l' v279)) (s41 : ∀ l', lk d l' 271 = v271 → lk d l' 273 = v273 → lk d l' 279 = v279 → Run C Pg T ann4 none [.o (some 280) (.eq1 .str true (.t 273) (.t 279)) (some (some 271, false))] (S d 316 l' bx h) (stepR d 316 bx h (some 280) l' v280)) (s42 : ∀ l', lk d l' 271 = v271 → lk d l' 280 = v280 → Run C Pg T ann4 none [.o (some 281) (.pick (.t 271) (.c (.bool true)) (.t 280)) none] (S d 316 l' bx h) (stepR d 316 bx h (some 281) l' v281)) (hK : K .normal (S d 316 ((281, v281) :: (280, v280) :: (279, v279) :: (278, v278) :: (277, v277) :: (276, v276) :: (275, v275) :: (274, v274) :: (273, v273) :: (272, v272) :: (271, v271) :: (270, v270) :: (269, v269) :: (268, v268) :: (267, v267) :: (266, v266) :: (265, v265) :: (264, v264) :: (263, v263) :: (262, v262) :: (261, v261) :: (260, v260) :: (259, v259) :: (258, v258) :: (257, v257) :: (256, v256) :: (255, v255) :: (254, v254) :: (253, v253) :: (252, v252) :: (251, v251) :: (250, v250) :: (249, v249) :: (248, v248) :: (247, v247) :: (246, v246) :: (245, v245) :: (244, v244) :: (243, v243) :: (242, v242) :: (241, v241) :: (240, v240) :: (239, v239) :: l) bx h)) : AWp C Pg none (rg (bodyOf Go.Proofs.Try.f4) 4) (S d 316 l bx h) K := AWp.regT T_ok mixed dc4q4 ((281, v281) :: (280, v280) :: (279, v279) :: (278, v278) :: (277, v277) :: (276, v276) :: (275, v275) :: (274, v274) :: (273, v273) :: (272, v272) :: (271, v271) :: (270, v270) :: (269, v269) :: (268, v268) :: (267, v267) :: (266, v266) :: (265, v265) :: (264, v264) :: (263, v263) :: (262, v262) :: (261, v261) :: (260, v260) :: (259, v259) :: (258, v258) :: (257, v257) :: (256, v256) :: (255, v255) :: (254, v254) :: (253, v253) :: (252, v252) :: (251, v251) :: (250, v250) :: (249, v249) :: (248, v248) :: (247, v247) :: (246, v246) :: (245, v245) :: (244, v244) :: (243, v243) :: (242, v242) :: (241, v241) :: (240, v240) :: (239, v239) :: l) (Sk.cons rfl (Sk.cons rfl (Sk.cons rfl (Sk.cons rfl (Sk.cons rfl (Sk.cons rfl (Sk.cons rfl (Sk.cons rfl (Sk.cons rfl (Sk.cons rfl (Sk.cons rfl (Sk.cons rfl (Sk.cons rfl (Sk.cons rfl (Sk.cons rfl (Sk.cons rfl (Sk.cons rfl (Sk.cons rfl (Sk.cons rfl (Sk.cons rfl (Sk.cons rfl (Sk.cons rfl (Sk.cons rfl (Sk.cons rfl (Sk.cons rfl (Sk.cons rfl (Sk.cons rfl (Sk.cons rfl (Sk.cons rfl (Sk.cons rfl (Sk.cons rfl (Sk.cons rfl (Sk.cons rfl (Sk.cons rfl (Sk.cons rfl (Sk.cons rfl (Sk.cons rfl (Sk.cons rfl (Sk.cons rfl (Sk.cons rfl (Sk.cons rfl (Sk.cons rfl (Sk.cons rfl (Sk.refl)))))))))))))))))))))))))))))))))))))))))))) ⟨fun l' ag => s0 l' (ag 14 rfl), fun l' ag => s1 l' (ag 239 rfl), fun l' ag => s2 l' (ag 240 rfl), fun l' ag => s3 l' (ag 241 rfl), fun l' ag => s4 l' (ag 14 rfl) (ag 242 rfl), fun l' ag => s5 l' (ag 242 rfl) (ag 243 rfl), fun l' ag => s6 l' (ag 8 rfl) (ag 242 rfl), fun l' ag => s7 l' (ag 242 rfl) (ag 245 rfl), fun l' ag => s8 l' (ag 242 rfl) (ag 244 rfl) (ag 246 rfl), fun l' ag => s9 l' (ag 242 rfl) (ag 247 rfl), fun l' ag => s10 l' (ag 248 rfl), fun l' ag => s11 l' (ag 14 rfl) (ag 249 rfl), fun l' ag => s12 l' (ag 249 rfl) (ag 250 rfl), fun l' ag => s13 l' (ag 8 rfl) (ag 249 rfl), fun l' ag => s14 l' (ag 14 rfl) (ag 249 rfl), fun l' ag => s15 l' (ag 249 rfl) (ag 253 rfl), fun l' ag => s16 l' (ag 249 rfl) (ag 252 rfl) (ag 254 rfl), fun l' ag => s17 l' (ag 249 rfl) (ag 255 rfl), fun l' ag => s18 l' (ag 249 rfl) (ag 256 rfl), fun l' ag => s19 l' (ag 249 rfl) (ag 251 rfl) (ag 257 rfl), fun l' ag => s20 l' (ag 249 rfl) (ag 258 rfl), fun l' ag => s21 l' (ag 259 rfl), fun l' ag => s22 l' (ag 14 rfl) (ag 260 rfl), fun l' ag => s23 l' (ag 260 rfl) (ag 261 rfl), fun l' ag => s24 l' (ag 8 rfl) (ag 260 rfl), fun l' ag => s25 l' (ag 14 rfl) (ag 260 rfl), fun l' ag => s26 l' (ag 260 rfl) (ag 264 rfl), fun l' ag => s27 l' (ag 260 rfl) (ag 263 rfl) (ag 265 rfl), fun l' ag => s28 l' (ag 260 rfl) (ag 266 rfl), fun l' ag => s29 l' (ag 260 rfl) (ag 267 rfl), fun l' ag => s30 l' (ag 260 rfl) (ag 262 rfl) (ag 268 rfl), fun l' ag => s31 l' (ag 260 rfl) (ag 269 rfl), fun l' ag => s32 l' (ag 270 rfl), fun l' ag => s33 l' (ag 14 rfl) (ag 271 rfl), fun l' ag => s34 l' (ag 271 rfl) (ag 272 rfl), fun l' ag => s35 l' (ag 8 rfl) (ag 271 rfl), fun l' ag => s36 l' (ag 14 rfl) (ag 271 rfl), fun l' ag => s37 l' (ag 271 rfl) (ag 275 rfl), fun l' ag => s38 l' (ag 271 rfl) (ag 274 rfl) (ag 276 rfl), fun l' ag => s39 l' (ag 271 rfl) (ag 277 rfl), fun l' ag => s40 l' (ag 271 rfl) (ag 278 rfl), fun l' ag => s41 l' (ag 271 rfl) (ag 273 rfl) (ag 279 rfl), fun l' ag => s42 l' (ag 271 rfl) (ag 280 rfl), trivial⟩ hK
theorem dc4q5 : detC T ann4 (rg (bodyOf Go.Proofs.Try.f4) 5) = some ([297, 298, 299, 300, 301, 302, 303, 304, 305, 306, 307], [(.o (some 297) (.mv (.t 9)) none, []), (.o (some 298) (.mv (.t 15)) none, []), (.o (some 299) (.ixs 2 [.int .i64, .int .i64] (.t 297) (.t 298)) none, [297, 298]), (.o (some 300) (.fa 0 (.t 299)) none, [299]), (.o (some 301) (.ld1 (.int .i64) (.t 300)) none, [300]), (.o (some 302) (.mv (.t 9)) none, []), (.o (some 303) (.mv (.t 15)) none, []), (.o (some 304) (.ixs 2 [.int .i64, .int .i64] (.t 302) (.t 303)) none, [302, 303]), (.o (some 305) (.fa 1 (.t 304)) none, [304]), (.o (some 306) (.ld1 (.int .i64) (.t 305)) none, [305]), (.o (some 307) (.eq1 (.int .i64) true (.t 301) (.t 306)) none, [301, 306])]) := by kernel_rfl
theorem rd4q5 {v297 v298 v299 v300 v301 v302 v303 v304 v305 v306 v307 : AV} (s0 : ∀ l', lk d l' 9 = lk d l 9 → Run C Pg T ann4 none [.o (some 297) (.mv (.t 9)) none] (S d 316 l' bx h) (stepR d 316 bx h (some 297) l' v297)) (s1 : ∀ l', lk d l' 15 = lk d l 15 → Run C Pg T ann4 none [.o (some 298) (.mv (.t 15)) none] (S d 316 l' bx h) (stepR d 316 bx h (some 298) l' v298)) (s2 : ∀ l', lk d l' 297 = v297 → lk d l' 298 = v298 → Run C Pg T ann4 none [.o (some 299) (.ixs 2 [.int .i64, .int .i64] (.t 297) (.t 298)) none] (S d 316 l' bx h) (stepR d 316 bx h (some 299) l' v299)) (s3 : ∀ l', lk d l' 299 = v299 → Run C Pg T ann4 none [.o (some 300) (.fa 0 (.t 299)) none] (S d 316 l' bx h) (stepR d 316 bx h (some 300) l' v300)) (s4 : ∀ l', lk d l' 300 = v300 → Run C Pg T ann4 none [.o (some 301) (.ld1 (.int .i64) (.t 300)) none] (S d 316 l' bx h) (stepR d 316 bx h (some 301) l' v301)) (s5 : ∀ l', lk d l' 9 = lk d l 9 → Run C Pg T ann4 none [.o (some 302) (.mv (.t 9)) none] (S d 316 l' bx h) (stepR d 316 bx h (some 302) l' v302)) (s6 : ∀ l', lk d l' 15 = lk d l 15 → Run C Pg T ann4 none [.o (some 303) (.mv (.t 15)) none] (S d 316 l' bx h) (stepR d 316 bx h (some 303) l' v303)) (s7 : ∀ l', lk d l' 302 = v302 → lk d l' 303 = v303 → Run C Pg T ann4 none [.o (some 304) (.ixs 2 [.int .i64, .int .i64] (.t 302) (.t 303)) none] (S d 316 l' bx h) (stepR d 316 bx h (some 304) l' v304)) (s8 : ∀ l', lk d l' 304 = v304 → Run C Pg T ann4 none [.o (some 305) (.fa 1 (.t 304)) none] (S d 316 l' bx h) (stepR d 316 bx h (some 305) l' v305)) (s9 : ∀ l', lk d l' 305 = v305 → Run C Pg T ann4 none [.o (some 306) (.ld1 (.int .i64) (.t 305)) none] (S d 316 l' bx h) (stepR d 316 bx h (some 306) l' v306)) (s10 : ∀ l', lk d l' 301 = v301 → lk d l' 306 = v306 → Run C Pg T ann4 none [.o (some 307) (.eq1 (.int .i64) true (.t 301) (.t 306)) none] (S d 316 l' bx h) (stepR d 316 bx h (some 307) l' v307)) (hK : K .normal (S d 316 ((307, v307) :: (306, v306) :: (305, v305) :: (304, v304) :: (303, v303) :: (302, v302) :: (301, v301) :: (300, v300) :: (299, v299) :: (298, v298) :: (297, v297) :: l) bx h)) : AWp C Pg none (rg (bodyOf Go.Proofs.Try.f4) 5) (S d 316 l bx h) K := AWp.regT T_ok mixed dc4q5 ((307, v307) :: (306, v306) :: (305, v305) :: (304, v304) :: (303, v303) :: (302, v302) :: (301, v301) :: (300, v300) :: (299, v299) :: (298, v298) :: (297, v297) :: l) (Sk.cons rfl (Sk.cons rfl (Sk.cons rfl (Sk.cons rfl (Sk.cons rfl (Sk.cons rfl (Sk.cons rfl (Sk.cons rfl (Sk.cons rfl (Sk.cons rfl (Sk.cons rfl (Sk.refl)))))))))))) ⟨fun l' ag => s0 l' (ag 9 rfl), fun l' ag => s1 l' (ag 15 rfl), fun l' ag => s2 l' (ag 297 rfl) (ag 298 rfl), fun l' ag => s3 l' (ag 299 rfl), fun l' ag => s4 l' (ag 300 rfl), fun l' ag => s5 l' (ag 9 rfl), fun l' ag => s6 l' (ag 15 rfl), fun l' ag => s7 l' (ag 302 rfl) (ag 303 rfl), fun l' ag => s8 l' (ag 304 rfl), fun l' ag => s9 l' (ag 305 rfl), fun l' ag => s10 l' (ag 301 rfl) (ag 306 rfl), trivial⟩ hK
theorem n4 : Go.Proofs.Try.f4.ntmps = 316 := by kernel_rfl
theorem r4 : Go.Proofs.Try.f4.results.toList = [.tmp 4] := by kernel_rfl
theorem f4 : Pg.funcs[4]? = some Go.Proofs.Try.f4 := by kernel_rfl
theorem run4 {args : List AV} {K : AV → List AObj → Prop} (hv : Run C Pg T ann4 none b4 (S (.tup []) 316 (enumL 0 args) [] h) (bodyK T Go.Proofs.Try.f4 K)) (hown : args.all (fun a => !a.owns) = true := by first | rfl | simp [AV.owns]) (hl : args.length ≤ 316 := by exact Nat.le_of_ble_eq_true rfl) : ACall C Pg 4 args h K := ACall.of_runR T_ok ann4 pl4 (c := bodyOf Go.Proofs.Try.f4) f4 (by kernel_rfl) (by kernel_rfl) c4 n4 hown hl hv
noncomputable def b21q0 : List It := [.o (some 6) (.mv (.t 5)) none, .o (some 7) (.mv (.t 0)) none, .o (some 8) (.lens (.t 7)) none, .o (some 9) (.ar .lss (.t 6) (.t 8)) none, .cond (.tmp 9) [] [.exit 0], .block 1 [.o (some 12) (.mv (.t 0)) none, .o (some 13) (.mv (.t 5)) none, .o (some 14) (.ixs 5 [.int .i64, .int .i64, .int .i64, .int .i64, .str] (.t 12) (.t 13)) none, .o (some 15) (.fa 4 (.t 14)) none, .o (some 16) (.ld1 .str (.t 15)) none, .o (some 17) (.lenS (.t 16)) none, .o (some 18) (.ar .gtr (.t 17) (.c (.int .i64 300))) none, .cond (.tmp 18) [.o (some 4) (.tk (.const (.bool false))) none, .ret] []], .o (some 10) (.mv (.t 5)) none, .o (some 11) (.ar .add (.t 10) (.c (.int .i64 1))) none, .o (some 5) (.tk (.tmp 11)) none]
noncomputable def b21 : List It := [.o (some 4) (.tk (.const (.bool false))) none, .o (some 5) (.tk (.const (.int .i64 0))) none, .block 0 [.loop b21q0 (lp (bodyOf Go.Proofs.Try.f21) 0)], .o (some 19) (.mv (.t 0)) none, .o (some 20) (.lens (.t 19)) none, .o (some 21) (.mv (.t 1)) none, .o (some 22) (.ar .leq (.t 20) (.t 21)) none, .o (some 4) (.tk (.tmp 22)) none, .ret]
theorem c21q0 : compR T {} [] (lp (bodyOf Go.Proofs.Try.f21) 0) = b21q0 := by kernel_rfl
theorem lp21q0 {α : Type} (m : Nat) (ls : α → List (Nat × AV)) (bs : α → List (List AV)) (hs : α → List AObj) (φ : α → Prop) (μ : α → Nat) (g0 : α) (h0 : φ g0) (hkeys : ∀ g, (ls g).map (·.1) = (ls g0).map (·.1)) (e1 : allIn d l m (ls g0)) (e2 : bs g0 = bx.take m) (e3 : (bs g0).all (fun cs => AV.lb.lbs m cs) = true) (e4 : h = hs g0) (round : ∀ g, φ g → Run C Pg T {} none b21q0 (S .undef 23 (ls g) (bs g) (hs g)) (nextR d 23 m ls bs hs φ μ g K)) : AWp C Pg none (.loop (lp (bodyOf Go.Proofs.Try.f21) 0)) (S d 23 l bx h) K := AWp.loopQ T_ok {} [] c21q0 m ls bs hs φ μ g0 h0 hkeys e1 e2 e3 e4 round
theorem c21 : compR T {} [] (bodyOf Go.Proofs.Try.f21) = b21 := by kernel_rfl
theorem n21 : Go.Proofs.Try.f21.ntmps = 23 := by kernel_rfl
theorem r21 : Go.Proofs.Try.f21.results.toList = [.tmp 4] := by kernel_rfl
theorem f21 : Pg.funcs[21]? = some Go.Proofs.Try.f21 := by kernel_rfl
theorem run21 {args : List AV} {K : AV → List AObj → Prop} (hv : Run C Pg T {} none b21 (S (.tup []) 23 (enumL 0 args) [] h) (bodyK T Go.Proofs.Try.f21 K)) (hown : args.all (fun a => !a.owns) = true := by first | rfl | simp [AV.owns]) (hl : args.length ≤ 23 := by exact Nat.le_of_ble_eq_true rfl) : ACall C Pg 21 args h K := ACall.of_runR T_ok {} [] (c := bodyOf Go.Proofs.Try.f21) f21 (by kernel_rfl) (by kernel_rfl) c21 n21 hown hl hv
end
end Go.Ab
end
section
/- Do, told in one; timers of different nodes. -/
set_option linter.unusedSimpArgs false
set_option linter.unusedVariables false
set_option maxRecDepth 100000
set_option maxHeartbeats 4000000
namespace Go.Ab

section
variable {C : CX} {h : List AObj} {K : AV → List AObj → Prop} {z1 z2 z3 : Bool} {s1 s2 s3 : Nat} {x : Net}
def doOf (x : Net) (a : Act) (y : Net) (sn : Seen) (ee : Int) : Prop := (¬ WF x ∧ y = zN ∧ sn = ⟨noAct, 0, 0, noLetter, []⟩ ∧ ee = 2) ∨ (WF x ∧ y = afterX (stepF x a) x ∧ sn = seenOf (stepF x a) x a ∧ ee = 0)
theorem doOf.lens {x y : Net} {a : Act} {sn : Seen} {ee : Int} (h : doOf x a y sn ee) : y.way.length < 1000000 ∧ y.cuts.length < 1000000 ∧ y.timers.length < 1000000 := by
  rcases h with ⟨_, rfl, _⟩ | ⟨w, rfl, _⟩
  · simp [zN]
  · have w2 := w.after a
    have := w2.fl; have := w2.cl; have := w2.tl
    omega
theorem few21 {l : List Act} {z : Bool} {s : Nat} {n : Int} {t : Tip} (ht : t = .no) (hz : Slk z s 5 l.length) (hl : l.length ≤ 9223372036854775807) (hK : ∀ r, (r = true → (l.length : Int) ≤ n) → K (.bool r) h) : ACall C Pg 21 [.sl z s (l.map Act.c) t, .int .i64 n] h K := by
  subst ht
  refine run21 ?_; simp -implicitDefEqProofs only [b21, r21, ru, ruc, rud, ru5, Nat.reduceLT, Nat.reduceEqDiff, reduceIte, Nat.reduceAdd, Nat.reduceLeDiff, Int.reduceEq, Int.reduceLT, Int.reduceLE, Int.reduceNeg]
  refine lp21q0 (α := Nat) 0 (fun i => [(0, .sl z s (l.map Act.c) .no), (1, .int .i64 n), (5, .int .i64 i)]) (fun _ => []) (fun _ => h)
    (fun i => i ≤ l.length) (fun i => l.length - i) 0 (Nat.zero_le _) (fun _ => rfl) ?_ rfl rfl rfl ?_
  · simp [allIn, lk, AV.lb, AV.lb.lbs]
  · intro i hi
    simp -implicitDefEqProofs only [b21q0, r21, List.length_map, ru, ruc, rud, ru5, Nat.reduceLT, Nat.reduceEqDiff, reduceIte, Nat.reduceAdd, Nat.reduceLeDiff, Int.reduceEq, Int.reduceLT, Int.reduceLE, Int.reduceNeg]
    refine condV_split (fun g => ?_) (fun g => ?_)
    · simp -implicitDefEqProofs only [r21, ru, ruc, rud, ru5, Nat.reduceLT, Nat.reduceEqDiff, reduceIte, Nat.reduceAdd, Nat.reduceLeDiff, Int.reduceEq, Int.reduceLT, Int.reduceLE, Int.reduceNeg]
      simp only [decide_eq_true_eq] at g
      have g' : i < l.length := by omega
      refine ixA hz rfl g' ?_
      simp -implicitDefEqProofs only [r21, Act.c, ru, ruc, rud, ru5, Nat.reduceLT, Nat.reduceEqDiff, reduceIte, Nat.reduceAdd, Nat.reduceLeDiff, Int.reduceEq, Int.reduceLT, Int.reduceLE, Int.reduceNeg]
      refine condV_split (fun g2 => ?_) (fun g2 => ?_)
      · simp -implicitDefEqProofs only [r21, ru, ruc, rud, ru5, Nat.reduceLT, Nat.reduceEqDiff, reduceIte, Nat.reduceAdd, Nat.reduceLeDiff, Int.reduceEq, Int.reduceLT, Int.reduceLE, Int.reduceNeg]
        exact hK false (fun h => by cases h)
      · simp -implicitDefEqProofs only [r21, ru, ruc, rud, ru5, Nat.reduceLT, Nat.reduceEqDiff, reduceIte, Nat.reduceAdd, Nat.reduceLeDiff, Int.reduceEq, Int.reduceLT, Int.reduceLE, Int.reduceNeg]
        refine next_normal (i + 1) (by omega) (by omega) rfl ?_ rfl rfl
        simp [allIn, lk, AV.lb, AV.lb.lbs, wrap_i (show i < 9223372036854775807 by omega)]
    · simp -implicitDefEqProofs only [r21, List.length_map, ru, ruc, rud, ru5, Nat.reduceLT, Nat.reduceEqDiff, reduceIte, Nat.reduceAdd, Nat.reduceLeDiff, Int.reduceEq, Int.reduceLT, Int.reduceLE, Int.reduceNeg]
      exact hK _ (fun h => by simpa using h)
end
end Go.Ab
end
section
/- Accounts as an object of the call's own. -/
set_option linter.unusedSimpArgs false
set_option linter.unusedVariables false
set_option maxRecDepth 100000
set_option maxHeartbeats 4000000
namespace Go.Ab

theorem lenA (x : Acc) : (Acc.c x).length = 2 := rfl
theorem T51 : T.get 51 = some (TI.mk (.slice 57) 1 24 [.sl true 0 [] .own] []) := rfl
theorem T57 : T.get 57 = some (TI.mk (.struct [(0, 3), (1, 3)]) 2 16 [.int .i64 0, .int .i64 0] [.int .i64, .int .i64]) := rfl
theorem bld57 {K : AV → Prop} {a : Int} : agK (abuild T 57 [(0, .int .i64 a)]) K = K (.agg [.int .i64 a, .int .i64 0]) := rfl
theorem bsl51q1 {h : List AObj} {a b : Int} {K : AV → List AObj → Prop} : buildSliceK T false 51 1 [(0, .agg [.int .i64 a, .int .i64 b])] h K = K (.sl false 2 [Acc.c ⟨a, b⟩] .full) h := by
  simp [buildSliceK, T51, T57, fillA, AV.cells, AV.one, AV.nol, chunks, Acc.c, AV.nol.nols]
section
variable {h : List AObj} {l : List Acc} {id n k : Nat} {rest : List AV}
theorem laid_in {v : Int} (hk : k < l.length) : laid ((l.map Acc.c).flatten ++ rest) (k * 2) [.int .i64 v] = ((l.set k ⟨v, l[k].out⟩).map Acc.c).flatten ++ rest := by
  have h0 : ((l.take k).map Acc.c).flatten.length = k * 2 := by rw [flat_len lenA, List.length_take, Nat.min_eq_left (by omega)]
  have e1 : (l.map Acc.c).flatten ++ rest = ((l.take k).map Acc.c).flatten ++ (.int .i64 l[k].inn :: .int .i64 l[k].out :: (((l.drop (k + 1)).map Acc.c).flatten ++ rest)) := by
    have : (l.map Acc.c).flatten = ((l.take k ++ l.drop k).map Acc.c).flatten := by rw [List.take_append_drop]
    rw [this, List.drop_eq_getElem_cons hk, List.map_append, List.map_cons, List.flatten_append, List.flatten_cons]
    simp only [Acc.c, List.append_assoc, List.cons_append, List.nil_append]
  have e2 : l.set k ⟨v, l[k].out⟩ = l.take k ++ ⟨v, l[k].out⟩ :: l.drop (k + 1) := by rw [List.set_eq_take_append_cons_drop, if_pos hk]
  rw [e1, e2, laid_mid h0.symm]
  rw [List.map_append, List.map_cons, List.flatten_append, List.flatten_cons]
  simp only [Acc.c, List.append_assoc, List.cons_append, List.nil_append, List.length_singleton, List.drop_succ_cons, List.drop_zero]
theorem laid_out {v : Int} (hk : k < l.length) : laid ((l.map Acc.c).flatten ++ rest) (k * 2 + 1) [.int .i64 v] = ((l.set k ⟨l[k].inn, v⟩).map Acc.c).flatten ++ rest := by
  have h0 : ((l.take k).map Acc.c).flatten.length = k * 2 := by rw [flat_len lenA, List.length_take, Nat.min_eq_left (by omega)]
  have e1 : (l.map Acc.c).flatten ++ rest = (((l.take k).map Acc.c).flatten ++ [.int .i64 l[k].inn]) ++ (.int .i64 l[k].out :: (((l.drop (k + 1)).map Acc.c).flatten ++ rest)) := by
    have : (l.map Acc.c).flatten = ((l.take k ++ l.drop k).map Acc.c).flatten := by rw [List.take_append_drop]
    rw [this, List.drop_eq_getElem_cons hk, List.map_append, List.map_cons, List.flatten_append, List.flatten_cons]
    simp only [Acc.c, List.append_assoc, List.cons_append, List.nil_append]
  have e2 : l.set k ⟨l[k].inn, v⟩ = l.take k ++ ⟨l[k].inn, v⟩ :: l.drop (k + 1) := by rw [List.set_eq_take_append_cons_drop, if_pos hk]
  rw [e1, e2, laid_mid (by rw [List.length_append, h0]; rfl)]
  rw [List.map_append, List.map_cons, List.flatten_append, List.flatten_cons]
  simp only [Acc.c, List.append_assoc, List.cons_append, List.nil_append, List.length_singleton, List.drop_succ_cons, List.drop_zero]
theorem cells_in (hk : k < l.length) (hid : h[id]? = some (.cells ((l.map Acc.c).flatten ++ rest) n)) : hread h id (k * 2) [.int .i64 l[k].inn] ∧ hread h id (k * 2 + 1) [.int .i64 l[k].out] := by
  have h0 : ((l.take k).map Acc.c).flatten.length = k * 2 := by rw [flat_len lenA, List.length_take, Nat.min_eq_left (by omega)]
  have e1 : (l.map Acc.c).flatten ++ rest = ((l.take k).map Acc.c).flatten ++ (.int .i64 l[k].inn :: .int .i64 l[k].out :: (((l.drop (k + 1)).map Acc.c).flatten ++ rest)) := by
    have : (l.map Acc.c).flatten = ((l.take k ++ l.drop k).map Acc.c).flatten := by rw [List.take_append_drop]
    rw [this, List.drop_eq_getElem_cons hk, List.map_append, List.map_cons, List.flatten_append, List.flatten_cons]
    simp only [Acc.c, List.append_assoc, List.cons_append, List.nil_append]
  constructor
  · refine ⟨_, n, hid, ?_, ?_⟩
    · rw [e1, List.length_append, h0, List.length_cons, List.length_cons]
      simp only [List.length_cons, List.length_nil]
      omega
    · rw [e1, List.drop_left' h0]; rfl
  · refine ⟨_, n, hid, ?_, ?_⟩
    · rw [e1, List.length_append, h0, List.length_cons, List.length_cons]
      simp only [List.length_cons, List.length_nil]
      omega
    · rw [e1, ← List.drop_drop, List.drop_left' h0]; rfl
theorem LV.setAt {v : AV} {a : Acc} (hn : ((l.map Acc.c).flatten ++ rest).length = n) (hk : k < l.length) (hid : h[id]? = some (.cells ((l.map Acc.c).flatten ++ rest) n)) (hv : v = .msl id 2 0 l.length) : LV (h.set id (.cells (((l.set k a).map Acc.c).flatten ++ rest) n)) 2 Acc.c v (l.set k a) := by
  have hlt := (List.getElem?_eq_some_iff.1 hid).1
  refine .inr ⟨id, _, n, rest, by rw [hv, List.length_set], List.getElem?_set_self hlt, ?_, rfl⟩
  rw [List.length_append, flat_len lenA] at hn ⊢
  rw [List.length_set]
  exact hn
end
theorem ixM {v : AV} {id len k : Nat} {ks : List TD} {n : Int} {K : AV → Prop} (hv : v = .msl id 2 0 len) (hn : n = (k : Int)) (hk : k < len) (hK : K (.mptr id (k * 2))) : ixsK 2 ks v (.int .i64 n) K := by
  subst hv hn
  refine ⟨rfl, by omega, by omega, ?_⟩
  simpa using hK
theorem exM {h : List AObj} {id off off' : Nat} {x : Int} {F : AV → Prop} (ho : off = off') (hr : hread h id off' [.int .i64 x]) (hK : F (.int .i64 x)) : exCells [.int .i64] fun c => hread h id off c ∧ hd1 c F := by
  subst ho
  exact ⟨x, hr, hK⟩
theorem ixS {z : Bool} {s : Nat} {t : Tip} {n : Int} {i : Nat} {K : AV → Prop} {l : List Seen} (hk : Slk z s 13 l.length) (hn : n = i) (hi : i < l.length) (hK : K (.eptr (Seen.c l[i]))) : ixsK 13 [.other, .other, .other, .other, .other, .int .i64, .int .i64, .other, .other, .other, .other, .other, .slice 86] (.sl z s (l.map Seen.c) t) (.int .i64 n) K := by
  subst hn
  cases z with
  | true => have := hk.nil rfl; omega
  | false =>
    rw [ixs_l]
    refine ⟨rfl, (hk.sz rfl).symm, by omega, ?_⟩
    unfold getE
    rw [Int.toNat_natCast, List.getElem?_map, List.getElem?_eq_getElem hi]
    exact ⟨rfl, hK⟩
end Go.Ab
end
section
/- NetConserves: its first loop. -/
set_option linter.unusedSimpArgs false
set_option linter.unusedVariables false
set_option maxRecDepth 100000
set_option maxHeartbeats 16000000
namespace Go.Ab

section
variable {C : CX} {h : List AObj} {K : AV → List AObj → Prop} {z : Bool} {s : Nat} {acts : List Act} {n : Int}
theorem playL_take {i : Nat} : playL stepF n (acts.take i) = (playL stepF n acts).take i := by
  have gen : ∀ (l : List Act) (x : Net) (i : Nat), (playR stepF x (l.take i)).2 = (playR stepF x l).2.take i := by
    intro l
    induction l with
    | nil => intro x i; simp [playR]
    | cons a l ih =>
      intro x i
      cases i with
      | zero => simp [playR]
      | succ i => simp [playR, ih]
  exact gen acts _ i
theorem playL_at {i : Nat} (hi : i < acts.length) (h2 : i < (playL stepF n acts).length) : (playL stepF n acts)[i] = seenOf (stepF (playX stepF n (acts.take i)) acts[i]) (playX stepF n (acts.take i)) acts[i] := by
  have e1 : playL stepF n (acts.take (i + 1)) = playL stepF n (acts.take i) ++ [seenOf (stepF (playX stepF n (acts.take i)) acts[i]) (playX stepF n (acts.take i)) acts[i]] := by
    rw [List.take_add_one, List.getElem?_eq_getElem hi]
    simp only [playL, playX, Option.toList_some, playR_append]
  rw [playL_take, playL_take, List.take_add_one, List.getElem?_eq_getElem h2] at e1
  have := List.append_cancel_left e1
  simpa using this
theorem playX_at {i : Nat} (hi : i < acts.length) : playX stepF n (acts.take (i + 1)) = afterX (stepF (playX stepF n (acts.take i)) acts[i]) (playX stepF n (acts.take i)) := by
  rw [List.take_add_one, List.getElem?_eq_getElem hi]
  simp only [playX, Option.toList_some, playR_append]
theorem playL_len : (playL stepF n acts).length = acts.length := playR_len

structure CG where
  (i : Nat) (sent : List Letter) (all : List Acc) (v : AV) (h : List AObj)
structure CG2 where
  (j : Nat) (al : List Acc) (v : AV) (h : List AObj)
theorem conserves4 (hz : Slk z s 5 acts.length) (hl : acts.length ≤ 9223372036854775807) (hK : ∀ h', K (.bool true) h') : ACall C Pg 4 [.int .i64 n, .sl z s (acts.map Act.c) .no] h K := by
  refine run4 ?_; simp -implicitDefEqProofs only [b4, r4, List.length_map, ru, ruc, rud, ru5, Nat.reduceLT, Nat.reduceEqDiff, reduceIte, Nat.reduceAdd, Nat.reduceLeDiff, Int.reduceEq, Int.reduceLT, Int.reduceLE, Int.reduceNeg]
  refine few21 rfl hz hl (fun r hr => ?_)
  cases r with
  | false =>
    simp -implicitDefEqProofs only [r4, ru, ruc, rud, ru5, Nat.reduceLT, Nat.reduceEqDiff, reduceIte, Nat.reduceAdd, Nat.reduceLeDiff, Int.reduceEq, Int.reduceLT, Int.reduceLE, Int.reduceNeg]
    refine sane13 ?_
    simp -implicitDefEqProofs only [r4, ru, ruc, rud, ru5, Nat.reduceLT, Nat.reduceEqDiff, reduceIte, Nat.reduceAdd, Nat.reduceLeDiff, Int.reduceEq, Int.reduceLT, Int.reduceLE, Int.reduceNeg]
    exact hK _
  | true =>
    have hl3 : acts.length ≤ 300 := by have := hr rfl; omega
    simp -implicitDefEqProofs only [r4, ru, ruc, rud, ru5, Nat.reduceLT, Nat.reduceEqDiff, reduceIte, Nat.reduceAdd, Nat.reduceLeDiff, Int.reduceEq, Int.reduceLT, Int.reduceLE, Int.reduceNeg]
    refine play22g hz (.inl rfl) (by omega) (fun hn => ?_) (fun hn z1 s1 z2 s2 z3 s3 hkX => ?_)
    · simp -implicitDefEqProofs only [r4, zeroN, ru, ruc, rud, ru5, Nat.reduceLT, Nat.reduceEqDiff, reduceIte, Nat.reduceAdd, Nat.reduceLeDiff, Int.reduceEq, Int.reduceLT, Int.reduceLE, Int.reduceNeg]
      repeat' (first | (refine guardV_split (fun g => ?_) (fun g => ?_) <;> simp -implicitDefEqProofs only [zeroN, r4, ru, ruc, rud, ru5, Nat.reduceLT, Nat.reduceEqDiff, reduceIte, Nat.reduceAdd, Nat.reduceLeDiff, Int.reduceEq, Int.reduceLT, Int.reduceLE, Int.reduceNeg]) | (refine condV_split (fun g => ?_) (fun g => ?_) <;> simp -implicitDefEqProofs only [zeroN, r4, ru, ruc, rud, ru5, Nat.reduceLT, Nat.reduceEqDiff, reduceIte, Nat.reduceAdd, Nat.reduceLeDiff, Int.reduceEq, Int.reduceLT, Int.reduceLE, Int.reduceNeg]) | (refine sane13 ?_ <;> try simp -implicitDefEqProofs only [zeroN, r4, ru, ruc, rud, ru5, Nat.reduceLT, Nat.reduceEqDiff, reduceIte, Nat.reduceAdd, Nat.reduceLeDiff, Int.reduceEq, Int.reduceLT, Int.reduceLE, Int.reduceNeg]))
      all_goals (try simp only [decide_eq_true_eq, decide_eq_false_iff_not, Bool.not_eq_true', Bool.not_eq_false', if_true, Bool.false_eq_true, if_false] at *)
      all_goals first
        | exact hK _
        | (exfalso; omega)
        | (rw [decide_eq_true (by omega)]; exact hK _)
    · obtain ⟨zL, sL, eL, hzL⟩ := accU_sl 13 Seen.c (playL stepF n acts)
      have hLl : (playL stepF n acts).length = acts.length := playL_len
      have hLi : ∀ i (hi : i < acts.length) (h2 : i < (playL stepF n acts).length), (playL stepF n acts)[i] = seenOf (stepF (playX stepF n (acts.take i)) acts[i]) (playX stepF n (acts.take i)) acts[i] := fun i hi h2 => playL_at hi h2
      have hXi : ∀ i (hi : i < acts.length), playX stepF n (acts.take (i + 1)) = afterX (stepF (playX stepF n (acts.take i)) acts[i]) (playX stepF n (acts.take i)) := fun i hi => playX_at hi
      rw [eL]
      generalize playL stepF n acts = L at hLl hLi hzL ⊢
      rw [hLl] at hzL
      have dlen : decide ((acts.length : Int) = (acts.length : Int)) = true := by simp
      simp -implicitDefEqProofs only [r4, List.length_map, hLl, dlen, ru, ruc, rud, ru5, Nat.reduceLT, Nat.reduceEqDiff, reduceIte, Nat.reduceAdd, Nat.reduceLeDiff, Int.reduceEq, Int.reduceLT, Int.reduceLE, Int.reduceNeg]
      have hB : ∀ X : Net, AV.lb.lbs 1 [.int .i64 X.nodes, .int .i64 X.now, .int .i64 X.next, .sl z1 s1 (X.way.map Letter.c) .no, .sl z2 s2 (X.cuts.map Link.c) .no, .sl z3 s3 (X.timers.map Timer.c) .no] = true := fun X => rfl
      refine lp4q0 (α := CG) 1 (fun g => [(1, .sl z s (acts.map Act.c) .no), (5, .lptr 0 0), (6, .sl zL sL (L.map Seen.c) .no), (8, accV 5 Letter.c g.sent), (9, g.v), (10, .int .i64 g.i)])
        (fun _ => [[.int .i64 (playX stepF n acts).nodes, .int .i64 (playX stepF n acts).now, .int .i64 (playX stepF n acts).next, .sl z1 s1 ((playX stepF n acts).way.map Letter.c) .no, .sl z2 s2 ((playX stepF n acts).cuts.map Link.c) .no, .sl z3 s3 ((playX stepF n acts).timers.map Timer.c) .no]]) (fun g => g.h)
        (fun g => g.i ≤ acts.length ∧ CI g.i (playX stepF n (acts.take g.i)) g.sent g.all ∧ LV g.h 2 Acc.c g.v g.all) (fun g => acts.length - g.i) ⟨0, [], [], .sl true 0 [] .no, h⟩ ⟨Nat.zero_le _, CI.zero hn, .inl ⟨rfl, .inl rfl⟩⟩ (fun _ => rfl) ?_ rfl rfl rfl ?_
      · simp [allIn, lk, AV.lb, AV.lb.lbs, accV]
      · rintro ⟨i, sent, all, v, h'⟩ ⟨hi, c, hv⟩
        simp only at hi c hv
        have hva := hv.all
        have ha : (accV 5 Letter.c sent).owns = true ∨ ¬ (accV 5 Letter.c sent).owns = true := Classical.em _
        have hfew := c.few
        simp -implicitDefEqProofs only [b4q0, r4, List.length_map, hLl, ru, ruc, rud, ru5, Nat.reduceLT, Nat.reduceEqDiff, reduceIte, Nat.reduceAdd, Nat.reduceLeDiff, Int.reduceEq, Int.reduceLT, Int.reduceLE, Int.reduceNeg]
        refine condV_split (fun g => ?_) (fun g => ?_)
        · simp -implicitDefEqProofs only [r4, ru, ruc, rud, ru5, Nat.reduceLT, Nat.reduceEqDiff, reduceIte, Nat.reduceAdd, Nat.reduceLeDiff, Int.reduceEq, Int.reduceLT, Int.reduceLE, Int.reduceNeg]
          simp only [decide_eq_true_eq] at g
          have g' : i < acts.length := by omega
          have g2 : i < L.length := by omega
          have hzL2 : Slk zL sL 13 L.length := by rw [hLl]; exact hzL
          have hak : L[i].a = acts[i] := by rw [hLi i g' g2]; exact seen_a
          obtain ⟨sent', all', c', hcase⟩ := c.stepC acts[i]
          rw [← hXi i g'] at c'
          rw [← hLi i g' g2, ← hak] at hcase
          refine ixS hzL2 rfl g2 ?_
          simp -implicitDefEqProofs only [r4, Seen.c, seenC, ru, ruc, rud, ru5, Nat.reduceLT, Nat.reduceEqDiff, reduceIte, Nat.reduceAdd, Nat.reduceLeDiff, Int.reduceEq, Int.reduceLT, Int.reduceLE, Int.reduceNeg]
          refine ixS hzL2 rfl g2 ?_
          simp -implicitDefEqProofs only [r4, Seen.c, seenC, ru, ruc, rud, ru5, Nat.reduceLT, Nat.reduceEqDiff, reduceIte, Nat.reduceAdd, Nat.reduceLeDiff, Int.reduceEq, Int.reduceLT, Int.reduceLE, Int.reduceNeg]
          refine ixS hzL2 rfl g2 ?_
          simp -implicitDefEqProofs only [r4, Seen.c, seenC, ru, ruc, rud, ru5, Nat.reduceLT, Nat.reduceEqDiff, reduceIte, Nat.reduceAdd, Nat.reduceLeDiff, Int.reduceEq, Int.reduceLT, Int.reduceLE, Int.reduceNeg]
          rcases hcase with ⟨hsk, rfl, rfl⟩ | ⟨he, hk1, f1, f2, f3, f4, f5, rfl, rfl⟩ | ⟨he, hk2, hk5, rfl, k, hk, hkk, f1, ⟨f2, f3, f4⟩, f5, f6⟩
          · repeat' (first | (refine guardV_split (fun g => ?_) (fun g => ?_) <;> simp -implicitDefEqProofs only [r4, ru, ruc, rud, ru5, Nat.reduceLT, Nat.reduceEqDiff, reduceIte, Nat.reduceAdd, Nat.reduceLeDiff, Int.reduceEq, Int.reduceLT, Int.reduceLE, Int.reduceNeg]) | (refine condV_split (fun g => ?_) (fun g => ?_) <;> simp -implicitDefEqProofs only [r4, ru, ruc, rud, ru5, Nat.reduceLT, Nat.reduceEqDiff, reduceIte, Nat.reduceAdd, Nat.reduceLeDiff, Int.reduceEq, Int.reduceLT, Int.reduceLE, Int.reduceNeg]))
            all_goals (try simp only [decide_eq_true_eq, decide_eq_false_iff_not, Bool.not_eq_true', Bool.not_eq_false', if_true, Bool.false_eq_true, if_false] at *)
            all_goals first
              | (refine next_normal (CG.mk (i + 1) _ _ v h') ⟨g', c', hv⟩ (by simp only; omega) rfl ?_ rfl rfl
                 simp [allIn, lk, AV.lb, AV.lb.lbs, accV_lb, hv.lb, wrap_i (show i < 9223372036854775807 by omega)])
              | (exfalso; omega)
          · have bq0 : decide (L[i].e = 0) = true := by simpa using he
            have bq1 : decide (L[i].a.k < 1) = false := by simp; omega
            have bq2 : decide (5 < L[i].a.k) = false := by simp; omega
            have bq3 : decide (L[i].a.k = 1) = true := by simpa using hk1
            obtain ⟨zS, sS, eS, hzS⟩ := accU_sl 5 Letter.c sent
            have hq : acts[i] = L[i].a := hak.symm
            have hlen : sent.length < 1000000 := by omega
            simp -implicitDefEqProofs only [r4, bq0, bq1, bq2, bq3, ru, ruc, rud, ru5, Nat.reduceLT, Nat.reduceEqDiff, reduceIte, Nat.reduceAdd, Nat.reduceLeDiff, Int.reduceEq, Int.reduceLT, Int.reduceLE, Int.reduceNeg]
            apply rd4q0
            all_goals try (first | (intro l' e0 e1 e2; simp -implicitDefEqProofs only [e0, e1, e2, accV_un, eS, List.length_map, f1, f2, f3, f4, f5, Act.c, Seen.c, seenC, ru, ruc, rud, ru5, Nat.reduceLT, Nat.reduceEqDiff, reduceIte, Nat.reduceAdd, Nat.reduceLeDiff, Int.reduceEq, Int.reduceLT, Int.reduceLE, Int.reduceNeg]; (try (first | ((refine ixA hz rfl g' ?_; rw [hq]) <;> try simp -implicitDefEqProofs only [e0, e1, e2, accV_un, eS, List.length_map, f1, f2, f3, f4, f5, Act.c, Seen.c, seenC, ru, ruc, rud, ru5, Nat.reduceLT, Nat.reduceEqDiff, reduceIte, Nat.reduceAdd, Nat.reduceLeDiff, Int.reduceEq, Int.reduceLT, Int.reduceLE, Int.reduceNeg]) | (refine ixS hzL2 rfl g2 ?_ <;> try simp -implicitDefEqProofs only [e0, e1, e2, accV_un, eS, List.length_map, f1, f2, f3, f4, f5, Act.c, Seen.c, seenC, ru, ruc, rud, ru5, Nat.reduceLT, Nat.reduceEqDiff, reduceIte, Nat.reduceAdd, Nat.reduceLeDiff, Int.reduceEq, Int.reduceLT, Int.reduceLE, Int.reduceNeg]) | (fail))); first | exact step_1 rfl | exact step_2 rfl (by assumption)) | (intro l' e0 e1; simp -implicitDefEqProofs only [e0, e1, accV_un, eS, List.length_map, f1, f2, f3, f4, f5, Act.c, Seen.c, seenC, ru, ruc, rud, ru5, Nat.reduceLT, Nat.reduceEqDiff, reduceIte, Nat.reduceAdd, Nat.reduceLeDiff, Int.reduceEq, Int.reduceLT, Int.reduceLE, Int.reduceNeg]; (try (first | ((refine ixA hz rfl g' ?_; rw [hq]) <;> try simp -implicitDefEqProofs only [e0, e1, accV_un, eS, List.length_map, f1, f2, f3, f4, f5, Act.c, Seen.c, seenC, ru, ruc, rud, ru5, Nat.reduceLT, Nat.reduceEqDiff, reduceIte, Nat.reduceAdd, Nat.reduceLeDiff, Int.reduceEq, Int.reduceLT, Int.reduceLE, Int.reduceNeg]) | (refine ixS hzL2 rfl g2 ?_ <;> try simp -implicitDefEqProofs only [e0, e1, accV_un, eS, List.length_map, f1, f2, f3, f4, f5, Act.c, Seen.c, seenC, ru, ruc, rud, ru5, Nat.reduceLT, Nat.reduceEqDiff, reduceIte, Nat.reduceAdd, Nat.reduceLeDiff, Int.reduceEq, Int.reduceLT, Int.reduceLE, Int.reduceNeg]) | (fail))); first | exact step_1 rfl | exact step_2 rfl (by assumption)) | (intro l' e0; simp -implicitDefEqProofs only [e0, accV_un, eS, List.length_map, f1, f2, f3, f4, f5, Act.c, Seen.c, seenC, ru, ruc, rud, ru5, Nat.reduceLT, Nat.reduceEqDiff, reduceIte, Nat.reduceAdd, Nat.reduceLeDiff, Int.reduceEq, Int.reduceLT, Int.reduceLE, Int.reduceNeg]; (try (first | ((refine ixA hz rfl g' ?_; rw [hq]) <;> try simp -implicitDefEqProofs only [e0, accV_un, eS, List.length_map, f1, f2, f3, f4, f5, Act.c, Seen.c, seenC, ru, ruc, rud, ru5, Nat.reduceLT, Nat.reduceEqDiff, reduceIte, Nat.reduceAdd, Nat.reduceLeDiff, Int.reduceEq, Int.reduceLT, Int.reduceLE, Int.reduceNeg]) | (refine ixS hzL2 rfl g2 ?_ <;> try simp -implicitDefEqProofs only [e0, accV_un, eS, List.length_map, f1, f2, f3, f4, f5, Act.c, Seen.c, seenC, ru, ruc, rud, ru5, Nat.reduceLT, Nat.reduceEqDiff, reduceIte, Nat.reduceAdd, Nat.reduceLeDiff, Int.reduceEq, Int.reduceLT, Int.reduceLE, Int.reduceNeg]) | (fail))); first | exact step_1 rfl | exact step_2 rfl (by assumption)) | (intro l' ; simp -implicitDefEqProofs only [accV_un, eS, List.length_map, f1, f2, f3, f4, f5, Act.c, Seen.c, seenC, ru, ruc, rud, ru5, Nat.reduceLT, Nat.reduceEqDiff, reduceIte, Nat.reduceAdd, Nat.reduceLeDiff, Int.reduceEq, Int.reduceLT, Int.reduceLE, Int.reduceNeg]; (try (first | ((refine ixA hz rfl g' ?_; rw [hq]) <;> try simp -implicitDefEqProofs only [accV_un, eS, List.length_map, f1, f2, f3, f4, f5, Act.c, Seen.c, seenC, ru, ruc, rud, ru5, Nat.reduceLT, Nat.reduceEqDiff, reduceIte, Nat.reduceAdd, Nat.reduceLeDiff, Int.reduceEq, Int.reduceLT, Int.reduceLE, Int.reduceNeg]) | (refine ixS hzL2 rfl g2 ?_ <;> try simp -implicitDefEqProofs only [accV_un, eS, List.length_map, f1, f2, f3, f4, f5, Act.c, Seen.c, seenC, ru, ruc, rud, ru5, Nat.reduceLT, Nat.reduceEqDiff, reduceIte, Nat.reduceAdd, Nat.reduceLeDiff, Int.reduceEq, Int.reduceLT, Int.reduceLE, Int.reduceNeg]) | (fail))); first | exact step_1 rfl | exact step_2 rfl (by assumption)))
            case' hK =>
              have ha2 : (accV 5 Letter.c (sent ++ [L[i].l])).owns = true ∨ ¬ (accV 5 Letter.c (sent ++ [L[i].l])).owns = true := Classical.em _
              have hlA : all.length < 1000000 := by have := c.alen; omega
              rcases ha with ha | ha
              all_goals (
                simp -implicitDefEqProofs only [r4, bsl22q1, ha, accV_un, accU_ow, ru, ruc, rud, ru5, Nat.reduceLT, Nat.reduceEqDiff, reduceIte, Nat.reduceAdd, Nat.reduceLeDiff, Int.reduceEq, Int.reduceLT, Int.reduceLE, Int.reduceNeg]
                refine app_acc (y := L[i].l) (by decide) T22 rfl T33 rfl (by decide) (by decide) hlen ?_
                rcases ha2 with ha2 | ha2
                all_goals (
                  simp -implicitDefEqProofs only [r4, ha, ha2, accV_un, bld57, bsl51q1, hva, ru, ruc, rud, ru5, Nat.reduceLT, Nat.reduceEqDiff, reduceIte, Nat.reduceAdd, Nat.reduceLeDiff, Int.reduceEq, Int.reduceLT, Int.reduceLE, Int.reduceNeg]
                  refine LV.append (y := ⟨1, 0⟩) rfl hv (by decide) lenA T51 rfl T57 rfl (by decide) (by decide) hlA fun v' h9 hv' hf hvv hlt => ?_
                  have hva' := hv'.all
                  simp -implicitDefEqProofs only [r4, hva', hva, ru, ruc, rud, ru5, Nat.reduceLT, Nat.reduceEqDiff, reduceIte, Nat.reduceAdd, Nat.reduceLeDiff, Int.reduceEq, Int.reduceLT, Int.reduceLE, Int.reduceNeg]
                  refine next_normal (CG.mk (i + 1) _ _ v' h9) ⟨g', c', hv'⟩ (by simp only; omega) rfl ?_ rfl rfl
                  simp [allIn, lk, AV.lb, AV.lb.lbs, accV_lb, hv'.lb, wrap_i (show i < 9223372036854775807 by omega)]))
          · have bq0 : decide (L[i].e = 0) = true := by simpa using he
            have bq1 : decide (L[i].a.k < 1) = false := by simp; omega
            have bq2 : decide (5 < L[i].a.k) = false := by simp; omega
            have bq3 : decide (L[i].a.k = 1) = false := by simp; omega
            obtain ⟨zS, sS, eS, hzS⟩ := accU_sl 5 Letter.c sent'
            obtain ⟨id, nn, rest, hve, hid, hnn⟩ := hv.obj hkk
            have n0 : decide ((k : Int) < 0) = false := by simp
            have n1 : decide ((sent'.length : Int) ≤ (k : Int)) = false := by simp; omega
            have k0 : ((0 : Int) ≤ (k : Int)) = True := by simp
            have k1 : ((k : Int) < (all.length : Int)) = True := by simp; omega
            have k2 : ((k : Int).toNat) = k := Int.toNat_natCast k
            obtain ⟨hr0, hr1⟩ := cells_in hkk hid
            have hbn := c.bnd k hkk
            have hcn := c.cnt k hkk
            have hwi : IntKind.i64.wrap (all[k].inn + 1) = all[k].inn + 1 := wrap_id (by omega) (by omega)
            have hwo : IntKind.i64.wrap (all[k].out + 1) = all[k].out + 1 := wrap_id (by omega) (by omega)
            have hq : acts[i] = L[i].a := hak.symm
            simp -implicitDefEqProofs only [r4, bq0, bq1, bq2, bq3, ru, ruc, rud, ru5, Nat.reduceLT, Nat.reduceEqDiff, reduceIte, Nat.reduceAdd, Nat.reduceLeDiff, Int.reduceEq, Int.reduceLT, Int.reduceLE, Int.reduceNeg]
            apply rd4q1
            all_goals try (first | (intro l' e0 e1 e2; simp -implicitDefEqProofs only [e0, e1, e2, accV_un, eS, List.length_map, f1, f2, f3, f4, n0, n1, Letter.c, Seen.c, seenC, ru, ruc, rud, ru5, Nat.reduceLT, Nat.reduceEqDiff, reduceIte, Nat.reduceAdd, Nat.reduceLeDiff, Int.reduceEq, Int.reduceLT, Int.reduceLE, Int.reduceNeg]; (try (first | (refine ixL hzS rfl hk ?_ <;> try simp -implicitDefEqProofs only [e0, e1, e2, accV_un, eS, List.length_map, f1, f2, f3, f4, n0, n1, Letter.c, Seen.c, seenC, ru, ruc, rud, ru5, Nat.reduceLT, Nat.reduceEqDiff, reduceIte, Nat.reduceAdd, Nat.reduceLeDiff, Int.reduceEq, Int.reduceLT, Int.reduceLE, Int.reduceNeg]) | (fail))); first | exact step_1 rfl | exact step_2 rfl (by assumption)) | (intro l' e0 e1; simp -implicitDefEqProofs only [e0, e1, accV_un, eS, List.length_map, f1, f2, f3, f4, n0, n1, Letter.c, Seen.c, seenC, ru, ruc, rud, ru5, Nat.reduceLT, Nat.reduceEqDiff, reduceIte, Nat.reduceAdd, Nat.reduceLeDiff, Int.reduceEq, Int.reduceLT, Int.reduceLE, Int.reduceNeg]; (try (first | (refine ixL hzS rfl hk ?_ <;> try simp -implicitDefEqProofs only [e0, e1, accV_un, eS, List.length_map, f1, f2, f3, f4, n0, n1, Letter.c, Seen.c, seenC, ru, ruc, rud, ru5, Nat.reduceLT, Nat.reduceEqDiff, reduceIte, Nat.reduceAdd, Nat.reduceLeDiff, Int.reduceEq, Int.reduceLT, Int.reduceLE, Int.reduceNeg]) | (fail))); first | exact step_1 rfl | exact step_2 rfl (by assumption)) | (intro l' e0; simp -implicitDefEqProofs only [e0, accV_un, eS, List.length_map, f1, f2, f3, f4, n0, n1, Letter.c, Seen.c, seenC, ru, ruc, rud, ru5, Nat.reduceLT, Nat.reduceEqDiff, reduceIte, Nat.reduceAdd, Nat.reduceLeDiff, Int.reduceEq, Int.reduceLT, Int.reduceLE, Int.reduceNeg]; (try (first | (refine ixL hzS rfl hk ?_ <;> try simp -implicitDefEqProofs only [e0, accV_un, eS, List.length_map, f1, f2, f3, f4, n0, n1, Letter.c, Seen.c, seenC, ru, ruc, rud, ru5, Nat.reduceLT, Nat.reduceEqDiff, reduceIte, Nat.reduceAdd, Nat.reduceLeDiff, Int.reduceEq, Int.reduceLT, Int.reduceLE, Int.reduceNeg]) | (fail))); first | exact step_1 rfl | exact step_2 rfl (by assumption)) | (intro l' ; simp -implicitDefEqProofs only [accV_un, eS, List.length_map, f1, f2, f3, f4, n0, n1, Letter.c, Seen.c, seenC, ru, ruc, rud, ru5, Nat.reduceLT, Nat.reduceEqDiff, reduceIte, Nat.reduceAdd, Nat.reduceLeDiff, Int.reduceEq, Int.reduceLT, Int.reduceLE, Int.reduceNeg]; (try (first | (refine ixL hzS rfl hk ?_ <;> try simp -implicitDefEqProofs only [accV_un, eS, List.length_map, f1, f2, f3, f4, n0, n1, Letter.c, Seen.c, seenC, ru, ruc, rud, ru5, Nat.reduceLT, Nat.reduceEqDiff, reduceIte, Nat.reduceAdd, Nat.reduceLeDiff, Int.reduceEq, Int.reduceLT, Int.reduceLE, Int.reduceNeg]) | (fail))); first | exact step_1 rfl | exact step_2 rfl (by assumption)))
            case' hK =>
              simp -implicitDefEqProofs only [r4, bq0, bq1, bq2, bq3, ru, ruc, rud, ru5, Nat.reduceLT, Nat.reduceEqDiff, reduceIte, Nat.reduceAdd, Nat.reduceLeDiff, Int.reduceEq, Int.reduceLT, Int.reduceLE, Int.reduceNeg]
              have hak2 : L[i].a.k = 2 → decide (L[i].now < L[i].l.rdy) = false := fun h => by have := f5 h; simp; omega
              rcases f6 with ⟨h6, rfl, h7⟩ | ⟨h6, rfl, h7⟩ | ⟨h6 | h6, rfl, h7⟩
              focus
                have bq4 : decide (L[i].a.k = 4) = true := by simpa using h6
                simp -implicitDefEqProofs only [r4, bq4, f1, hva, ru, ruc, rud, ru5, Nat.reduceLT, Nat.reduceEqDiff, reduceIte, Nat.reduceAdd, Nat.reduceLeDiff, Int.reduceEq, Int.reduceLT, Int.reduceLE, Int.reduceNeg]
                refine ixM hve rfl hkk ?_
                simp -implicitDefEqProofs only [r4, f1, hva, ru, ruc, rud, ru5, Nat.reduceLT, Nat.reduceEqDiff, reduceIte, Nat.reduceAdd, Nat.reduceLeDiff, Int.reduceEq, Int.reduceLT, Int.reduceLE, Int.reduceNeg]
                refine exM (by omega) hr0 ?_
                simp -implicitDefEqProofs only [r4, f1, hva, hwi, ru, ruc, rud, ru5, Nat.reduceLT, Nat.reduceEqDiff, reduceIte, Nat.reduceAdd, Nat.reduceLeDiff, Int.reduceEq, Int.reduceLT, Int.reduceLE, Int.reduceNeg]
                refine ixM hve rfl hkk ?_
                simp -implicitDefEqProofs only [r4, f1, hva, hwi, ru, ruc, rud, ru5, Nat.reduceLT, Nat.reduceEqDiff, reduceIte, Nat.reduceAdd, Nat.reduceLeDiff, Int.reduceEq, Int.reduceLT, Int.reduceLE, Int.reduceNeg]
                refine ⟨_, _, hid, by rw [List.length_append, flat_len lenA]; omega, ?_⟩
                rw [show (List.take (k * 2 + 0) ((all.map Acc.c).flatten ++ rest) ++ [.int .i64 (all[k].inn + 1)] ++ List.drop (k * 2 + 0 + 1) ((all.map Acc.c).flatten ++ rest)) = ((all.set k ⟨all[k].inn + 1, all[k].out⟩).map Acc.c).flatten ++ rest from laid_in hkk]
                have hv9 := LV.setAt (a := ⟨all[k].inn + 1, all[k].out⟩) hnn hkk hid hve
                have hg9 : (all.set k ⟨all[k].inn + 1, all[k].out⟩)[k]? = some ⟨all[k].inn + 1, all[k].out⟩ := by simp [hkk]
                have hle : (⟨all[k].inn + 1, all[k].out⟩ : Acc).out ≤ (⟨all[k].inn + 1, all[k].out⟩ : Acc).inn := h7
              rotate_left
              focus
                have bq4 : decide (L[i].a.k = 4) = false := by simp; omega
                have bq5 : decide (L[i].a.k = 2) = false := by simp; omega
                have bq6 : decide (L[i].a.k = 3) = false := by simp; omega
                simp -implicitDefEqProofs only [r4, bq4, bq5, bq6, f1, hva, ru, ruc, rud, ru5, Nat.reduceLT, Nat.reduceEqDiff, reduceIte, Nat.reduceAdd, Nat.reduceLeDiff, Int.reduceEq, Int.reduceLT, Int.reduceLE, Int.reduceNeg]
                have hv9 := hv
                have hg9 : all'[k]? = some all'[k] := by simp [hkk]
                have hle : (all'[k]).out ≤ (all'[k]).inn := h7
              rotate_left
              focus
                have bq4 : decide (L[i].a.k = 4) = false := by simp; omega
                have bq5 : decide (L[i].a.k = 2) = true := by simpa using h6
                have hnw := hak2 h6
                simp -implicitDefEqProofs only [r4, bq4, bq5, f1, hva, ru, ruc, rud, ru5, Nat.reduceLT, Nat.reduceEqDiff, reduceIte, Nat.reduceAdd, Nat.reduceLeDiff, Int.reduceEq, Int.reduceLT, Int.reduceLE, Int.reduceNeg]
                apply rd4q2
                all_goals try (first | (intro l' e0 e1; simp -implicitDefEqProofs only [e0, e1, hnw, Seen.c, seenC, ru, ruc, rud, ru5, Nat.reduceLT, Nat.reduceEqDiff, reduceIte, Nat.reduceAdd, Nat.reduceLeDiff, Int.reduceEq, Int.reduceLT, Int.reduceLE, Int.reduceNeg]; (try (first | (refine ixS hzL2 rfl g2 ?_ <;> try simp -implicitDefEqProofs only [e0, e1, hnw, Seen.c, seenC, ru, ruc, rud, ru5, Nat.reduceLT, Nat.reduceEqDiff, reduceIte, Nat.reduceAdd, Nat.reduceLeDiff, Int.reduceEq, Int.reduceLT, Int.reduceLE, Int.reduceNeg]) | (fail))); first | exact step_1 rfl | exact step_2 rfl (by assumption)) | (intro l' e0; simp -implicitDefEqProofs only [e0, hnw, Seen.c, seenC, ru, ruc, rud, ru5, Nat.reduceLT, Nat.reduceEqDiff, reduceIte, Nat.reduceAdd, Nat.reduceLeDiff, Int.reduceEq, Int.reduceLT, Int.reduceLE, Int.reduceNeg]; (try (first | (refine ixS hzL2 rfl g2 ?_ <;> try simp -implicitDefEqProofs only [e0, hnw, Seen.c, seenC, ru, ruc, rud, ru5, Nat.reduceLT, Nat.reduceEqDiff, reduceIte, Nat.reduceAdd, Nat.reduceLeDiff, Int.reduceEq, Int.reduceLT, Int.reduceLE, Int.reduceNeg]) | (fail))); first | exact step_1 rfl | exact step_2 rfl (by assumption)) | (intro l' ; simp -implicitDefEqProofs only [hnw, Seen.c, seenC, ru, ruc, rud, ru5, Nat.reduceLT, Nat.reduceEqDiff, reduceIte, Nat.reduceAdd, Nat.reduceLeDiff, Int.reduceEq, Int.reduceLT, Int.reduceLE, Int.reduceNeg]; (try (first | (refine ixS hzL2 rfl g2 ?_ <;> try simp -implicitDefEqProofs only [hnw, Seen.c, seenC, ru, ruc, rud, ru5, Nat.reduceLT, Nat.reduceEqDiff, reduceIte, Nat.reduceAdd, Nat.reduceLeDiff, Int.reduceEq, Int.reduceLT, Int.reduceLE, Int.reduceNeg]) | (fail))); first | exact step_1 rfl | exact step_2 rfl (by assumption)))
                case' hK => simp -implicitDefEqProofs only [r4, bq4, bq5, f1, hva, ru, ruc, rud, ru5, Nat.reduceLT, Nat.reduceEqDiff, reduceIte, Nat.reduceAdd, Nat.reduceLeDiff, Int.reduceEq, Int.reduceLT, Int.reduceLE, Int.reduceNeg]
              rotate_left
              focus
                have bq4 : decide (L[i].a.k = 4) = false := by simp; omega
                have bq5 : decide (L[i].a.k = 2) = false := by simp; omega
                have bq6 : decide (L[i].a.k = 3) = true := by simpa using h6
                simp -implicitDefEqProofs only [r4, bq4, bq5, bq6, f1, hva, ru, ruc, rud, ru5, Nat.reduceLT, Nat.reduceEqDiff, reduceIte, Nat.reduceAdd, Nat.reduceLeDiff, Int.reduceEq, Int.reduceLT, Int.reduceLE, Int.reduceNeg]
              rotate_left
              rotate_left
              rotate_left
              focus
                refine ixM hve rfl hkk ?_
                simp -implicitDefEqProofs only [r4, f1, hva, ru, ruc, rud, ru5, Nat.reduceLT, Nat.reduceEqDiff, reduceIte, Nat.reduceAdd, Nat.reduceLeDiff, Int.reduceEq, Int.reduceLT, Int.reduceLE, Int.reduceNeg]
                refine exM (by omega) hr1 ?_
                simp -implicitDefEqProofs only [r4, f1, hva, hwo, ru, ruc, rud, ru5, Nat.reduceLT, Nat.reduceEqDiff, reduceIte, Nat.reduceAdd, Nat.reduceLeDiff, Int.reduceEq, Int.reduceLT, Int.reduceLE, Int.reduceNeg]
                refine ixM hve rfl hkk ?_
                simp -implicitDefEqProofs only [r4, f1, hva, hwo, ru, ruc, rud, ru5, Nat.reduceLT, Nat.reduceEqDiff, reduceIte, Nat.reduceAdd, Nat.reduceLeDiff, Int.reduceEq, Int.reduceLT, Int.reduceLE, Int.reduceNeg]
                refine ⟨_, _, hid, by rw [List.length_append, flat_len lenA]; omega, ?_⟩
                rw [show (List.take (k * 2 + 1) ((all.map Acc.c).flatten ++ rest) ++ [.int .i64 (all[k].out + 1)] ++ List.drop (k * 2 + 1 + 1) ((all.map Acc.c).flatten ++ rest)) = ((all.set k ⟨all[k].inn, all[k].out + 1⟩).map Acc.c).flatten ++ rest from laid_out hkk]
                have hv9 := LV.setAt (a := ⟨all[k].inn, all[k].out + 1⟩) hnn hkk hid hve
                have hg9 : (all.set k ⟨all[k].inn, all[k].out + 1⟩)[k]? = some ⟨all[k].inn, all[k].out + 1⟩ := by simp [hkk]
                have hle : (⟨all[k].inn, all[k].out + 1⟩ : Acc).out ≤ (⟨all[k].inn, all[k].out + 1⟩ : Acc).inn := h7
              rotate_left
              focus
                refine ixM hve rfl hkk ?_
                simp -implicitDefEqProofs only [r4, f1, hva, ru, ruc, rud, ru5, Nat.reduceLT, Nat.reduceEqDiff, reduceIte, Nat.reduceAdd, Nat.reduceLeDiff, Int.reduceEq, Int.reduceLT, Int.reduceLE, Int.reduceNeg]
                refine exM (by omega) hr1 ?_
                simp -implicitDefEqProofs only [r4, f1, hva, hwo, ru, ruc, rud, ru5, Nat.reduceLT, Nat.reduceEqDiff, reduceIte, Nat.reduceAdd, Nat.reduceLeDiff, Int.reduceEq, Int.reduceLT, Int.reduceLE, Int.reduceNeg]
                refine ixM hve rfl hkk ?_
                simp -implicitDefEqProofs only [r4, f1, hva, hwo, ru, ruc, rud, ru5, Nat.reduceLT, Nat.reduceEqDiff, reduceIte, Nat.reduceAdd, Nat.reduceLeDiff, Int.reduceEq, Int.reduceLT, Int.reduceLE, Int.reduceNeg]
                refine ⟨_, _, hid, by rw [List.length_append, flat_len lenA]; omega, ?_⟩
                rw [show (List.take (k * 2 + 1) ((all.map Acc.c).flatten ++ rest) ++ [.int .i64 (all[k].out + 1)] ++ List.drop (k * 2 + 1 + 1) ((all.map Acc.c).flatten ++ rest)) = ((all.set k ⟨all[k].inn, all[k].out + 1⟩).map Acc.c).flatten ++ rest from laid_out hkk]
                have hv9 := LV.setAt (a := ⟨all[k].inn, all[k].out + 1⟩) hnn hkk hid hve
                have hg9 : (all.set k ⟨all[k].inn, all[k].out + 1⟩)[k]? = some ⟨all[k].inn, all[k].out + 1⟩ := by simp [hkk]
                have hle : (⟨all[k].inn, all[k].out + 1⟩ : Acc).out ≤ (⟨all[k].inn, all[k].out + 1⟩ : Acc).inn := h7
              all_goals (
                have hla := c'.alen
                obtain ⟨hk9, hge⟩ := List.getElem?_eq_some_iff.1 hg9
                obtain ⟨id9, nn9, rest9, hve9, hid9, hnn9⟩ := hv9.obj hk9
                obtain ⟨w0, w1⟩ := cells_in hk9 hid9
                rw [hge] at w0 w1
                have ng := decide_eq_false (Int.not_lt.2 hle)
                have hva9 := hv9.all
                apply rd4q3
                all_goals try (first | (intro l' e0 e1; simp -implicitDefEqProofs only [e0, e1, hva9, f1, ng, ru, ruc, rud, ru5, Nat.reduceLT, Nat.reduceEqDiff, reduceIte, Nat.reduceAdd, Nat.reduceLeDiff, Int.reduceEq, Int.reduceLT, Int.reduceLE, Int.reduceNeg]; (try (first | (refine ixM hve9 rfl hk9 ?_ <;> try simp -implicitDefEqProofs only [e0, e1, hva9, f1, ng, ru, ruc, rud, ru5, Nat.reduceLT, Nat.reduceEqDiff, reduceIte, Nat.reduceAdd, Nat.reduceLeDiff, Int.reduceEq, Int.reduceLT, Int.reduceLE, Int.reduceNeg]) | (refine exM (by omega) w0 ?_ <;> try simp -implicitDefEqProofs only [e0, e1, hva9, f1, ng, ru, ruc, rud, ru5, Nat.reduceLT, Nat.reduceEqDiff, reduceIte, Nat.reduceAdd, Nat.reduceLeDiff, Int.reduceEq, Int.reduceLT, Int.reduceLE, Int.reduceNeg]) | (refine exM (by omega) w1 ?_ <;> try simp -implicitDefEqProofs only [e0, e1, hva9, f1, ng, ru, ruc, rud, ru5, Nat.reduceLT, Nat.reduceEqDiff, reduceIte, Nat.reduceAdd, Nat.reduceLeDiff, Int.reduceEq, Int.reduceLT, Int.reduceLE, Int.reduceNeg]) | (fail))); first | exact step_1 rfl | exact step_2 rfl (by assumption)) | (intro l' e0; simp -implicitDefEqProofs only [e0, hva9, f1, ng, ru, ruc, rud, ru5, Nat.reduceLT, Nat.reduceEqDiff, reduceIte, Nat.reduceAdd, Nat.reduceLeDiff, Int.reduceEq, Int.reduceLT, Int.reduceLE, Int.reduceNeg]; (try (first | (refine ixM hve9 rfl hk9 ?_ <;> try simp -implicitDefEqProofs only [e0, hva9, f1, ng, ru, ruc, rud, ru5, Nat.reduceLT, Nat.reduceEqDiff, reduceIte, Nat.reduceAdd, Nat.reduceLeDiff, Int.reduceEq, Int.reduceLT, Int.reduceLE, Int.reduceNeg]) | (refine exM (by omega) w0 ?_ <;> try simp -implicitDefEqProofs only [e0, hva9, f1, ng, ru, ruc, rud, ru5, Nat.reduceLT, Nat.reduceEqDiff, reduceIte, Nat.reduceAdd, Nat.reduceLeDiff, Int.reduceEq, Int.reduceLT, Int.reduceLE, Int.reduceNeg]) | (refine exM (by omega) w1 ?_ <;> try simp -implicitDefEqProofs only [e0, hva9, f1, ng, ru, ruc, rud, ru5, Nat.reduceLT, Nat.reduceEqDiff, reduceIte, Nat.reduceAdd, Nat.reduceLeDiff, Int.reduceEq, Int.reduceLT, Int.reduceLE, Int.reduceNeg]) | (fail))); first | exact step_1 rfl | exact step_2 rfl (by assumption)) | (intro l' ; simp -implicitDefEqProofs only [hva9, f1, ng, ru, ruc, rud, ru5, Nat.reduceLT, Nat.reduceEqDiff, reduceIte, Nat.reduceAdd, Nat.reduceLeDiff, Int.reduceEq, Int.reduceLT, Int.reduceLE, Int.reduceNeg]; (try (first | (refine ixM hve9 rfl hk9 ?_ <;> try simp -implicitDefEqProofs only [hva9, f1, ng, ru, ruc, rud, ru5, Nat.reduceLT, Nat.reduceEqDiff, reduceIte, Nat.reduceAdd, Nat.reduceLeDiff, Int.reduceEq, Int.reduceLT, Int.reduceLE, Int.reduceNeg]) | (refine exM (by omega) w0 ?_ <;> try simp -implicitDefEqProofs only [hva9, f1, ng, ru, ruc, rud, ru5, Nat.reduceLT, Nat.reduceEqDiff, reduceIte, Nat.reduceAdd, Nat.reduceLeDiff, Int.reduceEq, Int.reduceLT, Int.reduceLE, Int.reduceNeg]) | (refine exM (by omega) w1 ?_ <;> try simp -implicitDefEqProofs only [hva9, f1, ng, ru, ruc, rud, ru5, Nat.reduceLT, Nat.reduceEqDiff, reduceIte, Nat.reduceAdd, Nat.reduceLeDiff, Int.reduceEq, Int.reduceLT, Int.reduceLE, Int.reduceNeg]) | (fail))); first | exact step_1 rfl | exact step_2 rfl (by assumption)))
                case' hK =>
                  simp -implicitDefEqProofs only [r4, hva9, ru, ruc, rud, ru5, Nat.reduceLT, Nat.reduceEqDiff, reduceIte, Nat.reduceAdd, Nat.reduceLeDiff, Int.reduceEq, Int.reduceLT, Int.reduceLE, Int.reduceNeg]
                  refine next_normal (CG.mk (i + 1) _ _ v _) ⟨g', c', hv9⟩ (by simp only; omega) rfl ?_ rfl rfl
                  simp [allIn, lk, AV.lb, AV.lb.lbs, accV_lb, hv9.lb, wrap_i (show i < 9223372036854775807 by omega)])
        · simp only [decide_eq_false_iff_not] at g
          have e9 : i = acts.length := by omega
          subst e9
          rw [List.take_length] at c
          clear hLi hXi hB
          have hwX := c.wf.fl
          have hal := c.alen
          obtain ⟨zS, sS, eS, hzS⟩ := accU_sl 5 Letter.c sent
          generalize playX stepF n acts = X at *
          simp -implicitDefEqProofs only [r4, ru, ruc, rud, ru5, Nat.reduceLT, Nat.reduceEqDiff, reduceIte, Nat.reduceAdd, Nat.reduceLeDiff, Int.reduceEq, Int.reduceLT, Int.reduceLE, Int.reduceNeg]
          refine lp4q1 (α := CG2) 1 (fun g => [(5, .lptr 0 0), (8, accV 5 Letter.c sent), (9, g.v), (13, .int .i64 g.j)]) (fun _ => [[.int .i64 X.nodes, .int .i64 X.now, .int .i64 X.next, .sl z1 s1 (X.way.map Letter.c) .no, .sl z2 s2 (X.cuts.map Link.c) .no, .sl z3 s3 (X.timers.map Timer.c) .no]]) (fun g => g.h)
            (fun g => g.j ≤ X.way.length ∧ FI X all g.j g.al ∧ LV g.h 2 Acc.c g.v g.al) (fun g => X.way.length - g.j) ⟨0, all, v, h'⟩ ⟨Nat.zero_le _, FI.zero, hv⟩ (fun _ => rfl) ?_ rfl rfl rfl ?_
          · simp [allIn, lk, AV.lb, AV.lb.lbs, accV_lb, hv.lb]
          · rintro ⟨j, al, v, h'⟩ ⟨hj, f, hv⟩
            simp only at hj f hv
            have hva := hv.all
            have hfl := f.len
            simp -implicitDefEqProofs only [b4q1, r4, List.length_map, ru, ruc, rud, ru5, Nat.reduceLT, Nat.reduceEqDiff, reduceIte, Nat.reduceAdd, Nat.reduceLeDiff, Int.reduceEq, Int.reduceLT, Int.reduceLE, Int.reduceNeg]
            refine condV_split (fun g => ?_) (fun g => ?_)
            · simp -implicitDefEqProofs only [r4, ru, ruc, rud, ru5, Nat.reduceLT, Nat.reduceEqDiff, reduceIte, Nat.reduceAdd, Nat.reduceLeDiff, Int.reduceEq, Int.reduceLT, Int.reduceLE, Int.reduceNeg]
              simp only [decide_eq_true_eq] at g
              have gj : j < X.way.length := by omega
              obtain ⟨k, hk, f1, f2, f3, f4⟩ := c.way _ (List.getElem_mem gj)
              have hkk : k < al.length := by omega
              obtain ⟨id, nn, rest, hve, hid, hnn⟩ := hv.obj hkk
              have n0 : decide ((k : Int) < 0) = false := by simp
              have n1 : decide ((sent.length : Int) ≤ (k : Int)) = false := by simp; omega
              obtain ⟨hr0, hr1⟩ := cells_in hkk hid
              have hbn := f.bnd c hkk hl3
              have hwo : IntKind.i64.wrap (al[k].out + 1) = al[k].out + 1 := wrap_id (by omega) (by omega)
              refine ixL hkX.w rfl gj ?_
              simp -implicitDefEqProofs only [r4, Letter.c, ru, ruc, rud, ru5, Nat.reduceLT, Nat.reduceEqDiff, reduceIte, Nat.reduceAdd, Nat.reduceLeDiff, Int.reduceEq, Int.reduceLT, Int.reduceLE, Int.reduceNeg]
              apply rd4q4
              all_goals try (first | (intro l' e0 e1 e2; simp -implicitDefEqProofs only [e0, e1, e2, accV_un, eS, List.length_map, f1, f2, f3, f4, n0, n1, Letter.c, ru, ruc, rud, ru5, Nat.reduceLT, Nat.reduceEqDiff, reduceIte, Nat.reduceAdd, Nat.reduceLeDiff, Int.reduceEq, Int.reduceLT, Int.reduceLE, Int.reduceNeg]; (try (first | (refine ixL hzS rfl hk ?_ <;> try simp -implicitDefEqProofs only [e0, e1, e2, accV_un, eS, List.length_map, f1, f2, f3, f4, n0, n1, Letter.c, ru, ruc, rud, ru5, Nat.reduceLT, Nat.reduceEqDiff, reduceIte, Nat.reduceAdd, Nat.reduceLeDiff, Int.reduceEq, Int.reduceLT, Int.reduceLE, Int.reduceNeg]) | (fail))); first | exact step_1 rfl | exact step_2 rfl (by assumption)) | (intro l' e0 e1; simp -implicitDefEqProofs only [e0, e1, accV_un, eS, List.length_map, f1, f2, f3, f4, n0, n1, Letter.c, ru, ruc, rud, ru5, Nat.reduceLT, Nat.reduceEqDiff, reduceIte, Nat.reduceAdd, Nat.reduceLeDiff, Int.reduceEq, Int.reduceLT, Int.reduceLE, Int.reduceNeg]; (try (first | (refine ixL hzS rfl hk ?_ <;> try simp -implicitDefEqProofs only [e0, e1, accV_un, eS, List.length_map, f1, f2, f3, f4, n0, n1, Letter.c, ru, ruc, rud, ru5, Nat.reduceLT, Nat.reduceEqDiff, reduceIte, Nat.reduceAdd, Nat.reduceLeDiff, Int.reduceEq, Int.reduceLT, Int.reduceLE, Int.reduceNeg]) | (fail))); first | exact step_1 rfl | exact step_2 rfl (by assumption)) | (intro l' e0; simp -implicitDefEqProofs only [e0, accV_un, eS, List.length_map, f1, f2, f3, f4, n0, n1, Letter.c, ru, ruc, rud, ru5, Nat.reduceLT, Nat.reduceEqDiff, reduceIte, Nat.reduceAdd, Nat.reduceLeDiff, Int.reduceEq, Int.reduceLT, Int.reduceLE, Int.reduceNeg]; (try (first | (refine ixL hzS rfl hk ?_ <;> try simp -implicitDefEqProofs only [e0, accV_un, eS, List.length_map, f1, f2, f3, f4, n0, n1, Letter.c, ru, ruc, rud, ru5, Nat.reduceLT, Nat.reduceEqDiff, reduceIte, Nat.reduceAdd, Nat.reduceLeDiff, Int.reduceEq, Int.reduceLT, Int.reduceLE, Int.reduceNeg]) | (fail))); first | exact step_1 rfl | exact step_2 rfl (by assumption)) | (intro l' ; simp -implicitDefEqProofs only [accV_un, eS, List.length_map, f1, f2, f3, f4, n0, n1, Letter.c, ru, ruc, rud, ru5, Nat.reduceLT, Nat.reduceEqDiff, reduceIte, Nat.reduceAdd, Nat.reduceLeDiff, Int.reduceEq, Int.reduceLT, Int.reduceLE, Int.reduceNeg]; (try (first | (refine ixL hzS rfl hk ?_ <;> try simp -implicitDefEqProofs only [accV_un, eS, List.length_map, f1, f2, f3, f4, n0, n1, Letter.c, ru, ruc, rud, ru5, Nat.reduceLT, Nat.reduceEqDiff, reduceIte, Nat.reduceAdd, Nat.reduceLeDiff, Int.reduceEq, Int.reduceLT, Int.reduceLE, Int.reduceNeg]) | (fail))); first | exact step_1 rfl | exact step_2 rfl (by assumption)))
              case' hK =>
                simp -implicitDefEqProofs only [r4, f1, hva, ru, ruc, rud, ru5, Nat.reduceLT, Nat.reduceEqDiff, reduceIte, Nat.reduceAdd, Nat.reduceLeDiff, Int.reduceEq, Int.reduceLT, Int.reduceLE, Int.reduceNeg]
                refine ixM hve rfl hkk ?_
                simp -implicitDefEqProofs only [r4, f1, hva, ru, ruc, rud, ru5, Nat.reduceLT, Nat.reduceEqDiff, reduceIte, Nat.reduceAdd, Nat.reduceLeDiff, Int.reduceEq, Int.reduceLT, Int.reduceLE, Int.reduceNeg]
                refine exM (by omega) hr1 ?_
                simp -implicitDefEqProofs only [r4, f1, hva, hwo, ru, ruc, rud, ru5, Nat.reduceLT, Nat.reduceEqDiff, reduceIte, Nat.reduceAdd, Nat.reduceLeDiff, Int.reduceEq, Int.reduceLT, Int.reduceLE, Int.reduceNeg]
                refine ixM hve rfl hkk ?_
                simp -implicitDefEqProofs only [r4, f1, hva, hwo, ru, ruc, rud, ru5, Nat.reduceLT, Nat.reduceEqDiff, reduceIte, Nat.reduceAdd, Nat.reduceLeDiff, Int.reduceEq, Int.reduceLT, Int.reduceLE, Int.reduceNeg]
                refine ⟨_, _, hid, by rw [List.length_append, flat_len lenA]; omega, ?_⟩
                rw [show (List.take (k * 2 + 1) ((al.map Acc.c).flatten ++ rest) ++ [.int .i64 (al[k].out + 1)] ++ List.drop (k * 2 + 1 + 1) ((al.map Acc.c).flatten ++ rest)) = ((al.set k ⟨al[k].inn, al[k].out + 1⟩).map Acc.c).flatten ++ rest from laid_out hkk]
                have hv9 := LV.setAt (a := ⟨al[k].inn, al[k].out + 1⟩) hnn hkk hid hve
                refine next_normal (CG2.mk (j + 1) _ v _) ⟨gj, f.next hkk gj f1, hv9⟩ (by simp only; omega) rfl ?_ rfl rfl
                simp [allIn, lk, AV.lb, AV.lb.lbs, accV_lb, hv.lb, wrap_i (show j < 9223372036854775807 by omega)]
            · simp only [decide_eq_false_iff_not] at g
              have e8 : j = X.way.length := by omega
              subst e8
              simp -implicitDefEqProofs only [r4, ru, ruc, rud, ru5, Nat.reduceLT, Nat.reduceEqDiff, reduceIte, Nat.reduceAdd, Nat.reduceLeDiff, Int.reduceEq, Int.reduceLT, Int.reduceLE, Int.reduceNeg]
              refine lp4q2 (α := Nat) 1 (fun i => [(5, .lptr 0 0), (8, accV 5 Letter.c sent), (9, v), (15, .int .i64 i)]) (fun _ => [[.int .i64 X.nodes, .int .i64 X.now, .int .i64 X.next, .sl z1 s1 (X.way.map Letter.c) .no, .sl z2 s2 (X.cuts.map Link.c) .no, .sl z3 s3 (X.timers.map Timer.c) .no]]) (fun _ => h')
                (fun i => i ≤ al.length) (fun i => al.length - i) 0 (Nat.zero_le _) (fun _ => rfl) ?_ rfl rfl rfl ?_
              · simp [allIn, lk, AV.lb, AV.lb.lbs, accV_lb, hv.lb]
              · intro i hi
                have ha : (accV 5 Letter.c sent).owns = true ∨ ¬ (accV 5 Letter.c sent).owns = true := Classical.em _
                simp -implicitDefEqProofs only [b4q2, r4, hva, ru, ruc, rud, ru5, Nat.reduceLT, Nat.reduceEqDiff, reduceIte, Nat.reduceAdd, Nat.reduceLeDiff, Int.reduceEq, Int.reduceLT, Int.reduceLE, Int.reduceNeg]
                refine condV_split (fun g => ?_) (fun g => ?_)
                · simp -implicitDefEqProofs only [r4, ru, ruc, rud, ru5, Nat.reduceLT, Nat.reduceEqDiff, reduceIte, Nat.reduceAdd, Nat.reduceLeDiff, Int.reduceEq, Int.reduceLT, Int.reduceLE, Int.reduceNeg]
                  simp only [decide_eq_true_eq] at g
                  have gi : i < al.length := by omega
                  obtain ⟨id, nn, rest, hve, hid, hnn⟩ := hv.obj gi
                  obtain ⟨hr0, hr1⟩ := cells_in gi hid
                  have heq := f.last c gi
                  apply rd4q5
                  all_goals try (first | (intro l' e0 e1; simp -implicitDefEqProofs only [e0, e1, hva, heq, ru, ruc, rud, ru5, Nat.reduceLT, Nat.reduceEqDiff, reduceIte, Nat.reduceAdd, Nat.reduceLeDiff, Int.reduceEq, Int.reduceLT, Int.reduceLE, Int.reduceNeg]; (try (first | (refine ixM hve rfl gi ?_ <;> try simp -implicitDefEqProofs only [e0, e1, hva, heq, ru, ruc, rud, ru5, Nat.reduceLT, Nat.reduceEqDiff, reduceIte, Nat.reduceAdd, Nat.reduceLeDiff, Int.reduceEq, Int.reduceLT, Int.reduceLE, Int.reduceNeg]) | (refine exM (by omega) hr0 ?_ <;> try simp -implicitDefEqProofs only [e0, e1, hva, heq, ru, ruc, rud, ru5, Nat.reduceLT, Nat.reduceEqDiff, reduceIte, Nat.reduceAdd, Nat.reduceLeDiff, Int.reduceEq, Int.reduceLT, Int.reduceLE, Int.reduceNeg]) | (refine exM (by omega) hr1 ?_ <;> try simp -implicitDefEqProofs only [e0, e1, hva, heq, ru, ruc, rud, ru5, Nat.reduceLT, Nat.reduceEqDiff, reduceIte, Nat.reduceAdd, Nat.reduceLeDiff, Int.reduceEq, Int.reduceLT, Int.reduceLE, Int.reduceNeg]) | (fail))); first | exact step_1 rfl | exact step_2 rfl (by assumption)) | (intro l' e0; simp -implicitDefEqProofs only [e0, hva, heq, ru, ruc, rud, ru5, Nat.reduceLT, Nat.reduceEqDiff, reduceIte, Nat.reduceAdd, Nat.reduceLeDiff, Int.reduceEq, Int.reduceLT, Int.reduceLE, Int.reduceNeg]; (try (first | (refine ixM hve rfl gi ?_ <;> try simp -implicitDefEqProofs only [e0, hva, heq, ru, ruc, rud, ru5, Nat.reduceLT, Nat.reduceEqDiff, reduceIte, Nat.reduceAdd, Nat.reduceLeDiff, Int.reduceEq, Int.reduceLT, Int.reduceLE, Int.reduceNeg]) | (refine exM (by omega) hr0 ?_ <;> try simp -implicitDefEqProofs only [e0, hva, heq, ru, ruc, rud, ru5, Nat.reduceLT, Nat.reduceEqDiff, reduceIte, Nat.reduceAdd, Nat.reduceLeDiff, Int.reduceEq, Int.reduceLT, Int.reduceLE, Int.reduceNeg]) | (refine exM (by omega) hr1 ?_ <;> try simp -implicitDefEqProofs only [e0, hva, heq, ru, ruc, rud, ru5, Nat.reduceLT, Nat.reduceEqDiff, reduceIte, Nat.reduceAdd, Nat.reduceLeDiff, Int.reduceEq, Int.reduceLT, Int.reduceLE, Int.reduceNeg]) | (fail))); first | exact step_1 rfl | exact step_2 rfl (by assumption)) | (intro l' ; simp -implicitDefEqProofs only [hva, heq, ru, ruc, rud, ru5, Nat.reduceLT, Nat.reduceEqDiff, reduceIte, Nat.reduceAdd, Nat.reduceLeDiff, Int.reduceEq, Int.reduceLT, Int.reduceLE, Int.reduceNeg]; (try (first | (refine ixM hve rfl gi ?_ <;> try simp -implicitDefEqProofs only [hva, heq, ru, ruc, rud, ru5, Nat.reduceLT, Nat.reduceEqDiff, reduceIte, Nat.reduceAdd, Nat.reduceLeDiff, Int.reduceEq, Int.reduceLT, Int.reduceLE, Int.reduceNeg]) | (refine exM (by omega) hr0 ?_ <;> try simp -implicitDefEqProofs only [hva, heq, ru, ruc, rud, ru5, Nat.reduceLT, Nat.reduceEqDiff, reduceIte, Nat.reduceAdd, Nat.reduceLeDiff, Int.reduceEq, Int.reduceLT, Int.reduceLE, Int.reduceNeg]) | (refine exM (by omega) hr1 ?_ <;> try simp -implicitDefEqProofs only [hva, heq, ru, ruc, rud, ru5, Nat.reduceLT, Nat.reduceEqDiff, reduceIte, Nat.reduceAdd, Nat.reduceLeDiff, Int.reduceEq, Int.reduceLT, Int.reduceLE, Int.reduceNeg]) | (fail))); first | exact step_1 rfl | exact step_2 rfl (by assumption)))
                  case' hK =>
                    simp -implicitDefEqProofs only [r4, hva, ru, ruc, rud, ru5, Nat.reduceLT, Nat.reduceEqDiff, reduceIte, Nat.reduceAdd, Nat.reduceLeDiff, Int.reduceEq, Int.reduceLT, Int.reduceLE, Int.reduceNeg]
                    refine next_normal (i + 1) gi (by omega) rfl ?_ rfl rfl
                    simp [allIn, lk, AV.lb, AV.lb.lbs, accV_lb, hv.lb, wrap_i (show i < 9223372036854775807 by omega)]
                · simp -implicitDefEqProofs only [r4, ru, ruc, rud, ru5, Nat.reduceLT, Nat.reduceEqDiff, reduceIte, Nat.reduceAdd, Nat.reduceLeDiff, Int.reduceEq, Int.reduceLT, Int.reduceLE, Int.reduceNeg]
                  refine sane13 ?_
                  have hnx := c.next
                  simp -implicitDefEqProofs only [r4, accV_un, eS, List.length_map, hnx, ru, ruc, rud, ru5, Nat.reduceLT, Nat.reduceEqDiff, reduceIte, Nat.reduceAdd, Nat.reduceLeDiff, Int.reduceEq, Int.reduceLT, Int.reduceLE, Int.reduceNeg]
                  exact hK _
end
end Go.Ab
end
