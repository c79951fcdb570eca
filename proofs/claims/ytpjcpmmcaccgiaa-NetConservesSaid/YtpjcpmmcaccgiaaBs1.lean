/- One text out of several: see the remark at the head of each part. -/
import Derived.RangeFuncIn
import Derived.RangeFuncLeaves
import Derived.OrdersIn
import Derived.Laws.Cells
import Derived.Laws.CopyRow
import Derived.Laws.StructEq
import Derived.Laws.Tables
import Derived.KernelRfl
import Derived.Below
import Derived.Laws.Slices
import Derived.Laws.AppendOwn
import Derived.MapKept
set_option linter.all false
section
/- Abstract values of Go programs, and how they stand for the model's values. -/
namespace Go.Ab

inductive Tip where
  | no | own | full
  deriving DecidableEq

inductive AV where
  | undef
  | bool (b : Bool)
  | int (k : IntKind) (n : Int)
  | str (s : List UInt8)
  | nilp | nilm | nilf | nili
  | sl (z : Bool) (sz : Nat) (es : List (List AV)) (t : Tip)
  | msl (id sz off len : Nat)
  | eptr (cs : List AV)
  | mptr (id off : Nat)
  | lptr (i off : Nat)
  | fn (f : FuncId) (caps : List AV)
  | yld (l : Nat)
  | iface (t : TypeId) (v : AV)
  | agg (cs : List AV)
  | tup (vs : List AV)
  | map (id : Nat)

/-- Where a slice that owns what lies behind its end is held. -/
inductive Pos where
  | slot (t : Nat)
  | box (i j : Nat)

/-- What a block that the running call owns is. -/
inductive Own where
  | obj (id : Nat)
  | box (i : Nat)
  | spare (p : Pos) (tip size : Nat)
  | mark

structure G where
  F : Nat → Nat → Option Value
  I : Nat → Option (Nat × Nat)
  L : Nat → Option Nat
  O : Nat → Option Own

/-- Without the boxes of the running activation. -/
def G.noL (Γ : G) : G := { Γ with L := fun _ => none }

mutual
def vrel (Γ : G) : AV → Value → Prop
  | .undef, _ => True
  | .bool b, v => v = .bool b
  | .int k n, v => v = .int k n
  | .str s, v => v = .string ⟨s.toArray⟩
  | .nilp, v => v = .pointer none
  | .nilm, v => v = .map none
  | .nilf, v => v = .nilFunc
  | .nili, v => v = .nilIface
  | .sl true _ es _, v => es = [] ∧ v = .slice none 0 0
  | .sl false sz es t, v => ∃ b o cap, v = .slice (some ⟨b, o, none⟩) es.length cap ∧ es.length ≤ cap ∧ (t = .full → cap = es.length) ∧ elemsAt Γ b o sz es
  | .msl id sz off len, v => ∃ b s cap, Γ.I id = some (b, s) ∧ v = .slice (some ⟨b, off, none⟩) len cap ∧ len ≤ cap ∧ off + cap * sz = s
  | .eptr cs, v => ∃ b o, v = .pointer (some ⟨b, o, none⟩) ∧ flatAt Γ b o cs
  | .mptr id off, v => ∃ b s, Γ.I id = some (b, s) ∧ v = .pointer (some ⟨b, off, none⟩)
  | .lptr i off, v => ∃ b, Γ.L i = some b ∧ v = .pointer (some ⟨b, off, none⟩)
  | .fn f caps, v => ∃ vs, v = .func (.func f) #[] vs ∧ lrel Γ caps vs.toList
  | .yld l, v => ∃ b s, Γ.I l = some (b, s) ∧ v = .func (.yield b) #[] #[]
  | .iface t a, v => ∃ x, v = .iface t x ∧ vrel Γ a x
  | .agg cs, v => ∃ vs, v = .agg vs ∧ lrel Γ cs vs.toList
  | .tup cs, v => ∃ vs, v = .tuple vs ∧ lrel Γ cs vs.toList
  | .map id, v => ∃ b s, Γ.I id = some (b, s) ∧ v = .map (some b)
def lrel (Γ : G) : List AV → List Value → Prop
  | [], vs => vs = []
  | a :: as, vs => ∃ v vs', vs = v :: vs' ∧ vrel Γ a v ∧ lrel Γ as vs'
def flatAt (Γ : G) (b : Nat) : Nat → List AV → Prop
  | _, [] => True
  | o, a :: as => (∃ v, Γ.F b o = some v ∧ vrel Γ.noL a v) ∧ flatAt Γ b (o + 1) as
def elemsAt (Γ : G) (b : Nat) : Nat → Nat → List (List AV) → Prop
  | _, _, [] => True
  | o, sz, c :: cs => c.length = sz ∧ flatAt Γ b o c ∧ elemsAt Γ b (o + sz) sz cs
end

/-- Γ' knows all that Γ knows. -/
structure Ext (Γ Γ' : G) : Prop where
  F : ∀ b o v, Γ.F b o = some v → Γ'.F b o = some v
  I : ∀ i p, Γ.I i = some p → Γ'.I i = some p
  L : ∀ i b, Γ.L i = some b → Γ'.L i = some b

theorem Ext.refl (Γ : G) : Ext Γ Γ := ⟨fun _ _ _ h => h, fun _ _ h => h, fun _ _ h => h⟩
theorem Ext.trans {a b c : G} (h : Ext a b) (k : Ext b c) : Ext a c :=
  ⟨fun _ _ _ x => k.F _ _ _ (h.F _ _ _ x), fun _ _ x => k.I _ _ (h.I _ _ x), fun _ _ x => k.L _ _ (h.L _ _ x)⟩
theorem Ext.noL {a b : G} (h : Ext a b) : Ext a.noL b.noL := ⟨h.F, h.I, fun _ _ x => by simp [G.noL] at x⟩
theorem Ext.of_noL (a : G) : Ext a.noL a := ⟨fun _ _ _ h => h, fun _ _ h => h, fun _ _ x => by simp [G.noL] at x⟩

mutual
theorem vrel_mono {Γ Γ' : G} (e : Ext Γ Γ') : ∀ (a : AV) (v : Value), vrel Γ a v → vrel Γ' a v
  | .undef, _, _ => by simp [vrel]
  | .bool _, _, h => by simpa [vrel] using h
  | .int _ _, _, h => by simpa [vrel] using h
  | .str _, _, h => by simpa [vrel] using h
  | .nilp, _, h => by simpa [vrel] using h
  | .nilm, _, h => by simpa [vrel] using h
  | .nilf, _, h => by simpa [vrel] using h
  | .nili, _, h => by simpa [vrel] using h
  | .sl true _ _ _, _, h => by simpa [vrel] using h
  | .sl false sz es t, v, h => by
    simp only [vrel] at h ⊢
    obtain ⟨b, o, cap, h1, h2, h3, h4⟩ := h
    exact ⟨b, o, cap, h1, h2, h3, elemsAt_mono e b o sz es h4⟩
  | .msl id sz off len, v, h => by
    simp only [vrel] at h ⊢
    obtain ⟨b, s, cap, h1, h2⟩ := h
    exact ⟨b, s, cap, e.I _ _ h1, h2⟩
  | .eptr cs, v, h => by
    simp only [vrel] at h ⊢
    obtain ⟨b, o, h1, h2⟩ := h
    exact ⟨b, o, h1, flatAt_mono e b o cs h2⟩
  | .mptr id off, v, h => by
    simp only [vrel] at h ⊢
    obtain ⟨b, s, h1, h2⟩ := h
    exact ⟨b, s, e.I _ _ h1, h2⟩
  | .lptr i off, v, h => by
    simp only [vrel] at h ⊢
    obtain ⟨b, h1, h2⟩ := h
    exact ⟨b, e.L _ _ h1, h2⟩
  | .fn f caps, v, h => by
    simp only [vrel] at h ⊢
    obtain ⟨vs, h1, h2⟩ := h
    exact ⟨vs, h1, lrel_mono e caps _ h2⟩
  | .yld l, v, h => by
    simp only [vrel] at h ⊢
    obtain ⟨b, s, h1, h2⟩ := h
    exact ⟨b, s, e.I _ _ h1, h2⟩
  | .iface t a, v, h => by
    simp only [vrel] at h ⊢
    obtain ⟨x, h1, h2⟩ := h
    exact ⟨x, h1, vrel_mono e a x h2⟩
  | .agg cs, v, h => by
    simp only [vrel] at h ⊢
    obtain ⟨vs, h1, h2⟩ := h
    exact ⟨vs, h1, lrel_mono e cs _ h2⟩
  | .tup cs, v, h => by
    simp only [vrel] at h ⊢
    obtain ⟨vs, h1, h2⟩ := h
    exact ⟨vs, h1, lrel_mono e cs _ h2⟩
  | .map id, v, h => by
    simp only [vrel] at h ⊢
    obtain ⟨b, s, h1, h2⟩ := h
    exact ⟨b, s, e.I _ _ h1, h2⟩
theorem lrel_mono {Γ Γ' : G} (e : Ext Γ Γ') : ∀ (as : List AV) (vs : List Value), lrel Γ as vs → lrel Γ' as vs
  | [], _, h => by simpa [lrel] using h
  | a :: as, vs, h => by
    simp only [lrel] at h ⊢
    obtain ⟨v, vs', h1, h2, h3⟩ := h
    exact ⟨v, vs', h1, vrel_mono e a v h2, lrel_mono e as vs' h3⟩
theorem flatAt_mono {Γ Γ' : G} (e : Ext Γ Γ') (b : Nat) : ∀ (o : Nat) (as : List AV), flatAt Γ b o as → flatAt Γ' b o as
  | _, [], _ => by simp [flatAt]
  | o, a :: as, h => by
    simp only [flatAt] at h ⊢
    obtain ⟨⟨v, h1, h2⟩, h3⟩ := h
    exact ⟨⟨v, e.F _ _ _ h1, vrel_mono e.noL a v h2⟩, flatAt_mono e b (o + 1) as h3⟩
theorem elemsAt_mono {Γ Γ' : G} (e : Ext Γ Γ') (b : Nat) : ∀ (o sz : Nat) (cs : List (List AV)), elemsAt Γ b o sz cs → elemsAt Γ' b o sz cs
  | _, _, [], _ => by simp [elemsAt]
  | o, sz, c :: cs, h => by
    simp only [elemsAt] at h ⊢
    obtain ⟨h1, h2, h3⟩ := h
    exact ⟨h1, flatAt_mono e b o c h2, elemsAt_mono e b (o + sz) sz cs h3⟩
end

/-- No pointer to a box of the running activation in it. -/
def AV.nol : AV → Bool
  | .lptr _ _ => false
  | .fn _ caps => nols caps
  | .iface _ a => a.nol
  | .agg cs => nols cs
  | .tup cs => nols cs
  | _ => true
where
  nols : List AV → Bool
  | [] => true
  | a :: as => a.nol && nols as

theorem flatAt_noL {Γ : G} {b : Nat} : ∀ {o : Nat} {as : List AV}, flatAt Γ b o as → flatAt Γ.noL b o as
  | _, [], _ => by simp [flatAt]
  | o, a :: as, h => by
    simp only [flatAt] at h ⊢
    exact ⟨h.1, flatAt_noL h.2⟩
theorem elemsAt_noL {Γ : G} {b : Nat} : ∀ {o sz : Nat} {cs : List (List AV)}, elemsAt Γ b o sz cs → elemsAt Γ.noL b o sz cs
  | _, _, [], _ => by simp [elemsAt]
  | o, sz, c :: cs, h => by
    simp only [elemsAt] at h ⊢
    exact ⟨h.1, flatAt_noL h.2.1, elemsAt_noL h.2.2⟩

mutual
theorem vrel_nol {Γ : G} : ∀ (a : AV) (v : Value), a.nol = true → vrel Γ a v → vrel Γ.noL a v
  | .undef, _, _, _ => by simp [vrel]
  | .bool _, _, _, h => by simpa [vrel] using h
  | .int _ _, _, _, h => by simpa [vrel] using h
  | .str _, _, _, h => by simpa [vrel] using h
  | .nilp, _, _, h => by simpa [vrel] using h
  | .nilm, _, _, h => by simpa [vrel] using h
  | .nilf, _, _, h => by simpa [vrel] using h
  | .nili, _, _, h => by simpa [vrel] using h
  | .sl true _ _ _, _, _, h => by simpa [vrel] using h
  | .sl false sz es t, v, _, h => by
    simp only [vrel] at h ⊢
    obtain ⟨b, o, cap, h1, h2, h3, h4⟩ := h
    exact ⟨b, o, cap, h1, h2, h3, elemsAt_noL h4⟩
  | .msl id sz off len, v, _, h => by simpa [vrel, G.noL] using h
  | .eptr cs, v, _, h => by
    simp only [vrel] at h ⊢
    obtain ⟨b, o, h1, h2⟩ := h
    exact ⟨b, o, h1, flatAt_noL h2⟩
  | .mptr id off, v, _, h => by simpa [vrel, G.noL] using h
  | .lptr i off, v, n, h => by simp [AV.nol] at n
  | .fn f caps, v, n, h => by
    simp only [vrel, AV.nol] at h n ⊢
    obtain ⟨vs, h1, h2⟩ := h
    exact ⟨vs, h1, lrel_nol caps _ n h2⟩
  | .yld l, v, _, h => by simpa [vrel, G.noL] using h
  | .iface t a, v, n, h => by
    simp only [vrel, AV.nol] at h n ⊢
    obtain ⟨x, h1, h2⟩ := h
    exact ⟨x, h1, vrel_nol a x n h2⟩
  | .agg cs, v, n, h => by
    simp only [vrel, AV.nol] at h n ⊢
    obtain ⟨vs, h1, h2⟩ := h
    exact ⟨vs, h1, lrel_nol cs _ n h2⟩
  | .tup cs, v, n, h => by
    simp only [vrel, AV.nol] at h n ⊢
    obtain ⟨vs, h1, h2⟩ := h
    exact ⟨vs, h1, lrel_nol cs _ n h2⟩
  | .map id, v, _, h => by simpa [vrel, G.noL] using h
theorem lrel_nol {Γ : G} : ∀ (as : List AV) (vs : List Value), AV.nol.nols as = true → lrel Γ as vs → lrel Γ.noL as vs
  | [], _, _, h => by simpa [lrel] using h
  | a :: as, vs, n, h => by
    simp only [lrel] at h ⊢
    simp only [AV.nol.nols, Bool.and_eq_true] at n
    obtain ⟨v, vs', h1, h2, h3⟩ := h
    exact ⟨v, vs', h1, vrel_nol a v n.1 h2, lrel_nol as vs' n.2 h3⟩
end

/-! ### Lists -/
theorem lrel_length {Γ : G} : ∀ {as : List AV} {vs : List Value}, lrel Γ as vs → as.length = vs.length
  | [], _, h => by simp only [lrel] at h; simp [h]
  | a :: as, vs, h => by
    simp only [lrel] at h
    obtain ⟨v, vs', rfl, _, h3⟩ := h
    simp [lrel_length h3]
theorem lrel_get {Γ : G} : ∀ {as : List AV} {vs : List Value}, lrel Γ as vs → ∀ {i : Nat} {a : AV}, as[i]? = some a → ∃ v, vs[i]? = some v ∧ vrel Γ a v
  | [], _, _, i, a, h => by simp at h
  | b :: as, vs, h, i, a, hi => by
    simp only [lrel] at h
    obtain ⟨v, vs', rfl, h2, h3⟩ := h
    cases i with
    | zero => simp at hi; subst hi; exact ⟨v, by simp, h2⟩
    | succ i => simpa using lrel_get h3 (by simpa using hi)
theorem lrel_append {Γ : G} : ∀ {as bs : List AV} {vs us : List Value}, lrel Γ as vs → lrel Γ bs us → lrel Γ (as ++ bs) (vs ++ us)
  | [], _, vs, _, h, k => by simp only [lrel] at h; simpa [h] using k
  | a :: as, bs, vs, us, h, k => by
    simp only [lrel] at h
    obtain ⟨v, vs', rfl, h2, h3⟩ := h
    simp only [List.cons_append, lrel]
    exact ⟨v, vs' ++ us, rfl, h2, lrel_append h3 k⟩
theorem lrel_drop {Γ : G} : ∀ {as : List AV} {vs : List Value} (n : Nat), lrel Γ as vs → lrel Γ (as.drop n) (vs.drop n)
  | [], _, n, h => by simp only [lrel] at h; subst h; simp [lrel]
  | a :: as, vs, n, h => by
    simp only [lrel] at h
    obtain ⟨v, vs', rfl, h2, h3⟩ := h
    cases n with
    | zero => simp only [List.drop_zero, lrel]; exact ⟨v, vs', rfl, h2, h3⟩
    | succ n => simpa using lrel_drop n h3
theorem lrel_take {Γ : G} : ∀ {as : List AV} {vs : List Value} (n : Nat), lrel Γ as vs → lrel Γ (as.take n) (vs.take n)
  | [], _, n, h => by simp only [lrel] at h; subst h; simp [lrel]
  | a :: as, vs, n, h => by
    simp only [lrel] at h
    obtain ⟨v, vs', rfl, h2, h3⟩ := h
    cases n with
    | zero => simp [lrel]
    | succ n => simp only [List.take_succ_cons, lrel]; exact ⟨v, _, rfl, h2, lrel_take n h3⟩
theorem lrel_of_get {Γ : G} : ∀ {as : List AV} {vs : List Value}, as.length = vs.length → (∀ (i : Nat) (a : AV), as[i]? = some a → ∃ v, vs[i]? = some v ∧ vrel Γ a v) → lrel Γ as vs
  | [], vs, h, _ => by simp at h; simp [lrel, List.eq_nil_of_length_eq_zero h.symm]
  | a :: as, [], h, _ => by simp at h
  | a :: as, v :: vs, h, k => by
    simp only [lrel]
    refine ⟨v, vs, rfl, ?_, lrel_of_get (by simpa using h) (fun i b hi => by simpa using k (i + 1) b (by simpa using hi))⟩
    obtain ⟨u, h1, h2⟩ := k 0 a (by simp)
    simp at h1; subst h1; exact h2
theorem lrel_map {Γ : G} {α : Type} (f : α → AV) (g : α → Value) : ∀ (l : List α), (∀ x ∈ l, vrel Γ (f x) (g x)) → lrel Γ (l.map f) (l.map g)
  | [], _ => by simp [lrel]
  | x :: l, h => by
    simp only [List.map_cons, lrel]
    exact ⟨g x, _, rfl, h x (by simp), lrel_map f g l (fun y hy => h y (by simp [hy]))⟩

theorem flatAt_get {Γ : G} {b : Nat} : ∀ {o : Nat} {as : List AV}, flatAt Γ b o as → ∀ {i : Nat} {a : AV}, as[i]? = some a → ∃ v, Γ.F b (o + i) = some v ∧ vrel Γ.noL a v
  | _, [], _, i, a, h => by simp at h
  | o, c :: as, h, i, a, hi => by
    simp only [flatAt] at h
    cases i with
    | zero => simp at hi; subst hi; simpa using h.1
    | succ i =>
      have := flatAt_get h.2 (i := i) (a := a) (by simpa using hi)
      simpa [Nat.add_assoc, Nat.add_comm 1 i] using this
theorem flatAt_of_get {Γ : G} {b : Nat} : ∀ {o : Nat} {as : List AV}, (∀ (i : Nat) (a : AV), as[i]? = some a → ∃ v, Γ.F b (o + i) = some v ∧ vrel Γ.noL a v) → flatAt Γ b o as
  | _, [], _ => by simp [flatAt]
  | o, c :: as, h => by
    simp only [flatAt]
    refine ⟨by simpa using h 0 c (by simp), flatAt_of_get fun i a hi => ?_⟩
    have := h (i + 1) a (by simpa using hi)
    simpa [Nat.add_assoc, Nat.add_comm 1 i] using this
theorem flatAt_drop {Γ : G} {b : Nat} {o : Nat} {as : List AV} (n : Nat) (h : flatAt Γ b o as) : flatAt Γ b (o + n) (as.drop n) :=
  flatAt_of_get fun i a hi => by
    rw [List.getElem?_drop] at hi
    simpa [Nat.add_assoc] using flatAt_get h hi
theorem flatAt_take {Γ : G} {b : Nat} {o : Nat} {as : List AV} (n : Nat) (h : flatAt Γ b o as) : flatAt Γ b o (as.take n) :=
  flatAt_of_get fun i a hi => by
    rw [List.getElem?_take] at hi
    split at hi
    · exact flatAt_get h hi
    · simp at hi
theorem elemsAt_get {Γ : G} {b : Nat} : ∀ {o sz : Nat} {cs : List (List AV)}, elemsAt Γ b o sz cs → ∀ {i : Nat} {c : List AV}, cs[i]? = some c → c.length = sz ∧ flatAt Γ b (o + i * sz) c
  | _, _, [], _, i, c, h => by simp at h
  | o, sz, d :: cs, h, i, c, hi => by
    simp only [elemsAt] at h
    cases i with
    | zero => simp at hi; subst hi; simpa using ⟨h.1, h.2.1⟩
    | succ i =>
      have := elemsAt_get h.2.2 (i := i) (c := c) (by simpa using hi)
      have e : o + sz + i * sz = o + (i + 1) * sz := by rw [Nat.add_mul, Nat.one_mul]; omega
      simpa [e] using this
theorem elemsAt_of_get {Γ : G} {b : Nat} : ∀ {o sz : Nat} {cs : List (List AV)}, (∀ (i : Nat) (c : List AV), cs[i]? = some c → c.length = sz ∧ flatAt Γ b (o + i * sz) c) → elemsAt Γ b o sz cs
  | _, _, [], _ => by simp [elemsAt]
  | o, sz, d :: cs, h => by
    simp only [elemsAt]
    have h0 := h 0 d (by simp)
    refine ⟨h0.1, by simpa using h0.2, elemsAt_of_get fun i c hi => ?_⟩
    have := h (i + 1) c (by simpa using hi)
    have e : o + sz + i * sz = o + (i + 1) * sz := by rw [Nat.add_mul, Nat.one_mul]; omega
    simpa [e] using this
theorem elemsAt_drop {Γ : G} {b o sz : Nat} {cs : List (List AV)} (n : Nat) (h : elemsAt Γ b o sz cs) : elemsAt Γ b (o + n * sz) sz (cs.drop n) :=
  elemsAt_of_get fun i c hi => by
    rw [List.getElem?_drop] at hi
    have := elemsAt_get h hi
    rw [Nat.add_mul] at this
    simpa [Nat.add_assoc] using this
theorem elemsAt_take {Γ : G} {b o sz : Nat} {cs : List (List AV)} (n : Nat) (h : elemsAt Γ b o sz cs) : elemsAt Γ b o sz (cs.take n) :=
  elemsAt_of_get fun i c hi => by
    rw [List.getElem?_take] at hi
    split at hi
    · exact elemsAt_get h hi
    · simp at hi
theorem elemsAt_append {Γ : G} {b o sz : Nat} {cs ds : List (List AV)} (h : elemsAt Γ b o sz cs) (k : elemsAt Γ b (o + cs.length * sz) sz ds) : elemsAt Γ b o sz (cs ++ ds) :=
  elemsAt_of_get fun i c hi => by
    rw [List.getElem?_append] at hi
    split at hi
    · exact elemsAt_get h hi
    · rename_i hlt
      have := elemsAt_get k hi
      have e : o + cs.length * sz + (i - cs.length) * sz = o + i * sz := by
        rw [Nat.add_assoc, ← Nat.add_mul]; congr 2; omega
      rw [e] at this
      exact this

/-- Without the right to what lies behind a slice's end. -/
def AV.un : AV → AV
  | .sl z sz es .own => .sl z sz es .no
  | a => a
theorem vrel_un {Γ : G} {a : AV} {v : Value} (h : vrel Γ a v) : vrel Γ a.un v := by
  cases a with
  | sl z sz es t =>
    cases t with
    | own =>
      cases z with
      | true => simpa [AV.un, vrel] using h
      | false =>
        simp only [AV.un, vrel] at h ⊢
        obtain ⟨b, o, cap, h1, h2, _, h4⟩ := h
        exact ⟨b, o, cap, h1, h2, by simp, h4⟩
    | _ => exact h
  | _ => exact h
def AV.cells : AV → List AV
  | .agg cs => cs
  | a => [a]
/-- What one cell of memory can hold. -/
def AV.one : AV → Bool
  | .undef | .agg _ | .tup _ => false
  | _ => true
theorem vrel_one {Γ : G} {a : AV} {v : Value} (h : vrel Γ a v) (k : a.one = true) : v.oneCell' = true := by
  cases a with
  | sl z sz es t =>
    cases z with
    | true => simp only [vrel] at h; rw [h.2]; rfl
    | false => simp only [vrel] at h; obtain ⟨b, o, cap, rfl, _⟩ := h; rfl
  | undef | agg _ | tup _ => simp [AV.one] at k
  | _ =>
    simp only [vrel] at h
    first
      | (subst h; rfl)
      | (obtain ⟨_, _, _, _, rfl, _⟩ := h; rfl)
      | (obtain ⟨_, _, _, rfl⟩ := h; rfl)
      | (obtain ⟨_, _, rfl, _⟩ := h; rfl)
      | (obtain ⟨_, _, rfl⟩ := h; rfl)
      | (obtain ⟨_, rfl, _⟩ := h; rfl)
theorem vrel_cells {Γ : G} {a : AV} {v : Value} (h : vrel Γ a v) (k : a.cells.all AV.one = true) : lrel Γ a.cells v.cells.toList := by
  cases a with
  | agg cs =>
    simp only [vrel] at h
    obtain ⟨vs, rfl, h2⟩ := h
    simpa [AV.cells, Value.cells] using h2
  | _ =>
    simp only [AV.cells, List.all_cons, List.all_nil, Bool.and_true] at k
    have h1 := vrel_one h k
    have : v.cells = #[v] := by cases v <;> first | rfl | simp [Value.oneCell'] at h1
    simp only [AV.cells, this, lrel]
    exact ⟨v, [], rfl, h, rfl⟩

end Go.Ab
end
section
/- The types' table, and the operations that touch no memory: what they give on abstract values is what the model gives. -/
set_option linter.unusedSimpArgs false
set_option linter.unusedVariables false
namespace Go.Ab

inductive TD where
  | int (k : IntKind) | bool | str
  | slice (e : Nat) | struct (fs : List (Nat × Nat)) | arr (n e : Nat) | ptr (e : Nat) | map (k e : Nat) | func | iface | other

structure TI where
  d : TD
  size : Nat
  bytes : Nat
  zero : List AV
  eqk : List TD

abbrev Tab := List (Option TI)
def Tab.get (T : Tab) (t : Nat) : Option TI := match T[t]? with | some (some x) => some x | _ => none

def descOK (P : Program) (t : Nat) : TD → Prop
  | .int k => P.underlying t = some (.int k)
  | .bool => P.underlying t = some .bool
  | .str => P.underlying t = some .string
  | .slice e => P.underlying t = some (.slice e)
  | .struct fs => ∃ fields, P.underlying t = some (.struct fields) ∧ fields.toList.map (fun f => (f.offset, f.type)) = fs
  | .arr n e => P.underlying t = some (.array n e)
  | .ptr e => P.underlying t = some (.pointer e)
  | .map k e => P.underlying t = some (.map k e)
  | .func => ∃ a b c, P.underlying t = some (.func a b c)
  | .iface => ∃ ms, P.underlying t = some (.interface ms)
  | .other => True

def TD.isAgg : TD → Bool
  | .struct _ | .arr _ _ => true
  | _ => false
def TD.known : TD → Bool
  | .other => false
  | _ => true

def TD.scalar : TD → Bool
  | .int _ | .bool | .str => true
  | _ => false

/-- A struct type whose fields are numbers, truths and strings, one cell each, of these kinds. -/
structure FlatEq (P : Program) (t : Nat) (ks : List TD) : Prop where
  held : P.stoodInHeld t = false
  guard : P.eqGuardType P.depth t = false
  fields : ∃ fs, P.underlying t = some (.struct fs) ∧ fs.size = ks.length ∧ ∀ (i : Nat) (f : Field) (d : TD), fs[i]? = some f → ks[i]? = some d → f.name ≠ "_" ∧ f.offset = i ∧ d.scalar = true ∧ descOK P f.type d

structure TIOK (P : Program) (t : Nat) (x : TI) : Prop where
  info : ∃ i z, P.info? t = some i ∧ i.size = x.size ∧ i.bytes = x.bytes ∧ i.zero = some z ∧ (x.zero ≠ [] → ∀ Γ, lrel Γ x.zero z.cells.toList) ∧ (∀ v ∈ z.cells.toList, v.oneCell' = true) ∧ (x.d.isAgg = false → z.oneCell' = true) ∧ z.cells.size = x.size
  desc : descOK P t x.d
  eq : x.eqk ≠ [] → FlatEq P t x.eqk

def TabOK (P : Program) (T : Tab) : Prop := ∀ t x, T.get t = some x → TIOK P t x

section
variable {P : Program} {T : Tab}

theorem TIOK.sizeOf {t : Nat} {x : TI} (h : TIOK P t x) (w : World) : (sizeOf t).run P w = .ok x.size w := by
  obtain ⟨i, z, h1, h2, _⟩ := h.info
  simp [Go.sizeOf, typeInfo, h1, h2]
theorem TIOK.isAgg {t : Nat} {x : TI} (h : TIOK P t x) (hk : x.d.known = true) (w : World) : (isAgg t).run P w = .ok x.d.isAgg w := by
  have hd := h.desc
  revert hd hk
  cases hx : x.d <;> simp only [descOK, TD.known, TD.isAgg] <;> intro hk hd <;> first
    | (cases hk; done)
    | (simp [Go.isAgg, run_underlying hd])
    | (obtain ⟨_, hd, _⟩ := hd; simp [Go.isAgg, run_underlying hd])
    | (obtain ⟨_, _, _, hd⟩ := hd; simp [Go.isAgg, run_underlying hd])
    | (obtain ⟨_, hd⟩ := hd; simp [Go.isAgg, run_underlying hd])
end

/-! ### Equality -/
def aeq1 : TD → AV → AV → Option Bool
  | .int _, .int k a, .int k' b => if k = k' then some (decide (a = b)) else none
  | .bool, .bool a, .bool b => some (a == b)
  | .str, .str s, .str u => some (decide (s = u))
  | _, _, _ => none
def aeqs : List TD → List AV → List AV → Option Bool
  | [], [], [] => some true
  | [d], [x], [y] => aeq1 d x y
  | d :: ds, x :: xs, y :: ys => match aeq1 d x y, aeqs ds xs ys with
    | some a, some b => some (a && b)
    | _, _ => none
  | _, _, _ => none
def aeq (T : Tab) (t : Nat) (x y : AV) : Option Bool :=
  match T.get t with
  | none => none
  | some ti =>
    match ti.d, x, y with
    | .int k, x, y => aeq1 (.int k) x y
    | .bool, x, y => aeq1 .bool x y
    | .str, x, y => aeq1 .str x y
    | .struct _, .agg xs, .agg ys => match ti.eqk with | [] => none | ks => aeqs ks xs ys
    | .slice _, a, .sl true _ _ _ => match a with | .sl z _ _ _ => some z | .msl _ _ _ _ => some false | _ => none
    | .ptr _, a, .nilp => match a with | .nilp => some true | .mptr _ _ | .lptr _ _ | .eptr _ => some false | _ => none
    | .func, a, .nilf => match a with | .nilf => some true | .fn _ _ => some false | _ => none
    | .iface, .iface _ _, .nili => some false
    | _, _, _ => none

def intK (op : BinOp) (k : IntKind) (a b : Int) (K : AV → Prop) : Prop :=
  match op with
  | .add => K (.int k (k.wrap (a + b)))
  | .sub => K (.int k (k.wrap (a - b)))
  | .mul => K (.int k (k.wrap (a * b)))
  | .lss => K (.bool (decide (a < b)))
  | .leq => K (.bool (decide (a ≤ b)))
  | .gtr => K (.bool (decide (b < a)))
  | .geq => K (.bool (decide (b ≤ a)))
  | .quo => b ≠ 0 ∧ K (.int k (k.wrap (a.tdiv b)))
  | .rem => b ≠ 0 ∧ K (.int k (a.tmod b))
  | .and => K (.int k (bits .and k a b))
  | .or => K (.int k (bits .or k a b))
  | .xor => K (.int k (bits .xor k a b))
  | .andNot => K (.int k (bits .andNot k a b))
  | _ => False
def shK (op : BinOp) (k : IntKind) (a b : Int) (K : AV → Prop) : Prop :=
  match op with
  | .shl => 0 ≤ b ∧ K (.int k (k.wrap (a * 2 ^ (min b.toNat k.bits))))
  | .shr => 0 ≤ b ∧ K (.int k (a.fdiv (2 ^ (min b.toNat k.bits))))
  | _ => False
def strK (op : BinOp) (s u : List UInt8) (K : AV → Prop) : Prop :=
  match op with
  | .add => s.length + u.length ≤ 9223372036854775807 ∧ K (.str (s ++ u))
  | .lss => K (.bool (Op.bytesLess s u))
  | .leq => K (.bool (Op.bytesLess s u || decide (s = u)))
  | .gtr => K (.bool (!(Op.bytesLess s u || decide (s = u))))
  | .geq => K (.bool (!Op.bytesLess s u))
  | _ => False
def arithK (op : BinOp) (x y : AV) (K : AV → Prop) : Prop :=
  match x, y with
  | .int k a, .int k' b => if k = k' then intK op k a b K else False
  | .str s, .str u => strK op s u K
  | _, _ => False
def shiftK (op : BinOp) (x y : AV) (K : AV → Prop) : Prop :=
  match x, y with
  | .int k a, .int _ b => shK op k a b K
  | _, _ => False
def binK (T : Tab) (op : BinOp) (t : Nat) (x y : AV) (K : AV → Prop) : Prop :=
  match op with
  | .eql => match aeq T t x y with | some r => K (.bool r) | none => False
  | .neq => match aeq T t x y with | some r => K (.bool !r) | none => False
  | .shl => shiftK .shl x y K
  | .shr => shiftK .shr x y K
  | op => arithK op x y K

/-- A struct's cells with parts laid over them. -/
def fillA (place : Nat → Option (Nat × Nat)) : List AV → List (Nat × AV) → Option (List AV)
  | cs, [] => some cs
  | cs, (i, v) :: rest =>
    match place i with
    | none => none
    | some (off, size) =>
      if v.cells.length = size ∧ off + size ≤ cs.length then fillA place (cs.take off ++ v.cells ++ cs.drop (off + size)) rest else none
def places (T : Tab) : List (Nat × Nat) → List (Option (Nat × Nat))
  | [] => []
  | (off, ft) :: r => (match T.get ft with | some fi => some (off, fi.size) | none => none) :: places T r
def jo {α : Type} : Option (Option α) → Option α
  | some o => o
  | none => none
def abuild (T : Tab) (t : Nat) (parts : List (Nat × AV)) : Option (List AV) :=
  match T.get t with
  | none => none
  | some ti =>
    if ti.zero.length = ti.size ∧ (parts.all fun p => p.2.cells.all AV.one) = true then
      match ti.d with
      | .struct fs => if (places T fs).all Option.isSome then fillA (fun i => jo (places T fs)[i]?) ti.zero parts else none
      | .arr _ e => match T.get e with
        | some ei => fillA (fun i => some (i * ei.size, ei.size)) ti.zero parts
        | none => none
      | _ => none
    else none

/-- A part of a struct, as a value. -/
def apart (T : Tab) (ft : Nat) (cs : List AV) (off : Nat) (K : AV → Prop) : Prop :=
  match T.get ft with
  | none => False
  | some fi => fi.d.known = true ∧
    (if fi.d.isAgg then K (.agg ((cs.drop off).take fi.size))
     else match cs[off]? with
      | some c => K c
      | none => False)

/-- The cells of an element, named one by one, by their kinds. -/
def exCells : List TD → (List AV → Prop) → Prop
  | [], K => K []
  | d :: ds, K => match d with
    | .int k => ∃ n : Int, exCells ds fun r => K (.int k n :: r)
    | .bool => ∃ b : Bool, exCells ds fun r => K (.bool b :: r)
    | .str => ∃ s : List UInt8, exCells ds fun r => K (.str s :: r)
    | _ => ∃ a : AV, exCells ds fun r => K (a :: r)
theorem exCells_elim : ∀ {ds : List TD} {K : List AV → Prop}, exCells ds K → ∃ c, K c
  | [], _, h => ⟨[], h⟩
  | d :: ds, K, h => by
    cases d <;> simp only [exCells] at h <;> (obtain ⟨x, h⟩ := h; obtain ⟨c, hc⟩ := exCells_elim h; exact ⟨_, hc⟩)

def ofV : Value → AV
  | .bool b => .bool b
  | .int k n => .int k n
  | .string s => .str s.data.toList
  | .pointer none => .nilp
  | .slice none 0 0 => .sl true 0 [] .own
  | .map none => .nilm
  | .nilFunc => .nilf
  | .nilIface => .nili
  | _ => .undef
theorem vrel_ofV (Γ : G) (v : Value) : vrel Γ (ofV v) v := by
  unfold ofV
  split <;> simp [vrel]

def kindsOf (T : Tab) : List (Nat × Nat) → List TD
  | [] => []
  | (_, ft) :: r => (match T.get ft with | some fi => if fi.size = 1 then [fi.d] else List.replicate fi.size .other | none => []) ++ kindsOf T r
/-- The kinds of a type's cells. -/
def cellKinds (T : Tab) (t : Nat) : List TD :=
  match T.get t with
  | none => []
  | some ti => match ti.d with
    | .struct fs => kindsOf T fs
    | .arr _ _ => List.replicate ti.size .other
    | d => [d]

def optV (ρ : Operand → AV) : Option Operand → Option AV
  | none => none
  | some x => some (ρ x)

/-- The bounds of a cut: from l to h, with or without a third one. -/
def boundsK (len : Nat) (lo hi : Option AV) (K : Nat → Nat → Prop) : Prop :=
  match lo, hi with
  | none, none => K 0 len
  | some (.int _ l), none => 0 ≤ l ∧ l ≤ len ∧ K l.toNat len
  | none, some (.int _ h) => 0 ≤ h ∧ h ≤ len ∧ K 0 h.toNat
  | some (.int _ l), some (.int _ h) => 0 ≤ l ∧ l ≤ h ∧ h ≤ len ∧ K l.toNat h.toNat
  | _, _ => False

def sliceK (T : Tab) (t : Nat) (x : AV) (lo hi mx : Option AV) (K : AV → Prop) : Prop :=
  match T.get t with
  | none => False
  | some ti =>
    match ti.d, x with
    | .str, .str s => mx.isNone = true ∧ boundsK s.length lo hi fun l h => K (.str ((s.drop l).take (h - l)))
    | .slice e, .sl z sz es tip =>
      match T.get e with
      | none => False
      | some ei =>
        match mx with
        | none => boundsK es.length lo hi fun l h => (z = false → ei.size = sz) ∧ K (.sl z sz ((es.drop l).take (h - l)) (if z then .own else .no))
        | some (.int _ m) => (z = false → ei.size = sz) ∧ hi.isSome = true ∧ boundsK es.length lo hi fun l h => m = h ∧ K (.sl z sz ((es.drop l).take (h - l)) .full)
        | _ => False
    | .slice e, .msl id sz off len =>
      match T.get e with
      | none => False
      | some ei =>
        match mx with
        | none => ei.size = sz ∧ boundsK len lo hi fun l h => ((l = 0 ∨ l < h) ∧ K (.msl id sz (off + l * sz) (h - l))) ∨ (l = h ∧ K (.sl false sz [] .no))
        | some (.int _ m) => hi.isSome = true ∧ boundsK len lo hi fun l h => h ≤ m ∧ m ≤ len ∧ K .undef
        | _ => False
    | _, _ => False

def pureK (T : Tab) (ρ : Operand → AV) (op : Op) (K : AV → Prop) : Prop :=
  match op with
  | .move x | .assign x => K (ρ x).un
  | .pick c a b => match ρ c with | .bool c => K (bif c then (ρ a).un else (ρ b).un) | _ => False
  | .build t parts => match abuild T t (parts.toList.map fun p => (p.1, (ρ p.2).un)) with | some cs => K (.agg cs) | none => False
  | .nilCheck x => match ρ x with
    | .eptr cs => K (.eptr cs) | .mptr i o => K (.mptr i o) | .lptr i o => K (.lptr i o) | .fn f cs => K (.fn f cs) | .iface t v => K (.iface t v)
    | _ => False
  | .binOp op t x y _ => binK T op t (ρ x) (ρ y) K
  | .unOp op _ x => match op, ρ x with
    | .not, .bool b => K (.bool !b)
    | .neg, .int k n => K (.int k (k.wrap (0 - n)))
    | _, _ => False
  | .convert src dst x => match T.get src, T.get dst with
    | some si, some di => si.d.known = true ∧ (match si.d, di.d, ρ x with
      | _, .int k, .int _ n => K (.int k (k.wrap n))
      | _, .str, .str s => K (.str s)
      | _, _, _ => False)
    | _, _ => False
  | .makeInterface t x => match T.get t with
    | some ti => (match ti.d with | .iface | .other => False | _ => K (.iface t (ρ x).un))
    | none => False
  | .makeFunc fn first captured => match fn with
    | .func f => first.size = 0 ∧ K (.fn f (captured.toList.map fun x => (ρ x).un))
    | _ => False
  | .slice t x lo hi mx => sliceK T t (ρ x) (optV ρ lo) (optV ρ hi) (optV ρ mx) K
  | .fieldAddr s x f => match T.get s with
    | some si => (match si.d with
      | .struct fs => (match fs[f]? with
        | some (off, ft) => (match T.get ft with
          | some fi => fi.size ≠ 0 ∧ (match ρ x with
            | .eptr cs => K (.eptr (cs.drop off))
            | .mptr i o => K (.mptr i (o + off))
            | .lptr i o => K (.lptr i (o + off))
            | _ => False)
          | none => False)
        | none => False)
      | _ => False)
    | none => False
  | .field t x f => match T.get t with
    | some si => (match si.d, ρ x with
      | .struct fs, .agg cs => (match fs[f]? with
        | some (off, ft) => apart T ft cs off K
        | none => False)
      | _, _ => False)
    | none => False
  | .indexAddr t x i => match T.get t with
    | some si => (match si.d with
      | .slice e => (match T.get e, ρ x, ρ i with
        | some ei, .sl false sz es _, .int _ n => ei.size = sz ∧ 0 ≤ n ∧ exCells (cellKinds T e) fun c => es[n.toNat]? = some c ∧ K (.eptr c)
        | some ei, .msl id sz off len, .int _ n => ei.size = sz ∧ 0 ≤ n ∧ n < len ∧ K (.mptr id (off + n.toNat * sz))
        | _, _, _ => False)
      | .arr len e => (match T.get e, ρ x, ρ i with
        | some ei, .eptr cs, .int _ n => 0 ≤ n ∧ n < len ∧ K (.eptr (cs.drop (n.toNat * ei.size)))
        | some ei, .mptr id off, .int _ n => 0 ≤ n ∧ n < len ∧ K (.mptr id (off + n.toNat * ei.size))
        | some ei, .lptr id off, .int _ n => 0 ≤ n ∧ n < len ∧ K (.lptr id (off + n.toNat * ei.size))
        | _, _, _ => False)
      | _ => False)
    | none => False
  | .index t x i => match T.get t with
    | some si => (match si.d, ρ x, ρ i with
      | .str, .str s, .int _ n => 0 ≤ n ∧ ∃ b : UInt8, s[n.toNat]? = some b ∧ K (.int .u8 b.toNat)
      | _, _, _ => False)
    | none => False
  | .typeAssert x _ asserted ok => match T.get asserted with
    | some ti => (match ti.d, ρ x with
      | .iface, _ => False
      | .other, _ => False
      | d, .iface t v => if t = asserted then K (if ok then .tup [v, .bool true] else v) else (ok = true ∧ if d.isAgg then K (.tup [.undef, .bool false]) else ti.zero.length = 1 ∧ K (.tup (ti.zero ++ [.bool false])))
      | _, _ => False)
    | none => False
  | .extract x ix => match ρ x with
    | .tup vs => (match vs[ix]? with | some v => K v | none => False)
    | _ => False
  | .call c => match c.callee with
    | .builtin .len => (match c.args.toList, c.argTypes.toList with
      | [x], [t] => (match T.get t with
        | some ti => (match ti.d, ρ x with
          | .str, .str s => K (.int .i64 s.length)
          | .slice _, .sl _ _ es _ => K (.int .i64 es.length)
          | .slice _, .msl _ _ _ len => K (.int .i64 len)
          | _, _ => False)
        | none => False)
      | _, _ => False)
    | .builtin .min => (match c.args.toList with
      | [x, y] => (match ρ x, ρ y with | .int k a, .int _ b => K (.int k (if b < a then b else a)) | _, _ => False)
      | _ => False)
    | .builtin .max => (match c.args.toList with
      | [x, y] => (match ρ x, ρ y with | .int k a, .int _ b => K (.int k (if a < b then b else a)) | _, _ => False)
      | _ => False)
    | _ => False
  | _ => False

end Go.Ab
end
section
/- The operations that touch no memory: what they give on abstract values is what the model gives. -/
set_option linter.unusedSimpArgs false
set_option linter.unusedVariables false
namespace Go.Ab

section
variable {P : Program} {T : Tab} {Γ : G}

theorem toList_eq (x y : List UInt8) : ((⟨x.toArray⟩ : ByteArray).toList == (⟨y.toArray⟩ : ByteArray).toList) = decide (x = y) := by
  rw [ByteArray.toList_eq, ByteArray.toList_eq]
  by_cases h : x = y <;> simp [h]

theorem TIOK.isAggS {t : Nat} {d : TD} (hd : descOK P t d) (hs : d.scalar = true) (w : World) : (Go.isAgg t).run P w = .ok false w := by
  cases d <;> simp only [TD.scalar] at hs <;> first | (cases hs; done) | (simp only [descOK] at hd; simp [Go.isAgg, run_underlying hd])

/-- '==' of two cells. -/
theorem run_eq1 {n t : Nat} {d : TD} {a b : AV} {u v : Value} {r : Bool} (h : aeq1 d a b = some r) (ha : vrel Γ a u) (hb : vrel Γ b v) (ht : descOK P t d) (w : World) : (Op.equalIn (n + 1) t u v).run P w = .ok r w := by
  unfold aeq1 at h
  split at h
  · split at h
    · rename_i hk
      subst hk
      simp only [vrel] at ha hb
      simp only [Option.some.injEq] at h
      subst ha hb h
      simp only [descOK] at ht
      simp [Op.equalIn, run_underlying ht]
      rfl
    · cases h
  · simp only [vrel] at ha hb
    simp only [Option.some.injEq] at h
    subst ha hb h
    simp only [descOK] at ht
    simp [Op.equalIn, run_underlying ht]
  · simp only [vrel] at ha hb
    simp only [Option.some.injEq] at h
    subst ha hb h
    simp only [descOK] at ht
    simp only [Op.equalIn, Sem.run_bind, run_underlying ht, Result.andThen_ok, Sem.run_pure, beq_toListBytes, toList_eq]
  · cases h

theorem run_part1 {t : Nat} {d : TD} (hd : descOK P t d) (hs : d.scalar = true) {xs : Array Value} {i : Nat} {v : Value} (hv : xs[i]? = some v) (w : World) : (part t xs i).run P w = .ok v w := by
  simp only [part, Sem.run_bind, TIOK.isAggS hd hs, Result.andThen_ok, Bool.false_eq_true, if_false, hv, Sem.run_pure]

theorem run_eqFields {n : Nat} {xs ys : Array Value} : ∀ (fs : List Field) (ks : List TD) (as bs : List AV) (i : Nat) (r : Bool) (w : World),
    fs.length = ks.length → (∀ (j : Nat) (f : Field) (d : TD), fs[j]? = some f → ks[j]? = some d → f.name ≠ "_" ∧ f.offset = i + j ∧ d.scalar = true ∧ descOK P f.type d) →
    aeqs ks as bs = some r → (∀ (j : Nat) (a : AV), as[j]? = some a → ∃ v, xs[i + j]? = some v ∧ vrel Γ a v) → (∀ (j : Nat) (a : AV), bs[j]? = some a → ∃ v, ys[i + j]? = some v ∧ vrel Γ a v) →
    (Op.eqFields (n + 1) xs ys fs).run P w = .ok r w := by
  intro fs
  induction fs with
  | nil =>
    intro ks as bs i r w hl _ h _ _
    have : ks = [] := List.eq_nil_of_length_eq_zero (by simpa using hl.symm)
    subst this
    cases as <;> cases bs <;> simp [aeqs] at h
    subst h
    simp [Op.eqFields]
  | cons f fs ih =>
    intro ks as bs i r w hl hf h ha hb
    cases ks with
    | nil => simp at hl
    | cons d ds =>
      cases as with
      | nil => simp [aeqs] at h
      | cons a as =>
        cases bs with
        | nil => simp [aeqs] at h
        | cons b bs =>
          obtain ⟨h1, h2, h3, h4⟩ := hf 0 f d (by simp) (by simp)
          obtain ⟨u, hu, hau⟩ := ha 0 a (by simp)
          obtain ⟨v, hv, hbv⟩ := hb 0 b (by simp)
          simp only [Nat.add_zero] at h2 hu hv
          have hrest : ∀ s, aeqs ds as bs = some s → (Op.eqFields (n + 1) xs ys fs).run P w = .ok s w := fun s hs =>
            ih ds as bs (i + 1) s w (by simpa using hl) (fun j g e hg he => by
              have := hf (j + 1) g e (by simpa using hg) (by simpa using he)
              rw [show i + 1 + j = i + (j + 1) by omega]; exact this) hs
              (fun j c hc => by have := ha (j + 1) c (by simpa using hc); rw [show i + 1 + j = i + (j + 1) by omega]; exact this)
              (fun j c hc => by have := hb (j + 1) c (by simpa using hc); rw [show i + 1 + j = i + (j + 1) by omega]; exact this)
          have hone : ∀ s, aeq1 d a b = some s → (Op.equalIn (n + 1) f.type u v).run P w = .ok s w := fun s hs => run_eq1 hs hau hbv h4 w
          have key : ∀ s q, aeq1 d a b = some s → aeqs ds as bs = some q → (Op.eqFields (n + 1) xs ys (f :: fs)).run P w = .ok (s && q) w := fun s q hs hq => by
            simp only [Op.eqFields, ne_eq, h1, not_false_eq_true, if_true, h2, Sem.run_bind, run_part1 h4 h3 hu, run_part1 h4 h3 hv, Result.andThen_ok, hone s hs]
            cases s <;> simp [hrest q hq]
          by_cases hd : ds = [] ∧ as = [] ∧ bs = []
          · obtain ⟨rfl, rfl, rfl⟩ := hd
            simp only [aeqs] at h
            have := key r true h (by simp [aeqs])
            simpa using this
          · have : aeqs (d :: ds) (a :: as) (b :: bs) = (match aeq1 d a b, aeqs ds as bs with | some x, some y => some (x && y) | _, _ => none) := by
              cases ds <;> cases as <;> cases bs <;> first | rfl | (simp at hd)
            rw [this] at h
            split at h
            · rename_i x y hx hy
              simp only [Option.some.injEq] at h
              subst h
              exact key x y hx hy
            · cases h

theorem run_eqAgg {n t : Nat} {ks : List TD} (hf : FlatEq P t ks) {as bs : List AV} {us vs : Array Value} {r : Bool} (h : aeqs ks as bs = some r) (ha : lrel Γ as us.toList) (hb : lrel Γ bs vs.toList) (w : World) :
    (Op.equalIn (n + 2) t (.agg us) (.agg vs)).run P w = .ok r w := by
  obtain ⟨fs, h1, h2, h3⟩ := hf.fields
  have hfs : P.fieldsOf t = fs := by simp [Program.fieldsOf, h1]
  rw [run_equalIn_struct w (n + 1) t us vs (by rw [hfs]; exact h1) hf.held, hfs]
  refine run_eqFields (Γ := Γ) fs.toList ks as bs 0 r w (by simpa using h2) (fun j f d hj hd => ?_) h (fun j a hj => ?_) (fun j a hj => ?_)
  · have := h3 j f d (by simpa using hj) hd
    simpa using this
  · obtain ⟨v, hv, hr⟩ := lrel_get ha hj
    exact ⟨v, by simpa using hv, hr⟩
  · obtain ⟨v, hv, hr⟩ := lrel_get hb hj
    exact ⟨v, by simpa using hv, hr⟩

/-- '==' and '!=' as the model has them, the test ahead of them among them. -/
def EqRun (P : Program) (t : Nat) (x y : Operand) (u v : Value) (r : Bool) (w : World) : Prop :=
  (do eqGuard .eql t x y u v; binOp .eql t u v : Sem Value).run P w = .ok (.bool r) w ∧ (do eqGuard .neq t x y u v; binOp .neq t u v : Sem Value).run P w = .ok (.bool !r) w

theorem eqRun_of {t : Nat} {x y : Operand} {u v : Value} {r : Bool} {w : World} (h0 : ∀ d, (Op.equalIn (d + 1) t u v).run P w = .ok r w) (hg1 : eqGuard .eql t x y u v = pure ()) (hg2 : eqGuard .neq t x y u v = pure ())
    (hb1 : binOp .eql t u v = (do pure (.bool (← Op.equal t u v)))) (hb2 : binOp .neq t u v = (do pure (.bool (!(← Op.equal t u v))))) : EqRun P t x y u v r w := by
  have h : (Op.equal t u v).run P w = .ok r w := h0 9999
  constructor
  · simp [hg1, hb1, h]
  · simp [hg2, hb2, h]

theorem run_aeq (hT : TabOK P T) {t : Nat} {a b : AV} {u v : Value} {r : Bool} {x y : Operand} (h : aeq T t a b = some r) (ha : vrel Γ a u) (hb : vrel Γ b v) (w : World) : EqRun P t x y u v r w := by
  unfold aeq at h
  cases hti : T.get t with
  | none => rw [hti] at h; cases h
  | some ti =>
    have ok := hT t ti hti
    have hd := ok.desc
    rw [hti] at h
    cases hdd : ti.d with
    | int k =>
      cases a <;> cases b <;> simp [hdd, aeq1] at h
      obtain ⟨rfl, rfl⟩ := h
      simp only [vrel] at ha hb
      subst ha hb
      constructor
      · simp [eqGuard_at_int, binOp_eql]
        rfl
      · simp [eqGuard_at_int, binOp_neq]
        rename_i n m
        by_cases hnm : n = m <;> simp [hnm]
    | bool =>
      rw [hdd] at hd
      cases a <;> cases b <;> simp [hdd, aeq1] at h
      simp only [vrel] at ha hb
      subst ha hb h
      simp only [descOK] at hd
      refine eqRun_of (fun d => ?_) rfl rfl rfl rfl
      simp [Op.equalIn, run_underlying hd]
    | str =>
      cases a <;> cases b <;> simp [hdd, aeq1] at h
      simp only [vrel] at ha hb
      subst ha hb h
      constructor
      · simp only [eqGuard_at_string, pure_bind, binOp, Op.stringOp, Sem.run_pure, toList_eq]
      · simp only [eqGuard_at_string, pure_bind, binOp, Op.stringOp, Sem.run_pure, toList_eq]
    | struct fs =>
      cases a <;> cases b <;> simp [hdd] at h
      split at h
      · cases h
      · rename_i ks hks _
        have hne : ti.eqk ≠ [] := by assumption
        have hf := ok.eq hne
        simp only [vrel] at ha hb
        obtain ⟨us, rfl, ha⟩ := ha
        obtain ⟨vs, rfl, hb⟩ := hb
        have hrun : (Op.equal t (.agg us) (.agg vs)).run P w = .ok r w := run_eqAgg (n := 9998) hf h ha hb w
        constructor
        · simp [eqGuard, hf.guard, binOp, hrun]
        · simp [eqGuard, hf.guard, binOp, hrun]
    | slice e =>
      rw [hdd] at hd
      simp only [descOK] at hd
      cases b <;> simp [hdd] at h
      rename_i z _ _ _
      cases z <;> simp at h
      simp only [vrel] at hb
      obtain ⟨rfl, rfl⟩ := hb
      cases a <;> simp at h
      · rename_i z _ es _
        subst h
        cases z
        · simp only [vrel] at ha
          obtain ⟨b, o, cap, rfl, _⟩ := ha
          refine eqRun_of (fun d => ?_) rfl rfl rfl rfl
          simp [Op.equalIn, run_underlying hd]
        · simp only [vrel] at ha
          obtain ⟨rfl, rfl⟩ := ha
          refine eqRun_of (fun d => ?_) rfl rfl rfl rfl
          simp [Op.equalIn, run_underlying hd]
      · subst h
        simp only [vrel] at ha
        obtain ⟨b, s, cap, _, rfl, _⟩ := ha
        refine eqRun_of (fun d => ?_) rfl rfl rfl rfl
        simp [Op.equalIn, run_underlying hd]
    | ptr e =>
      rw [hdd] at hd
      simp only [descOK] at hd
      cases b <;> simp [hdd] at h
      simp only [vrel] at hb
      subst hb
      cases a <;> simp at h <;> subst h <;> simp only [vrel] at ha
      · subst ha
        refine eqRun_of (fun d => ?_) rfl rfl rfl rfl
        simp [Op.equalIn, run_underlying hd]
      · obtain ⟨b, o, rfl, _⟩ := ha
        refine eqRun_of (fun d => ?_) rfl rfl rfl rfl
        simp [Op.equalIn, run_underlying hd]
      · obtain ⟨b, o, _, rfl⟩ := ha
        refine eqRun_of (fun d => ?_) rfl rfl rfl rfl
        simp [Op.equalIn, run_underlying hd]
      · obtain ⟨b, _, rfl⟩ := ha
        refine eqRun_of (fun d => ?_) rfl rfl rfl rfl
        simp [Op.equalIn, run_underlying hd]
    | func =>
      rw [hdd] at hd
      simp only [descOK] at hd
      obtain ⟨_, _, _, hd⟩ := hd
      cases b <;> simp [hdd] at h
      simp only [vrel] at hb
      subst hb
      cases a <;> simp at h <;> subst h <;> simp only [vrel] at ha
      · subst ha
        refine eqRun_of (fun d => ?_) rfl rfl rfl rfl
        simp [Op.equalIn, run_underlying hd]
      · obtain ⟨_, rfl, _⟩ := ha
        refine eqRun_of (fun d => ?_) rfl rfl rfl rfl
        simp [Op.equalIn, run_underlying hd]
    | iface =>
      rw [hdd] at hd
      simp only [descOK] at hd
      obtain ⟨_, hd⟩ := hd
      cases a <;> cases b <;> simp [hdd] at h
      subst h
      simp only [vrel] at ha hb
      obtain ⟨_, rfl, _⟩ := ha
      subst hb
      refine eqRun_of (fun d => ?_) rfl rfl rfl rfl
      simp [Op.equalIn, run_underlying hd]
    | arr _ _ => simp [hdd] at h
    | map _ _ => simp [hdd] at h
    | other => simp [hdd] at h

end
end Go.Ab
end
section
/- The operations that touch no memory: what they give on abstract values is what the model gives. -/
set_option linter.unusedSimpArgs false
set_option linter.unusedVariables false
namespace Go.Ab

section
variable {P : Program} {T : Tab} {Γ : G}

theorem eqGuard_other {op : BinOp} {t : Nat} {x y : Operand} {u v : Value} (h : op ≠ .eql) (k : op ≠ .neq) : eqGuard op t x y u v = pure () := by
  cases op <;> first | rfl | exact absurd rfl h | exact absurd rfl k

theorem int_sim {op : BinOp} {k : IntKind} {t : Nat} {n m : Int} {K : AV → Prop} (h : intK op k n m K) :
    ∃ r r', K r ∧ (∀ w, (binOp op t (.int k n) (.int k m)).run P w = .ok r' w) ∧ vrel Γ r r' := by
  cases op <;> simp only [intK] at h <;> first
    | exact h.elim
    | exact ⟨_, _, h, fun w => by rw [binOp_add]; rfl, by simp [vrel]⟩
    | exact ⟨_, _, h, fun w => by rw [binOp_sub]; rfl, by simp [vrel]⟩
    | exact ⟨_, _, h, fun w => by rw [binOp_mul]; rfl, by simp [vrel]⟩
    | exact ⟨_, _, h, fun w => by rw [binOp_lss]; rfl, by simp [vrel]⟩
    | exact ⟨_, _, h, fun w => by rw [binOp_leq]; rfl, by simp [vrel]⟩
    | exact ⟨_, _, h, fun w => by rw [binOp_gtr]; rfl, by simp [vrel]⟩
    | exact ⟨_, _, h, fun w => by rw [binOp_geq]; rfl, by simp [vrel]⟩
    | exact ⟨_, _, h.2, fun w => by rw [binOp_quo, Op.intDiv, if_neg h.1]; rfl, by simp [vrel]⟩
    | exact ⟨_, _, h.2, fun w => by rw [binOp_rem, Op.intDiv, if_neg h.1]; rfl, by simp [vrel]⟩
    | exact ⟨_, .int k (bits .and k n m), h, fun w => by rw [binOp_and]; rfl, by simp [vrel]⟩
    | exact ⟨_, .int k (bits .or k n m), h, fun w => by rw [binOp_or]; rfl, by simp [vrel]⟩
    | exact ⟨_, .int k (bits .xor k n m), h, fun w => by rw [binOp_xor]; rfl, by simp [vrel]⟩
    | exact ⟨_, .int k (bits .andNot k n m), h, fun w => by rw [binOp_andNot]; rfl, by simp [vrel]⟩
theorem sh_sim {op : BinOp} {k k' : IntKind} {t : Nat} {n m : Int} {K : AV → Prop} (h : shK op k n m K) :
    ∃ r r', K r ∧ (∀ w, (binOp op t (.int k n) (.int k' m)).run P w = .ok r' w) ∧ vrel Γ r r' := by
  cases op <;> simp only [shK] at h <;> first
    | exact h.elim
    | exact ⟨_, _, h.2, fun w => by rw [binOp_shl, Op.shift, if_neg (by omega)]; rfl, by simp [vrel]⟩
    | exact ⟨_, _, h.2, fun w => by rw [binOp_shr, Op.shift, if_neg (by omega)]; rfl, by simp [vrel]⟩
theorem str_sim {op : BinOp} {t : Nat} {s s' : List UInt8} {K : AV → Prop} (h : strK op s s' K) :
    ∃ r r', K r ∧ (∀ w, (binOp op t (.string ⟨s.toArray⟩) (.string ⟨s'.toArray⟩)).run P w = .ok r' w) ∧ vrel Γ r r' := by
  have hl : ∀ l : List UInt8, (⟨l.toArray⟩ : ByteArray).toList = l := fun l => by simp [ByteArray.toList_eq]
  have hz : ∀ l : List UInt8, (⟨l.toArray⟩ : ByteArray).size = l.length := fun l => by simp [ByteArray.size]
  have he : (s == s') = decide (s = s') := by by_cases e : s = s' <;> simp [e]
  cases op
  case add =>
    simp only [strK] at h
    refine ⟨_, _, h.2, fun w => ?_, (by simp [vrel] : vrel Γ (.str (s ++ s')) (.string ⟨(s ++ s').toArray⟩))⟩
    have : ¬ (((⟨s.toArray⟩ : ByteArray).size + (⟨s'.toArray⟩ : ByteArray).size : Nat) : Int) > IntKind.i64.max := by
      rw [hz, hz, IntKind.max_i64]; omega
    simp only [binOp, Op.stringOp, if_neg this, Sem.run_pure]
    congr 2
  case lss =>
    simp only [strK] at h
    exact ⟨_, .bool (Op.bytesLess s s'), h, fun w => by simp only [binOp, Op.stringOp, hl, Sem.run_pure], by simp only [vrel]⟩
  case leq =>
    simp only [strK] at h
    exact ⟨_, .bool (Op.bytesLess s s' || decide (s = s')), h, fun w => by simp only [binOp, Op.stringOp, hl, Sem.run_pure, he], by simp only [vrel]⟩
  case gtr =>
    simp only [strK] at h
    exact ⟨_, .bool (!(Op.bytesLess s s' || decide (s = s'))), h, fun w => by simp only [binOp, Op.stringOp, hl, Sem.run_pure, he], by simp only [vrel]⟩
  case geq =>
    simp only [strK] at h
    exact ⟨_, .bool (!Op.bytesLess s s'), h, fun w => by simp only [binOp, Op.stringOp, hl, Sem.run_pure], by simp only [vrel]⟩
  all_goals (simp only [strK] at h)
theorem arith_sim {op : BinOp} {t : Nat} {a b : AV} {u v : Value} {K : AV → Prop} (h : arithK op a b K) (ha : vrel Γ a u) (hb : vrel Γ b v) :
    ∃ r r', K r ∧ (∀ w, (binOp op t u v).run P w = .ok r' w) ∧ vrel Γ r r' := by
  unfold arithK at h
  split at h
  · simp only [vrel] at ha hb
    subst ha hb
    split at h
    · rename_i hk
      subst hk
      exact int_sim h
    · exact h.elim
  · simp only [vrel] at ha hb
    subst ha hb
    exact str_sim h
  · exact h.elim
theorem shift_sim {op : BinOp} {t : Nat} {a b : AV} {u v : Value} {K : AV → Prop} (h : shiftK op a b K) (ha : vrel Γ a u) (hb : vrel Γ b v) :
    ∃ r r', K r ∧ (∀ w, (binOp op t u v).run P w = .ok r' w) ∧ vrel Γ r r' := by
  unfold shiftK at h
  split at h
  · simp only [vrel] at ha hb
    subst ha hb
    exact sh_sim h
  · exact h.elim

theorem bin_sim (hT : TabOK P T) {op : BinOp} {t : Nat} {x y : Operand} {a b : AV} {u v : Value} {K : AV → Prop} (h : binK T op t a b K) (ha : vrel Γ a u) (hb : vrel Γ b v) :
    ∃ r r', K r ∧ (∀ w, (do eqGuard op t x y u v; binOp op t u v : Sem Value).run P w = .ok r' w) ∧ vrel Γ r r' := by
  unfold binK at h
  split at h
  · split at h
    · rename_i r hr
      exact ⟨_, _, h, fun w => (run_aeq hT hr ha hb w).1, by simp [vrel]⟩
    · exact h.elim
  · split at h
    · rename_i r hr
      exact ⟨_, _, h, fun w => (run_aeq hT hr ha hb w).2, by simp [vrel]⟩
    · exact h.elim
  · obtain ⟨r, r', h1, h2, h3⟩ := shift_sim (P := P) (t := t) h ha hb
    exact ⟨r, r', h1, fun w => by rw [eqGuard_other (by simp) (by simp)]; exact h2 w, h3⟩
  · obtain ⟨r, r', h1, h2, h3⟩ := shift_sim (P := P) (t := t) h ha hb
    exact ⟨r, r', h1, fun w => by rw [eqGuard_other (by simp) (by simp)]; exact h2 w, h3⟩
  · rename_i hne1 hne2 _ _
    obtain ⟨r, r', h1, h2, h3⟩ := arith_sim (P := P) (t := t) h ha hb
    exact ⟨r, r', h1, fun w => by rw [eqGuard_other (fun e => hne1 e) (fun e => hne2 e)]; exact h2 w, h3⟩

/-! ### struct and array literals -/
theorem foldl_cells (v : List Value) : ∀ (off : Nat) (cs : Array Value), off + v.length ≤ cs.size →
    (v.zipIdx.foldl (fun cs (c, j) => cs.setIfInBounds (off + j) c) cs).toList = cs.toList.take off ++ v ++ cs.toList.drop (off + v.length) := by
  suffices H : ∀ (v : List Value) (k off : Nat) (cs : Array Value), off + k + v.length ≤ cs.size →
      ((v.zipIdx k).foldl (fun cs (c, j) => cs.setIfInBounds (off + j) c) cs).toList = cs.toList.take (off + k) ++ v ++ cs.toList.drop (off + k + v.length) by
    intro off cs h
    simpa using H v 0 off cs (by simpa using h)
  intro v
  induction v with
  | nil => intro k off cs _; simp
  | cons x v ih =>
    intro k off cs h
    simp only [List.zipIdx_cons, List.foldl_cons]
    rw [ih (k + 1) off _ (by simp at h ⊢; omega)]
    simp only [Array.toList_setIfInBounds]
    have e := list_seg_step cs.toList (off + k) x v (by simp at h ⊢; omega)
    simpa [Nat.add_assoc, Nat.add_comm, Nat.add_left_comm] using e

theorem fill_sim {place : Nat → Option (Nat × Nat)} : ∀ (parts : List (Nat × AV)) (parts' : List (Nat × Value)) (cs : List AV) (cs' : Array Value) (r : List AV),
    fillA place cs parts = some r → lrel Γ cs cs'.toList → parts.length = parts'.length → (∀ (j : Nat) (p : Nat × AV), parts[j]? = some p → ∃ v, parts'[j]? = some (p.1, v) ∧ vrel Γ p.2 v) →
    (∀ p ∈ parts, p.2.cells.all AV.one = true) →
    ∃ r', Instr.fill place cs' parts' = some r' ∧ lrel Γ r r'.toList := by
  intro parts
  induction parts with
  | nil =>
    intro parts' cs cs' r h hc hl _ _
    have : parts' = [] := List.eq_nil_of_length_eq_zero (by simpa using hl.symm)
    subst this
    simp only [fillA, Option.some.injEq] at h
    subst h
    exact ⟨cs', rfl, hc⟩
  | cons p parts ih =>
    intro parts' cs cs' r h hc hl hp h1
    obtain ⟨i, a⟩ := p
    cases parts' with
    | nil => simp at hl
    | cons q parts' =>
      obtain ⟨v, hv, ha⟩ := hp 0 (i, a) (by simp)
      simp only [List.getElem?_cons_zero, Option.some.injEq] at hv
      subst hv
      have hcl := vrel_cells ha (h1 (i, a) (by simp))
      simp only [fillA] at h
      cases hpl : place i with
      | none => rw [hpl] at h; cases h
      | some os =>
        obtain ⟨off, size⟩ := os
        rw [hpl] at h
        simp only at h
        split at h
        · rename_i hcond
          have hsz : v.cells.size = size := by have := lrel_length hcl; simp at this; omega
          have hlen := lrel_length hc
          simp only [Array.length_toList] at hlen
          refine (?_ : ∃ r', Instr.fill place cs' ((i, v) :: parts') = some r' ∧ _)
          simp only [Instr.fill, hpl]
          rw [if_neg (by simp [hsz]; omega)]
          refine ih parts' _ _ r h ?_ (by simpa using hl) (fun j p hj => by simpa using hp (j + 1) p (by simpa using hj)) (fun p hm => h1 p (by simp [hm]))
          have e := foldl_cells v.cells.toList off cs' (by simp; omega)
          rw [show (v.cells.zipIdx.foldl (fun cs (c, j) => cs.setIfInBounds (off + j) c) cs') = (v.cells.toList.zipIdx.foldl (fun cs (c, j) => cs.setIfInBounds (off + j) c) cs') by rw [← Array.foldl_toList]; simp]
          rw [e]
          have hl2 := lrel_length hcl
          simp only [Array.length_toList] at hl2 ⊢
          rw [hsz]
          exact lrel_append (lrel_append (lrel_take off hc) hcl) (lrel_drop (off + size) hc)
        · cases h

theorem places_sim (hT : TabOK P T) : ∀ (fields : List Field), (places T (fields.map fun f => (f.offset, f.type))).all Option.isSome = true →
    ∃ pl, fields.mapM (fun f => (P.info? f.type).map fun i => (f.offset, i.size)) = some pl ∧ ∀ i : Nat, pl[i]? = jo (places T (fields.map fun f => (f.offset, f.type)))[i]? := by
  intro fields
  induction fields with
  | nil => intro _; exact ⟨[], by simp, fun i => by simp [places, jo]⟩
  | cons f fs ih =>
    intro h
    simp only [List.map_cons, places, List.all_cons, Bool.and_eq_true] at h
    obtain ⟨pl, h1, h2⟩ := ih h.2
    cases hg : T.get f.type with
    | none => rw [hg] at h; simp at h
    | some fi =>
      obtain ⟨i, z, hi1, hi2, _⟩ := (hT _ _ hg).info
      refine ⟨(f.offset, fi.size) :: pl, by simp [hi1, hi2, h1], fun j => ?_⟩
      cases j with
      | zero => simp [places, hg, jo]
      | succ j => simpa [places] using h2 j

theorem build_sim (hT : TabOK P T) {t : Nat} {parts : List (Nat × AV)} {parts' : Array (Nat × Value)} {cs : List AV} (h : abuild T t parts = some cs)
    (hl : parts.length = parts'.size) (hp : ∀ (j : Nat) (p : Nat × AV), parts[j]? = some p → ∃ v, parts'[j]? = some (p.1, v) ∧ vrel Γ p.2 v) :
    ∃ r', (∀ w, (Instr.build t parts').run P w = .ok (.agg r') w) ∧ lrel Γ cs r'.toList := by
  unfold abuild at h
  cases hg : T.get t with
  | none => rw [hg] at h; cases h
  | some ti =>
    rw [hg] at h
    simp only at h
    split at h
    · rename_i hc
      obtain ⟨hz1, hz3⟩ := hc
      have ok := hT t ti hg
      have hd := ok.desc
      obtain ⟨i, z, hi1, hi2, _, hi3, hi4, _, _, hi5⟩ := ok.info
      have hzl : lrel Γ ti.zero z.cells.toList := by
        by_cases e : ti.zero = []
        · have e2 : z.cells.toList = [] := by
            rw [e] at hz1
            rw [← hz1] at hi5
            simpa using hi5
          rw [e, e2]
          simp [lrel]
        · exact hi4 e Γ
      have hone : ∀ p ∈ parts, p.2.cells.all AV.one = true := fun p hm => (List.all_eq_true.1 hz3) p hm
      have go : ∀ place : Nat → Option (Nat × Nat), fillA place ti.zero parts = some cs → ∃ r', Instr.fill place z.cells parts'.toList = some r' ∧ lrel Γ cs r'.toList := fun place hf =>
        fill_sim parts parts'.toList ti.zero z.cells cs hf hzl (by simpa using hl) (fun j p hj => by simpa using hp j p hj) hone
      split at h
      · rename_i fs hdd
        rw [hdd] at hd
        simp only [descOK] at hd
        obtain ⟨fields, hu, hfs⟩ := hd
        split at h
        · rename_i hall
          rw [← hfs] at hall
          obtain ⟨pl, hpl, hpl2⟩ := places_sim hT fields.toList hall
          obtain ⟨r', hr1, hr2⟩ := go _ h
          refine ⟨r', fun w => run_build w t parts' r' ?_, hr2⟩
          simp only [Program.built, hi1, hu, hi3, hpl]
          rw [← hr1]
          congr 1
          funext j
          simp only [List.getElem?_toArray, hpl2 j, hfs]
        · cases h
      · rename_i n e hdd
        rw [hdd] at hd
        simp only [descOK] at hd
        cases hge : T.get e with
        | none => rw [hge] at h; cases h
        | some ei =>
          rw [hge] at h
          obtain ⟨ie, _, he1, he2, _⟩ := (hT e ei hge).info
          obtain ⟨r', hr1, hr2⟩ := go _ h
          refine ⟨r', fun w => run_build w t parts' r' ?_, hr2⟩
          simp only [Program.built, hi1, hu_arr hd, hi3, he1, he2]
          exact hr1
      · cases h
    · cases h
where
  hu_arr {P : Program} {t n e : Nat} (h : P.underlying t = some (.array n e)) : P.underlying t = some (.array n e) := h

/-! ### parts -/
theorem part_sim (hT : TabOK P T) {ft off : Nat} {cs : List AV} {vs : Array Value} {K : AV → Prop} (h : apart T ft cs off K) (hc : lrel Γ cs vs.toList) :
    ∃ r r', K r ∧ (∀ w, (part ft vs off).run P w = .ok r' w) ∧ vrel Γ r r' := by
  unfold apart at h
  cases hg : T.get ft with
  | none => rw [hg] at h; exact h.elim
  | some fi =>
    rw [hg] at h
    simp only at h
    obtain ⟨hk, h⟩ := h
    have ok := hT ft fi hg
    split at h
    · rename_i hagg
      refine ⟨_, .agg (vs.extract off (off + fi.size)), h, fun w => ?_, ?_⟩
      · simp only [part, Sem.run_bind, ok.isAgg hk, hagg, Result.andThen_ok, if_true, ok.sizeOf, Sem.run_pure]
      · simp only [vrel]
        refine ⟨_, rfl, ?_⟩
        have := lrel_take fi.size (lrel_drop off hc)
        rw [Array.toList_extract, List.extract_eq_take_drop]
        simpa using this
    · rename_i hagg
      split at h
      · rename_i c hcs
        obtain ⟨v, hv, hr⟩ := lrel_get hc hcs
        have hv' : vs[off]? = some v := by simpa using hv
        refine ⟨c, v, h, fun w => ?_, hr⟩
        have hf : fi.d.isAgg = false := by simpa using hagg
        simp only [part, Sem.run_bind, ok.isAgg hk, hf, Result.andThen_ok, Bool.false_eq_true, if_false, hv', Sem.run_pure]
      · exact h.elim

end
end Go.Ab
end
section
/- The operations that touch no memory: what they give on abstract values is what the model gives. -/
set_option linter.unusedSimpArgs false
set_option linter.unusedVariables false
namespace Go.Ab

section
variable {P : Program} {T : Tab} {Γ : G}

def orel (Γ : G) : Option AV → Option Value → Prop
  | none, v => v = none
  | some a, v => ∃ u, v = some u ∧ vrel Γ a u

theorem orel_opt {ρ : Operand → AV} {ρ' : Operand → Value} (hρ : ∀ x, vrel Γ (ρ x) (ρ' x)) (x : Option Operand) : orel Γ (optV ρ x) (x.map ρ') := by
  cases x with
  | none => rfl
  | some x => exact ⟨_, rfl, hρ x⟩

theorem bounds_sim {b : Bool} {len cap : Nat} {lo hi : Option AV} {lo' hi' : Option Value} {K : Nat → Nat → Prop} (h : boundsK len lo hi K) (hc : len ≤ cap) (h1 : orel Γ lo lo') (h2 : orel Γ hi hi') :
    ∃ l h, K l h ∧ l ≤ h ∧ h ≤ len ∧ ∀ w, (Instr.sliceBounds b len cap lo' hi' none).run P w = .ok (l, h, cap) w := by
  unfold boundsK at h
  split at h
  · simp only [orel] at h1 h2
    subst h1 h2
    exact ⟨0, len, h, by omega, by omega, fun w => by simp [Instr.sliceBounds]⟩
  · rename_i l
    obtain ⟨_, rfl, h1⟩ := h1
    simp only [orel] at h2
    simp only [vrel] at h1
    subst h1 h2
    obtain ⟨a, b', h⟩ := h
    refine ⟨l.toNat, len, h, by omega, by omega, fun w => ?_⟩
    simp [Instr.sliceBounds, run_sliceBound w _ l len _ a b']
  · rename_i hh
    obtain ⟨_, rfl, h2⟩ := h2
    simp only [orel] at h1
    simp only [vrel] at h2
    subst h1 h2
    obtain ⟨a, b', h⟩ := h
    refine ⟨0, hh.toNat, h, by omega, by omega, fun w => ?_⟩
    simp [Instr.sliceBounds, run_sliceBound w _ hh cap _ a (by omega)]
  · rename_i l _ hh
    obtain ⟨_, rfl, h1⟩ := h1
    obtain ⟨_, rfl, h2⟩ := h2
    simp only [vrel] at h1 h2
    subst h1 h2
    obtain ⟨a, b', c, h⟩ := h
    refine ⟨l.toNat, hh.toNat, h, by omega, by omega, fun w => ?_⟩
    simp [Instr.sliceBounds, run_sliceBound w _ hh cap _ (by omega) (by omega), run_sliceBound w _ l hh.toNat _ a (by omega)]
  · exact h.elim

/-- With a third bound, equal to the second one. -/
theorem bounds3qsim {len cap : Nat} {lo hi : Option AV} {lo' hi' : Option Value} {k : IntKind} {m : Int} {K : Nat → Nat → Prop} (h : boundsK len lo hi fun l h => m = h ∧ K l h) (hs : hi.isSome = true) (hc : len ≤ cap) (h1 : orel Γ lo lo') (h2 : orel Γ hi hi') :
    ∃ l h, K l h ∧ l ≤ h ∧ h ≤ len ∧ ∀ w, (Instr.sliceBounds true len cap lo' hi' (some (.int k m))).run P w = .ok (l, h, h) w := by
  unfold boundsK at h
  split at h
  · simp at hs
  · simp at hs
  · rename_i hh
    obtain ⟨_, rfl, h2⟩ := h2
    simp only [orel] at h1
    simp only [vrel] at h2
    subst h1 h2
    obtain ⟨a, b', e, h⟩ := h
    have em : m = hh := by omega
    subst em
    refine ⟨0, m.toNat, h, by omega, by omega, fun w => ?_⟩
    simp [Instr.sliceBounds, run_sliceBound w _ m cap _ a (by omega), run_sliceBound w _ m m.toNat _ a (by omega)]
  · rename_i l _ hh
    obtain ⟨_, rfl, h1⟩ := h1
    obtain ⟨_, rfl, h2⟩ := h2
    simp only [vrel] at h1 h2
    subst h1 h2
    obtain ⟨a, b', c, e, h⟩ := h
    have em : m = hh := by omega
    subst em
    refine ⟨l.toNat, m.toNat, h, by omega, by omega, fun w => ?_⟩
    simp [Instr.sliceBounds, run_sliceBound w _ m cap _ (by omega) (by omega), run_sliceBound w _ m m.toNat _ (by omega) (by omega), run_sliceBound w _ l m.toNat _ a (by omega)]
  · exact h.elim

/-- With a third bound behind the second one. -/
theorem bounds3m_sim {len cap : Nat} {lo hi : Option AV} {lo' hi' : Option Value} {k : IntKind} {m : Int} {K : Nat → Nat → Prop} (h : boundsK len lo hi K) (hs : hi.isSome = true) (hc : len ≤ cap)
    (hm : ∀ l h, K l h → (h : Int) ≤ m ∧ m ≤ len) (h1 : orel Γ lo lo') (h2 : orel Γ hi hi') :
    ∃ l h, K l h ∧ l ≤ h ∧ h ≤ len ∧ ∀ w, (Instr.sliceBounds true len cap lo' hi' (some (.int k m))).run P w = .ok (l, h, m.toNat) w := by
  unfold boundsK at h
  split at h
  · simp at hs
  · simp at hs
  · rename_i hh
    obtain ⟨_, rfl, h2⟩ := h2
    simp only [orel] at h1
    simp only [vrel] at h2
    subst h1 h2
    obtain ⟨a, b', h⟩ := h
    have hmm := hm _ _ h
    refine ⟨0, hh.toNat, h, by omega, by omega, fun w => ?_⟩
    simp [Instr.sliceBounds, run_sliceBound w _ m cap _ (by omega) (by omega), run_sliceBound w _ hh m.toNat _ a (by omega)]
  · rename_i l _ hh
    obtain ⟨_, rfl, h1⟩ := h1
    obtain ⟨_, rfl, h2⟩ := h2
    simp only [vrel] at h1 h2
    subst h1 h2
    obtain ⟨a, b', c, h⟩ := h
    have hmm := hm _ _ h
    refine ⟨l.toNat, hh.toNat, h, by omega, by omega, fun w => ?_⟩
    simp [Instr.sliceBounds, run_sliceBound w _ m cap _ (by omega) (by omega), run_sliceBound w _ hh m.toNat _ (by omega) (by omega), run_sliceBound w _ l hh.toNat _ a (by omega)]
  · exact h.elim

theorem slice_sim (hT : TabOK P T) {t : Nat} {x : AV} {x' : Value} {lo hi mx : Option AV} {lo' hi' mx' : Option Value} {K : AV → Prop} (h : sliceK T t x lo hi mx K) (hx : vrel Γ x x') (h1 : orel Γ lo lo') (h2 : orel Γ hi hi') (h3 : orel Γ mx mx') :
    ∃ r r', K r ∧ (∀ w, (Instr.sliceAt t x' lo' hi' mx').run P w = .ok r' w) ∧ vrel Γ r r' := by
  unfold sliceK at h
  cases hg : T.get t with
  | none => rw [hg] at h; exact h.elim
  | some ti =>
    rw [hg] at h
    simp only at h
    have hd := (hT t ti hg).desc
    split at h
    · -- a string
      rename_i s hdd
      rw [hdd] at hd
      simp only [descOK] at hd
      obtain ⟨hm, h⟩ := h
      cases mx with
      | some _ => simp at hm
      | none =>
        simp only [orel] at h3
        subst h3
        obtain ⟨l, hh, hK, hl1, hl2, hrun⟩ := bounds_sim (P := P) (b := false) h (Nat.le_refl _) h1 h2
        simp only [vrel] at hx
        subst hx
        refine ⟨_, .string ((⟨s.toArray⟩ : ByteArray).extract l hh), hK, fun w => ?_, ?_⟩
        · have hz : (⟨s.toArray⟩ : ByteArray).size = s.length := by simp [ByteArray.size]
          simp only [Instr.sliceAt, Sem.run_bind, run_underlying hd, Result.andThen_ok, Instr.slice, hz, hrun w]
          simp [hrun w]
        · simp only [vrel]
          congr 1
          apply ByteArray.ext
          apply Array.ext'
          simp [List.extract_eq_take_drop]
    · -- a slice that is told by its elements
      rename_i e z sz es tip hdd
      rw [hdd] at hd
      simp only [descOK] at hd
      cases hge : T.get e with
      | none => rw [hge] at h; exact h.elim
      | some ei =>
        rw [hge] at h
        simp only at h
        have hsz := fun w => (hT e ei hge).sizeOf w
        split at h
        · simp only [orel] at h3
          subst h3
          cases z with
          | true =>
            simp only [vrel] at hx
            obtain ⟨rfl, rfl⟩ := hx
            obtain ⟨l, hh, hK, hl1, hl2, hrun⟩ := bounds_sim (P := P) (b := true) h (Nat.le_refl _) h1 h2
            simp only [List.length_nil] at hl2 hrun
            have e1 : l = 0 := by omega
            have e2 : hh = 0 := by omega
            subst e1 e2
            refine ⟨_, .slice none 0 0, hK.2, fun w => ?_, by simp [vrel]⟩
            simp only [Instr.sliceAt, Sem.run_bind, run_underlying hd, Result.andThen_ok, Instr.slice, hrun w, hsz]
            simp
          | false =>
            simp only [vrel] at hx
            obtain ⟨b, o, cap, rfl, hcap, _, hel⟩ := hx
            obtain ⟨l, hh, hK, hl1, hl2, hrun⟩ := bounds_sim (P := P) (b := true) h hcap h1 h2
            have hs2 : ei.size = sz := hK.1 rfl
            refine ⟨_, .slice (some (if cap = l then ⟨b, o, none⟩ else (⟨b, o, none⟩ : Addr).add (l * ei.size))) (hh - l) (cap - l), hK.2, fun w => ?_, ?_⟩
            · simp only [Instr.sliceAt, Sem.run_bind, run_underlying hd, Result.andThen_ok, Instr.slice, hrun w, hsz]
              by_cases hcl : cap = l <;> simp [hcl]
            · simp only [Bool.false_eq_true, if_false, vrel]
              have hlen : ((es.drop l).take (hh - l)).length = hh - l := by simp; omega
              by_cases hcl : cap = l
              · rw [if_pos hcl]
                have : hh - l = 0 := by omega
                refine ⟨b, o, cap - l, by rw [hlen], by omega, by simp, ?_⟩
                rw [this]
                simp [elemsAt]
              · rw [if_neg hcl]
                refine ⟨b, o + l * ei.size, cap - l, by rw [hlen, Addr.add_lit], by omega, by simp, ?_⟩
                rw [hs2]
                exact elemsAt_take _ (elemsAt_drop _ hel)
        · rename_i k m
          obtain ⟨hs2, hsome, h⟩ := h
          obtain ⟨_, rfl, h3⟩ := h3
          simp only [vrel] at h3
          subst h3
          cases z with
          | true =>
            simp only [vrel] at hx
            obtain ⟨rfl, rfl⟩ := hx
            obtain ⟨l, hh, hK, hl1, hl2, hrun⟩ := bounds3qsim (P := P) (k := k) h hsome (Nat.le_refl _) h1 h2
            simp only [List.length_nil] at hl2 hrun
            have e1 : l = 0 := by omega
            have e2 : hh = 0 := by omega
            subst e1 e2
            refine ⟨_, .slice none 0 0, hK, fun w => ?_, by simp [vrel]⟩
            simp only [Instr.sliceAt, Sem.run_bind, run_underlying hd, Result.andThen_ok, Instr.slice, hrun w, hsz]
            simp
          | false =>
            simp only [vrel] at hx
            have hs2 := hs2 rfl
            obtain ⟨b, o, cap, rfl, hcap, _, hel⟩ := hx
            obtain ⟨l, hh, hK, hl1, hl2, hrun⟩ := bounds3qsim (P := P) (k := k) h hsome hcap h1 h2
            have hlen : ((es.drop l).take (hh - l)).length = hh - l := by simp; omega
            refine ⟨_, .slice (some (if hh = l then ⟨b, o, none⟩ else (⟨b, o, none⟩ : Addr).add (l * ei.size))) (hh - l) (hh - l), hK, fun w => ?_, ?_⟩
            · simp only [Instr.sliceAt, Sem.run_bind, run_underlying hd, Result.andThen_ok, Instr.slice, hrun w, hsz]
              by_cases hcl : hh = l <;> simp [hcl]
            · simp only [vrel]
              by_cases hcl : hh = l
              · rw [if_pos hcl]
                have : hh - l = 0 := by omega
                refine ⟨b, o, hh - l, by rw [hlen], by omega, by simp [hlen], ?_⟩
                rw [this]
                simp [elemsAt]
              · rw [if_neg hcl]
                refine ⟨b, o + l * ei.size, hh - l, by rw [hlen, Addr.add_lit], by omega, by simp [hlen], ?_⟩
                rw [hs2]
                exact elemsAt_take _ (elemsAt_drop _ hel)
        · exact h.elim
    · -- a slice of the call's own
      rename_i e id sz off len hdd
      rw [hdd] at hd
      simp only [descOK] at hd
      cases hge : T.get e with
      | none => rw [hge] at h; exact h.elim
      | some ei =>
        rw [hge] at h
        simp only at h
        have hsz := fun w => (hT e ei hge).sizeOf w
        split at h
        · simp only [orel] at h3
          subst h3
          simp only [vrel] at hx
          obtain ⟨b, s, cap, hI, rfl, hcap, ht2⟩ := hx
          obtain ⟨hs2, h⟩ := h
          obtain ⟨l, hh, hK, hl1, hl2, hrun⟩ := bounds_sim (P := P) (b := true) h hcap h1 h2
          have hr : ∀ w, (Instr.sliceAt t (.slice (some ⟨b, off, none⟩) len cap) lo' hi' none).run P w = .ok (.slice (some (if cap = l then ⟨b, off, none⟩ else (⟨b, off, none⟩ : Addr).add (l * ei.size))) (hh - l) (cap - l)) w := fun w => by
            simp only [Instr.sliceAt, Sem.run_bind, run_underlying hd, Result.andThen_ok, Instr.slice, hrun w, hsz]
            by_cases hcl : cap = l <;> simp [hcl]
          rcases hK with ⟨hor, hK⟩ | ⟨rfl, hK⟩
          · refine ⟨_, _, hK, hr, ?_⟩
            simp only [vrel]
            have e1 : (if cap = l then (⟨b, off, none⟩ : Addr) else (⟨b, off, none⟩ : Addr).add (l * ei.size)) = ⟨b, off + l * sz, none⟩ := by
              rw [hs2, Addr.add_lit]
              split
              · have : l = 0 := by omega
                subst this; simp
              · rfl
            rw [e1]
            refine ⟨b, s, cap - l, hI, rfl, by omega, ?_⟩
            have hle : l ≤ cap := by omega
            rw [Nat.sub_mul]
            have : l * sz ≤ cap * sz := Nat.mul_le_mul_right _ hle
            omega
          · refine ⟨_, _, hK, hr, ?_⟩
            simp only [vrel]
            by_cases hcl : cap = l
            · rw [if_pos hcl]
              exact ⟨b, off, cap - l, by simp, by simp, by simp, by simp [elemsAt]⟩
            · rw [if_neg hcl, Addr.add_lit]
              exact ⟨b, off + l * ei.size, cap - l, by simp, by simp, by simp, by simp [elemsAt]⟩
        · rename_i k m
          obtain ⟨hsome, h⟩ := h
          obtain ⟨_, rfl, h3⟩ := h3
          simp only [vrel] at h3 hx
          subst h3
          obtain ⟨b, s, cap, hI, rfl, hcap, ht2⟩ := hx
          obtain ⟨l, hh, ⟨hm1, hm2, hK⟩, hl1, hl2, hrun⟩ := bounds3m_sim (P := P) (k := k) h hsome hcap (fun l h x => ⟨x.1, x.2.1⟩) h1 h2
          refine ⟨_, .slice (some (if m.toNat = l then ⟨b, off, none⟩ else (⟨b, off, none⟩ : Addr).add (l * ei.size))) (hh - l) (m.toNat - l), hK, fun w => ?_, by simp [vrel]⟩
          simp only [Instr.sliceAt, Sem.run_bind, run_underlying hd, Result.andThen_ok, Instr.slice, hrun w, hsz]
          by_cases hcl : m.toNat = l <;> simp [hcl]
        · exact h.elim
    · exact h.elim

/-! ### all of them -/
theorem value_of {s : Sem Value} {r : Value} (h : ∀ w, s.run P w = .ok r w) (w : World) : (do pure (.value (← s)) : Sem Next).run P w = .ok (.value r) w := by
  simp [h w]

theorem pure_sim (hT : TabOK P T) {ρ : Operand → AV} {ρ' : Operand → Value} (hρ : ∀ x, vrel Γ (ρ x) (ρ' x)) {o : Oper} {K : AV → Prop} (h : pureK T ρ o.op K) :
    ∃ r r', K r ∧ (∀ w, (execOp ρ' o).run P w = .ok (.value r') w) ∧ vrel Γ r r' := by
  obtain ⟨dst, op, ty, pos, after, guard⟩ := o
  simp only at h
  cases op <;> simp only [pureK] at h <;> (try exact h.elim)
  case move x => exact ⟨_, _, h, fun w => rfl, vrel_un (hρ x)⟩
  case assign x => exact ⟨_, _, h, fun w => rfl, vrel_un (hρ x)⟩
  case pick c a b =>
    split at h
    · rename_i t ht
      have hc := hρ c
      rw [ht] at hc
      simp only [vrel] at hc
      refine ⟨_, if t then ρ' a else ρ' b, h, fun w => ?_, ?_⟩
      · cases t <;> simp [execOp, hc, asBool]
      · cases t
        · exact vrel_un (hρ b)
        · exact vrel_un (hρ a)
    · exact h.elim
  case build t parts =>
    split at h
    · rename_i cs hcs
      obtain ⟨r', h1, h2⟩ := build_sim (Γ := Γ) hT (parts' := parts.map fun (i, x) => (i, ρ' x)) hcs (by simp) (fun j p hj => by
        simp only [List.getElem?_map, Option.map_eq_some_iff] at hj
        obtain ⟨q, hq, rfl⟩ := hj
        have hq' : parts[j]? = some q := by simpa using hq
        exact ⟨ρ' q.2, by simp [hq'], vrel_un (hρ q.2)⟩)
      exact ⟨_, .agg r', h, fun w => value_of h1 w, by simp only [vrel]; exact ⟨r', rfl, h2⟩⟩
    · exact h.elim
  case nilCheck x =>
    have hx := hρ x
    split at h <;> first
      | exact h.elim
      | (rename_i heq
         rw [heq] at hx
         have hx' := hx
         simp only [vrel] at hx'
         first
           | (obtain ⟨b, o, e, _⟩ := hx'; exact ⟨_, ρ' x, h, fun w => by simp only [execOp, e]; rfl, hx⟩)
           | (obtain ⟨b, o, _, e⟩ := hx'; exact ⟨_, ρ' x, h, fun w => by simp only [execOp, e]; rfl, hx⟩)
           | (obtain ⟨b, _, e⟩ := hx'; exact ⟨_, ρ' x, h, fun w => by simp only [execOp, e]; rfl, hx⟩)
           | (obtain ⟨vs, e, _⟩ := hx'; exact ⟨_, ρ' x, h, fun w => by simp only [execOp, e]; rfl, hx⟩))
  case binOp op t x y ty2 =>
    obtain ⟨r, r', h1, h2, h3⟩ := bin_sim (P := P) hT (x := x) (y := y) h (hρ x) (hρ y)
    exact ⟨r, r', h1, fun w => value_of h2 w, h3⟩
  case unOp op t x =>
    have hx := hρ x
    split at h
    · rename_i heq
      rw [heq] at hx
      simp only [vrel] at hx
      exact ⟨_, .bool _, h, fun w => by simp only [execOp, hx, Op.unary]; rfl, by simp only [vrel]⟩
    · rename_i heq
      rw [heq] at hx
      simp only [vrel] at hx
      exact ⟨_, .int _ _, h, fun w => by simp only [execOp, hx, Op.unary, Op.intArith]; rfl, by simp only [vrel]⟩
    · exact h.elim
  case convert src dst x =>
    have hx := hρ x
    split at h
    · rename_i si di hs hd
      obtain ⟨hk, h⟩ := h
      have hsd := (hT _ _ hs).desc
      have hdd := (hT _ _ hd).desc
      have hsu : ∃ d, P.underlying src = some d ∧ (si.d = .str → d = .string) := by
        revert hk hsd
        cases si.d <;> simp only [descOK, TD.known] <;> intro hk hsd <;> first
          | (cases hk; done)
          | exact ⟨_, hsd, by simp⟩
          | (obtain ⟨_, hsd, _⟩ := hsd; exact ⟨_, hsd, by simp⟩)
          | (obtain ⟨_, _, _, hsd⟩ := hsd; exact ⟨_, hsd, by simp⟩)
          | (obtain ⟨_, hsd⟩ := hsd; exact ⟨_, hsd, by simp⟩)
      obtain ⟨d, hd1, _⟩ := hsu
      split at h
      · rename_i hdi heq
        rw [heq] at hx
        rw [hdi] at hdd
        simp only [vrel, descOK] at hx hdd
        refine ⟨_, .int _ _, h, fun w => value_of (fun w => ?_) w, by simp only [vrel]; rfl⟩
        simp only [hx, convert, Sem.run_bind, run_underlying hd1, run_underlying hdd, Result.andThen_ok, Conv.intToInt, Sem.run_pure]
      · rename_i hdi heq
        rw [heq] at hx
        rw [hdi] at hdd
        simp only [vrel, descOK] at hx hdd
        refine ⟨_, .string _, h, fun w => value_of (fun w => ?_) w, by simp only [vrel]; rfl⟩
        simp only [hx, convert, Sem.run_bind, run_underlying hd1, run_underlying hdd, Result.andThen_ok, Sem.run_pure]
      · exact h.elim
    · exact h.elim
  case makeInterface t x =>
    split at h
    · rename_i ti hti
      have hd := (hT _ _ hti).desc
      have key : ∀ d, P.underlying t = some d → (∀ ms, d ≠ .interface ms) → ∀ w, (execOp ρ' ⟨dst, .makeInterface t x, ty, pos, after, guard⟩).run P w = .ok (.value (.iface t (ρ' x))) w := fun d hd hne w => by
        refine value_of (fun w => ?_) w
        simp only [Instr.makeInterface, Sem.run_bind, run_underlying hd, Result.andThen_ok]
        cases d <;> first | rfl | exact absurd rfl (hne _)
      have fin : vrel Γ (.iface t (ρ x).un) (.iface t (ρ' x)) := by
        simp only [vrel]
        exact ⟨_, rfl, vrel_un (hρ x)⟩
      revert h hd
      cases ti.d <;> simp only [descOK] <;> intro h hd <;> first
        | exact h.elim
        | exact ⟨_, _, h, key _ hd (by simp), fin⟩
        | (obtain ⟨_, hd, _⟩ := hd; exact ⟨_, _, h, key _ hd (by simp), fin⟩)
        | (obtain ⟨_, _, _, hd⟩ := hd; exact ⟨_, _, h, key _ hd (by simp), fin⟩)
    · exact h.elim
  case makeFunc fn first captured =>
    split at h
    · obtain ⟨hf, h⟩ := h
      have : first = #[] := Array.eq_empty_of_size_eq_zero hf
      subst this
      refine ⟨_, .func (.func _) (#[].map ρ') (captured.map ρ'), h, fun w => value_of (fun w => rfl) w, ?_⟩
      simp only [vrel]
      refine ⟨captured.map ρ', by simp, ?_⟩
      simp only [Array.toList_map]
      exact lrel_map _ _ _ fun x _ => vrel_un (hρ x)
    · exact h.elim
  case slice t x lo hi mx =>
    obtain ⟨r, r', h1, h2, h3⟩ := slice_sim (P := P) hT h (hρ x) (orel_opt hρ lo) (orel_opt hρ hi) (orel_opt hρ mx)
    exact ⟨r, r', h1, fun w => value_of h2 w, h3⟩
  case fieldAddr s x f =>
    have hx := hρ x
    split at h
    · rename_i si hs
      have hsd := (hT _ _ hs).desc
      split at h
      · rename_i fs hdd
        rw [hdd] at hsd
        simp only [descOK] at hsd
        obtain ⟨fields, hu, hfs⟩ := hsd
        split at h
        · rename_i off ft hft
          have hfield : ∃ fl, fields[f]? = some fl ∧ fl.offset = off ∧ fl.type = ft := by
            rw [← hfs] at hft
            simp only [List.getElem?_map, Option.map_eq_some_iff, Prod.mk.injEq] at hft
            obtain ⟨fl, h1, h2, h3⟩ := hft
            exact ⟨fl, by simpa using h1, h2, h3⟩
          obtain ⟨fl, hfl, rfl, rfl⟩ := hfield
          split at h
          · rename_i fi hfi
            obtain ⟨hne, h⟩ := h
            have hsz := fun w => (hT _ _ hfi).sizeOf w
            have key : ∀ b o, ρ' x = .pointer (some ⟨b, o, none⟩) → ∀ w, (execOp ρ' ⟨dst, .fieldAddr s x f, ty, pos, after, guard⟩).run P w = .ok (.value (.pointer (some ⟨b, o + fl.offset, none⟩))) w := fun b o hb w => by
              refine value_of (fun w => ?_) w
              simp only [Instr.fieldAt, hb, Sem.run_bind, run_underlying hu, Result.andThen_ok, hfl, Instr.sureAddr, Sem.run_pure, fieldPlace, hsz, if_neg hne, Addr.add_lit]
            split at h
            · rename_i heq
              rw [heq] at hx
              simp only [vrel] at hx
              obtain ⟨b, o, e, hfa⟩ := hx
              exact ⟨_, _, h, key b o e, by simp only [vrel]; exact ⟨b, _, rfl, flatAt_drop _ hfa⟩⟩
            · rename_i heq
              rw [heq] at hx
              simp only [vrel] at hx
              obtain ⟨b, sz, hI, e⟩ := hx
              exact ⟨_, _, h, key b _ e, by simp only [vrel]; exact ⟨b, sz, hI, rfl⟩⟩
            · rename_i heq
              rw [heq] at hx
              simp only [vrel] at hx
              obtain ⟨b, hL, e⟩ := hx
              exact ⟨_, _, h, key b _ e, by simp only [vrel]; exact ⟨b, hL, rfl⟩⟩
            · exact h.elim
          · exact h.elim
        · exact h.elim
      · exact h.elim
    · exact h.elim
  case field t x f =>
    have hx := hρ x
    split at h
    · rename_i si hs
      have hsd := (hT _ _ hs).desc
      split at h
      · rename_i fs cs hdd heq
        rw [heq] at hx
        rw [hdd] at hsd
        simp only [descOK, vrel] at hsd hx
        obtain ⟨fields, hu, hfs⟩ := hsd
        obtain ⟨vs, hvs, hl⟩ := hx
        split at h
        · rename_i off ft hft
          have hfield : ∃ fl, fields[f]? = some fl ∧ fl.offset = off ∧ fl.type = ft := by
            rw [← hfs] at hft
            simp only [List.getElem?_map, Option.map_eq_some_iff, Prod.mk.injEq] at hft
            obtain ⟨fl, h1, h2, h3⟩ := hft
            exact ⟨fl, by simpa using h1, h2, h3⟩
          obtain ⟨fl, hfl, rfl, rfl⟩ := hfield
          obtain ⟨r, r', h1, h2, h3⟩ := part_sim (P := P) hT h hl
          refine ⟨r, r', h1, fun w => value_of (fun w => ?_) w, h3⟩
          simp only [Instr.field, hvs, Sem.run_bind, run_underlying hu, Result.andThen_ok, hfl, asAgg, Sem.run_pure, h2]
        · exact h.elim
      · exact h.elim
    · exact h.elim
  case indexAddr t x i =>
    have hx := hρ x
    have hi := hρ i
    split at h
    · rename_i si hs
      have hsd := (hT _ _ hs).desc
      split at h
      · -- a slice
        rename_i e hdd
        rw [hdd] at hsd
        simp only [descOK] at hsd
        have key : ∀ (ei : TI) (hei : T.get e = some ei) (b o len cap : Nat) (k : IntKind) (n : Int), ρ' x = .slice (some ⟨b, o, none⟩) len cap → ρ' i = .int k n → 0 ≤ n → n < len → ∀ w,
            (execOp ρ' ⟨dst, .indexAddr t x i, ty, pos, after, guard⟩).run P w = .ok (.value (.pointer (some ⟨b, o + n.toNat * ei.size, none⟩))) w := fun ei hei b o len cap k n e1 e2 h0 h1 w => by
          refine value_of (fun w => ?_) w
          have hsz := fun w => (hT _ _ hei).sizeOf w
          simp only [Instr.indexAt, e1, e2, asIntOf, Sem.run_bind, Sem.run_pure, Result.andThen_ok, run_underlying hsd, Bool.and_false]
          simp [h0, h1, hsz, Addr.add_lit]
        split at h
        · rename_i ei sz es _ k n hei heq1 heq2
          rw [heq1] at hx
          rw [heq2] at hi
          simp only [vrel] at hx hi
          obtain ⟨b, o, cap, hx, hcap, _, hel⟩ := hx
          obtain ⟨hsz, h0, h⟩ := h
          obtain ⟨c, hc, hK⟩ := exCells_elim h
          have hlt : n.toNat < es.length := (List.getElem?_eq_some_iff.1 hc).1
          obtain ⟨hcl, hfa⟩ := elemsAt_get hel hc
          refine ⟨_, _, hK, key ei hei b o es.length cap k n hx hi h0 (by omega), ?_⟩
          simp only [vrel]
          exact ⟨b, _, rfl, by rw [hsz]; exact hfa⟩
        · rename_i ei id sz off len k n hei heq1 heq2
          rw [heq1] at hx
          rw [heq2] at hi
          simp only [vrel] at hx hi
          obtain ⟨b, s, cap, hI, hx, hcap, _⟩ := hx
          obtain ⟨hsz, h0, h1, h⟩ := h
          refine ⟨_, _, h, key ei hei b off len cap k n hx hi h0 h1, ?_⟩
          simp only [vrel]
          exact ⟨b, s, hI, by rw [hsz]⟩
        · exact h.elim
      · -- an array
        rename_i len e hdd
        rw [hdd] at hsd
        simp only [descOK] at hsd
        have key : ∀ (ei : TI) (hei : T.get e = some ei) (b o : Nat) (k : IntKind) (n : Int), ρ' x = .pointer (some ⟨b, o, none⟩) → ρ' i = .int k n → 0 ≤ n → n < len → ∀ w,
            (execOp ρ' ⟨dst, .indexAddr t x i, ty, pos, after, guard⟩).run P w = .ok (.value (.pointer (some ⟨b, o + n.toNat * ei.size, none⟩))) w := fun ei hei b o k n e1 e2 h0 h1 w => by
          refine value_of (fun w => ?_) w
          have hsz := fun w => (hT _ _ hei).sizeOf w
          simp only [Instr.indexAt, e1, e2, asIntOf, Sem.run_bind, Sem.run_pure, Result.andThen_ok, run_underlying hsd, Instr.sureAddr]
          simp [h0, h1, hsz, Addr.add_lit]
        split at h
        · rename_i ei cs k n hei heq1 heq2
          rw [heq1] at hx
          rw [heq2] at hi
          simp only [vrel] at hx hi
          obtain ⟨b, o, hx, hfa⟩ := hx
          obtain ⟨h0, h1, h⟩ := h
          refine ⟨_, _, h, key ei hei b o k n hx hi h0 h1, ?_⟩
          simp only [vrel]
          exact ⟨b, _, rfl, flatAt_drop _ hfa⟩
        · rename_i ei id off k n hei heq1 heq2
          rw [heq1] at hx
          rw [heq2] at hi
          simp only [vrel] at hx hi
          obtain ⟨b, s, hI, hx⟩ := hx
          obtain ⟨h0, h1, h⟩ := h
          refine ⟨_, _, h, key ei hei b _ k n hx hi h0 h1, ?_⟩
          simp only [vrel]
          exact ⟨b, s, hI, rfl⟩
        · rename_i ei id off k n hei heq1 heq2
          rw [heq1] at hx
          rw [heq2] at hi
          simp only [vrel] at hx hi
          obtain ⟨b, hI, hx⟩ := hx
          obtain ⟨h0, h1, h⟩ := h
          refine ⟨_, _, h, key ei hei b _ k n hx hi h0 h1, ?_⟩
          simp only [vrel]
          exact ⟨b, hI, rfl⟩
        · exact h.elim
      · exact h.elim
    · exact h.elim
  case index t x i =>
    have hx := hρ x
    have hi := hρ i
    split at h
    · rename_i si hs
      have hsd := (hT _ _ hs).desc
      split at h
      · rename_i s k n hdd heq1 heq2
        rw [heq1] at hx
        rw [heq2] at hi
        rw [hdd] at hsd
        simp only [vrel, descOK] at hx hi hsd
        obtain ⟨h0, b, hb, h⟩ := h
        refine ⟨_, .int .u8 b.toNat, h, fun w => value_of (fun w => ?_) w, by simp only [vrel]⟩
        have hb' : (⟨s.toArray⟩ : ByteArray)[n.toNat]? = some b := by
          have hlt := (List.getElem?_eq_some_iff.1 hb).1
          rw [getElem?_pos _ _ (by simpa [ByteArray.size] using hlt)]
          have := (List.getElem?_eq_some_iff.1 hb).2
          simp only [Option.some.injEq]
          exact this
        simp only [Instr.index, hx, hi, asIntOf, Sem.run_bind, Sem.run_pure, Result.andThen_ok, run_underlying hsd, if_pos h0, hb']
      · exact h.elim
    · exact h.elim
  case typeAssert x xt asserted ok =>
    have hx := hρ x
    split at h
    · rename_i ti hti
      have hd := (hT _ _ hti).desc
      split at h
      · exact h.elim
      · exact h.elim
      · rename_i t v heq hne1 hne2
        rw [heq] at hx
        simp only [vrel] at hx
        obtain ⟨u, hu, hr⟩ := hx
        have hdesc : ∃ d, P.underlying asserted = some d ∧ ∀ ms, d ≠ .interface ms := by
          revert hd hne1 hne2
          cases ti.d <;> simp only [descOK] <;> intro hd hne1 hne2 <;> first
            | exact ⟨_, hd, by simp⟩
            | (obtain ⟨_, hd, _⟩ := hd; exact ⟨_, hd, by simp⟩)
            | (obtain ⟨_, _, _, hd⟩ := hd; exact ⟨_, hd, by simp⟩)
            | simp_all
        obtain ⟨d, hdu, hdne⟩ := hdesc
        by_cases hta : t = asserted
        · rw [if_pos hta] at h
          refine ⟨_, if ok then .tuple #[u, .bool true] else u, h, fun w => value_of (fun w => ?_) w, ?_⟩
          · simp only [Instr.typeAssert, hu, Sem.run_bind, run_underlying hdu, Result.andThen_ok]
            cases d <;> first | (exact absurd rfl (hdne _)) | (simp only [hta, if_true, Sem.run_pure])
          · cases ok
            · simpa using hr
            · simp [vrel, lrel, hr]
        · rw [if_neg hta] at h
          obtain ⟨hok, h⟩ := h
          subst hok
          obtain ⟨i, z, hi1, hi2, _, hi3, hi4, hi5, hi6, _⟩ := (hT _ _ hti).info
          cases hagg : ti.d.isAgg with
          | true =>
            rw [hagg, if_pos rfl] at h
            refine ⟨_, .tuple #[z, .bool false], h, fun w => value_of (fun w => ?_) w, ?_⟩
            · simp only [Instr.typeAssert, hu, Sem.run_bind, run_underlying hdu, Result.andThen_ok]
              cases d <;> first | (exact absurd rfl (hdne _)) | (simp [hta, zeroValue, typeInfo, hi1, hi3])
            · simp [vrel, lrel]
          | false =>
            rw [hagg, if_neg (by simp)] at h
            obtain ⟨hz, h⟩ := h
            have hlr := hi4 (by intro e; rw [e] at hz; simp at hz) Γ
            have hzl := lrel_length hlr
            have hz1 : z.cells = #[z] := by
              have := hi6 hagg
              cases z <;> first | rfl | simp [Value.oneCell'] at this
            refine ⟨_, .tuple #[z, .bool false], h, fun w => value_of (fun w => ?_) w, ?_⟩
            · simp only [Instr.typeAssert, hu, Sem.run_bind, run_underlying hdu, Result.andThen_ok]
              cases d <;> first | (exact absurd rfl (hdne _)) | (simp [hta, zeroValue, typeInfo, hi1, hi3])
            · simp only [vrel]
              refine ⟨_, rfl, ?_⟩
              rw [hz1] at hlr
              exact lrel_append hlr (by simp [lrel, vrel])
      · exact h.elim
    · exact h.elim
  case extract x ix =>
    have hx := hρ x
    split at h
    · rename_i vs heq
      rw [heq] at hx
      simp only [vrel] at hx
      obtain ⟨us, hus, hl⟩ := hx
      split at h
      · rename_i v hv
        obtain ⟨u, hu, hr⟩ := lrel_get hl hv
        have hu' : us[ix]? = some u := by simpa using hu
        exact ⟨v, u, h, fun w => value_of (fun w => by simp [Instr.extract, hus, hu']) w, hr⟩
      · exact h.elim
    · exact h.elim
  case call c =>
    obtain ⟨callee, args, argTypes⟩ := c
    simp only at h
    split at h
    · -- len
      split at h
      · rename_i x t hargs htys
        split at h
        · rename_i ti hti
          have hd := (hT _ _ hti).desc
          have hx := hρ x
          have ha : args = #[x] := by apply Array.ext'; simpa using hargs
          have ht : argTypes = #[t] := by apply Array.ext'; simpa using htys
          subst ha ht
          have key : ∀ r, (∀ w, (Builtin.len_ #[t] ty #[ρ' x]).run P w = .ok r w) → ∀ w, (execOp ρ' ⟨dst, .call ⟨.builtin .len, #[x], #[t]⟩, ty, pos, after, guard⟩).run P w = .ok (.value r) w := fun r hr w => by
            simp [execOp, resolve, invoke, builtin, hr]
          split at h
          · rename_i s hdd heq
            rw [heq] at hx
            rw [hdd] at hd
            simp only [vrel, descOK] at hx hd
            refine ⟨_, .int .i64 s.length, h, key _ (fun w => ?_), by simp only [vrel]⟩
            have hz : (⟨s.toArray⟩ : ByteArray).size = s.length := by simp [ByteArray.size]
            simp [Builtin.len_, hx, run_underlying hd, goInt, hz]
          · rename_i z _ es _ hdd heq
            rw [heq] at hx
            rw [hdd] at hd
            simp only [descOK] at hd
            refine ⟨_, .int .i64 es.length, h, key _ (fun w => ?_), by simp only [vrel]⟩
            cases z
            · simp only [vrel] at hx
              obtain ⟨b, o, cap, hx, _⟩ := hx
              simp [Builtin.len_, hx, run_underlying hd, goInt]
            · simp only [vrel] at hx
              obtain ⟨rfl, hx⟩ := hx
              simp [Builtin.len_, hx, run_underlying hd, goInt]
          · rename_i _ _ _ len hdd heq
            rw [heq] at hx
            rw [hdd] at hd
            simp only [vrel, descOK] at hx hd
            obtain ⟨b, s, cap, _, hx, _⟩ := hx
            refine ⟨_, .int .i64 len, h, key _ (fun w => ?_), by simp only [vrel]⟩
            simp [Builtin.len_, hx, run_underlying hd, goInt]
          · exact h.elim
        · exact h.elim
      · exact h.elim
    · -- min
      split at h
      · rename_i x y hargs
        have ha : args = #[x, y] := by apply Array.ext'; simpa using hargs
        subst ha
        have hx := hρ x
        have hy := hρ y
        split at h
        · rename_i k a k' b heq1 heq2
          rw [heq1] at hx
          rw [heq2] at hy
          simp only [vrel] at hx hy
          refine ⟨_, .int k _, h, fun w => ?_, by simp only [vrel]; rfl⟩
          simp [execOp, resolve, invoke, builtin, Builtin.min_, hx, hy, Builtin.min2]
        · exact h.elim
      · exact h.elim
    · -- max
      split at h
      · rename_i x y hargs
        have ha : args = #[x, y] := by apply Array.ext'; simpa using hargs
        subst ha
        have hx := hρ x
        have hy := hρ y
        split at h
        · rename_i k a k' b heq1 heq2
          rw [heq1] at hx
          rw [heq2] at hy
          simp only [vrel] at hx hy
          refine ⟨_, .int k _, h, fun w => ?_, by simp only [vrel]; rfl⟩
          simp [execOp, resolve, invoke, builtin, Builtin.max_, hx, hy, Builtin.max2]
        · exact h.elim
      · exact h.elim
    · exact h.elim

end
end Go.Ab
end
section
/- The state of a running activation, told by abstract values; what it says of the model's world. -/
set_option linter.unusedSimpArgs false
set_option linter.unusedVariables false
namespace Go.Ab

inductive AObj where
  | cells (cs : List AV) (size : Nat)
  | map (es : List (AV × AV))
  | loop (jump : Option Code)
  | dead

def AObj.live : AObj → Bool
  | .dead => false
  | _ => true
def live (h : List AObj) (id : Nat) : Bool := match h[id]? with | some o => o.live | none => false

structure ASt where
  sl : List AV
  bx : List (List AV)
  h : List AObj

structure Ctx where
  w0 : World
  N : Nat → Prop
  Γ0 : G
  R : Nat → Option Loop
  marks : List Nat

def ownOK (Γ : G) (p : Pos) : AV → Value → Prop
  | .sl false sz es .own, v => ∃ b o cap s, v = .slice (some ⟨b, o, none⟩) es.length cap ∧ Γ.O b = some (.spare p (o + es.length * sz) s) ∧ o + cap * sz ≤ s
  | _, _ => True
def crel (Γ : G) (p : Pos) (a : AV) (v : Value) : Prop := vrel Γ a v ∧ ownOK Γ p a v

def RowOK (w : World) (b s : Nat) (rel : Nat → AV → Value → Prop) (cs : List AV) : Prop :=
  ∃ c e, w.heap[b]? = some (.cells c e (0, 0)) ∧ c.size = s ∧ cs.length ≤ s ∧ ∀ (j : Nat) (a : AV), cs[j]? = some a → ∃ v, c[j]? = some v ∧ v.oneCell' = true ∧ rel j a v

def MapOK (Γ : G) (w : World) (b : Nat) (es : List (AV × AV)) : Prop :=
  ∃ (ents : Array MapEntry) (clock : Nat), w.heap[b]? = some (.map ents clock) ∧ ents.size = es.length ∧
    ∀ (j : Nat) (e : AV × AV), es[j]? = some e → ∃ x : MapEntry, ents[j]? = some x ∧ vrel Γ e.1 x.key ∧ vrel Γ e.2 x.val

def LoopOK (X : Ctx) (w : World) (b : Nat) (jump : Option Code) : Prop :=
  ∃ r, X.R b = some r ∧ w.heap[b]? = some (.loop { r with state := (if jump.isNone then .ready else .done), pending := jump })

def ObjOK (X : Ctx) (Γ : G) (w : World) (b s : Nat) : AObj → Prop
  | .cells cs n => n = s ∧ RowOK w b s (fun _ => vrel Γ.noL) cs ∧ ∀ o, Γ.F b o = none
  | .map es => MapOK Γ.noL w b es ∧ ∀ o, Γ.F b o = none
  | .loop j => LoopOK X w b j
  | .dead => True

def BlockOK (X : Ctx) (Γ : G) (bx : List (List AV)) (h : List AObj) (w : World) (b : Nat) : Prop :=
  match Γ.O b with
  | none => True
  | some (.obj id) => ∃ s o, Γ.I id = some (b, s) ∧ h[id]? = some o ∧ ObjOK X Γ w b s o
  | some (.box i) => Γ.L i = some b ∧ ∃ cs, bx[i]? = some cs ∧ RowOK w b cs.length (fun j => crel Γ (.box i j)) cs ∧ ∀ o, Γ.F b o = none
  | some (.spare p tip s) => ∃ c e, w.heap[b]? = some (.cells c e (0, 0)) ∧ c.size = s ∧ ∀ x, tip ≤ x → Γ.F b x = none
  | some .mark => w.heap[b]? = some (.deferred (some []))

structure Inv (X : Ctx) (Γ : G) (bx : List (List AV)) (h : List AObj) (w : World) : Prop where
  F : ∀ b o v, Γ.F b o = some v → w.cell? ⟨b, o, none⟩ = some v ∧ v.oneCell' = true
  O : ∀ b, BlockOK X Γ bx h w b
  Olt : ∀ b k, Γ.O b = some k → b < w.heap.size
  Ilt : ∀ id p, Γ.I id = some p → id < h.length
  Ilive : ∀ id b s, Γ.I id = some (b, s) → live h id = true → Γ.O b = some (.obj id)
  L : ∀ i b, Γ.L i = some b → i < bx.length ∧ Γ.O b = some (.box i)
  N : ∀ b, X.N b → b < X.w0.heap.size ∧ Γ.O b = none ∧ w.heap[b]? = X.w0.heap[b]? ∧ ∀ o, Γ.F b o = X.Γ0.F b o
  E : Ext X.Γ0.noL Γ
  os : w.os = X.w0.os
  tape : w.tape = X.w0.tape
  output : w.output = X.w0.output
  size : X.w0.heap.size ≤ w.heap.size

/-- The same memory: the same is known of it. -/
theorem Inv.same {X : Ctx} {Γ : G} {bx : List (List AV)} {h : List AObj} {w w' : World} (k : Inv X Γ bx h w) (e : w'.heap = w.heap) (eo : w'.os = w.os) (et : w'.tape = w.tape) (ep : w'.output = w.output) : Inv X Γ bx h w' := by
  obtain ⟨heap, tape, drawn, os, output⟩ := w
  obtain ⟨heap', tape', drawn', os', output'⟩ := w'
  simp only at e eo et ep
  subst e eo et ep
  exact ⟨k.F, k.O, k.Olt, k.Ilt, k.Ilive, k.L, k.N, k.E, k.os, k.tape, k.output, k.size⟩

theorem RowOK.mono {w w' : World} {b s : Nat} {rel rel' : Nat → AV → Value → Prop} {cs : List AV} (h : RowOK w b s rel cs) (e : w'.heap[b]? = w.heap[b]?) (hr : ∀ j a v, cs[j]? = some a → rel j a v → rel' j a v) : RowOK w' b s rel' cs := by
  obtain ⟨c, t, h1, h2, h3, h4⟩ := h
  exact ⟨c, t, e.trans h1, h2, h3, fun j a hj => let ⟨v, x, y, z⟩ := h4 j a hj; ⟨v, x, y, hr j a v hj z⟩⟩
theorem MapOK.mono {Γ Γ' : G} {w w' : World} {b : Nat} {es : List (AV × AV)} (h : MapOK Γ w b es) (e : w'.heap[b]? = w.heap[b]?) (x : Ext Γ Γ') : MapOK Γ' w' b es := by
  obtain ⟨ents, clock, h1, h2, h3⟩ := h
  exact ⟨ents, clock, e.trans h1, h2, fun j p hj => let ⟨m, a, b', c⟩ := h3 j p hj; ⟨m, a, vrel_mono x _ _ b', vrel_mono x _ _ c⟩⟩

/-- A step that touches the blocks of B alone. -/
theorem Inv.update {X : Ctx} {Γ Γ' : G} {bx bx' : List (List AV)} {h h' : List AObj} {w w' : World} (k : Inv X Γ bx h w) (B : Nat → Prop)
    (hE : Ext Γ Γ')
    (hH : ∀ b, ¬ B b → w'.heap[b]? = w.heap[b]? ∨ w.heap.size ≤ b)
    (hO : ∀ b, ¬ B b → Γ'.O b = Γ.O b)
    (hF : ∀ b o, ¬ B b → Γ'.F b o = Γ.F b o)
    (hFB : ∀ b o v, B b → Γ'.F b o = some v → w'.cell? ⟨b, o, none⟩ = some v ∧ v.oneCell' = true)
    (hN : ∀ b, B b → ¬ X.N b)
    (hbx : ∀ i b, ¬ B b → Γ.O b = some (.box i) → bx'[i]? = bx[i]?)
    (hsp : ∀ i j tip s b b', B b → Γ.O b = some (.spare (.box i j) tip s) → Γ.O b' = some (.box i) → B b')
    (hh : ∀ id b, ¬ B b → Γ.O b = some (.obj id) → h'[id]? = h[id]?)
    (hOB : ∀ b, B b → BlockOK X Γ' bx' h' w' b)
    (hOlt : ∀ b k, B b → Γ'.O b = some k → b < w'.heap.size)
    (hIlt : ∀ id p, Γ'.I id = some p → id < h'.length)
    (hIlive : ∀ id b s, Γ'.I id = some (b, s) → live h' id = true → Γ'.O b = some (.obj id))
    (hL : ∀ i b, Γ'.L i = some b → i < bx'.length ∧ Γ'.O b = some (.box i))
    (eo : w'.os = w.os) (et : w'.tape = w.tape) (ep : w'.output = w.output) (es : w.heap.size ≤ w'.heap.size) : Inv X Γ' bx' h' w' where
  F := fun b o v hv => by
    by_cases hb : B b
    · exact hFB b o v hb hv
    · rw [hF b o hb] at hv
      have := k.F b o v hv
      refine ⟨?_, this.2⟩
      rcases hH b hb with e | e
      · rw [← this.1]; simp only [World.cell?, e]
      · have hlt : b < w.heap.size := by
          have h1 := this.1
          simp only [World.cell?] at h1
          rcases Nat.lt_or_ge b w.heap.size with hlt | hge
          · exact hlt
          · rw [Array.getElem?_eq_none hge] at h1; cases h1
        omega
  O := fun b => by
    by_cases hb : B b
    · exact hOB b hb
    · have hk := k.O b
      unfold BlockOK at hk ⊢
      rw [hO b hb]
      cases ho : Γ.O b with
      | none => trivial
      | some o =>
        have hlt := k.Olt b o ho
        have hw : w'.heap[b]? = w.heap[b]? := (hH b hb).resolve_right (by omega)
        rw [ho] at hk
        cases o with
        | obj id =>
          simp only at hk ⊢
          obtain ⟨s, o, h1, h2, h3⟩ := hk
          refine ⟨s, o, hE.I _ _ h1, (hh id b hb ho).trans h2, ?_⟩
          cases o with
          | cells cs n => exact ⟨h3.1, h3.2.1.mono hw (fun j a v _ r => vrel_mono hE.noL a v r), fun x => by rw [hF b x hb]; exact h3.2.2 x⟩
          | map es => exact ⟨h3.1.mono hw hE.noL, fun x => by rw [hF b x hb]; exact h3.2 x⟩
          | loop j => obtain ⟨r, h4, h5⟩ := h3; exact ⟨r, h4, hw.trans h5⟩
          | dead => trivial
        | box i =>
          simp only at hk ⊢
          obtain ⟨h1, cs, h2, h3, h4⟩ := hk
          refine ⟨hE.L _ _ h1, cs, (hbx i b hb ho).trans h2, h3.mono hw (fun j a v _ r => ⟨vrel_mono hE a v r.1, ?_⟩), fun x => by rw [hF b x hb]; exact h4 x⟩
          have r2 := r.2
          unfold ownOK at r2 ⊢
          split at r2
          · rename_i sz es
            obtain ⟨b1, o1, cap, s1, e1, e2, e3⟩ := r2
            refine ⟨b1, o1, cap, s1, e1, ?_, e3⟩
            rw [hO b1 (fun hB => hb (hsp i j _ _ b1 b hB e2 ho))]
            exact e2
          · trivial
        | spare p tip s =>
          simp only at hk ⊢
          obtain ⟨c, e, h1, h2, h3⟩ := hk
          exact ⟨c, e, hw.trans h1, h2, fun x hx => by rw [hF b x hb]; exact h3 x hx⟩
        | mark => exact hw.trans hk
  Olt := fun b o ho => by
    by_cases hb : B b
    · exact hOlt b o hb ho
    · rw [hO b hb] at ho
      have := k.Olt b o ho
      omega
  Ilt := hIlt
  Ilive := hIlive
  L := hL
  N := fun b hb => by
    have hnb : ¬ B b := fun x => hN b x hb
    have := k.N b hb
    rw [hO b hnb]
    refine ⟨this.1, this.2.1, ?_, fun o => by rw [hF b o hnb]; exact this.2.2.2 o⟩
    rcases hH b hnb with e | e
    · exact e.trans this.2.2.1
    · have := k.size; omega
  E := k.E.trans hE
  os := eo.trans k.os
  tape := et.trans k.tape
  output := ep.trans k.output
  size := Nat.le_trans k.size es

end Go.Ab
end
section
/- The operations that read and write memory, and make new memory. -/
set_option linter.unusedSimpArgs false
set_option linter.unusedVariables false
namespace Go.Ab

structure Ann where
  take : List Nat := []
  heap : List Nat := []
  mu : List Nat := []
  over : List Nat := []

def ev (s : ASt) : Operand → AV
  | .tmp t => s.sl.getD t .undef
  | .const v => ofV v
  | .func f => .fn f []
  | .global _ => .undef

def isDst (l : List Nat) : Option Nat → Bool
  | some d => l.contains d
  | none => false

/-- cells laid over others, from a place on -/
def laid (cs : List AV) (off : Nat) (vs : List AV) : List AV := cs.take off ++ vs ++ cs.drop (off + vs.length)

def AV.owns : AV → Bool
  | .sl false _ _ .own => true
  | _ => false

/-- The value of an operand that is handed on: what it owns goes with it. -/
def takeV (s : ASt) : Operand → AV
  | .tmp t => s.sl.getD t .undef
  | x => (ev s x).un
def takeS (s : ASt) : Operand → ASt
  | .tmp t => if (s.sl.getD t .undef).owns then { s with sl := s.sl.set t (s.sl.getD t .undef).un } else s
  | _ => s

/-- The cells of a variable of the call's own. -/
def hread (h : List AObj) (id off : Nat) (c : List AV) : Prop := ∃ cs n, h[id]? = some (.cells cs n) ∧ off + c.length ≤ cs.length ∧ (cs.drop off).take c.length = c

def loadK (T : Tab) (t : Nat) (a : AV) (bx : List (List AV)) (h : List AObj) (K : AV → Prop) : Prop :=
  match T.get t with
  | none => False
  | some ti =>
    ti.d.known = true ∧
    match a with
    | .eptr cs => if ti.d.isAgg then ti.size ≤ cs.length ∧ K (.agg (cs.take ti.size)) else (match cs with | c :: _ => K c | [] => False)
    | .lptr i off => (match bx[i]? with
      | some cs => if ti.d.isAgg then off + ti.size ≤ cs.length ∧ K (.agg (((cs.drop off).take ti.size).map AV.un)) else (match cs[off]? with | some c => K c.un | none => False)
      | none => False)
    | .mptr id off => if ti.d.isAgg then exCells (cellKinds T t) (fun c => c.length = ti.size ∧ hread h id off c ∧ K (.agg c)) else exCells [ti.d] (fun c => hread h id off c ∧ match c with | x :: _ => K x | [] => False)
    | _ => False

section
variable {P : Program} {T : Tab} {Γ : G} {X : Ctx} {bx : List (List AV)} {h : List AObj} {w : World}

theorem loadCells_run {b o n : Nat} {vs : Array Value} (hn : vs.size = n) (hc : ∀ i : Nat, i < n → w.cell? ⟨b, o + i, none⟩ = vs[i]?) : (loadCells ⟨b, o, none⟩ n).run P w = .ok vs w := by
  have := run_loadCells_list (P := P) w ⟨b, o, none⟩ vs.toList (fun j v hj => by
    have hlt : j < vs.toList.length := (List.getElem?_eq_some_iff.1 hj).1
    rw [Addr.add_lit, hc j (by simpa [hn] using hlt)]
    simpa using hj)
  simpa [hn] using this

/-- A variable read, cell by cell. -/
theorem loadVar_sim (hT : TabOK P T) {t : Nat} {ti : TI} (hti : T.get t = some ti) (hk : ti.d.known = true) {b o : Nat} {cs : List AV} {rel : AV → Value → Prop}
    (hc : ∀ (i : Nat) (a : AV), cs[i]? = some a → ∃ v, w.cell? ⟨b, o + i, none⟩ = some v ∧ rel a v) :
    (ti.d.isAgg = true → ti.size ≤ cs.length → ∃ vs : Array Value, (loadVar t ⟨b, o, none⟩).run P w = .ok (.agg vs) w ∧ vs.size = ti.size ∧ ∀ (i : Nat) (a : AV), (cs.take ti.size)[i]? = some a → ∃ v, vs[i]? = some v ∧ rel a v) ∧
    (ti.d.isAgg = false → ∀ a r, cs = a :: r → ∃ v, (loadVar t ⟨b, o, none⟩).run P w = .ok v w ∧ rel a v) := by
  have ok := hT t ti hti
  constructor
  · intro hagg hsz
    have hcell : ∀ i : Nat, i < ti.size → ∃ v, w.cell? ⟨b, o + i, none⟩ = some v ∧ ∀ a, cs[i]? = some a → rel a v := fun i hi => by
      obtain ⟨v, h1, h2⟩ := hc i cs[i] (List.getElem?_eq_getElem (by omega))
      exact ⟨v, h1, fun a ha => by rw [List.getElem?_eq_getElem (by omega)] at ha; simp at ha; subst ha; exact h2⟩
    let vs : Array Value := ((List.range ti.size).map fun i => (w.cell? ⟨b, o + i, none⟩).getD undef).toArray
    have hvs : vs.size = ti.size := by simp [vs]
    have hget : ∀ i : Nat, i < ti.size → vs[i]? = w.cell? ⟨b, o + i, none⟩ := fun i hi => by
      obtain ⟨v, h1, _⟩ := hcell i hi
      simp [vs, h1, hi]
    refine ⟨vs, ?_, hvs, fun i a ha => ?_⟩
    · simp only [loadVar, Sem.run_bind, ok.isAgg hk, hagg, Result.andThen_ok, if_true, ok.sizeOf, loadCells_run (P := P) hvs (fun i hi => (hget i hi).symm), Sem.run_pure]
    · rw [List.getElem?_take] at ha
      split at ha
      · rename_i hi
        obtain ⟨v, h1, h2⟩ := hcell i hi
        exact ⟨v, (hget i hi).trans h1, h2 a ha⟩
      · cases ha
  · intro hagg a r e
    subst e
    obtain ⟨v, h1, h2⟩ := hc 0 a (by simp)
    refine ⟨v, ?_, h2⟩
    simp only [Nat.add_zero] at h1
    simp only [loadVar, Sem.run_bind, ok.isAgg hk, hagg, Result.andThen_ok, Bool.false_eq_true, if_false, run_load, h1]

theorem lrel_of_cells {cs : List AV} {vs : Array Value} (hl : cs.length = vs.size) (hr : ∀ (i : Nat) (a : AV), cs[i]? = some a → ∃ v, vs[i]? = some v ∧ vrel Γ a v) : lrel Γ cs vs.toList :=
  lrel_of_get (by simpa using hl) fun i a hi => by
    obtain ⟨v, h1, h2⟩ := hr i a hi
    exact ⟨v, by simpa using h1, h2⟩

theorem row_cells {b s : Nat} {rel : Nat → AV → Value → Prop} {cs : List AV} (hr : RowOK w b s rel cs) (j : Nat) (a : AV) (hj : cs[j]? = some a) : ∃ v, w.cell? ⟨b, j, none⟩ = some v ∧ v.oneCell' = true ∧ rel j a v := by
  obtain ⟨c, e, h1, _, _, h4⟩ := hr
  obtain ⟨v, x, y, z⟩ := h4 j a hj
  exact ⟨v, by simpa [World.cell?, h1] using x, y, z⟩

/-- The block of a live variable of the call's own. -/
theorem Inv.objRow (k : Inv X Γ bx h w) {id b s n : Nat} {cs : List AV} (hI : Γ.I id = some (b, s)) (hh : h[id]? = some (.cells cs n)) : Γ.O b = some (.obj id) ∧ n = s ∧ RowOK w b s (fun _ => vrel Γ.noL) cs ∧ ∀ o, Γ.F b o = none := by
  have ho := k.Ilive id b s hI (by simp [live, hh, AObj.live])
  have hb := k.O b
  unfold BlockOK at hb
  rw [ho] at hb
  obtain ⟨s', o, h1, h2, h3⟩ := hb
  rw [hI] at h1
  rw [hh] at h2
  simp only [Option.some.injEq, Prod.mk.injEq, true_and] at h1 h2
  subst h1 h2
  exact ⟨ho, h3⟩
theorem Inv.boxRow (k : Inv X Γ bx h w) {i b : Nat} {cs : List AV} (hL : Γ.L i = some b) (hh : bx[i]? = some cs) : Γ.O b = some (.box i) ∧ RowOK w b cs.length (fun j => crel Γ (.box i j)) cs ∧ ∀ o, Γ.F b o = none := by
  have ho := (k.L i b hL).2
  have hb := k.O b
  unfold BlockOK at hb
  rw [ho] at hb
  obtain ⟨_, cs', h2, h3⟩ := hb
  rw [hh] at h2
  simp only [Option.some.injEq] at h2
  subst h2
  exact ⟨ho, h3⟩

theorem load_sim (hT : TabOK P T) (k : Inv X Γ bx h w) {t : Nat} {a : AV} {u : Value} {K : AV → Prop} (hl : loadK T t a bx h K) (ha : vrel Γ a u) :
    ∃ r r', K r ∧ (Instr.loadAt t u).run P w = .ok r' w ∧ vrel Γ r r' := by
  unfold loadK at hl
  cases hti : T.get t with
  | none => rw [hti] at hl; exact hl.elim
  | some ti =>
    rw [hti] at hl
    simp only at hl
    obtain ⟨hk, hl⟩ := hl
    have fin : ∀ (b o : Nat) (cs : List AV), u = .pointer (some ⟨b, o, none⟩) → (∀ (i : Nat) (a : AV), cs[i]? = some a → ∃ v, w.cell? ⟨b, o + i, none⟩ = some v ∧ vrel Γ a v) →
        (ti.d.isAgg = true → ti.size ≤ cs.length → ∃ vs, (Instr.loadAt t u).run P w = .ok (.agg vs) w ∧ lrel Γ (cs.take ti.size) vs.toList) ∧
        (ti.d.isAgg = false → ∀ a r, cs = a :: r → ∃ v, (Instr.loadAt t u).run P w = .ok v w ∧ vrel Γ a v) := fun b o cs hu hc => by
      have L := loadVar_sim hT hti hk hc
      subst hu
      have e : (Instr.loadAt t (.pointer (some ⟨b, o, none⟩))).run P w = (loadVar t ⟨b, o, none⟩).run P w := by simp [Instr.loadAt, Instr.sureAddr]
      rw [e]
      refine ⟨fun hagg hsz => ?_, fun hagg a r hcs => L.2 hagg a r hcs⟩
      obtain ⟨vs, h1, h2, h3⟩ := L.1 hagg hsz
      exact ⟨vs, h1, lrel_of_cells (by simp; omega) h3⟩
    split at hl
    · -- an element
      rename_i cs
      simp only [vrel] at ha
      obtain ⟨b, o, hu, hfa⟩ := ha
      have F := fin b o cs hu (fun i a hi => by
        obtain ⟨v, h1, h2⟩ := flatAt_get hfa hi
        exact ⟨v, (k.F _ _ _ h1).1, vrel_mono (Ext.of_noL Γ) _ _ h2⟩)
      split at hl
      · rename_i hagg
        obtain ⟨vs, h1, h2⟩ := F.1 hagg hl.1
        exact ⟨_, .agg vs, hl.2, h1, by simp only [vrel]; exact ⟨vs, rfl, h2⟩⟩
      · rename_i hagg
        split at hl
        · rename_i c r
          obtain ⟨v, h1, h2⟩ := F.2 (by simpa using hagg) c r rfl
          exact ⟨c, v, hl, h1, h2⟩
        · exact hl.elim
    · -- a box
      rename_i i off
      simp only [vrel] at ha
      obtain ⟨b, hL, hu⟩ := ha
      split at hl
      · rename_i cs hcs
        obtain ⟨_, hrow, _⟩ := k.boxRow hL hcs
        have F := fin b off ((cs.drop off).map AV.un) hu (fun i a hi => by
          simp only [List.getElem?_map, List.getElem?_drop, Option.map_eq_some_iff] at hi
          obtain ⟨c, hc, rfl⟩ := hi
          obtain ⟨v, h1, _, h3⟩ := row_cells hrow _ _ hc
          exact ⟨v, h1, vrel_un h3.1⟩)
        split at hl
        · rename_i hagg
          obtain ⟨vs, h1, h2⟩ := F.1 hagg (by simp; omega)
          refine ⟨_, .agg vs, hl.2, h1, ?_⟩
          simp only [vrel]
          exact ⟨vs, rfl, by rw [List.map_take]; exact h2⟩
        · rename_i hagg
          split at hl
          · rename_i c hc
            have hlt := (List.getElem?_eq_some_iff.1 hc).1
            have hcc := (List.getElem?_eq_some_iff.1 hc).2
            obtain ⟨v, h1, h2⟩ := F.2 (by simpa using hagg) c.un ((cs.drop (off + 1)).map AV.un) (by rw [List.drop_eq_getElem_cons hlt, hcc]; rfl)
            exact ⟨c.un, v, hl, h1, h2⟩
          · exact hl.elim
      · exact hl.elim
    · -- memory of the call's own
      rename_i id off
      simp only [vrel] at ha
      obtain ⟨b, s, hI, hu⟩ := ha
      have G : ∀ c, hread h id off c → ∀ (i : Nat) (a : AV), c[i]? = some a → ∃ v, w.cell? ⟨b, off + i, none⟩ = some v ∧ vrel Γ a v := fun c hc i a hi => by
        obtain ⟨cs, n, h1, h2, h3⟩ := hc
        obtain ⟨_, _, hrow, _⟩ := k.objRow hI h1
        have : cs[off + i]? = some a := by
          rw [← h3, List.getElem?_take] at hi
          split at hi
          · rwa [List.getElem?_drop] at hi
          · cases hi
        obtain ⟨v, x, _, z⟩ := row_cells hrow _ _ this
        exact ⟨v, x, vrel_mono (Ext.of_noL Γ) _ _ z⟩
      split at hl
      · rename_i hagg
        obtain ⟨c, hcl, hc, hK⟩ := exCells_elim hl
        obtain ⟨vs, h1, h2⟩ := (fin b off c hu (G c hc)).1 hagg (by omega)
        refine ⟨_, .agg vs, hK, h1, ?_⟩
        simp only [vrel]
        exact ⟨vs, rfl, by rw [List.take_of_length_le (by omega)] at h2; exact h2⟩
      · rename_i hagg
        obtain ⟨c, hc, hK⟩ := exCells_elim hl
        cases c with
        | nil => exact hK.elim
        | cons x r =>
          obtain ⟨v, h1, h2⟩ := (fin b off (x :: r) hu (G _ hc)).2 (by simpa using hagg) x r rfl
          exact ⟨x, v, hK, h1, h2⟩
    · exact hl.elim

end
end Go.Ab
end
section
/- Stores and new memory. -/
set_option linter.unusedSimpArgs false
set_option linter.unusedVariables false
namespace Go.Ab

/-- A value's cells; a lone one keeps what it owns. -/
def AV.scells : AV → List AV
  | .agg cs => cs.map AV.un
  | a => [a]
def storeK (T : Tab) (t : Nat) (a v : AV) (bx : List (List AV)) (h : List AObj) (K : List (List AV) → List AObj → Prop) : Prop :=
  match T.get t with
  | none => False
  | some ti =>
    v.cells.length = ti.size ∧ v.cells.all AV.one = true ∧
    match a with
    | .lptr i off => (match bx[i]? with | some cs => off + ti.size ≤ cs.length ∧ K (bx.set i (laid cs off v.scells)) h | none => False)
    | .mptr id off => AV.nol.nols v.cells = true ∧ ∃ cs n, h[id]? = some (.cells cs n) ∧ off + ti.size ≤ cs.length ∧ K bx (h.set id (.cells (laid cs off (v.cells.map AV.un)) n))
    | _ => False

section
variable {P : Program} {T : Tab} {Γ : G} {X : Ctx} {bx : List (List AV)} {h : List AObj} {w : World}

theorem storeCells_run {b o : Nat} {vs : List Value} {c : Array Value} {e : TypeId} (hb : w.heap[b]? = some (.cells c e (0, 0))) (hl : o + vs.length ≤ c.size) (h1 : ∀ v ∈ vs, v.oneCell' = true) :
    (storeCells ⟨b, o, none⟩ vs).run P w = .ok () (w.setRow b (c.toList.take o ++ vs ++ c.toList.drop (o + vs.length)).toArray) := by
  have := run_storeCells_at P b o e vs 0 c w hb (by omega) h1
  simpa using this

theorem laid_get {cs vs : List AV} {off : Nat} (hl : off ≤ cs.length) (j : Nat) : (laid cs off vs)[j]? = if j < off then cs[j]? else if j < off + vs.length then vs[j - off]? else cs[j]? := by
  unfold laid
  rw [List.append_assoc]
  rw [List.getElem?_append]
  have h1 : (cs.take off).length = off := by simp; omega
  rw [h1]
  split
  · rw [List.getElem?_take, if_pos (by assumption)]
  · rename_i hj
    rw [List.getElem?_append]
    split
    · rw [if_pos (by omega)]
    · rw [if_neg (by omega), List.getElem?_drop]
      congr 1; omega
theorem laid_len_le {cs vs : List AV} {off s : Nat} (h1 : off + vs.length ≤ s) (h2 : cs.length ≤ s) : (laid cs off vs).length ≤ s := by
  unfold laid; simp; omega
theorem laid_length {cs vs : List AV} {off : Nat} (hl : off + vs.length ≤ cs.length) : (laid cs off vs).length = cs.length := by
  unfold laid; simp; omega
theorem laidV_get {cs vs : List Value} {off : Nat} (hl : off + vs.length ≤ cs.length) (j : Nat) : (cs.take off ++ vs ++ cs.drop (off + vs.length))[j]? = if j < off then cs[j]? else if j < off + vs.length then vs[j - off]? else cs[j]? := by
  rw [List.append_assoc, List.getElem?_append]
  have h1 : (cs.take off).length = off := by simp; omega
  rw [h1]
  split
  · rw [List.getElem?_take, if_pos (by assumption)]
  · rename_i hj
    rw [List.getElem?_append]
    split
    · rw [if_pos (by omega)]
    · rw [if_neg (by omega), List.getElem?_drop]
      congr 1; omega

/-- A row with other cells laid over it. -/
theorem RowOK.laid {b s off : Nat} {rel : Nat → AV → Value → Prop} {cs vs : List AV} {us : List Value} (hr : RowOK w b s rel cs) (hl : off ≤ cs.length) (hl2 : off + vs.length ≤ s)
    (hv : ∀ (j : Nat) (a : AV), vs[j]? = some a → ∃ u, us[j]? = some u ∧ u.oneCell' = true ∧ rel (off + j) a u) (hlen : vs.length = us.length) (h1 : ∀ u ∈ us, u.oneCell' = true) :
    ∃ w', (storeCells ⟨b, off, none⟩ us).run P w = .ok () w' ∧ RowOK w' b s rel (Ab.laid cs off vs) ∧ (∀ k, k ≠ b → w'.heap[k]? = w.heap[k]?) ∧ w'.heap.size = w.heap.size ∧ w'.os = w.os ∧ w'.tape = w.tape ∧ w'.output = w.output := by
  obtain ⟨c, e, hb, hs, hle, hc⟩ := hr
  refine ⟨_, storeCells_run hb (by omega) h1, ⟨_, e, setRow_heap w b c _ e (0, 0) hb, ?_, laid_len_le hl2 hle, fun j a hj => ?_⟩, fun k hk => setRow_other w b k _ hk, by simp, rfl, rfl, rfl⟩
  · simp; omega
  · rw [laid_get hl] at hj
    simp only [List.getElem?_toArray]
    rw [laidV_get (by simp; omega)]
    split
    · rename_i hlt
      rw [if_pos hlt] at hj
      simpa using hc j a hj
    · rename_i hge
      rw [if_neg hge] at hj
      split at hj
      · rename_i hlt
        rw [if_pos (by omega)]
        obtain ⟨u, x, y, z⟩ := hv _ _ hj
        exact ⟨u, x, y, by rwa [show off + (j - off) = j by omega] at z⟩
      · rename_i hge2
        rw [if_neg (by omega)]
        simpa using hc j a hj

/-- Who holds what lies behind a slice's end turns. -/
def G.reown (Γ : G) (b : Nat) (p : Pos) (tip s : Nat) : G := { Γ with O := fun k => if k = b then some (.spare p tip s) else Γ.O k }
theorem Ext.reown (Γ : G) (b : Nat) (p : Pos) (tip s : Nat) : Ext Γ (Γ.reown b p tip s) := ⟨fun _ _ _ h => h, fun _ _ h => h, fun _ _ h => h⟩
theorem Inv.reown (k : Inv X Γ bx h w) {b t tip s : Nat} (hO : Γ.O b = some (.spare (.slot t) tip s)) (q : Pos) : Inv X (Γ.reown b q tip s) bx h w := by
  have hb := k.O b
  unfold BlockOK at hb
  rw [hO] at hb
  refine k.update (fun x => x = b) (Ext.reown Γ b q tip s) (fun x _ => .inl rfl) (fun x hx => by simp [G.reown, hx]) (fun x o _ => rfl) (fun x o v hx hv => k.F _ _ _ hv)
    (fun x hx hn => by subst hx; have := (k.N x hn).2.1; rw [hO] at this; cases this) (fun i x _ _ => rfl) (fun i j tip' s' x x' hx ho => by subst hx; rw [hO] at ho; cases ho) (fun id x _ _ => rfl)
    (fun x hx => ?_) (fun x o hx _ => by subst hx; exact k.Olt _ _ hO) k.Ilt (fun id x s' hI hl => ?_) (fun i x hL => ?_) rfl rfl rfl (Nat.le_refl _)
  · subst hx
    unfold BlockOK
    simp only [G.reown, if_true]
    exact hb
  · have := k.Ilive id x s' hI hl
    simp only [G.reown]
    split
    · rename_i e; subst e; rw [hO] at this; cases this
    · exact this
  · have := k.L i x hL
    refine ⟨this.1, ?_⟩
    simp only [G.reown]
    split
    · rename_i e; subst e; rw [hO] at this; cases this.2
    · exact this.2

/-- A store into a box. -/
theorem storeBox_sim (k : Inv X Γ bx h w) {i b off : Nat} {cs vs : List AV} {us : List Value} (hL : Γ.L i = some b) (hcs : bx[i]? = some cs) (hl : off + vs.length ≤ cs.length) (hlen : vs.length = us.length)
    (hv : ∀ (j : Nat) (a : AV), vs[j]? = some a → ∃ u, us[j]? = some u ∧ u.oneCell' = true ∧ crel Γ (.box i (off + j)) a u) (h1 : ∀ u ∈ us, u.oneCell' = true) :
    ∃ w', (storeCells ⟨b, off, none⟩ us).run P w = .ok () w' ∧ Inv X Γ (bx.set i (laid cs off vs)) h w' := by
  obtain ⟨ho, hrow, hF⟩ := k.boxRow hL hcs
  obtain ⟨w', hrun, hrow', hk, hsz, e1, e2, e3⟩ := hrow.laid (P := P) (by omega) hl hv hlen h1
  have hib : i < bx.length := (List.getElem?_eq_some_iff.1 hcs).1
  refine ⟨w', hrun, k.update (fun x => x = b) (Ext.refl Γ) (fun x hx => .inl (hk x hx)) (fun x _ => rfl) (fun x o _ => rfl) (fun x o v hx hv => by subst hx; rw [hF o] at hv; cases hv)
    (fun x hx hn => by subst hx; have := (k.N x hn).2.1; rw [ho] at this; cases this) (fun j x hx hj => ?_) (fun i' j tip s x x' hx ho' => by subst hx; rw [ho] at ho'; cases ho') (fun id x _ _ => rfl)
    (fun x hx => ?_) (fun x o hx ho' => by subst hx; rw [hsz]; exact k.Olt _ _ ho') k.Ilt k.Ilive (fun j x hj => by simpa using k.L j x hj) e1 e2 e3 (by omega)⟩
  · rw [List.getElem?_set_ne]
    intro e
    subst e
    have hx' := k.O x
    unfold BlockOK at hx'
    rw [hj] at hx'
    have := hx'.1
    rw [hL] at this
    simp only [Option.some.injEq] at this
    exact hx this.symm
  · subst hx
    unfold BlockOK
    rw [ho]
    exact ⟨hL, laid cs off vs, by rw [List.getElem?_set_self hib], by rw [laid_length hl]; exact hrow', hF⟩

/-- A store into memory of the call's own. -/
theorem storeObjIn_sim (k : Inv X Γ bx h w) {id b s n off : Nat} {cs vs : List AV} {us : List Value} (hI : Γ.I id = some (b, s)) (hcs : h[id]? = some (.cells cs n)) (hl : off ≤ cs.length) (hl2 : off + vs.length ≤ n) (hlen : vs.length = us.length)
    (hv : ∀ (j : Nat) (a : AV), vs[j]? = some a → ∃ u, us[j]? = some u ∧ u.oneCell' = true ∧ vrel Γ.noL a u) (h1 : ∀ u ∈ us, u.oneCell' = true) :
    ∃ w', (storeCells ⟨b, off, none⟩ us).run P w = .ok () w' ∧ Inv X Γ bx (h.set id (.cells (laid cs off vs) n)) w' := by
  obtain ⟨ho, hn, hrow, hF⟩ := k.objRow hI hcs
  obtain ⟨w', hrun, hrow', hk, hsz, e1, e2, e3⟩ := hrow.laid (P := P) hl (by omega) hv hlen h1
  have hib : id < h.length := (List.getElem?_eq_some_iff.1 hcs).1
  have hlive : ∀ id', live (h.set id (.cells (laid cs off vs) n)) id' = true → live h id' = true := fun id' hl' => by
    by_cases e : id' = id
    · subst e; simp [live, hcs, AObj.live]
    · simpa [live, List.getElem?_set_ne (Ne.symm e)] using hl'
  refine ⟨w', hrun, k.update (fun x => x = b) (Ext.refl Γ) (fun x hx => .inl (hk x hx)) (fun x _ => rfl) (fun x o _ => rfl) (fun x o v hx hv => by subst hx; rw [hF o] at hv; cases hv)
    (fun x hx hn => by subst hx; have := (k.N x hn).2.1; rw [ho] at this; cases this) (fun j x hx hj => rfl) (fun i' j tip s x x' hx ho' => by subst hx; rw [ho] at ho'; cases ho') (fun id' x hx hid => ?_)
    (fun x hx => ?_) (fun x o hx ho' => by subst hx; rw [hsz]; exact k.Olt _ _ ho') (fun id' p hp => by simpa using k.Ilt id' p hp) (fun id' x s' hx hl' => k.Ilive id' x s' hx (hlive id' hl')) k.L e1 e2 e3 (by omega)⟩
  · rw [List.getElem?_set_ne]
    intro e
    subst e
    have hx' := k.O x
    unfold BlockOK at hx'
    rw [hid] at hx'
    obtain ⟨s', o', h2, _⟩ := hx'
    rw [hI] at h2
    simp only [Option.some.injEq, Prod.mk.injEq] at h2
    exact hx h2.1.symm
  · subst hx
    unfold BlockOK
    rw [ho]
    exact ⟨s, .cells (Ab.laid cs off vs) n, hI, by rw [List.getElem?_set_self hib], hn, hrow', hF⟩

theorem storeObj_sim (k : Inv X Γ bx h w) {id b s n off : Nat} {cs vs : List AV} {us : List Value} (hI : Γ.I id = some (b, s)) (hcs : h[id]? = some (.cells cs n)) (hl : off + vs.length ≤ cs.length) (hlen : vs.length = us.length)
    (hv : ∀ (j : Nat) (a : AV), vs[j]? = some a → ∃ u, us[j]? = some u ∧ u.oneCell' = true ∧ vrel Γ.noL a u) (h1 : ∀ u ∈ us, u.oneCell' = true) :
    ∃ w', (storeCells ⟨b, off, none⟩ us).run P w = .ok () w' ∧ Inv X Γ bx (h.set id (.cells (laid cs off vs) n)) w' := by
  obtain ⟨ho, hn, hrow, hF⟩ := k.objRow hI hcs
  obtain ⟨c, e, _, _, hle, _⟩ := hrow
  exact storeObjIn_sim k hI hcs (by omega) (by omega) hlen hv h1

/-- '*a = v'. -/
theorem store_sim (hT : TabOK P T) (k : Inv X Γ bx h w) {t : Nat} {a v : AV} {u x : Value} {K : List (List AV) → List AObj → Prop} (hs : storeK T t a v bx h K) (ha : vrel Γ a u) (hv : vrel Γ v x)
    (hown : ∀ i off, a = .lptr i off → ownOK Γ (.box i off) v x) :
    ∃ bx' h' w', K bx' h' ∧ (Instr.storeAt t u x).run P w = .ok () w' ∧ Inv X Γ bx' h' w' := by
  unfold storeK at hs
  cases hti : T.get t with
  | none => rw [hti] at hs; exact hs.elim
  | some ti =>
    rw [hti] at hs
    simp only at hs
    obtain ⟨hsz, hone, hs⟩ := hs
    have hcl := vrel_cells hv hone
    have hlen := lrel_length hcl
    have hscl : lrel Γ v.scells x.cells.toList := by
      cases v with
      | agg cs =>
        refine lrel_of_get (by simpa [AV.scells, AV.cells] using hlen) fun j c hj => ?_
        simp only [AV.scells, List.getElem?_map, Option.map_eq_some_iff] at hj
        obtain ⟨d, hd, rfl⟩ := hj
        obtain ⟨y, e1, e2⟩ := lrel_get hcl (by simpa [AV.cells] using hd)
        exact ⟨y, e1, vrel_un e2⟩
      | _ => exact hcl
    have hslen := lrel_length hscl
    have hsize := fun w => (hT t ti hti).sizeOf w
    have h1 : ∀ y ∈ x.cells.toList, y.oneCell' = true := fun y hy => by
      obtain ⟨j, hj, rfl⟩ := List.getElem_of_mem hy
      have hjv : j < v.cells.length := by omega
      obtain ⟨y', e1, e2⟩ := lrel_get hcl (List.getElem?_eq_getElem hjv)
      rw [List.getElem?_eq_getElem hj] at e1
      simp only [Option.some.injEq] at e1
      rw [e1]
      exact vrel_one e2 ((List.all_eq_true.1 hone) _ (List.getElem_mem hjv))
    have go : ∀ b o, u = .pointer (some ⟨b, o, none⟩) → (Instr.storeAt t u x).run P w = (storeCells ⟨b, o, none⟩ x.cells.toList).run P w := fun b o e => by
      subst e
      have hc : ¬ (x.cells.size ≠ ti.size) := by simp only [Array.length_toList] at hlen; omega
      simp [Instr.storeAt, Instr.sureAddr, storeVar, hsize, hc]
    split at hs
    · rename_i i off
      simp only [vrel] at ha
      obtain ⟨b, hL, hu⟩ := ha
      split at hs
      · rename_i cs hcs
        obtain ⟨w', hrun, hinv⟩ := storeBox_sim (P := P) k (off := off) (vs := v.scells) (us := x.cells.toList) hL hcs (by omega) hslen (fun j c hj => by
          obtain ⟨y, e1, e2⟩ := lrel_get hscl hj
          refine ⟨y, e1, h1 y (List.mem_of_getElem? e1), e2, ?_⟩
          have ho := hown i off rfl
          cases v with
          | agg cs' =>
            simp only [AV.scells, List.getElem?_map, Option.map_eq_some_iff] at hj
            obtain ⟨d, _, rfl⟩ := hj
            unfold AV.un
            split
            · simp [ownOK]
            · rename_i hne
              unfold ownOK
              split
              · exact absurd rfl (hne _ _ _)
              · trivial
          | sl z sz' es' t' =>
            simp only [AV.scells] at hj
            cases j with
            | zero =>
              simp only [List.getElem?_cons_zero, Option.some.injEq] at hj
              subst hj
              have hx : x.cells = #[x] := by
                have := vrel_one hv rfl
                cases x <;> first | rfl | simp [Value.oneCell'] at this
              rw [hx] at e1
              simp at e1
              subst e1
              simpa using ho
            | succ j => simp at hj
          | _ => simp only [AV.scells] at hj; cases j <;> simp at hj; subst hj; simp [ownOK]) h1
        exact ⟨_, h, w', hs.2, (go b off hu).trans hrun, hinv⟩
      · exact hs.elim
    · rename_i id off
      simp only [vrel] at ha
      obtain ⟨b, s, hI, hu⟩ := ha
      obtain ⟨hnol, cs, n, hcs, hle, hK⟩ := hs
      have hun : lrel Γ.noL (v.cells.map AV.un) x.cells.toList := by
        have h2 := lrel_nol _ _ hnol hcl
        refine lrel_of_get (by simpa using hlen) fun j c hj => ?_
        simp only [List.getElem?_map, Option.map_eq_some_iff] at hj
        obtain ⟨d, hd, rfl⟩ := hj
        obtain ⟨y, e1, e2⟩ := lrel_get h2 hd
        exact ⟨y, e1, vrel_un e2⟩
      obtain ⟨w', hrun, hinv⟩ := storeObj_sim (P := P) k (off := off) (vs := v.cells.map AV.un) (us := x.cells.toList) hI hcs (by simp; omega) (by simpa using hlen) (fun j c hj => by
        obtain ⟨y, e1, e2⟩ := lrel_get hun hj
        exact ⟨y, e1, h1 y (List.mem_of_getElem? e1), e2⟩) h1
      exact ⟨bx, _, w', hK, (go b off hu).trans hrun, hinv⟩
    · exact hs.elim

end
end Go.Ab
end
section
/- New memory. -/
set_option linter.unusedSimpArgs false
set_option linter.unusedVariables false
namespace Go.Ab

section
variable {P : Program} {T : Tab} {Γ : G} {X : Ctx} {bx : List (List AV)} {h : List AObj} {w : World}

theorem Inv.freshO (k : Inv X Γ bx h w) : Γ.O w.heap.size = none := by
  cases ho : Γ.O w.heap.size with
  | none => rfl
  | some o => exact absurd (k.Olt _ _ ho) (Nat.lt_irrefl _)
theorem Inv.freshF (k : Inv X Γ bx h w) (o : Nat) : Γ.F w.heap.size o = none := by
  cases ho : Γ.F w.heap.size o with
  | none => rfl
  | some v =>
    have := (k.F _ _ _ ho).1
    simp [World.cell?] at this
theorem Inv.freshN (k : Inv X Γ bx h w) : ¬ X.N w.heap.size := fun hn => by
  have := (k.N _ hn).1
  have := k.size
  omega
theorem alloc_old (o : Obj) {k : Nat} (h : k ≠ w.heap.size) : (w.alloc o).heap[k]? = w.heap[k]? := by
  show (w.heap.push o)[k]? = _
  rw [Array.getElem?_push, if_neg h]
theorem alloc_new (o : Obj) : (w.alloc o).heap[w.heap.size]? = some o := by
  show (w.heap.push o)[w.heap.size]? = _
  simp

/-- One more box is told of. -/
theorem Inv.moreBox (k : Inv X Γ bx h w) (cs : List AV) : Inv X Γ (bx ++ [cs]) h w :=
  k.update (fun _ => False) (Ext.refl Γ) (fun x _ => .inl rfl) (fun _ _ => rfl) (fun _ _ _ => rfl) (fun _ _ _ f _ => f.elim) (fun _ f _ => f.elim)
    (fun i x _ ho => by
      have hb := k.O x
      unfold BlockOK at hb
      rw [ho] at hb
      obtain ⟨_, cs', h2, _⟩ := hb
      rw [List.getElem?_append_left (List.getElem?_eq_some_iff.1 h2).1])
    (fun _ _ _ _ _ _ f _ => f.elim) (fun _ _ _ _ => rfl) (fun _ f => f.elim) (fun _ _ f _ => f.elim) k.Ilt k.Ilive (fun i x hL => by have := k.L i x hL; exact ⟨by simp; omega, this.2⟩) rfl rfl rfl (Nat.le_refl _)

def G.addBox (Γ : G) (i b : Nat) : G := { Γ with L := fun j => if j = i then some b else Γ.L j, O := fun j => if j = b then some (.box i) else Γ.O j }
theorem Ext.addBox {Γ : G} {i : Nat} (h : Γ.L i = none) (b : Nat) : Ext Γ (Γ.addBox i b) := by
  refine ⟨fun _ _ _ x => x, fun _ _ x => x, fun j c x => ?_⟩
  simp only [G.addBox]
  split
  · rename_i e; subst e; rw [h] at x; cases x
  · exact x

theorem ownOK_of_not {p : Pos} {a : AV} {v : Value} (h : a.owns = false) : ownOK Γ p a v := by
  unfold ownOK
  split
  · simp [AV.owns] at h
  · trivial
theorem un_owns (a : AV) : a.un.owns = false := by
  cases a with
  | sl z sz es t => cases t <;> cases z <;> rfl
  | _ => rfl

theorem Inv.allocBox (k : Inv X Γ bx h w) {i : Nat} {cs : List AV} (hi : bx[i]? = some cs) (hL : Γ.L i = none) {c : Array Value} {e : TypeId} (hc : c.size = cs.length)
    (hr : ∀ (j : Nat) (a : AV), cs[j]? = some a → ∃ v, c[j]? = some v ∧ v.oneCell' = true ∧ vrel Γ a v ∧ a.owns = false) :
    Inv X (Γ.addBox i w.heap.size) bx h (w.alloc (.cells c e)) := by
  have hO := k.freshO
  have E := Ext.addBox hL w.heap.size
  refine k.update (fun x => x = w.heap.size) E (fun x hx => .inl (alloc_old _ hx)) (fun x hx => by simp [G.addBox, hx]) (fun x o _ => rfl) (fun x o v hx hv => by subst hx; rw [show (Γ.addBox i w.heap.size).F w.heap.size o = Γ.F w.heap.size o from rfl, k.freshF] at hv; cases hv)
    (fun x hx => by subst hx; exact k.freshN) (fun j x _ _ => rfl) (fun j j' tip s x x' hx ho => by subst hx; rw [hO] at ho; cases ho) (fun id x _ _ => rfl)
    (fun x hx => ?_) (fun x o hx _ => by subst hx; simp) k.Ilt (fun id x s hI hl => ?_) (fun j x hj => ?_) rfl rfl rfl (by simp)
  · subst hx
    unfold BlockOK
    simp only [G.addBox, if_true]
    refine ⟨trivial, cs, hi, ⟨c, e, alloc_new _, hc, Nat.le_refl _, fun j a hj => ?_⟩, fun o => k.freshF o⟩
    obtain ⟨v, h1, h2, h3, h4⟩ := hr j a hj
    exact ⟨v, h1, h2, vrel_mono E a v h3, ownOK_of_not h4⟩
  · have := k.Ilive id x s hI hl
    simp only [G.addBox]
    split
    · rename_i e'; subst e'; rw [hO] at this; cases this
    · exact this
  · simp only [G.addBox] at hj ⊢
    split at hj
    · rename_i e'
      simp only [Option.some.injEq] at hj
      subst hj e'
      exact ⟨(List.getElem?_eq_some_iff.1 hi).1, by simp⟩
    · have := k.L j x hj
      refine ⟨this.1, ?_⟩
      split
      · rename_i e'; subst e'; rw [hO] at this; cases this.2
      · exact this.2

def G.addObj (Γ : G) (id b s : Nat) : G := { Γ with I := fun j => if j = id then some (b, s) else Γ.I j, O := fun j => if j = b then some (.obj id) else Γ.O j }
theorem Ext.addObj {Γ : G} {id : Nat} (h : Γ.I id = none) (b s : Nat) : Ext Γ (Γ.addObj id b s) := by
  refine ⟨fun _ _ _ x => x, fun j c x => ?_, fun _ _ x => x⟩
  simp only [G.addObj]
  split
  · rename_i e; subst e; rw [h] at x; cases x
  · exact x
theorem Inv.freshI (k : Inv X Γ bx h w) : Γ.I h.length = none := by
  cases hi : Γ.I h.length with
  | none => rfl
  | some p => exact absurd (k.Ilt _ _ hi) (Nat.lt_irrefl _)

/-- A new variable of the call's own, told among the objects. -/
theorem Inv.allocObj (k : Inv X Γ bx h w) {o : AObj} {ob : Obj} {s : Nat} (hok : ObjOK X (Γ.addObj h.length w.heap.size s) (w.alloc ob) w.heap.size s o) :
    Inv X (Γ.addObj h.length w.heap.size s) bx (h ++ [o]) (w.alloc ob) := by
  have hO := k.freshO
  have hI0 := k.freshI
  have E := Ext.addObj hI0 w.heap.size s
  refine k.update (fun x => x = w.heap.size) E (fun x hx => .inl (alloc_old _ hx)) (fun x hx => by simp [G.addObj, hx]) (fun x o _ => rfl) (fun x o v hx hv => by subst hx; rw [show (Γ.addObj h.length w.heap.size s).F w.heap.size o = Γ.F w.heap.size o from rfl, k.freshF] at hv; cases hv)
    (fun x hx => by subst hx; exact k.freshN) (fun j x _ _ => rfl) (fun j j' tip s x x' hx ho => by subst hx; rw [hO] at ho; cases ho) (fun id x hx hid => ?_)
    (fun x hx => ?_) (fun x o hx _ => by subst hx; simp) (fun id p hp => ?_) (fun id x s' hI hl => ?_) (fun j x hj => ?_) rfl rfl rfl (by simp)
  · have hb := k.O x
    unfold BlockOK at hb
    rw [hid] at hb
    obtain ⟨_, o', _, h2, _⟩ := hb
    rw [List.getElem?_append_left (List.getElem?_eq_some_iff.1 h2).1]
  · subst hx
    unfold BlockOK
    simp only [G.addObj, if_true]
    exact ⟨s, o, rfl, by simp, hok⟩
  · simp only [G.addObj] at hp
    split at hp
    · rename_i e; subst e; simp
    · have := k.Ilt id p hp; simp; omega
  · simp only [G.addObj] at hI ⊢
    split at hI
    · rename_i e
      simp only [Option.some.injEq, Prod.mk.injEq] at hI
      obtain ⟨rfl, rfl⟩ := hI
      simp [e]
    · have hlt := k.Ilt id _ hI
      have hl' : live h id = true := by simpa [live, List.getElem?_append_left hlt] using hl
      have := k.Ilive id x s' hI hl'
      split
      · rename_i e; subst e; rw [hO] at this; cases this
      · exact this
  · have := k.L j x hj
    refine ⟨this.1, ?_⟩
    simp only [G.addObj]
    split
    · rename_i e; subst e; rw [hO] at this; cases this.2
    · exact this.2

def G.addF (Γ : G) (b n : Nat) (c : Array Value) : G := { Γ with F := fun j o => if j = b then (if o < n then c[o]? else none) else Γ.F j o }
def G.addO (Γ : G) (b : Nat) (k : Own) : G := { Γ with O := fun j => if j = b then some k else Γ.O j }
theorem Ext.addF {Γ : G} {b : Nat} (h : ∀ o, Γ.F b o = none) (n : Nat) (c : Array Value) : Ext Γ (Γ.addF b n c) := by
  refine ⟨fun j o v x => ?_, fun _ _ x => x, fun _ _ x => x⟩
  simp only [G.addF]
  split
  · rename_i e; subst e; rw [h] at x; cases x
  · exact x
theorem Ext.addO (Γ : G) (b : Nat) (k : Own) : Ext Γ (Γ.addO b k) := ⟨fun _ _ _ x => x, fun _ _ x => x, fun _ _ x => x⟩

/-- New memory that nobody writes to any more. -/
theorem Inv.allocFrozen (k : Inv X Γ bx h w) {c : Array Value} {e : TypeId} (h1 : ∀ (j : Nat) (v : Value), c[j]? = some v → v.oneCell' = true) :
    Inv X (Γ.addF w.heap.size c.size c) bx h (w.alloc (.cells c e)) := by
  have hO := k.freshO
  have E := Ext.addF (fun o => k.freshF o) c.size c
  refine k.update (fun x => x = w.heap.size) E (fun x hx => .inl (alloc_old _ hx)) (fun x hx => rfl) (fun x o hx => by simp [G.addF, hx]) (fun x o v hx hv => ?_)
    (fun x hx => by subst hx; exact k.freshN) (fun j x _ _ => rfl) (fun j j' tip s x x' hx ho => by subst hx; rw [hO] at ho; cases ho) (fun id x _ _ => rfl)
    (fun x hx => ?_) (fun x o hx ho => by subst hx; rw [show (Γ.addF w.heap.size c.size c).O w.heap.size = Γ.O w.heap.size from rfl, hO] at ho; cases ho) k.Ilt k.Ilive k.L rfl rfl rfl (by simp)
  · subst hx
    simp only [G.addF, if_true] at hv
    split at hv
    · exact ⟨by simp only [World.cell?, alloc_new, Option.isSome_none, Bool.false_eq_true, if_false]; exact hv, h1 o v hv⟩
    · cases hv
  · subst hx
    unfold BlockOK
    rw [show (Γ.addF w.heap.size c.size c).O w.heap.size = Γ.O w.heap.size from rfl, hO]
    trivial

/-- New memory, in part nobody's to write any more; the rest belongs to the slice at p. -/
theorem Inv.allocSpare (k : Inv X Γ bx h w) {c : Array Value} {e : TypeId} (p : Pos) (tip : Nat) (h1 : ∀ (j : Nat) (v : Value), c[j]? = some v → j < tip → v.oneCell' = true) :
    Inv X ((Γ.addF w.heap.size tip c).addO w.heap.size (.spare p tip c.size)) bx h (w.alloc (.cells c e)) := by
  have hO := k.freshO
  have E := (Ext.addF (fun o => k.freshF o) tip c).trans (Ext.addO (Γ.addF w.heap.size tip c) w.heap.size (.spare p tip c.size))
  refine k.update (fun x => x = w.heap.size) E (fun x hx => .inl (alloc_old _ hx)) (fun x hx => by simp [G.addO, G.addF, hx]) (fun x o hx => by simp [G.addO, G.addF, hx]) (fun x o v hx hv => ?_)
    (fun x hx => by subst hx; exact k.freshN) (fun j x _ _ => rfl) (fun j j' tip s x x' hx ho => by subst hx; rw [hO] at ho; cases ho) (fun id x _ _ => rfl)
    (fun x hx => ?_) (fun x o hx ho => by subst hx; simp) k.Ilt (fun id x s hI hl => ?_) (fun j x hj => ?_) rfl rfl rfl (by simp)
  · subst hx
    simp only [G.addO, G.addF, if_true] at hv
    split at hv
    · exact ⟨by simp only [World.cell?, alloc_new, Option.isSome_none, Bool.false_eq_true, if_false]; exact hv, h1 o v hv (by assumption)⟩
    · cases hv
  · subst hx
    unfold BlockOK
    simp only [G.addO, G.addF, if_true]
    exact ⟨c, e, alloc_new _, rfl, fun x hx => by rw [if_neg (by omega)]⟩
  · have := k.Ilive id x s hI hl
    simp only [G.addO, G.addF]
    split
    · rename_i e'; subst e'; rw [hO] at this; cases this
    · exact this
  · have := k.L j x hj
    refine ⟨this.1, ?_⟩
    simp only [G.addO, G.addF]
    split
    · rename_i e'; subst e'; rw [hO] at this; cases this.2
    · exact this.2

/-- Cells laid into what is left of a slice's memory: they are nobody's to write any more, and the slice's end moves on. -/
theorem Inv.spareOn (k : Inv X Γ bx h w) {b t tip s : Nat} {q : Pos} {vs : List Value} (hO : Γ.O b = some (.spare (.slot t) tip s)) (hl : tip + vs.length ≤ s) (h1 : ∀ v ∈ vs, v.oneCell' = true) :
    ∃ w', (storeCells ⟨b, tip, none⟩ vs).run P w = .ok () w' ∧
      Inv X { Γ with F := fun j o => if j = b ∧ tip ≤ o ∧ o < tip + vs.length then vs[o - tip]? else Γ.F j o, O := fun j => if j = b then some (.spare q (tip + vs.length) s) else Γ.O j } bx h w' := by
  have hb := k.O b
  unfold BlockOK at hb
  rw [hO] at hb
  obtain ⟨c, e, hbc, hs, hF⟩ := hb
  refine ⟨_, storeCells_run hbc (by omega) h1, ?_⟩
  have hnew := setRow_heap w b c (c.toList.take tip ++ vs ++ c.toList.drop (tip + vs.length)).toArray e (0, 0) hbc
  refine k.update (fun x => x = b) ⟨fun j o v x => ?_, fun _ _ x => x, fun _ _ x => x⟩ (fun x hx => .inl (setRow_other w b x _ hx)) (fun x hx => by simp [hx]) (fun x o hx => by simp [hx]) (fun x o v hx hv => ?_)
    (fun x hx hn => by subst hx; have := (k.N x hn).2.1; rw [hO] at this; cases this) (fun j x _ _ => rfl) (fun j j' tip s x x' hx ho => by subst hx; rw [hO] at ho; cases ho) (fun id x _ _ => rfl)
    (fun x hx => ?_) (fun x o hx ho => by subst hx; simpa using k.Olt _ _ hO) k.Ilt (fun id x s hI hl => ?_) (fun j x hj => ?_) rfl rfl rfl (by simp)
  · simp only
    split
    · rename_i hc
      rw [hc.1, hF o hc.2.1] at x
      cases x
    · exact x
  · subst hx
    simp only at hv
    have hget : ∀ j : Nat, (w.setRow x (c.toList.take tip ++ vs ++ c.toList.drop (tip + vs.length)).toArray).cell? ⟨x, j, none⟩ = if j < tip then c[j]? else if j < tip + vs.length then vs[j - tip]? else c[j]? := fun j => by
      simp only [World.cell?, hnew, Option.isSome_none, Bool.false_eq_true, if_false, List.getElem?_toArray]
      rw [laidV_get (by simp; omega)]
      simp
    split at hv
    · rename_i hc
      rw [hget, if_neg (by omega), if_pos hc.2.2]
      exact ⟨hv, h1 v (List.mem_of_getElem? hv)⟩
    · rename_i hc
      have := k.F x o v hv
      refine ⟨?_, this.2⟩
      rw [hget]
      have hlt : o < tip := by
        rcases Nat.lt_or_ge o tip with h' | h'
        · exact h'
        · rw [hF o h'] at hv; cases hv
      rw [if_pos hlt]
      simpa [World.cell?, hbc] using this.1
  · subst hx
    unfold BlockOK
    simp only [if_true]
    exact ⟨_, e, hnew, by simp; omega, fun y hy => by rw [if_neg (by omega)]; exact hF y (by omega)⟩
  · have := k.Ilive id x s hI hl
    simp only
    split
    · rename_i e'; subst e'; rw [hO] at this; cases this
    · exact this
  · have := k.L j x hj
    refine ⟨this.1, ?_⟩
    simp only
    split
    · rename_i e'; subst e'; rw [hO] at this; cases this.2
    · exact this.2

end
end Go.Ab
end
section
/- append. -/
set_option linter.unusedSimpArgs false
set_option linter.unusedVariables false
namespace Go.Ab

def srcK (T : Tab) (ei : TI) (t2 : Nat) (x : AV) (h : List AObj) (K : List (List AV) → Prop) : Prop :=
  match T.get t2 with
  | none => False
  | some t2i =>
    match t2i.d, x with
    | .int _, .int _ n => 0 ≤ n ∧ n * ei.bytes ≤ 140737488355328 ∧ ei.bytes ≠ 0 ∧ ei.size ≠ 0 ∧ ei.zero ≠ [] ∧ K (List.replicate n.toNat ei.zero)
    | .slice _, .sl z sz' ys _ => (z = false → sz' = ei.size) ∧ K ys
    | .str, .str s => ei.size = 1 ∧ K (s.map fun b => [.int .u8 b.toNat])
    | .slice _, .msl id sz' off len => sz' = ei.size ∧ ∃ ys : List (List AV), ys.length = len ∧ (∀ c ∈ ys, c.length = ei.size) ∧ hread h id off ys.flatten ∧ K ys
    | _, _ => False

def resTip (z : Bool) (tip : Tip) (ys : List (List AV)) : Tip :=
  match tip with
  | .own => .own
  | .full => if ys.isEmpty then .no else .own
  | .no => if z then .own else .no

def appendK (T : Tab) (mu : Bool) (t t2 : Nat) (s x : AV) (h : List AObj) (K : AV → List AObj → Prop) : Prop :=
  match T.get t with
  | none => False
  | some ti =>
    match ti.d with
    | .slice e =>
      match T.get e with
      | none => False
      | some ei => ei.size ≠ 0 ∧ ei.bytes ≠ 0 ∧ srcK T ei t2 x h fun ys =>
        match s with
        | .sl z sz es tip =>
          (z = false → sz = ei.size) ∧ (es.length + ys.length) * ei.bytes ≤ 140737488355328 ∧
          (if mu then
            (z = true ∨ tip = .full) ∧ (ys = [] → K s.un h) ∧ (ys ≠ [] → ∀ n, (es.length + ys.length) * ei.size ≤ n → K (.msl h.length ei.size 0 (es.length + ys.length)) (h ++ [.cells (es.flatten ++ ys.flatten ++ List.replicate (n - (es.length + ys.length) * ei.size) .undef) n]))
          else (z = false → tip = .no → ys = []) ∧ K (.sl (z && ys.isEmpty) ei.size (es ++ ys) (resTip z tip ys)) h)
        | .msl id sz off len =>
          sz = ei.size ∧ (len + ys.length) * ei.bytes ≤ 140737488355328 ∧
          ∃ cs n, h[id]? = some (.cells cs n) ∧ off + len * sz ≤ cs.length ∧
          (off + (len + ys.length) * sz ≤ n → K (.msl id sz off (len + ys.length)) (h.set id (.cells (laid cs (off + len * sz) ys.flatten) n))) ∧
          (n < off + (len + ys.length) * sz → ∀ n', (len + ys.length) * sz ≤ n' → K (.msl h.length sz 0 (len + ys.length)) (h ++ [.cells ((cs.drop off).take (len * sz) ++ ys.flatten ++ List.replicate (n' - (len + ys.length) * sz) .undef) n']))
        | _ => False
    | _ => False

section
variable {P : Program} {T : Tab} {Γ : G} {X : Ctx} {bx : List (List AV)} {h : List AObj} {w : World}

theorem flatten_length {sz : Nat} : ∀ {es : List (List AV)}, (∀ c ∈ es, c.length = sz) → es.flatten.length = es.length * sz
  | [], _ => by simp
  | c :: es, h => by
    rw [List.flatten_cons, List.length_append, flatten_length (fun d hd => h d (by simp [hd])), h c (by simp), List.length_cons, Nat.add_mul]
    omega
theorem flatAt_append {Γ : G} {b : Nat} : ∀ {o : Nat} {as bs : List AV}, flatAt Γ b o (as ++ bs) ↔ flatAt Γ b o as ∧ flatAt Γ b (o + as.length) bs
  | o, [], bs => by simp [flatAt]
  | o, a :: as, bs => by
    simp only [List.cons_append, flatAt, flatAt_append (as := as) (bs := bs), List.length_cons]
    rw [show o + 1 + as.length = o + (as.length + 1) by omega]
    exact and_assoc.symm
theorem elemsAt_iff {Γ : G} {b : Nat} : ∀ {o sz : Nat} {es : List (List AV)}, elemsAt Γ b o sz es ↔ (∀ c ∈ es, c.length = sz) ∧ flatAt Γ b o es.flatten
  | o, sz, [] => by simp [elemsAt, flatAt]
  | o, sz, c :: es => by
    simp only [elemsAt, List.flatten_cons, flatAt_append, elemsAt_iff (es := es), List.mem_cons, forall_eq_or_imp]
    constructor
    · rintro ⟨h1, h2, h3, h4⟩
      exact ⟨⟨h1, h3⟩, h2, by rw [h1]; exact h4⟩
    · rintro ⟨⟨h1, h3⟩, h2, h4⟩
      exact ⟨h1, h2, h3, by rw [h1] at h4; exact h4⟩

theorem flatAt_lrel (k : Inv X Γ bx h w) {b o : Nat} {as : List AV} (hf : flatAt Γ b o as) : ∃ vs : List Value, lrel Γ.noL as vs ∧ (∀ v ∈ vs, v.oneCell' = true) ∧ ∀ (j : Nat) (v : Value), vs[j]? = some v → w.cell? ⟨b, o + j, none⟩ = some v := by
  induction as generalizing o with
  | nil => exact ⟨[], by simp [lrel], by simp, by simp⟩
  | cons a as ih =>
    simp only [flatAt] at hf
    obtain ⟨⟨v, h1, h2⟩, h3⟩ := hf
    obtain ⟨vs, e1, e2, e3⟩ := ih h3
    have hv := k.F _ _ _ h1
    refine ⟨v :: vs, ?_, ?_, ?_⟩
    · simp only [lrel]; exact ⟨v, vs, rfl, h2, e1⟩
    · intro u hu
      rcases List.mem_cons.1 hu with rfl | hu
      · exact hv.2
      · exact e2 u hu
    · intro j u hj
      cases j with
      | zero => simp at hj; subst hj; exact hv.1
      | succ j =>
        have := e3 j u (by simpa using hj)
        rwa [show o + 1 + j = o + (j + 1) by omega] at this
theorem hread_lrel (k : Inv X Γ bx h w) {id b s off : Nat} {c : List AV} (hI : Γ.I id = some (b, s)) (hr : hread h id off c) : ∃ vs : List Value, lrel Γ.noL c vs ∧ (∀ v ∈ vs, v.oneCell' = true) ∧ ∀ (j : Nat) (v : Value), vs[j]? = some v → w.cell? ⟨b, off + j, none⟩ = some v := by
  obtain ⟨cs, n, h1, h2, h3⟩ := hr
  obtain ⟨_, _, hrow, _⟩ := k.objRow hI h1
  have hc : ∀ j : Nat, j < c.length → ∃ v, w.cell? ⟨b, off + j, none⟩ = some v ∧ v.oneCell' = true ∧ ∀ a, c[j]? = some a → vrel Γ.noL a v := fun j hj => by
    obtain ⟨v, x, y, z⟩ := row_cells hrow (off + j) cs[off + j] (List.getElem?_eq_getElem (by omega))
    refine ⟨v, x, y, fun a ha => ?_⟩
    rw [← h3, List.getElem?_take, if_pos hj, List.getElem?_drop, List.getElem?_eq_getElem (by omega)] at ha
    simp only [Option.some.injEq] at ha
    subst ha
    exact z
  refine ⟨(List.range c.length).map fun j => (w.cell? ⟨b, off + j, none⟩).getD undef, lrel_of_get (by simp) (fun j a hj => ?_), ?_, ?_⟩
  · have hlt := (List.getElem?_eq_some_iff.1 hj).1
    obtain ⟨v, x, _, z⟩ := hc j hlt
    exact ⟨v, by simp [hlt, x], z a hj⟩
  · intro v hv
    simp only [List.mem_map, List.mem_range] at hv
    obtain ⟨j, hj, rfl⟩ := hv
    obtain ⟨v, x, y, _⟩ := hc j hj
    simp [x, y]
  · intro j v hj
    simp only [List.getElem?_map, Option.map_eq_some_iff] at hj
    obtain ⟨i, hi, rfl⟩ := hj
    rw [List.getElem?_eq_some_iff] at hi
    obtain ⟨hlt, rfl⟩ := hi
    simp only [List.length_range] at hlt
    obtain ⟨v, x, _, _⟩ := hc j hlt
    simp [x]

theorem getElem?_reps {α : Type} {c : List α} : ∀ {n j : Nat}, j < n * c.length → (List.replicate n c).flatten[j]? = c[j % c.length]?
  | 0, j, h => by simp at h
  | n + 1, j, h => by
    rw [Nat.add_mul] at h
    rw [List.replicate_succ, List.flatten_cons, List.getElem?_append]
    split
    · rename_i hj; rw [Nat.mod_eq_of_lt hj]
    · rename_i hj
      rw [getElem?_reps (by omega), Nat.mod_eq_sub_mod (a := j) (by omega)]
theorem lrel_zeroCells {Γ : G} {zs : List AV} {z : Array Value} (hl : lrel Γ zs z.toList) (n : Nat) : lrel Γ (List.replicate n zs).flatten (Builtin.zeroCells z n).toList := by
  have hlen : zs.length = z.size := by simpa using lrel_length hl
  refine lrel_of_get (by simp [Builtin.zeroCells, hlen]) fun j a hj => ?_
  have hlt := (List.getElem?_eq_some_iff.1 hj).1
  have hlt2 : j < n * zs.length := by simpa using hlt
  have hpos : 0 < zs.length := by
    rcases Nat.eq_zero_or_pos zs.length with e | e
    · rw [e] at hlt2; simp at hlt2
    · exact e
  rw [getElem?_reps hlt2] at hj
  obtain ⟨v, e1, e2⟩ := lrel_get hl hj
  refine ⟨v, ?_, e2⟩
  have hm : j % z.size < z.size := Nat.mod_lt _ (by omega)
  rw [hlen] at e1 hlt2
  simp [Builtin.zeroCells, hlt2]
  rw [getElem!_pos z _ hm]
  simpa [hm] using e1
theorem zeroCells_one {z : Array Value} (h : ∀ v ∈ z.toList, v.oneCell' = true) (n : Nat) : ∀ v ∈ (Builtin.zeroCells z n).toList, v.oneCell' = true := by
  intro v hv
  simp only [Builtin.zeroCells, Array.toList_map, List.mem_map, Array.mem_toList_iff, Array.mem_range] at hv
  obtain ⟨j, hj, rfl⟩ := hv
  have hpos : 0 < z.size := by
    rcases Nat.eq_zero_or_pos z.size with e | e
    · rw [e] at hj; simp at hj
    · exact e
  rw [getElem!_pos z _ (Nat.mod_lt _ hpos)]
  exact h _ (by simp)

/-- What is appended, as the model reads it. -/
structure Src (P : Program) (w : World) (i : TypeInfo) (t2 n : Nat) (x : Value) (news : List Value) : Prop where
  how : ((∃ d, P.underlying t2 = some d ∧ ∀ k, d ≠ .int k) ∧ (∀ w', (Builtin.lenOf x).run P w' = .ok n w') ∧ (∀ w', w'.heap = w.heap → (Builtin.firstCells i.size n x).run P w' = .ok news.toArray w') ∧
      (∀ m, m ≤ n → ∀ w', w'.heap = w.heap → (Builtin.firstCells i.size m x).run P w' = .ok (news.take (m * i.size)).toArray w')) ∨
    ((∃ k, P.underlying t2 = some (.int k)) ∧ ∃ (k : IntKind) (m : Int) (z : Value), x = .int k m ∧ 0 ≤ m ∧ m * i.bytes ≤ 140737488355328 ∧ i.bytes ≠ 0 ∧ i.size ≠ 0 ∧ n = m.toNat ∧ i.zero = some z ∧ z.cells.size = i.size ∧ news = (Builtin.zeroCells z.cells n).toList)
  size : news.length = n * i.size
  one : ∀ v ∈ news, v.oneCell' = true

theorem src_sim (hT : TabOK P T) (k : Inv X Γ bx h w) {e : Nat} {ei : TI} (he : T.get e = some ei) {i : TypeInfo} (hi : P.info? e = some i) {t2 : Nat} {x : AV} {u : Value} {K : List (List AV) → Prop} (hs : srcK T ei t2 x h K) (hx : vrel Γ x u) :
    ∃ ys news, K ys ∧ (∀ c ∈ ys, c.length = i.size) ∧ lrel Γ.noL ys.flatten news ∧ Src P w i t2 ys.length u news := by
  obtain ⟨i', z0, hi', hsz', hby', hz0, hzr, hz1, _, hz2⟩ := (hT e ei he).info
  rw [hi] at hi'
  simp only [Option.some.injEq] at hi'
  subst hi'
  have cellsOf : ∀ (b o n cap : Nat) (news : List Value), news.length = n * i.size → (∀ (j : Nat) (v : Value), news[j]? = some v → w.cell? ⟨b, o + j, none⟩ = some v) → ∀ w' : World, w'.heap = w.heap →
      (Builtin.firstCells i.size n (.slice (some ⟨b, o, none⟩) n cap)).run P w' = .ok news.toArray w' := fun b o n cap news hl hc w' hw' =>
    run_firstCells_some (P := P) w' i.size n ⟨b, o, none⟩ n cap news hl (fun j v hj => by
      rw [Addr.add_lit]
      have := hc j v hj
      simp only [World.cell?] at this ⊢
      rw [hw']
      exact this)
  have partOf : ∀ (b o n cap : Nat) (news : List Value), news.length = n * i.size → (∀ (j : Nat) (v : Value), news[j]? = some v → w.cell? ⟨b, o + j, none⟩ = some v) → ∀ m, m ≤ n → ∀ w' : World, w'.heap = w.heap →
      (Builtin.firstCells i.size m (.slice (some ⟨b, o, none⟩) n cap)).run P w' = .ok (news.take (m * i.size)).toArray w' := fun b o n cap news hl hc m hm w' hw' =>
    run_firstCells_some (P := P) w' i.size m ⟨b, o, none⟩ n cap (news.take (m * i.size)) (by
      have := Nat.mul_le_mul_right i.size hm
      simp; omega) (fun j v hj => by
      rw [Addr.add_lit]
      rw [List.getElem?_take] at hj
      split at hj
      · have := hc j v hj
        simp only [World.cell?] at this ⊢
        rw [hw']
        exact this
      · cases hj)
  unfold srcK at hs
  cases ht : T.get t2 with
  | none => rw [ht] at hs; exact hs.elim
  | some t2i =>
    rw [ht] at hs
    simp only at hs
    have hd := (hT t2 t2i ht).desc
    rw [← hsz', ← hby'] at hs
    split at hs
    · rename_i k1 k2 n hdd
      rw [hdd] at hd
      simp only [descOK, vrel] at hd hx
      obtain ⟨h0, h1, h1', h1'', h2, hK⟩ := hs
      have hzl := hzr h2 Γ.noL
      have hlen := lrel_length hzl
      refine ⟨_, (Builtin.zeroCells z0.cells n.toNat).toList, hK, ?_, lrel_zeroCells hzl _, ⟨.inr ⟨⟨_, hd⟩, k2, n, z0, hx, h0, h1, h1', h1'', by simp, hz0, by omega, by simp⟩, ?_, zeroCells_one hz1 _⟩⟩
      · intro c hc
        rw [List.eq_of_mem_replicate hc, hlen, hsz', ← hz2]
        simp
      · simp only [Array.length_toList, size_zeroCells, List.length_replicate, hz2, hsz']
    · rename_i e z sz' ys tip hdd
      rw [hdd] at hd
      simp only [descOK] at hd
      obtain ⟨hsz, hK⟩ := hs
      cases z with
      | true =>
        simp only [vrel] at hx
        obtain ⟨rfl, rfl⟩ := hx
        exact ⟨[], [], hK, by simp, by simp [lrel], ⟨.inl ⟨⟨_, hd, by simp⟩, fun w' => by simp [Builtin.lenOf], fun w' _ => by simp [Builtin.firstCells], fun m hm w' _ => by simp [Builtin.firstCells]⟩, by simp, by simp⟩⟩
      | false =>
        simp only [vrel] at hx
        obtain ⟨b, o, cap, rfl, hcap, _, hel⟩ := hx
        have hsz := hsz rfl
        subst hsz
        obtain ⟨h1, h2⟩ := elemsAt_iff.1 hel
        obtain ⟨news, e1, e2, e3⟩ := flatAt_lrel k h2
        have hl : news.length = ys.length * i.size := by rw [← lrel_length e1, flatten_length h1]
        exact ⟨ys, news, hK, h1, e1, ⟨.inl ⟨⟨_, hd, by simp⟩, fun w' => by simp [Builtin.lenOf], cellsOf b o ys.length cap news hl e3, partOf b o ys.length cap news hl e3⟩, hl, e2⟩⟩
    · rename_i s hdd
      rw [hdd] at hd
      simp only [descOK, vrel] at hd hx
      subst hx
      obtain ⟨hs1, hK⟩ := hs
      have hz : (⟨s.toArray⟩ : ByteArray).size = s.length := by simp [ByteArray.size]
      refine ⟨_, s.map fun b => .int .u8 b.toNat, hK, by simp [hs1], ?_, ⟨.inl ⟨⟨_, hd, by simp⟩, fun w' => by simp [Builtin.lenOf, hz], fun w' _ => ?_, fun m hm w' _ => ?_⟩, by simp [hs1], by simp [Value.oneCell']⟩⟩
      · have : (s.map fun b => [AV.int .u8 (b.toNat : Int)]).flatten = s.map fun b => .int .u8 b.toNat := by
          clear hz hd hK
          induction s with
          | nil => rfl
          | cons b s ih => simp [ih]
        rw [this]
        exact lrel_map _ _ _ (fun b _ => by simp [vrel])
      · simp only [Builtin.firstCells, Sem.run_pure]
        congr 1
        apply Array.ext'
        simp
      · simp only [Builtin.firstCells, Sem.run_pure]
        congr 1
        apply Array.ext'
        simp [hs1, List.map_take]
    · rename_i e id sz' off len hdd
      rw [hdd] at hd
      simp only [descOK, vrel] at hd hx
      obtain ⟨b, s, cap, hI, rfl, hcap, _⟩ := hx
      obtain ⟨rfl, ys, hl, hall, hr, hK⟩ := hs
      obtain ⟨news, e1, e2, e3⟩ := hread_lrel k hI hr
      have hn : news.length = ys.length * i.size := by rw [← lrel_length e1, flatten_length hall]
      subst hl
      exact ⟨ys, news, hK, hall, e1, ⟨.inl ⟨⟨_, hd, by simp⟩, fun w' => by simp [Builtin.lenOf], cellsOf b off ys.length cap news hn e3, partOf b off ys.length cap news hn e3⟩, hn, e2⟩⟩
    · exact hs.elim

theorem i64qsmall {m : Int} {b : Nat} (h0 : 0 ≤ m) (h1 : m * b ≤ 140737488355328) (hb : b ≠ 0) : IntKind.i64.wrap m = m := by
  have hb : (1 : Int) ≤ b := by omega
  have hm : m * 1 ≤ m * (b : Int) := Int.mul_le_mul_of_nonneg_left hb h0
  rw [IntKind.wrap_i64]
  omega

theorem run_append_in {t t2 ty e : Nat} {i : TypeInfo} (ht : P.underlying t = some (.slice e)) (hi : P.info? e = some i) {b o sLen sCap n : Nat} {x : Value} {news : List Value} (hs : Src P w i t2 n x news)
    (hroom : sLen + n ≤ sCap) {w' : World} (hst : (storeCells ((⟨b, o, none⟩ : Addr).add (sLen * i.size)) news).run P w = .ok () w') :
    (Builtin.append_ #[t, t2] ty #[.slice (some ⟨b, o, none⟩) sLen sCap, x]).run P w = .ok (.slice (some ⟨b, o, none⟩) (sLen + n) sCap) w' := by
  obtain ⟨⟨⟨d, hd, hne⟩, h2, h3, _⟩ | ⟨⟨k1, hd⟩, k, m, z, rfl, h0, h1, h1', h1'', rfl, hz, hz2, rfl⟩, hsz, _⟩ := hs
  · have hm : (match d with | .int _ => true | _ => false) = false := by cases d <;> first | rfl | exact absurd rfl (hne _)
    simp [Builtin.append_, run_underlying ht, run_underlying hd, sizeOf, typeInfo, hi, h2, hroom, h3 w rfl, hm, hst]
  · have hw := i64qsmall h0 h1 h1'
    have h48 : ¬ (281474976710656 < m * (i.bytes : Int)) := by omega
    have hlt : ¬ m < 0 := by omega
    by_cases h0' : m.toNat * i.size = 0
    · have hnil : (Builtin.zeroCells z.cells m.toNat).toList = [] := List.eq_nil_of_length_eq_zero (by rw [hsz, h0'])
      rw [hnil] at hst
      have h0'' : m.toNat = 0 ∨ i.size = 0 := Nat.mul_eq_zero.1 h0'
      simp [Builtin.append_, run_underlying ht, run_underlying hd, sizeOf, typeInfo, hi, hroom, asInt, asIntOf, hw, h48, hlt, h0', hst]
    · simp [Builtin.append_, run_underlying ht, run_underlying hd, sizeOf, typeInfo, zeroValue, hi, hz, hroom, asInt, asIntOf, hw, h48, hlt, h0', hst]

/-- append where nothing is appended. -/
theorem run_append_nothing {t t2 ty e : Nat} {i : TypeInfo} (ht : P.underlying t = some (.slice e)) (hi : P.info? e = some i) {a : Option Addr} {sLen sCap : Nat} {x : Value} (hs : Src P w i t2 0 x []) (hroom : sLen ≤ sCap) :
    (Builtin.append_ #[t, t2] ty #[.slice a sLen sCap, x]).run P w = .ok (.slice a sLen sCap) w := by
  obtain ⟨⟨⟨d, hd, hne⟩, h2, h3, _⟩ | ⟨⟨k1, hd⟩, k, m, z, rfl, h0, h1, h1', _, hn, hz, hz2, _⟩, hsz, _⟩ := hs
  · have hm : (match d with | .int _ => true | _ => false) = false := by cases d <;> first | rfl | exact absurd rfl (hne _)
    cases a with
    | none => simp [Builtin.append_, run_underlying ht, run_underlying hd, sizeOf, typeInfo, hi, h2, hroom, h3 w rfl, hm]
    | some a => simp [Builtin.append_, run_underlying ht, run_underlying hd, sizeOf, typeInfo, hi, h2, hroom, h3 w rfl, hm, storeCells]
  · have hm0 : m = 0 := by omega
    subst hm0
    have hw := i64qsmall h0 h1 h1'
    cases a with
    | none => simp [Builtin.append_, run_underlying ht, run_underlying hd, sizeOf, typeInfo, hi, hroom, asInt, asIntOf, hw]
    | some a => simp [Builtin.append_, run_underlying ht, run_underlying hd, sizeOf, typeInfo, hi, hroom, asInt, asIntOf, hw, storeCells]

/-- append where there is no room. -/
theorem run_append_out {t t2 ty e : Nat} {i : TypeInfo} {z : Value} (ht : P.underlying t = some (.slice e)) (hi : P.info? e = some i) (hz : i.zero = some z) {a : Option Addr} {sLen sCap n : Nat} {x : Value} {olds news : List Value} (hs : Src P w i t2 n x news)
    (hold : ∀ w' : World, w'.heap = w.heap → (Builtin.firstCells i.size sLen (.slice a sLen sCap)).run P w' = .ok olds.toArray w') (hg : sCap < sLen + n) (hb0 : i.bytes ≠ 0) (hb : (sLen + n) * i.bytes ≤ 140737488355328) :
    (Builtin.append_ #[t, t2] ty #[.slice a sLen sCap, x]).run P w =
      .ok (.slice (some ⟨w.heap.size, 0, none⟩) (sLen + n) (grownCap w (sLen + n) sCap e))
        (w.drew.alloc (.cells (olds.toArray ++ news.toArray ++ Builtin.zeroCells z.cells (grownCap w (sLen + n) sCap e - (sLen + n))) e)) := by
  have hn : ¬ (sLen + n ≤ sCap) := by omega
  have h48' : ¬ (281474976710656 < Builtin.nextslicecap (sLen + n) sCap * i.bytes) := by
    have := growslice_fits (need := sLen + n) (old := sCap) (bytes := i.bytes) hg hb
    omega
  obtain ⟨⟨⟨d, hd, hne⟩, h2, h3, _⟩ | ⟨⟨k1, hd⟩, k, m, z', rfl, h0, h1, h1', h1'', rfl, hz', hz2, rfl⟩, hsz, _⟩ := hs
  · have hm : (match d with | .int _ => true | _ => false) = false := by cases d <;> first | rfl | exact absurd rfl (hne _)
    simp [Builtin.append_, run_underlying ht, run_underlying hd, sizeOf, typeInfo, zeroValue, hi, hz, h2, hn, hm, hb0, h48', Question.forced, h3 w.drew rfl, hold w.drew rfl, newRow, grownCap]
    congr 2
    apply Array.ext'
    simp [List.append_assoc]
  · rw [hz] at hz'
    simp only [Option.some.injEq] at hz'
    subst hz'
    have hw := i64qsmall h0 h1 h1'
    have h48 : ¬ (281474976710656 < m * (i.bytes : Int)) := by omega
    have hlt : ¬ m < 0 := by omega
    have hbig : ¬ (9223372036854775807 < (sLen : Int) + m) := by
      have : (sLen + m.toNat) * 1 ≤ (sLen + m.toNat) * i.bytes := Nat.mul_le_mul_left _ (by omega)
      omega
    have hbig' : ¬ (IntKind.i64.max < ((sLen + m.toNat : Nat) : Int)) := by
      have : IntKind.i64.max = 9223372036854775807 := by decide
      rw [this]; omega
    by_cases h0' : m.toNat = 0
    · have hm0 : m = 0 := by omega
      subst hm0
      have hs1 : ¬ sLen ≤ sCap := by simpa using hn
      have h48'' : ¬ (281474976710656 < Builtin.nextslicecap sLen sCap * i.bytes) := by simpa using h48'
      have hmx : ¬ (9223372036854775807 < (sLen : Int)) := by simpa using hbig
      have hemp : Builtin.zeroCells z.cells 0 = #[] := by simp [Builtin.zeroCells]
      simp [Builtin.append_, run_underlying ht, run_underlying hd, sizeOf, typeInfo, zeroValue, hi, hz, hb0, Question.forced, hold w.drew rfl, newRow, grownCap, asInt, asIntOf, hw, hs1, h48'', hemp]
      exact fun x => absurd x hmx
    · have hmx : ¬ (9223372036854775807 < (sLen : Int) + max m 0) := by omega
      have hmul : ¬ (m.toNat * i.size = 0) := by
        intro e0
        rcases Nat.mul_eq_zero.1 e0 with e0 | e0
        · exact h0' e0
        · exact h1'' e0
      simp [Builtin.append_, run_underlying ht, run_underlying hd, sizeOf, typeInfo, zeroValue, hi, hz, hn, hb0, h48', Question.forced, hold w.drew rfl, newRow, grownCap, asInt, asIntOf, hw, h48, hlt, hmul, hmx]

theorem lrel_one {as : List AV} {vs : List Value} (hl : lrel Γ as vs) (h1 : ∀ v ∈ vs, v.oneCell' = true) (j : Nat) (a : AV) (hj : as[j]? = some a) : ∃ v, vs[j]? = some v ∧ v.oneCell' = true ∧ vrel Γ a v := by
  obtain ⟨v, e1, e2⟩ := lrel_get hl hj
  exact ⟨v, e1, h1 v (List.mem_of_getElem? e1), e2⟩

theorem drew_same (k : Inv X Γ bx h w) : Inv X Γ bx h w.drew := k.same rfl rfl rfl rfl

/-- What a step may turn of who owns what: not what is held at other slots. -/
def Keeps (Γ Γ' : G) (t : Option Nat) : Prop := ∀ b p tip s, Γ.O b = some (.spare p tip s) → (∀ u, t = some u → p ≠ .slot u) → Γ'.O b = Γ.O b

theorem fresh_keeps (k : Inv X Γ bx h w) {Γ' : G} (hO : ∀ b, b ≠ w.heap.size → Γ'.O b = Γ.O b) (t : Option Nat) : Keeps Γ Γ' t := fun b p tip s hb _ =>
  hO b (fun e => by subst e; rw [k.freshO] at hb; cases hb)

/-- A slice that is made anew: its elements in place, what is left of the memory behind it its own. -/
theorem freshSlice_sim (k : Inv X Γ bx h w) {sz : Nat} {es : List (List AV)} {vs : List Value} {c : Array Value} {e cap : Nat} (d : Nat) (hall : ∀ c ∈ es, c.length = sz) (hl : lrel Γ.noL es.flatten vs) (h1 : ∀ v ∈ vs, v.oneCell' = true)
    (hc : ∃ r : List Value, c.toList = vs ++ r) (hcap : es.length ≤ cap) (hsz : cap * sz ≤ c.size) :
    ∃ Γ', Inv X Γ' bx h (w.alloc (.cells c e)) ∧ Ext Γ Γ' ∧ Keeps Γ Γ' none ∧ (∀ b, b ≠ w.heap.size → Γ'.O b = Γ.O b) ∧
      vrel Γ' (.sl false sz es .own) (.slice (some ⟨w.heap.size, 0, none⟩) es.length cap) ∧ ownOK Γ' (.slot d) (.sl false sz es .own) (.slice (some ⟨w.heap.size, 0, none⟩) es.length cap) := by
  obtain ⟨r, hr⟩ := hc
  have hfl := flatten_length hall
  have hvl := lrel_length hl
  have hget : ∀ j : Nat, j < es.length * sz → c[j]? = vs[j]? := fun j hj => by
    have : c[j]? = c.toList[j]? := by simp
    rw [this, hr, List.getElem?_append_left (by omega)]
  have hinv := k.allocSpare (c := c) (e := e) (.slot d) (es.length * sz) (fun j v hj hlt => by
    rw [hget j hlt] at hj
    exact h1 v (List.mem_of_getElem? hj))
  have E := (Ext.addF (fun o => k.freshF o) (es.length * sz) c).trans (Ext.addO (Γ.addF w.heap.size (es.length * sz) c) w.heap.size (.spare (.slot d) (es.length * sz) c.size))
  have hO : ∀ b, b ≠ w.heap.size → ((Γ.addF w.heap.size (es.length * sz) c).addO w.heap.size (.spare (.slot d) (es.length * sz) c.size)).O b = Γ.O b := fun b hb => by simp [G.addO, G.addF, hb]
  refine ⟨_, hinv, E, fresh_keeps k hO none, hO, ?_, ?_⟩
  · simp only [vrel]
    refine ⟨w.heap.size, 0, cap, rfl, hcap, by simp, elemsAt_iff.2 ⟨hall, flatAt_of_get fun j a hj => ?_⟩⟩
    obtain ⟨v, e1, e2⟩ := lrel_get hl hj
    have hlt := (List.getElem?_eq_some_iff.1 hj).1
    refine ⟨v, ?_, vrel_mono E.noL a v e2⟩
    simp only [G.addO, G.addF, if_true, Nat.zero_add]
    rw [if_pos (by omega), hget j (by omega)]
    exact e1
  · refine ⟨w.heap.size, 0, cap, c.size, rfl, ?_, by omega⟩
    simp [G.addO]

section
variable {t t2 ty e d sz : Nat} {i : TypeInfo} {z0 : Value} {x' : Value} {ys : List (List AV)} {news : List Value}

/-- The elements of a slice, as the model reads them when it makes room. -/
theorem olds_of (k : Inv X Γ bx h w) {z : Bool} {es : List (List AV)} {tip : Tip} {s' : Value} (hsv : vrel Γ (.sl z sz es tip) s') (hz : z = false → sz = i.size) :
    ∃ a sCap olds, s' = .slice a es.length sCap ∧ es.length ≤ sCap ∧ (z = true → a = none ∧ sCap = 0 ∧ es = []) ∧ (tip = .full → sCap = es.length) ∧ lrel Γ.noL es.flatten olds ∧ (∀ v ∈ olds, v.oneCell' = true) ∧ (∀ c ∈ es, c.length = i.size) ∧
      ∀ w' : World, w'.heap = w.heap → (Builtin.firstCells i.size es.length (.slice a es.length sCap)).run P w' = .ok olds.toArray w' := by
  cases z with
  | true =>
    simp only [vrel] at hsv
    obtain ⟨rfl, rfl⟩ := hsv
    exact ⟨none, 0, [], rfl, by simp, fun _ => ⟨rfl, rfl, rfl⟩, fun _ => rfl, by simp [lrel], by simp, by simp, fun w' _ => by simp [Builtin.firstCells]⟩
  | false =>
    simp only [vrel] at hsv
    obtain ⟨b, o, cap, rfl, hcap, hfull, hel⟩ := hsv
    have hsz := hz rfl
    subst hsz
    obtain ⟨h1, h2⟩ := elemsAt_iff.1 hel
    obtain ⟨olds, e1, e2, e3⟩ := flatAt_lrel k h2
    have hl : olds.length = es.length * i.size := by rw [← lrel_length e1, flatten_length h1]
    exact ⟨some ⟨b, o, none⟩, cap, olds, rfl, hcap, by simp, hfull, e1, e2, h1, fun w' hw' =>
      run_firstCells_some (P := P) w' i.size es.length ⟨b, o, none⟩ es.length cap olds hl (fun j v hj => by
        rw [Addr.add_lit]
        have := e3 j v hj
        simp only [World.cell?] at this ⊢
        rw [hw']
        exact this)⟩

/-- append to a slice told by its elements, there being no room: new memory. -/
theorem append_new (k : Inv X Γ bx h w) (hd : P.underlying t = some (.slice e)) (hi : P.info? e = some i) (hz0 : i.zero = some z0) (hz1 : ∀ v ∈ z0.cells.toList, v.oneCell' = true) (hzs : z0.cells.size = i.size)
    (hall : ∀ c ∈ ys, c.length = i.size) (hlr : lrel Γ.noL ys.flatten news) (hsrc : Src P w i t2 ys.length x' news) (hb0 : i.bytes ≠ 0)
    {z : Bool} {es : List (List AV)} {tip : Tip} {s' : Value} (hsv : vrel Γ (.sl z sz es tip) s') (hz : z = false → sz = i.size) (hb : (es.length + ys.length) * i.bytes ≤ 140737488355328) (hroom : ∀ a n c, s' = .slice a n c → c < es.length + ys.length) :
    ∃ (c : Array Value) (cap : Nat) (vs : List Value), (Builtin.append_ #[t, t2] ty #[s', x']).run P w = .ok (.slice (some ⟨w.heap.size, 0, none⟩) (es ++ ys).length cap) (w.drew.alloc (.cells c e)) ∧
      (∀ c ∈ es ++ ys, c.length = i.size) ∧ lrel Γ.noL (es ++ ys).flatten vs ∧ (∀ v ∈ vs, v.oneCell' = true) ∧ (∃ r : List Value, c.toList = vs ++ r ∧ ∀ v ∈ r, v.oneCell' = true) ∧ (es ++ ys).length ≤ cap ∧ c.size = cap * i.size := by
  obtain ⟨a, sCap, olds, rfl, hcap, _, _, e1, e2, e3, e4⟩ := olds_of (P := P) (i := i) k hsv hz
  have hg := hroom a _ _ rfl
  have hcapge := grownCap_ge w (es.length + ys.length) sCap e
  have hold : olds.length = es.length * i.size := by rw [← lrel_length e1, flatten_length e3]
  refine ⟨olds.toArray ++ news.toArray ++ Builtin.zeroCells z0.cells (grownCap w (es.length + ys.length) sCap e - (es.length + ys.length)), grownCap w (es.length + ys.length) sCap e, olds ++ news, ?_, ?_, ?_, ?_, ⟨(Builtin.zeroCells z0.cells (grownCap w (es.length + ys.length) sCap e - (es.length + ys.length))).toList, by simp, ?_⟩, by simpa using hcapge, ?_⟩
  · rw [run_append_out (P := P) hd hi hz0 hsrc e4 hg hb0 hb]
    simp
  · intro c hc
    rcases List.mem_append.1 hc with hc | hc
    · exact e3 c hc
    · exact hall c hc
  · rw [List.flatten_append]
    exact lrel_append e1 hlr
  · intro v hv
    rcases List.mem_append.1 hv with hv | hv
    · exact e2 v hv
    · exact hsrc.one v hv
  · exact zeroCells_one hz1 _
  · have hn := hsrc.size
    simp only [Array.size_append, List.size_toArray, size_zeroCells, hzs, hold, hn]
    rw [← Nat.add_mul, ← Nat.add_mul]
    congr 1
    omega

/-- append to a slice that owns what lies behind its end, there being room. -/
theorem append_room (k : Inv X Γ bx h w) (hd : P.underlying t = some (.slice e)) (hi : P.info? e = some i)
    (hall : ∀ c ∈ ys, c.length = i.size) (hlr : lrel Γ.noL ys.flatten news) (hsrc : Src P w i t2 ys.length x' news)
    {es : List (List AV)} {b o cap s u : Nat} (hel : elemsAt Γ b o i.size es) (hO : Γ.O b = some (.spare (.slot u) (o + es.length * i.size) s)) (hs : o + cap * i.size ≤ s) (hroom : es.length + ys.length ≤ cap) :
    ∃ w' Γ', (Builtin.append_ #[t, t2] ty #[.slice (some ⟨b, o, none⟩) es.length cap, x']).run P w = .ok (.slice (some ⟨b, o, none⟩) (es ++ ys).length cap) w' ∧ Inv X Γ' bx h w' ∧ Ext Γ Γ' ∧ Keeps Γ Γ' (some u) ∧
      vrel Γ' (.sl false i.size (es ++ ys) .own) (.slice (some ⟨b, o, none⟩) (es ++ ys).length cap) ∧ ownOK Γ' (.slot d) (.sl false i.size (es ++ ys) .own) (.slice (some ⟨b, o, none⟩) (es ++ ys).length cap) := by
  have hn := hsrc.size
  have hmul : es.length * i.size + ys.length * i.size ≤ cap * i.size := by rw [← Nat.add_mul]; exact Nat.mul_le_mul_right _ hroom
  obtain ⟨w', hrun, hinv⟩ := k.spareOn (P := P) (q := .slot d) (vs := news) hO (by omega) hsrc.one
  have hbk := k.O b
  unfold BlockOK at hbk
  rw [hO] at hbk
  obtain ⟨c, e', _, _, hF⟩ := hbk
  have E : Ext Γ { Γ with F := fun j x => if j = b ∧ o + es.length * i.size ≤ x ∧ x < o + es.length * i.size + news.length then news[x - (o + es.length * i.size)]? else Γ.F j x, O := fun j => if j = b then some (.spare (.slot d) (o + es.length * i.size + news.length) s) else Γ.O j } := by
    refine ⟨fun j x v hx => ?_, fun _ _ x => x, fun _ _ x => x⟩
    simp only
    split
    · rename_i hc
      rw [hc.1, hF x hc.2.1] at hx
      cases hx
    · exact hx
  refine ⟨w', _, ?_, hinv, E, fun b' p tip s' hb' hp => ?_, ?_, ?_⟩
  · have := run_append_in (P := P) (ty := ty) hd hi (b := b) (o := o) (sLen := es.length) (sCap := cap) hsrc hroom (w' := w') (by rw [Addr.add_lit]; exact hrun)
    simpa using this
  · simp only
    split
    · rename_i hbb
      subst hbb
      rw [hO] at hb'
      simp only [Option.some.injEq, Own.spare.injEq] at hb'
      exact absurd hb'.1.symm (hp u rfl)
    · rfl
  · simp only [vrel]
    refine ⟨b, o, cap, rfl, by simpa using hroom, by simp, elemsAt_append (elemsAt_mono E _ _ _ _ hel) (elemsAt_iff.2 ⟨hall, flatAt_of_get fun j a hj => ?_⟩)⟩
    obtain ⟨v, e1, e2⟩ := lrel_get hlr hj
    have hlt := (List.getElem?_eq_some_iff.1 e1).1
    refine ⟨v, ?_, vrel_mono E.noL a v e2⟩
    simp only
    rw [if_pos (by refine ⟨trivial, ?_, ?_⟩ <;> omega)]
    rw [show o + es.length * i.size + j - (o + es.length * i.size) = j by omega]
    exact e1
  · refine ⟨b, o, cap, s, rfl, ?_, hs⟩
    simp only [if_true, List.length_append, Nat.add_mul, hn]
    congr 2
    omega

/-- append to a slice told by its elements. -/
theorem append_sl (k : Inv X Γ bx h w) (hd : P.underlying t = some (.slice e)) (hi : P.info? e = some i) (hz0 : i.zero = some z0) (hz1 : ∀ v ∈ z0.cells.toList, v.oneCell' = true) (hzs : z0.cells.size = i.size)
    (hall : ∀ c ∈ ys, c.length = i.size) (hlr : lrel Γ.noL ys.flatten news) (hsrc : Src P w i t2 ys.length x' news) (hb0 : i.bytes ≠ 0)
    {z : Bool} {es : List (List AV)} {tip : Tip} {s' : Value} (hsv : vrel Γ (.sl z sz es tip) s') (hz : z = false → sz = i.size) (hb : (es.length + ys.length) * i.bytes ≤ 140737488355328)
    (hno : z = false → tip = .no → ys = []) {ts : Option Nat} (hown : AV.owns (.sl z sz es tip) = true → ∃ u, ts = some u ∧ ownOK Γ (.slot u) (.sl z sz es tip) s') :
    ∃ r' w' Γ', (Builtin.append_ #[t, t2] ty #[s', x']).run P w = .ok r' w' ∧ Inv X Γ' bx h w' ∧ Ext Γ Γ' ∧ Keeps Γ Γ' ts ∧ vrel Γ' (.sl (z && ys.isEmpty) i.size (es ++ ys) (resTip z tip ys)) r' ∧ ownOK Γ' (.slot d) (.sl (z && ys.isEmpty) i.size (es ++ ys) (resTip z tip ys)) r' := by
  have grows : (∀ a n c, s' = .slice a n c → c < es.length + ys.length) → resTip z tip ys = .own → ys ≠ [] →
      ∃ r' w' Γ', (Builtin.append_ #[t, t2] ty #[s', x']).run P w = .ok r' w' ∧ Inv X Γ' bx h w' ∧ Ext Γ Γ' ∧ Keeps Γ Γ' ts ∧ vrel Γ' (.sl (z && ys.isEmpty) i.size (es ++ ys) (resTip z tip ys)) r' ∧ ownOK Γ' (.slot d) (.sl (z && ys.isEmpty) i.size (es ++ ys) (resTip z tip ys)) r' := fun hroom htip hy => by
    obtain ⟨c, cap, vs, h1, h2, h3, h4, ⟨r, h5, _⟩, h6, h7⟩ := append_new (P := P) (ty := ty) k hd hi hz0 hz1 hzs hall hlr hsrc hb0 hsv hz hb hroom
    obtain ⟨Γ', g1, g2, g3, g4, g5, g6⟩ := freshSlice_sim (drew_same k) (sz := i.size) (es := es ++ ys) (e := e) d h2 h3 h4 ⟨r, h5⟩ h6 (by omega)
    have hye : ys.isEmpty = false := by cases ys <;> simp at hy ⊢
    rw [htip, hye, Bool.and_false]
    exact ⟨_, _, Γ', h1, g1, g2, fresh_keeps (drew_same k) g4 ts, g5, g6⟩
  by_cases hy : ys = []
  · subst hy
    have hn : news = [] := List.eq_nil_of_length_eq_zero (by have := hsrc.size; simpa using this)
    subst hn
    simp only [List.length_nil] at hsrc
    cases z with
    | true =>
      simp only [vrel] at hsv
      obtain ⟨rfl, rfl⟩ := hsv
      exact ⟨_, w, Γ, run_append_nothing hd hi hsrc (by simp), k, Ext.refl Γ, fun _ _ _ _ _ _ => rfl, by simp [vrel], by simp [ownOK]⟩
    | false =>
      have hsz := hz rfl
      subst hsz
      have hsv' := hsv
      simp only [vrel] at hsv'
      obtain ⟨b, o, cap, rfl, hcap, hfull, hel⟩ := hsv'
      have hrun := run_append_nothing (P := P) (w := w) (ty := ty) (a := some ⟨b, o, none⟩) hd hi hsrc hcap
      cases tip with
      | own =>
        obtain ⟨u, rfl, ho⟩ := hown rfl
        obtain ⟨b1, o1, cap1, s1, e1, e2, e3⟩ := ho
        simp only [Value.slice.injEq, Option.some.injEq, Addr.mk.injEq, and_true, true_and] at e1
        obtain ⟨⟨rfl, rfl⟩, rfl⟩ := e1
        refine ⟨_, w, Γ.reown b (.slot d) (o + es.length * i.size) s1, hrun, k.reown e2 _, Ext.reown _ _ _ _ _, fun b' p tip' s2 hb' hp => ?_, ?_, ?_⟩
        · simp only [G.reown]
          split
          · rename_i hbb
            subst hbb
            rw [e2] at hb'
            simp only [Option.some.injEq, Own.spare.injEq] at hb'
            exact absurd hb'.1.symm (hp u rfl)
          · rfl
        · simpa [resTip] using vrel_mono (Ext.reown Γ b (.slot d) (o + es.length * i.size) s1) _ _ hsv
        · simp only [Bool.false_and, List.append_nil, resTip]
          exact ⟨b, o, cap, s1, rfl, by simp [G.reown], e3⟩
      | full =>
        refine ⟨_, w, Γ, hrun, k, Ext.refl Γ, fun _ _ _ _ _ _ => rfl, ?_, by simp [ownOK, resTip]⟩
        simp only [Bool.false_and, List.append_nil, resTip, List.isEmpty_nil, if_true, vrel]
        exact ⟨b, o, cap, rfl, hcap, by simp, hel⟩
      | no =>
        refine ⟨_, w, Γ, hrun, k, Ext.refl Γ, fun _ _ _ _ _ _ => rfl, ?_, by simp [ownOK, resTip]⟩
        simpa [resTip] using hsv
  · have hypos : 0 < ys.length := List.length_pos_iff.2 hy
    cases z with
    | true =>
      refine grows (fun a n c e' => ?_) (by cases ys <;> simp at hy; cases tip <;> rfl) hy
      simp only [vrel] at hsv
      obtain ⟨rfl, rfl⟩ := hsv
      simp only [Value.slice.injEq] at e'
      simp; omega
    | false =>
      have hsz := hz rfl
      subst hsz
      have hsv' := hsv
      simp only [vrel] at hsv'
      obtain ⟨b, o, cap, rfl, hcap, hfull, hel⟩ := hsv'
      cases tip with
      | no => exact absurd (hno rfl rfl) hy
      | full =>
        refine grows (fun a n c e' => ?_) (by cases ys <;> simp at hy; rfl) hy
        have := hfull rfl
        simp only [Value.slice.injEq] at e'
        omega
      | own =>
        by_cases hroom : es.length + ys.length ≤ cap
        · obtain ⟨u, rfl, ho⟩ := hown rfl
          obtain ⟨b1, o1, cap1, s1, e1, e2, e3⟩ := ho
          simp only [Value.slice.injEq, Option.some.injEq, Addr.mk.injEq, and_true, true_and] at e1
          obtain ⟨⟨rfl, rfl⟩, rfl⟩ := e1
          obtain ⟨w', Γ', g1, g2, g3, g4, g5, g6⟩ := append_room (P := P) (ty := ty) (d := d) k hd hi hall hlr hsrc hel e2 e3 hroom
          exact ⟨_, w', Γ', g1, g2, g3, g4, by simpa [resTip] using g5, by simpa [resTip] using g6⟩
        · refine grows (fun a n c e' => ?_) rfl hy
          simp only [Value.slice.injEq] at e'
          omega

/-- A row with cells of which nothing is told behind those that are. -/
theorem rowOK_rest {w : World} {b : Nat} {c : Array Value} {e : TypeId} {as : List AV} {vs r : List Value} {Γ : G} (hb : w.heap[b]? = some (.cells c e (0, 0))) (hc : c.toList = vs ++ r) (hl : lrel Γ as vs) (h1 : ∀ v ∈ vs, v.oneCell' = true) (h2 : ∀ v ∈ r, v.oneCell' = true) {m : Nat} (hm : m ≤ r.length) :
    RowOK w b c.size (fun _ => vrel Γ) (as ++ List.replicate m .undef) := by
  have hlen := lrel_length hl
  have hcs : c.size = vs.length + r.length := by have := congrArg List.length hc; simpa using this
  refine ⟨c, e, hb, rfl, by simp; omega, fun j a hj => ?_⟩
  have hget : c[j]? = c.toList[j]? := by simp
  rw [hget, hc]
  rw [List.getElem?_append] at hj
  split at hj
  · rename_i hlt
    obtain ⟨v, x1, x2, x3⟩ := lrel_one hl h1 j a hj
    exact ⟨v, by rw [List.getElem?_append_left (by omega)]; exact x1, x2, x3⟩
  · rename_i hge
    have hlt := (List.getElem?_eq_some_iff.1 hj).1
    simp only [List.length_replicate] at hlt
    rw [List.getElem?_replicate, if_pos (by omega)] at hj
    simp only [Option.some.injEq] at hj
    subst hj
    have hr : j - vs.length < r.length := by omega
    exact ⟨r[j - vs.length], by rw [List.getElem?_append_right (by omega), List.getElem?_eq_getElem hr], h2 _ (List.getElem_mem hr), by simp [vrel]⟩

/-- append to a slice told by its elements, the result the call's own to write. -/
theorem append_slm (k : Inv X Γ bx h w) (hd : P.underlying t = some (.slice e)) (hi : P.info? e = some i) (hz0 : i.zero = some z0) (hz1 : ∀ v ∈ z0.cells.toList, v.oneCell' = true) (hzs : z0.cells.size = i.size)
    (hall : ∀ c ∈ ys, c.length = i.size) (hlr : lrel Γ.noL ys.flatten news) (hsrc : Src P w i t2 ys.length x' news) (hb0 : i.bytes ≠ 0)
    {z : Bool} {es : List (List AV)} {tip : Tip} {s' : Value} (hsv : vrel Γ (.sl z sz es tip) s') (hz : z = false → sz = i.size) (hb : (es.length + ys.length) * i.bytes ≤ 140737488355328)
    (hf : z = true ∨ tip = .full) {K : AV → List AObj → Prop} (hK0 : ys = [] → K (AV.un (.sl z sz es tip)) h)
    (hK1 : ys ≠ [] → ∀ n, (es.length + ys.length) * i.size ≤ n → K (.msl h.length i.size 0 (es.length + ys.length)) (h ++ [.cells (es.flatten ++ ys.flatten ++ List.replicate (n - (es.length + ys.length) * i.size) .undef) n])) :
    ∃ r h' r' w' Γ', K r h' ∧ (Builtin.append_ #[t, t2] ty #[s', x']).run P w = .ok r' w' ∧ Inv X Γ' bx h' w' ∧ Ext Γ Γ' ∧ Keeps Γ Γ' none ∧ vrel Γ' r r' ∧ r.owns = false := by
  obtain ⟨a, sCap, olds, rfl, hcap, hznil, hfull, e1, e2, e3, e4⟩ := olds_of (P := P) (i := i) k hsv hz
  by_cases hy : ys = []
  · have hn : news = [] := List.eq_nil_of_length_eq_zero (by have := hsrc.size; rw [hy] at this; simpa using this)
    subst hn
    have hsrc' := hsrc
    rw [hy] at hsrc'
    exact ⟨_, h, _, w, Γ, hK0 hy, run_append_nothing hd hi hsrc' hcap, k, Ext.refl Γ, fun _ _ _ _ _ _ => rfl, vrel_un hsv, un_owns _⟩
  · have hypos : 0 < ys.length := List.length_pos_iff.2 hy
    have hroom : ∀ a' n c, (Value.slice a es.length sCap) = .slice a' n c → c < es.length + ys.length := fun a' n c e' => by
      simp only [Value.slice.injEq] at e'
      rcases hf with hz' | ht
      · have := hznil hz'
        omega
      · have := hfull ht
        omega
    obtain ⟨c, cap, vs, h1, h2, h3, h4, ⟨r, h5, h5'⟩, h6, h7⟩ := append_new (P := P) (ty := ty) k hd hi hz0 hz1 hzs hall hlr hsrc hb0 hsv hz hb hroom
    have hlen : (es.flatten ++ ys.flatten).length = vs.length := by rw [← List.flatten_append]; exact lrel_length h3
    have hlen2 : (es ++ ys).flatten.length = (es ++ ys).length * i.size := flatten_length h2
    have hcs : c.size = vs.length + r.length := by have := congrArg List.length h5; simpa using this
    have hge : (es.length + ys.length) * i.size ≤ cap * i.size := Nat.mul_le_mul_right _ (by simpa using h6)
    have kd := drew_same k
    have hE := Ext.addObj kd.freshI w.drew.heap.size c.size
    have hok : ObjOK X (Γ.addObj h.length w.drew.heap.size c.size) (w.drew.alloc (.cells c e)) w.drew.heap.size c.size (.cells (es.flatten ++ ys.flatten ++ List.replicate (c.size - (es.length + ys.length) * i.size) .undef) c.size) := by
      refine ⟨rfl, rowOK_rest (alloc_new _) h5 (lrel_mono hE.noL _ _ (by rw [← List.flatten_append]; exact h3)) h4 h5' ?_, fun o => kd.freshF o⟩
      have : (es.flatten ++ ys.flatten).length = (es.length + ys.length) * i.size := by rw [← List.flatten_append, hlen2, List.length_append]
      omega
    have hinv := kd.allocObj hok
    refine ⟨_, _, _, _, _, hK1 hy c.size (by omega), h1, hinv, hE, fresh_keeps kd (fun b hb' => by simp only [G.addObj]; rw [if_neg hb']) none, ?_, rfl⟩
    simp only [vrel]
    exact ⟨w.drew.heap.size, c.size, cap, by simp only [G.addObj, if_true], by rw [List.length_append]; rfl, by simpa using h6, by omega⟩

theorem Inv.objSize (k : Inv X Γ bx h w) {id b s n : Nat} {cs : List AV} (hI : Γ.I id = some (b, s)) (hh : h[id]? = some (.cells cs n)) : n = s ∧ cs.length ≤ s ∧ ∃ c e, w.heap[b]? = some (.cells c e (0, 0)) ∧ c.size = s := by
  obtain ⟨_, h1, ⟨c, e, h2, h3, h4, _⟩, _⟩ := k.objRow hI hh
  exact ⟨h1, h4, c, e, h2, h3⟩

/-- append to a slice of the call's own. -/
theorem append_msl (k : Inv X Γ bx h w) (hd : P.underlying t = some (.slice e)) (hi : P.info? e = some i) (hz0 : i.zero = some z0) (hz1 : ∀ v ∈ z0.cells.toList, v.oneCell' = true) (hzs : z0.cells.size = i.size)
    (hall : ∀ c ∈ ys, c.length = i.size) (hlr : lrel Γ.noL ys.flatten news) (hsrc : Src P w i t2 ys.length x' news) (hb0 : i.bytes ≠ 0) (hs0 : i.size ≠ 0)
    {id off len : Nat} {s' : Value} (hsv : vrel Γ (.msl id i.size off len) s') (hb : (len + ys.length) * i.bytes ≤ 140737488355328) {cs : List AV} {n : Nat} (hh : h[id]? = some (.cells cs n)) (hle : off + len * i.size ≤ cs.length)
    {K : AV → List AObj → Prop} (hK1 : off + (len + ys.length) * i.size ≤ n → K (.msl id i.size off (len + ys.length)) (h.set id (.cells (laid cs (off + len * i.size) ys.flatten) n)))
    (hK2 : n < off + (len + ys.length) * i.size → ∀ n', (len + ys.length) * i.size ≤ n' → K (.msl h.length i.size 0 (len + ys.length)) (h ++ [.cells ((cs.drop off).take (len * i.size) ++ ys.flatten ++ List.replicate (n' - (len + ys.length) * i.size) .undef) n'])) :
    ∃ r h' r' w' Γ', K r h' ∧ (Builtin.append_ #[t, t2] ty #[s', x']).run P w = .ok r' w' ∧ Inv X Γ' bx h' w' ∧ Ext Γ Γ' ∧ Keeps Γ Γ' none ∧ vrel Γ' r r' ∧ r.owns = false := by
  have hsv' := hsv
  simp only [vrel] at hsv'
  obtain ⟨b, s, cap, hI, rfl, hcap, hcs⟩ := hsv'
  obtain ⟨ho, hn, hrow, hF⟩ := k.objRow hI hh
  have hnews := hsrc.size
  have hyl : ys.flatten.length = ys.length * i.size := flatten_length hall
  have hmul : (len + ys.length) * i.size = len * i.size + ys.length * i.size := Nat.add_mul _ _ _
  rcases Nat.lt_or_ge n (off + (len + ys.length) * i.size) with hlt | hge
  · -- new memory
    have hroom : cap < len + ys.length := by
      rcases Nat.lt_or_ge cap (len + ys.length) with h1 | h1
      · exact h1
      · have := Nat.mul_le_mul_right i.size h1
        omega
    have hal : ((cs.drop off).take (len * i.size)).length = len * i.size := by simp; omega
    have hrd : hread h id off ((cs.drop off).take (len * i.size)) := ⟨cs, n, hh, by rw [hal]; omega, by rw [hal]⟩
    obtain ⟨olds, e1, e2, e3⟩ := hread_lrel k hI hrd
    have hol : olds.length = len * i.size := by rw [← lrel_length e1, hal]
    have e4 : ∀ w' : World, w'.heap = w.heap → (Builtin.firstCells i.size len (.slice (some ⟨b, off, none⟩) len cap)).run P w' = .ok olds.toArray w' := fun w' hw' =>
      run_firstCells_some (P := P) w' i.size len ⟨b, off, none⟩ len cap olds hol (fun j v hj => by
        rw [Addr.add_lit]
        have := e3 j v hj
        simp only [World.cell?] at this ⊢
        rw [hw']
        exact this)
    have hcapge := grownCap_ge w (len + ys.length) cap e
    have hrun := run_append_out (P := P) (ty := ty) hd hi hz0 hsrc e4 hroom hb0 hb
    have kd := drew_same k
    have hsz : (olds.toArray ++ news.toArray ++ Builtin.zeroCells z0.cells (grownCap w (len + ys.length) cap e - (len + ys.length))).size = grownCap w (len + ys.length) cap e * i.size := by
      simp only [Array.size_append, List.size_toArray, size_zeroCells, hzs, hol, hnews]
      rw [← Nat.add_mul, ← Nat.add_mul]
      congr 1
      omega
    have hge2 : (len + ys.length) * i.size ≤ grownCap w (len + ys.length) cap e * i.size := Nat.mul_le_mul_right _ hcapge
    have hE := Ext.addObj kd.freshI w.drew.heap.size (grownCap w (len + ys.length) cap e * i.size)
    have hok : ObjOK X (Γ.addObj h.length w.drew.heap.size (grownCap w (len + ys.length) cap e * i.size)) (w.drew.alloc (.cells (olds.toArray ++ news.toArray ++ Builtin.zeroCells z0.cells (grownCap w (len + ys.length) cap e - (len + ys.length))) e)) w.drew.heap.size (grownCap w (len + ys.length) cap e * i.size) (.cells ((cs.drop off).take (len * i.size) ++ ys.flatten ++ List.replicate (grownCap w (len + ys.length) cap e * i.size - (len + ys.length) * i.size) .undef) (grownCap w (len + ys.length) cap e * i.size)) := by
      refine ⟨rfl, ?_, fun o => kd.freshF o⟩
      have := rowOK_rest (w := w.drew.alloc (.cells (olds.toArray ++ news.toArray ++ Builtin.zeroCells z0.cells (grownCap w (len + ys.length) cap e - (len + ys.length))) e)) (alloc_new _) (vs := olds ++ news) (r := (Builtin.zeroCells z0.cells (grownCap w (len + ys.length) cap e - (len + ys.length))).toList) (by simp) (lrel_mono hE.noL _ _ (lrel_append e1 hlr)) (fun v hv => (List.mem_append.1 hv).elim (e2 v) (hsrc.one v)) (zeroCells_one hz1 _) (m := grownCap w (len + ys.length) cap e * i.size - (len + ys.length) * i.size) (by
        simp only [Array.length_toList, size_zeroCells, hzs, Nat.sub_mul]; omega)
      rwa [hsz] at this
    have hinv := kd.allocObj hok
    refine ⟨_, _, _, _, _, hK2 hlt (grownCap w (len + ys.length) cap e * i.size) hge2, hrun, hinv, hE, fresh_keeps kd (fun b hb' => by simp only [G.addObj]; rw [if_neg hb']) none, ?_, rfl⟩
    simp only [vrel]
    exact ⟨w.drew.heap.size, grownCap w (len + ys.length) cap e * i.size, _, by simp only [G.addObj, if_true], rfl, hcapge, by omega⟩
  · -- in place
    have hroom : len + ys.length ≤ cap := by
      rcases Nat.lt_or_ge cap (len + ys.length) with hlt | hge
      · have : cap * i.size < (len + ys.length) * i.size := Nat.mul_lt_mul_of_pos_right hlt (Nat.pos_of_ne_zero hs0)
        omega
      · exact hge
    obtain ⟨w', hrun, hinv⟩ := storeObjIn_sim (P := P) k (off := off + len * i.size) (vs := ys.flatten) (us := news) hI hh hle (by omega) (lrel_length hlr) (fun j a hj => lrel_one hlr hsrc.one j a hj) hsrc.one
    refine ⟨_, _, _, w', Γ, hK1 hge, run_append_in (P := P) (ty := ty) hd hi hsrc hroom (w' := w') (by rw [Addr.add_lit]; exact hrun), hinv, Ext.refl Γ, fun _ _ _ _ _ _ => rfl, ?_, rfl⟩
    simp only [vrel]
    exact ⟨b, s, cap, hI, rfl, hroom, hcs⟩

end

/-- append. -/
theorem append_sim (hT : TabOK P T) (k : Inv X Γ bx h w) {mu : Bool} {t t2 ty d : Nat} {s x : AV} {s' x' : Value} {K : AV → List AObj → Prop} (ha : appendK T mu t t2 s x h K) (hs : vrel Γ s s') (hx : vrel Γ x x')
    {ts : Option Nat} (hown : s.owns = true → ∃ u, ts = some u ∧ ownOK Γ (.slot u) s s') :
    ∃ r h' r' w' Γ', K r h' ∧ (Builtin.append_ #[t, t2] ty #[s', x']).run P w = .ok r' w' ∧ Inv X Γ' bx h' w' ∧ Ext Γ Γ' ∧ Keeps Γ Γ' ts ∧ vrel Γ' r r' ∧ ownOK Γ' (.slot d) r r' := by
  have weak : ∀ {Γ'}, Keeps Γ Γ' none → Keeps Γ Γ' ts := fun hk b p tip s hb _ => hk b p tip s hb (fun _ e => by cases e)
  unfold appendK at ha
  cases hg : T.get t with
  | none => rw [hg] at ha; exact ha.elim
  | some ti =>
    rw [hg] at ha
    simp only at ha
    have hd := (hT t ti hg).desc
    split at ha
    · rename_i e hdd
      rw [hdd] at hd
      simp only [descOK] at hd
      cases hge : T.get e with
      | none => rw [hge] at ha; exact ha.elim
      | some ei =>
        rw [hge] at ha
        simp only at ha
        obtain ⟨i, z0, hi, e1, e2, hz0, _, hz1, _, hz2⟩ := (hT e ei hge).info
        obtain ⟨hs0, hb0, ha⟩ := ha
        simp only [← e1, ← e2] at hs0 hz2 hb0 ha
        obtain ⟨ys, news, hK, hall, hlr, hsrc⟩ := src_sim hT k hge hi ha hx
        split at hK
        · rename_i z sz es tip
          obtain ⟨hz, hb, hK⟩ := hK
          cases mu with
          | true =>
            simp only [if_true] at hK
            obtain ⟨hf, hK0, hK1⟩ := hK
            obtain ⟨r, h', r', w', Γ', g1, g2, g3, g4, g5, g6, g7⟩ := append_slm (P := P) (ty := ty) k hd hi hz0 hz1 hz2 hall hlr hsrc hb0 hs hz hb hf (K := K) hK0 hK1
            exact ⟨r, h', r', w', Γ', g1, g2, g3, g4, weak g5, g6, ownOK_of_not g7⟩
          | false =>
            simp only [Bool.false_eq_true, if_false] at hK
            obtain ⟨hno, hK⟩ := hK
            obtain ⟨r', w', Γ', g2, g3, g4, g5, g6, g7⟩ := append_sl (P := P) (ty := ty) (d := d) k hd hi hz0 hz1 hz2 hall hlr hsrc hb0 hs hz hb hno hown
            exact ⟨_, h, r', w', Γ', hK, g2, g3, g4, g5, g6, g7⟩
        · rename_i id sz off len
          obtain ⟨rfl, hb, cs, n, hh, hle, hK1, hK2⟩ := hK
          obtain ⟨r, h', r', w', Γ', g1, g2, g3, g4, g5, g6, g7⟩ := append_msl (P := P) (ty := ty) k hd hi hz0 hz1 hz2 hall hlr hsrc hb0 hs0 hs hb hh hle hK1 hK2
          exact ⟨r, h', r', w', Γ', g1, g2, g3, g4, weak g5, g6, ownOK_of_not g7⟩
        · exact hK.elim
    · exact ha.elim

end
end Go.Ab
end
section
/- The other operations on memory. -/
set_option linter.unusedSimpArgs false
set_option linter.unusedVariables false
namespace Go.Ab

def capK (T : Tab) (t : Nat) (x : AV) (h : List AObj) (K : AV → Prop) : Prop :=
  match T.get t with
  | none => False
  | some ti => match ti.d, x with
    | .slice _, .msl id sz off _ => ∃ cs n, h[id]? = some (.cells cs n) ∧ sz ≠ 0 ∧ K (.int .i64 (((n - off) / sz : Nat) : Int))
    | _, _ => False

def copyK (T : Tab) (t1 t2 : Nat) (d x : AV) (h : List AObj) (K : AV → List AObj → Prop) : Prop :=
  match T.get t1 with
  | none => False
  | some ti => match ti.d, d with
    | .slice e, .msl id sz off len => (match T.get e with
      | none => False
      | some ei => ei.size = sz ∧ (match T.get t2 with | some t2i => (match t2i.d with | .slice _ | .str => True | _ => False) | none => False) ∧ srcK T ei t2 x h fun ys =>
        ∃ cs n, h[id]? = some (.cells cs n) ∧ off ≤ cs.length ∧ K (.int .i64 ((min ys.length len : Nat) : Int)) (h.set id (.cells (laid cs off (ys.take len).flatten) n)))
    | _, _ => False

def clearK (T : Tab) (t : Nat) (x : AV) (h : List AObj) (K : List AObj → Prop) : Prop :=
  match T.get t with
  | none => False
  | some ti => match ti.d, x with
    | .slice e, .msl id sz off len => (match T.get e with
      | none => False
      | some ei => ei.size = sz ∧ ei.zero ≠ [] ∧ ei.zero.all AV.nol = true ∧ ∃ cs n, h[id]? = some (.cells cs n) ∧ off ≤ cs.length ∧ K (h.set id (.cells (laid cs off (List.replicate len ei.zero).flatten) n)))
    | .slice _, .sl _ _ [] _ => K h
    | _, _ => False

/-- A slice of the call's own, cut to more than its length. -/
def overK (T : Tab) (t : Nat) (x : AV) (lo hi : Option AV) (h : List AObj) (K : AV → Prop) : Prop :=
  match T.get t with
  | none => False
  | some ti => match ti.d, x with
    | .slice e, .msl id sz off len => (match T.get e with
      | none => False
      | some ei => ei.size = sz ∧ sz ≠ 0 ∧ ∃ cs n, h[id]? = some (.cells cs n) ∧ hi.isSome = true ∧ boundsK ((n - off) / sz) lo hi fun l u => (l = 0 ∨ l < u) ∧ K (.msl id sz (off + l * sz) (u - l)))
    | _, _ => False

section
variable {P : Program} {T : Tab} {Γ : G} {X : Ctx} {bx : List (List AV)} {h : List AObj} {w : World}

theorem cap_sim (hT : TabOK P T) (k : Inv X Γ bx h w) {t ty : Nat} {x : AV} {u : Value} {K : AV → Prop} (hc : capK T t x h K) (hx : vrel Γ x u) :
    ∃ r r', K r ∧ (Builtin.cap_ #[t] ty #[u]).run P w = .ok r' w ∧ vrel Γ r r' ∧ r.owns = false := by
  unfold capK at hc
  cases hg : T.get t with
  | none => rw [hg] at hc; exact hc.elim
  | some ti =>
    rw [hg] at hc
    simp only at hc
    have hd := (hT t ti hg).desc
    split at hc
    · rename_i e id sz off len hdd
      rw [hdd] at hd
      simp only [descOK, vrel] at hd hx
      obtain ⟨cs, n, hh, hs0, hK⟩ := hc
      obtain ⟨b, s, cap, hI, rfl, hcap, hcs⟩ := hx
      have hn := (k.objSize hI hh).1
      have : (n - off) / sz = cap := by
        rw [show n - off = cap * sz by omega]
        exact Nat.mul_div_cancel _ (Nat.pos_of_ne_zero hs0)
      rw [this] at hK
      exact ⟨_, .int .i64 cap, hK, by simp [Builtin.cap_, run_underlying hd, goInt], by simp [vrel], rfl⟩
    · exact hc.elim

theorem copy_sim (hT : TabOK P T) (k : Inv X Γ bx h w) {t1 t2 ty : Nat} {d x : AV} {d' u : Value} {K : AV → List AObj → Prop} (hc : copyK T t1 t2 d x h K) (hdd' : vrel Γ d d') (hx : vrel Γ x u) :
    ∃ r h' r' w', K r h' ∧ (Builtin.copy_ #[t1, t2] ty #[d', u]).run P w = .ok r' w' ∧ Inv X Γ bx h' w' ∧ vrel Γ r r' ∧ r.owns = false := by
  unfold copyK at hc
  cases hg : T.get t1 with
  | none => rw [hg] at hc; exact hc.elim
  | some ti =>
    rw [hg] at hc
    simp only at hc
    have hd := (hT t1 ti hg).desc
    split at hc
    · rename_i e id sz off len hdd
      rw [hdd] at hd
      simp only [descOK] at hd
      cases hge : T.get e with
      | none => rw [hge] at hc; exact hc.elim
      | some ei =>
        rw [hge] at hc
        simp only at hc
        obtain ⟨rfl, hni, hc⟩ := hc
        obtain ⟨i, z0, hi, e1, _⟩ := (hT e ei hge).info
        obtain ⟨ys, news, ⟨cs, n, hh, hle, hK⟩, hall, hlr, hsrc⟩ := src_sim hT k hge hi hc hx
        simp only [vrel] at hdd'
        obtain ⟨b, s, cap, hI, rfl, hcap, hcs⟩ := hdd'
        have hn := (k.objSize hI hh).1
        obtain ⟨hhow, hsz, hone⟩ := hsrc
        rcases hhow with ⟨_, h2, _, h3⟩ | ⟨⟨k1, hk1⟩, _⟩
        · have hm := h3 (min ys.length len) (Nat.min_le_left _ _) w rfl
          have hflat : (ys.take len).flatten.length = min ys.length len * i.size := by
            rw [flatten_length (sz := i.size) (fun c hc => hall c (List.mem_of_mem_take hc)), List.length_take, Nat.min_comm]
          have hlr' : lrel Γ.noL (ys.take len).flatten (news.take (min ys.length len * i.size)) := by
            have := lrel_take (min ys.length len * i.size) hlr
            rwa [show ys.flatten.take (min ys.length len * i.size) = (ys.take len).flatten from ?_] at this
            have h1 : ys.flatten = (ys.take len).flatten ++ (ys.drop len).flatten := by rw [← List.flatten_append, List.take_append_drop]
            rw [h1, ← hflat, List.take_left']
            rfl
          have hlen := lrel_length hlr'
          have hone' : ∀ v ∈ news.take (min ys.length len * i.size), v.oneCell' = true := fun v hv => hone v (List.mem_of_mem_take hv)
          have hcm : min ys.length len * ei.size ≤ cap * ei.size := Nat.mul_le_mul_right _ (by omega)
          obtain ⟨w', hrun, hinv⟩ := storeObjIn_sim (P := P) k (off := off) (vs := (ys.take len).flatten) (us := news.take (min ys.length len * i.size)) hI hh hle (by rw [hflat, e1]; omega) hlen (fun j a hj => lrel_one hlr' hone' j a hj) hone'
          refine ⟨_, _, .int .i64 ((min ys.length len : Nat) : Int), w', hK, ?_, hinv, by simp [vrel], rfl⟩
          simp [Builtin.copy_, run_underlying hd, h2, sizeOf, typeInfo, hi, hm, hrun, goInt]
        · exfalso
          cases hg2 : T.get t2 with
          | none => rw [hg2] at hni; exact hni
          | some t2i =>
            rw [hg2] at hni
            simp only at hni
            have hd2 := (hT t2 t2i hg2).desc
            generalize t2i.d = d2 at hni hd2
            cases d2 <;> first
              | exact hni
              | (simp only [descOK] at hd2; rw [hk1] at hd2; cases hd2; done)
    · exact hc.elim

theorem clear_sim (hT : TabOK P T) (k : Inv X Γ bx h w) {t ty : Nat} {x : AV} {u : Value} {K : List AObj → Prop} (hc : clearK T t x h K) (hx : vrel Γ x u) :
    ∃ h' w', K h' ∧ (Builtin.clear_ #[t] ty #[u]).run P w = .ok (.tuple #[]) w' ∧ Inv X Γ bx h' w' := by
  unfold clearK at hc
  cases hg : T.get t with
  | none => rw [hg] at hc; exact hc.elim
  | some ti =>
    rw [hg] at hc
    simp only at hc
    have hd := (hT t ti hg).desc
    split at hc
    · rename_i e id sz off len hdd
      rw [hdd] at hd
      simp only [descOK, vrel] at hd hx
      cases hge : T.get e with
      | none => rw [hge] at hc; exact hc.elim
      | some ei =>
        rw [hge] at hc
        simp only at hc
        obtain ⟨rfl, hz, _, cs, n, hh, hle, hK⟩ := hc
        obtain ⟨b, s, cap, hI, rfl, hcap, hcs⟩ := hx
        have hn := (k.objSize hI hh).1
        obtain ⟨i, z0, hi, e1, e2, hz0, hzr, hz1, _, hz2⟩ := (hT e ei hge).info
        have hzl := hzr hz Γ.noL
        have hzlen : ei.zero.length = ei.size := by have := lrel_length hzl; simp at this; omega
        have hlr := lrel_zeroCells hzl len
        have hone := zeroCells_one hz1 len
        have hflat : (List.replicate len ei.zero).flatten.length = len * ei.size := by simp [hzlen]
        have hcm : len * ei.size ≤ cap * ei.size := Nat.mul_le_mul_right _ hcap
        obtain ⟨w', hrun, hinv⟩ := storeObjIn_sim (P := P) k (off := off) (vs := (List.replicate len ei.zero).flatten) (us := (Builtin.zeroCells z0.cells len).toList) hI hh hle (by omega) (lrel_length hlr) (fun j a hj => lrel_one hlr hone j a hj) hone
        cases len with
        | zero =>
          have hnil : (Builtin.zeroCells z0.cells 0).toList = [] := by simp [Builtin.zeroCells]
          rw [hnil] at hrun
          simp only [storeCells, Sem.run_pure, Result.ok.injEq, true_and] at hrun
          subst hrun
          exact ⟨_, w, hK, by simp [Builtin.clear_, run_underlying hd], hinv⟩
        | succ len =>
          exact ⟨_, w', hK, by simp [Builtin.clear_, run_underlying hd, zeroValue, typeInfo, hi, hz0, hrun], hinv⟩
    · rename_i e z sz tip hdd
      rw [hdd] at hd
      simp only [descOK] at hd
      refine ⟨h, w, hc, ?_, k⟩
      cases z with
      | true =>
        simp only [vrel] at hx
        obtain ⟨_, rfl⟩ := hx
        simp [Builtin.clear_, run_underlying hd]
      | false =>
        simp only [vrel] at hx
        obtain ⟨b, o, cap, rfl, _⟩ := hx
        simp [Builtin.clear_, run_underlying hd]
    · exact hc.elim

theorem boundsOver_sim {len cap : Nat} {lo hi : Option AV} {lo' hi' : Option Value} {K : Nat → Nat → Prop} (h : boundsK cap lo hi K) (hs : hi.isSome = true) (h1 : orel Γ lo lo') (h2 : orel Γ hi hi') :
    ∃ l h, K l h ∧ l ≤ h ∧ h ≤ cap ∧ ∀ w, (Instr.sliceBounds true len cap lo' hi' none).run P w = .ok (l, h, cap) w := by
  obtain ⟨l, hh, a, b, c, d⟩ := bounds_sim (P := P) (b := true) h (Nat.le_refl _) h1 h2
  refine ⟨l, hh, a, b, c, fun w => ?_⟩
  have := d w
  cases hi with
  | none => simp at hs
  | some y =>
    obtain ⟨y', rfl, _⟩ := h2
    unfold Instr.sliceBounds at this ⊢
    exact this

theorem over_sim (hT : TabOK P T) (k : Inv X Γ bx h w) {t : Nat} {x : AV} {x' : Value} {lo hi : Option AV} {lo' hi' : Option Value} {K : AV → Prop} (hc : overK T t x lo hi h K) (hx : vrel Γ x x') (h1 : orel Γ lo lo') (h2 : orel Γ hi hi') :
    ∃ r r', K r ∧ (Instr.sliceAt t x' lo' hi' none).run P w = .ok r' w ∧ vrel Γ r r' ∧ r.owns = false := by
  unfold overK at hc
  cases hg : T.get t with
  | none => rw [hg] at hc; exact hc.elim
  | some ti =>
    rw [hg] at hc
    simp only at hc
    have hd := (hT t ti hg).desc
    split at hc
    · rename_i e id sz off len hdd
      rw [hdd] at hd
      simp only [descOK, vrel] at hd hx
      cases hge : T.get e with
      | none => rw [hge] at hc; exact hc.elim
      | some ei =>
        rw [hge] at hc
        simp only at hc
        have hsz := fun w => (hT e ei hge).sizeOf w
        obtain ⟨hs2, hs0, cs, n, hh, hsome, hc⟩ := hc
        obtain ⟨b, s, cap, hI, rfl, hcap, hcs⟩ := hx
        have hn := (k.objSize hI hh).1
        have hcp : (n - off) / sz = cap := by
          rw [show n - off = cap * sz by omega]
          exact Nat.mul_div_cancel _ (Nat.pos_of_ne_zero hs0)
        rw [hcp] at hc
        -- the bounds of a longer slice
        obtain ⟨l, hh', ⟨hor, hK⟩, hl1, hl2, hrun⟩ := boundsOver_sim (P := P) (len := len) hc hsome h1 h2
        have hr : ∀ w, (Instr.sliceAt t (.slice (some ⟨b, off, none⟩) len cap) lo' hi' none).run P w = .ok (.slice (some (if cap = l then ⟨b, off, none⟩ else (⟨b, off, none⟩ : Addr).add (l * ei.size))) (hh' - l) (cap - l)) w := fun w => by
          simp only [Instr.sliceAt, Sem.run_bind, run_underlying hd, Result.andThen_ok, Instr.slice, hrun w, hsz]
          by_cases hcl : cap = l <;> simp [hcl]
        refine ⟨_, _, hK, hr w, ?_, rfl⟩
        simp only [vrel]
        have e1 : (if cap = l then (⟨b, off, none⟩ : Addr) else (⟨b, off, none⟩ : Addr).add (l * ei.size)) = ⟨b, off + l * sz, none⟩ := by
          rw [hs2, Addr.add_lit]
          split
          · have : l = 0 := by omega
            subst this; simp
          · rfl
        rw [e1]
        have hm : l * sz + (cap - l) * sz = cap * sz := by rw [← Nat.add_mul]; congr 1; omega
        exact ⟨b, s, cap - l, hI, rfl, by omega, by omega⟩
    · exact hc.elim

end
end Go.Ab
end
section
/- Maps. -/
set_option linter.unusedSimpArgs false
set_option linter.unusedVariables false
namespace Go.Ab

def afind (T : Tab) (kt : Nat) (k : AV) : List (AV × AV) → Option (Option (Nat × AV))
  | [] => some none
  | e :: es => match aeq T kt k e.1 with
    | some true => some (some (0, e.2))
    | some false => (match afind T kt k es with
      | some (some (i, v)) => some (some (i + 1, v))
      | some none => some none
      | none => none)
    | none => none

def mapKeyOK (T : Tab) (kt : Nat) (k : AV) : Prop :=
  match T.get kt with
  | none => False
  | some ki => match ki.d, k with
    | .struct _, .agg as => ki.eqk ≠ [] ∧ as.length = ki.eqk.length
    | _, _ => False

def foundV (ok : Bool) (z : AV) : Option (Nat × AV) → AV
  | some (_, v) => if ok then .tup [v, .bool true] else v
  | none => if ok then .tup [z, .bool false] else z

def lookupK (T : Tab) (t : Nat) (x k : AV) (ok : Bool) (h : List AObj) (K : AV → Prop) : Prop :=
  match T.get t with
  | none => False
  | some ti => match ti.d with
    | .map kt et => mapKeyOK T kt k ∧ (match T.get et with
      | none => False
      | some ei => ei.d.isAgg = false ∧ (match ei.zero with
        | [z] => (match x with
          | .nilm => K (foundV ok z none)
          | .map id => ∃ es, h[id]? = some (.map es) ∧ ∃ r, afind T kt k es = some r ∧ K (foundV ok z r)
          | _ => False)
        | _ => False))
    | _ => False

def mapUpdateK (T : Tab) (t : Nat) (m k v : AV) (h : List AObj) (K : List AObj → Prop) : Prop :=
  match T.get t with
  | none => False
  | some ti => match ti.d with
    | .map kt _ => mapKeyOK T kt k ∧ k.nol = true ∧ v.nol = true ∧ (match m with
      | .map id => ∃ es, h[id]? = some (.map es) ∧ ∃ r, afind T kt k es = some r ∧ K (h.set id (.map (match r with | some (i, _) => es.set i (k, v) | none => es ++ [(k, v)])))
      | _ => False)
    | _ => False

section
variable {P : Program} {T : Tab} {Γ : G} {X : Ctx} {bx : List (List AV)} {h : List AObj} {w : World}

theorem descOK.leaf {t : Nat} {d : TD} (hd : descOK P t d) (hs : d.scalar = true) (e : Bool) (n : Nat) (v : Value) (w : World) : (Instr.checkKey e (n + 1) t v).run P w = .ok () w := by
  cases d <;> simp only [TD.scalar] at hs <;> first | (cases hs; done) | (simp only [descOK] at hd; cases v <;> simp [Instr.checkKey, run_underlying hd])

theorem run_checkFields {e : Bool} {n : Nat} {xs : Array Value} : ∀ (fs : List Field) (ks : List TD) (i : Nat) (w : World), fs.length = ks.length → (∀ (j : Nat) (f : Field) (d : TD), fs[j]? = some f → ks[j]? = some d → f.name ≠ "_" ∧ f.offset = i + j ∧ d.scalar = true ∧ descOK P f.type d) →
    i + fs.length ≤ xs.size →
    (forIn fs PUnit.unit (fun f _ =>
      if f.name ≠ "_" then do
        let a ← part f.type xs f.offset
        Instr.checkKey e (n + 1) f.type a
        pure (ForInStep.yield PUnit.unit)
      else pure (ForInStep.yield PUnit.unit)) : Sem PUnit).run P w = .ok PUnit.unit w := by
  intro fs
  induction fs with
  | nil => intro ks i w _ _ _; simp
  | cons f fs ih =>
    intro ks i w hl hf hs
    cases ks with
    | nil => simp at hl
    | cons d ds =>
      obtain ⟨h1, h2, h3, h4⟩ := hf 0 f d (by simp) (by simp)
      simp only [List.length_cons] at hs hl
      have hx : xs[i]? = some xs[i] := Array.getElem?_eq_getElem (by omega)
      rw [List.forIn_cons]
      simp only [ne_eq, h1, not_false_eq_true, if_true, h2, Nat.add_zero, Sem.run_bind, run_part1 h4 h3 hx, Result.andThen_ok, h4.leaf h3, Sem.run_pure]
      have := ih ds (i + 1) w (by omega) (fun j g e hg he => by
        have := hf (j + 1) g e (by simpa using hg) (by simpa using he)
        rw [show i + 1 + j = i + (j + 1) by omega]; exact this) (by omega)
      exact this

theorem run_checkFlat {t : Nat} {ks : List TD} (hf : FlatEq P t ks) {us : Array Value} (hl : us.size = ks.length) (e : Bool) (n : Nat) (w : World) : (Instr.checkKey e (n + 2) t (.agg us)).run P w = .ok () w := by
  obtain ⟨fs, h1, h2, h3⟩ := hf.fields
  have h4 := run_checkFields (P := P) (e := e) (n := n) (xs := us) fs.toList ks 0 w (by simpa using h2) (fun j f d hj hd => by
    have := h3 j f d (by simpa using hj) hd
    simpa using this) (by simp; omega)
  rw [Instr.checkKey.eq_def]
  simp only [Sem.run_bind, run_underlying h1, Result.andThen_ok]
  rw [← Array.forIn_toList]
  rw [h4]
  simp

/-- Cells that '==' finds alike are alike. -/
theorem aeq1qtrue {d : TD} {a b : AV} {u v : Value} (h : aeq1 d a b = some true) (ha : vrel Γ a u) (hb : vrel Γ b v) : u = v ∧ ∀ n, Instr.sameBits n u u = true := by
  unfold aeq1 at h
  split at h
  · split at h
    · rename_i hk
      simp only [Option.some.injEq, decide_eq_true_eq] at h
      subst hk h
      simp only [vrel] at ha hb
      subst ha hb
      exact ⟨rfl, fun n => by cases n <;> simp [Instr.sameBits]⟩
    · cases h
  · simp only [Option.some.injEq, beq_iff_eq] at h
    subst h
    simp only [vrel] at ha hb
    subst ha hb
    exact ⟨rfl, fun n => by cases n <;> simp [Instr.sameBits]⟩
  · simp only [Option.some.injEq, decide_eq_true_eq] at h
    subst h
    simp only [vrel] at ha hb
    subst ha hb
    exact ⟨rfl, fun n => by cases n <;> simp [Instr.sameBits, MapKept.bytes_beq]⟩
  · cases h
theorem aeqs_true {ks : List TD} : ∀ {as bs : List AV} {us vs : List Value}, aeqs ks as bs = some true → lrel Γ as us → lrel Γ bs vs → us = vs ∧ ∀ n, (us.zip us).all (fun (x, y) => Instr.sameBits n x y) = true := by
  induction ks with
  | nil =>
    intro as bs us vs h ha hb
    cases as <;> cases bs <;> simp [aeqs] at h
    simp only [lrel] at ha hb
    subst ha hb
    simp
  | cons d ds ih =>
    intro as bs us vs h ha hb
    cases as with
    | nil => simp [aeqs] at h
    | cons a as =>
      cases bs with
      | nil => simp [aeqs] at h
      | cons b bs =>
        simp only [lrel] at ha hb
        obtain ⟨u, us', rfl, ha1, ha2⟩ := ha
        obtain ⟨v, vs', rfl, hb1, hb2⟩ := hb
        have key : aeq1 d a b = some true ∧ aeqs ds as bs = some true := by
          by_cases hd : ds = [] ∧ as = [] ∧ bs = []
          · obtain ⟨rfl, rfl, rfl⟩ := hd
            simp only [aeqs] at h
            exact ⟨h, by simp [aeqs]⟩
          · have : aeqs (d :: ds) (a :: as) (b :: bs) = (match aeq1 d a b, aeqs ds as bs with | some x, some y => some (x && y) | _, _ => none) := by
              cases ds <;> cases as <;> cases bs <;> first | rfl | (simp at hd)
            rw [this] at h
            split at h
            · rename_i x y hx hy
              simp only [Option.some.injEq, Bool.and_eq_true] at h
              obtain ⟨rfl, rfl⟩ := h
              exact ⟨hx, hy⟩
            · cases h
        obtain ⟨rfl, h1⟩ := aeq1qtrue key.1 ha1 hb1
        obtain ⟨rfl, h2⟩ := ih key.2 ha2 hb2
        exact ⟨rfl, fun n => by simp [h1 n, h2 n]⟩

/-- The kind of a map's keys. -/
theorem mapKeyOK.flat (hT : TabOK P T) {kt : Nat} {k : AV} (h : mapKeyOK T kt k) : ∃ as ki ks fields, k = .agg as ∧ T.get kt = some ki ∧ ki.eqk = ks ∧ FlatEq P kt ks ∧ as.length = ks.length ∧ P.underlying kt = some (.struct fields) ∧ ∃ fs, ki.d = .struct fs := by
  unfold mapKeyOK at h
  cases hg : T.get kt with
  | none => rw [hg] at h; exact h.elim
  | some ki =>
    rw [hg] at h
    simp only at h
    split at h
    · rename_i fs as hd
      have hd2 := (hT kt ki hg).desc
      rw [hd] at hd2
      simp only [descOK] at hd2
      obtain ⟨fields, hu, _⟩ := hd2
      exact ⟨as, ki, ki.eqk, fields, rfl, rfl, rfl, (hT kt ki hg).eq h.1, h.2, hu, fs, hd⟩
    · exact h.elim

/-- The first entry with a key. -/
theorem find_sim (hT : TabOK P T) {kt : Nat} {k : AV} {k' : Value} (hk : mapKeyOK T kt k) (hk' : vrel Γ k k') : ∀ (es : List (AV × AV)) (ents : List MapEntry) (r : Option (Nat × AV)) (i : Nat),
    afind T kt k es = some r → ents.length = es.length → (∀ (j : Nat) (e : AV × AV), es[j]? = some e → ∃ x : MapEntry, ents[j]? = some x ∧ vrel Γ e.1 x.key ∧ vrel Γ e.2 x.val) →
    ∃ r', (∀ w, (Instr.findAsking kt k' ents i).run P w = .ok r' w) ∧
      (match r, r' with
        | none, none => True
        | some (j, v), some (j', v') => j' = i + j ∧ vrel Γ v v' ∧ ∃ x : MapEntry, ents[j]? = some x ∧ x.key = k' ∧ x.val = v' ∧ ∀ n, Instr.sameBits (n + 1) k' k' = true
        | _, _ => False) := by
  obtain ⟨as, ki, ks, fields, rfl, hg, hks, hf, hl, hu, fs, hd⟩ := hk.flat hT
  have hk0 := hk'
  simp only [vrel] at hk'
  obtain ⟨us, rfl, hus⟩ := hk'
  intro es
  induction es with
  | nil =>
    intro ents r i h he hr
    have : ents = [] := List.eq_nil_of_length_eq_zero (by simpa using he)
    subst this
    simp only [afind, Option.some.injEq] at h
    subst h
    exact ⟨none, fun w => by simp [Instr.findAsking], trivial⟩
  | cons e es ih =>
    intro ents r i h he hr
    cases ents with
    | nil => simp at he
    | cons x ents =>
      obtain ⟨x', hx', hkey, hval⟩ := hr 0 e (by simp)
      simp only [List.getElem?_cons_zero, Option.some.injEq] at hx'
      subst hx'
      have hrest : ∀ (j : Nat) (e : AV × AV), es[j]? = some e → ∃ x : MapEntry, ents[j]? = some x ∧ vrel Γ e.1 x.key ∧ vrel Γ e.2 x.val := fun j e hj => by simpa using hr (j + 1) e (by simpa using hj)
      simp only [afind] at h
      have heq : ∀ b, aeq T kt (.agg as) e.1 = some b → ∃ bs vs, x.key = .agg vs ∧ aeqs ks as bs = some b ∧ lrel Γ bs vs.toList ∧ ∀ w, (Op.equal kt (.agg us) x.key).run P w = .ok b w := fun b hb => by
        unfold aeq at hb
        rw [hg] at hb
        simp only [hd] at hb
        split at hb <;> rename_i heq1 heq2 heq3
        all_goals first | (cases hb; done) | (cases heq1; done) | skip
        · simp only [AV.agg.injEq] at heq2
          subst heq2
          rw [heq3] at hkey
          simp only [vrel] at hkey
          obtain ⟨vs, hv, hvs⟩ := hkey
          rw [hks] at hb
          split at hb
          · cases hb
          · exact ⟨_, vs, hv, hb, hvs, fun w => by rw [hv]; exact run_eqAgg (n := 9998) hf hb hus hvs w⟩
      split at h
      · rename_i hb
        simp only [Option.some.injEq] at h
        subst h
        obtain ⟨bs, vs, hv, h1, h2, h3⟩ := heq true hb
        obtain ⟨e1, e2⟩ := aeqs_true h1 hus h2
        have : us = vs := Array.ext' e1
        subst this
        refine ⟨some (i, x.val), fun w => by simp [Instr.findAsking, h3], by simp, hval, x, by simp, hv, rfl, fun n => ?_⟩
        simp only [Instr.sameBits, beq_self_eq_true, Bool.true_and]
        exact e2 n
      · rename_i hb
        obtain ⟨bs, vs, hv, h1, h2, h3⟩ := heq false hb
        split at h
        · rename_i j v hj
          simp only [Option.some.injEq] at h
          subst h
          obtain ⟨r', g1, g2⟩ := ih ents _ (i + 1) hj (by simpa using he) hrest
          cases r' with
          | none => exact g2.elim
          | some p =>
            obtain ⟨j', v'⟩ := p
            simp only at g2
            obtain ⟨g3, g4, x', g5, g6, g7, g8⟩ := g2
            refine ⟨some (j', v'), fun w => by simp [Instr.findAsking, h3, g1], by omega, g4, x', by simpa using g5, g6, g7, g8⟩
        · rename_i hj
          simp only [Option.some.injEq] at h
          subst h
          obtain ⟨r', g1, g2⟩ := ih ents _ (i + 1) hj (by simpa using he) hrest
          cases r' with
          | none => exact ⟨none, fun w => by simp [Instr.findAsking, h3, g1], trivial⟩
          | some p => exact g2.elim
        · cases h
      · cases h

theorem findKey_sim (hT : TabOK P T) {kt : Nat} {k : AV} {k' : Value} (hk : mapKeyOK T kt k) (hk' : vrel Γ k k') {es : List (AV × AV)} {ents : List MapEntry} {r : Option (Nat × AV)}
    (h : afind T kt k es = some r) (he : ents.length = es.length) (hr : ∀ (j : Nat) (e : AV × AV), es[j]? = some e → ∃ x : MapEntry, ents[j]? = some x ∧ vrel Γ e.1 x.key ∧ vrel Γ e.2 x.val) :
    ∃ r', (∀ w, (Instr.findKey kt k' ents).run P w = .ok r' w) ∧
      (match (generalizing := false) r, r' with
        | none, none => True
        | some (j, v), some (j', v') => j' = j ∧ vrel Γ v v' ∧ ∃ x : MapEntry, ents[j]? = some x ∧ x.key = k' ∧ x.val = v' ∧ ∀ n, Instr.sameBits (n + 1) k' k' = true
        | _, _ => False) := by
  obtain ⟨r', g1, g2⟩ := find_sim hT hk hk' es ents r 0 h he hr
  obtain ⟨as, ki, ks, fields, rfl, hg, hks, hf, hl, hu, fs, hd⟩ := hk.flat hT
  refine ⟨r', fun w => ?_, ?_⟩
  · cases ents with
    | nil =>
      have := g1 w
      simp [Instr.findAsking] at this
      simp [Instr.findKey, run_underlying hu, Instr.findNow, this]
    | cons x ents =>
      have : Instr.findNow (.struct fields) k' (x :: ents) 0 = none := by simp [Instr.findNow, Instr.sameNow]
      simp [Instr.findKey, run_underlying hu, this, g1]
  · cases r with
    | none => cases r' <;> exact g2
    | some p =>
      cases r' with
      | none => exact g2
      | some q => simpa using g2

theorem Inv.mapRow (k : Inv X Γ bx h w) {id b s : Nat} {es : List (AV × AV)} (hI : Γ.I id = some (b, s)) (hh : h[id]? = some (.map es)) : Γ.O b = some (.obj id) ∧ MapOK Γ.noL w b es ∧ ∀ o, Γ.F b o = none := by
  have hl : live h id = true := by simp [live, hh, AObj.live]
  have ho := k.Ilive id b s hI hl
  have hb := k.O b
  unfold BlockOK at hb
  rw [ho] at hb
  obtain ⟨s', o, h1, h2, h3⟩ := hb
  rw [hh] at h2
  simp only [Option.some.injEq] at h2
  subst h2
  exact ⟨ho, h3.1, h3.2⟩

theorem lookup_sim (hT : TabOK P T) (k : Inv X Γ bx h w) {t : Nat} {x y : AV} {ok : Bool} {x' y' : Value} {K : AV → Prop} (hc : lookupK T t x y ok h K) (hx : vrel Γ x x') (hy : vrel Γ.noL y y') :
    ∃ r r', K r ∧ (Instr.lookup t x' y' ok).run P w = .ok r' w ∧ vrel Γ r r' := by
  unfold lookupK at hc
  cases hg : T.get t with
  | none => rw [hg] at hc; exact hc.elim
  | some ti =>
    rw [hg] at hc
    simp only at hc
    have hd := (hT t ti hg).desc
    split at hc
    · rename_i kt et hdd
      rw [hdd] at hd
      simp only [descOK] at hd
      obtain ⟨hk, hc⟩ := hc
      obtain ⟨as, ki, ks, fields, rfl, hgk, hks, hf, hl, hu, fs, hdk⟩ := hk.flat hT
      cases hge : T.get et with
      | none => rw [hge] at hc; exact hc.elim
      | some ei =>
        rw [hge] at hc
        simp only at hc
        obtain ⟨hagg, hc⟩ := hc
        obtain ⟨i, z0, hi, e1, e2, hz0, hzr, hz1, hz3, hz2⟩ := (hT et ei hge).info
        split at hc
        · rename_i z hz
          have hz4 := hz3 hagg
          have hzl := hzr (by rw [hz]; simp) Γ
          rw [hz] at hzl
          have hcells : z0.cells = #[z0] := by cases z0 <;> first | rfl | simp [Value.oneCell'] at hz4
          simp only [hcells, lrel] at hzl
          obtain ⟨v, vs', hv, hzv, hvs⟩ := hzl
          simp only [List.cons.injEq] at hv
          obtain ⟨rfl, rfl⟩ := hv
          have hzero : ∀ w, (zeroValue et).run P w = .ok z0 w := fun w => by simp [zeroValue, typeInfo, hi, hz0]
          have hy0 := hy
          simp only [vrel] at hy
          obtain ⟨us, rfl, hus⟩ := hy
          have hul : us.size = ks.length := by have := lrel_length hus; simp at this; omega
          have hchk : ∀ e w, (Instr.checkKey e 10000 kt (.agg us)).run P w = .ok () w := fun e w => run_checkFlat (n := 9998) hf hul e w
          have hnone : vrel Γ (foundV ok z none) (if ok then .tuple #[z0, .bool false] else z0) := by
            cases ok
            · simpa [foundV] using hzv
            · simp [foundV, vrel, lrel, hzv]
          split at hc
          · simp only [vrel] at hx
            subst hx
            refine ⟨_, _, hc, ?_, hnone⟩
            simp [Instr.lookup, run_underlying hd, hchk, Instr.findKey, run_underlying hu, Instr.findNow, hzero]
          · rename_i id
            obtain ⟨es, hh, r, hr, hK⟩ := hc
            simp only [vrel] at hx
            obtain ⟨b, s, hI, rfl⟩ := hx
            obtain ⟨ho, ⟨ents, clock, hb, hsz, hes⟩, _⟩ := k.mapRow hI hh
            obtain ⟨r', g1, g2⟩ := findKey_sim (Γ := Γ.noL) hT hk hy0 hr (ents := ents.toList) (by simpa using hsz) (fun j e hj => by simpa using hes j e hj)
            have hget := MapKept.run_getObj_map (P := P) hb
            cases r with
            | none =>
              cases r' with
              | none => exact ⟨_, _, hK, by simp [Instr.lookup, run_underlying hd, hget, hchk, g1, hzero], hnone⟩
              | some p => exact g2.elim
            | some p =>
              cases r' with
              | none => exact g2.elim
              | some q =>
                obtain ⟨j, v⟩ := p
                obtain ⟨j', v'⟩ := q
                simp only at g2
                obtain ⟨rfl, g3, _⟩ := g2
                have g3' := vrel_mono (Ext.of_noL Γ) _ _ g3
                refine ⟨_, _, hK, by simp [Instr.lookup, run_underlying hd, hget, hchk, g1]; rfl, ?_⟩
                cases ok
                · simpa [foundV] using g3'
                · simp [foundV, vrel, lrel, g3']
          · exact hc.elim
        · exact hc.elim
    · exact hc.elim

theorem mapUpdate_sim (hT : TabOK P T) (k : Inv X Γ bx h w) {t : Nat} {m y v : AV} {m' y' v' : Value} {K : List AObj → Prop} (hc : mapUpdateK T t m y v h K) (hm : vrel Γ m m') (hy : vrel Γ y y') (hv : vrel Γ v v') :
    ∃ h' w', K h' ∧ (Instr.mapUpdate t m' y' v').run P w = .ok () w' ∧ Inv X Γ bx h' w' := by
  unfold mapUpdateK at hc
  cases hg : T.get t with
  | none => rw [hg] at hc; exact hc.elim
  | some ti =>
    rw [hg] at hc
    simp only at hc
    have hd := (hT t ti hg).desc
    split at hc
    · rename_i kt et hdd
      rw [hdd] at hd
      simp only [descOK] at hd
      obtain ⟨hk, hkn, hvn, hc⟩ := hc
      have hyn := vrel_nol _ _ hkn hy
      have hvn := vrel_nol _ _ hvn hv
      obtain ⟨as, ki, ks, fields, rfl, hgk, hks, hf, hl, hu, fs, hdk⟩ := hk.flat hT
      have hy0 := hyn
      simp only [vrel] at hyn
      obtain ⟨us, rfl, hus⟩ := hyn
      have hul : us.size = ks.length := by have := lrel_length hus; simp at this; omega
      have hchk : ∀ e w, (Instr.checkKey e 10000 kt (.agg us)).run P w = .ok () w := fun e w => run_checkFlat (n := 9998) hf hul e w
      split at hc
      · rename_i id
        obtain ⟨es, hh, r, hr, hK⟩ := hc
        simp only [vrel] at hm
        obtain ⟨b, s, hI, rfl⟩ := hm
        obtain ⟨ho, ⟨ents, clock, hb, hsz, hes⟩, hF⟩ := k.mapRow hI hh
        obtain ⟨r', g1, g2⟩ := findKey_sim (Γ := Γ.noL) hT hk hy0 hr (ents := ents.toList) (by simpa using hsz) (fun j e hj => by simpa using hes j e hj)
        have hget := MapKept.run_getObj_map (P := P) hb
        have hset : ∀ o, (setObj b o).run P w = .ok () { w with heap := w.heap.setIfInBounds b o } := fun o => MapKept.run_setObj_map (P := P) o hb
        have hid : id < h.length := (List.getElem?_eq_some_iff.1 hh).1
        have hbs := (Array.getElem?_eq_some_iff.1 hb).1
        have upd : ∀ (es' : List (AV × AV)) (ents' : Array MapEntry) (c' : Nat), ents'.size = es'.length → (∀ (j : Nat) (e : AV × AV), es'[j]? = some e → ∃ x : MapEntry, ents'[j]? = some x ∧ vrel Γ.noL e.1 x.key ∧ vrel Γ.noL e.2 x.val) →
            Inv X Γ bx (h.set id (.map es')) { w with heap := w.heap.setIfInBounds b (.map ents' c') } := fun es' ents' c' hs' he' => by
          have hlive : ∀ id', live (h.set id (.map es')) id' = true → live h id' = true := fun id' hl' => by
            by_cases e : id' = id
            · subst e; simp [live, hh, AObj.live]
            · simpa [live, List.getElem?_set_ne (Ne.symm e)] using hl'
          refine k.update (fun x => x = b) (Ext.refl Γ) (fun x hx => .inl ?_) (fun x _ => rfl) (fun x o _ => rfl) (fun x o v hx hv => by subst hx; rw [hF o] at hv; cases hv)
            (fun x hx hn => by subst hx; have := (k.N x hn).2.1; rw [ho] at this; cases this) (fun j x hx hj => rfl) (fun i' j tip s x x' hx ho' => by subst hx; rw [ho] at ho'; cases ho') (fun id' x hx hid' => ?_)
            (fun x hx => ?_) (fun x o hx ho' => by subst hx; simpa using k.Olt _ _ ho') (fun id' p hp => by simpa using k.Ilt id' p hp) (fun id' x s' hx hl' => k.Ilive id' x s' hx (hlive id' hl')) k.L rfl rfl rfl (by simp)
          · simp only
            rw [Array.getElem?_setIfInBounds_ne (Ne.symm hx)]
          · rw [List.getElem?_set_ne]
            intro e
            subst e
            have hx' := k.O x
            unfold BlockOK at hx'
            rw [hid'] at hx'
            obtain ⟨s', o', h2, _⟩ := hx'
            rw [hI] at h2
            simp only [Option.some.injEq, Prod.mk.injEq] at h2
            exact hx h2.1.symm
          · subst hx
            unfold BlockOK
            rw [ho]
            exact ⟨s, .map es', hI, by rw [List.getElem?_set_self hid], ⟨ents', c', by simp [hbs], hs', he'⟩, hF⟩
        cases r with
        | none =>
          cases r' with
          | none =>
            refine ⟨_, _, hK, by simp [Instr.mapUpdate, run_underlying hd, hget, hchk, g1, hset]; rfl, upd _ _ _ (by simp [hsz]) (fun j e hj => ?_)⟩
            rw [Array.getElem?_push]
            rw [List.getElem?_append] at hj
            split at hj
            · rename_i hlt
              rw [if_neg (by omega)]
              exact hes j e hj
            · rename_i hge
              have hlt := (List.getElem?_eq_some_iff.1 hj).1
              simp only [List.length_singleton] at hlt
              have hj0 : j = ents.size := by omega
              subst hj0
              rw [if_pos rfl]
              have : ents.size - es.length = 0 := by omega
              rw [this] at hj
              simp only [List.getElem?_cons_zero, Option.some.injEq] at hj
              subst hj
              exact ⟨_, rfl, hy0, hvn⟩
          | some p => exact g2.elim
        | some p =>
          cases r' with
          | none => exact g2.elim
          | some q =>
            obtain ⟨j, v1⟩ := p
            obtain ⟨j', v1'⟩ := q
            simp only at g2
            obtain ⟨rfl, g3, x, g4, g5, g6, g7⟩ := g2
            have hx : ents[j']? = some x := by simpa using g4
            refine ⟨_, _, hK, by simp [Instr.mapUpdate, run_underlying hd, hget, hchk, g1, hx, g5, Instr.keyThatStays, g7 9999, hset]; rfl, upd _ _ _ (by simp [hsz]) (fun i e hi => ?_)⟩
            rw [Array.getElem?_modify]
            rw [List.getElem?_set] at hi
            split at hi
            · rename_i hji
              split at hi
              · simp only [Option.some.injEq] at hi
                subst hi hji
                rw [if_pos rfl, hx]
                exact ⟨_, rfl, hy0, hvn⟩
              · cases hi
            · rename_i hji
              rw [if_neg hji]
              exact hes i e hi
      · exact hc.elim
    · exact hc.elim

end
end Go.Ab
end
section
/- New memory: variables, slices with given elements, maps. -/
set_option linter.unusedSimpArgs false
set_option linter.unusedVariables false
namespace Go.Ab

/-- A new variable with these cells: told among the objects, or among the boxes. -/
def newK (heap : Bool) (cs : List AV) (bx : List (List AV)) (h : List AObj) (K : AV → List (List AV) → List AObj → Prop) : Prop :=
  cs.all AV.one = true ∧ (if heap then cs.all AV.nol = true ∧ K (.mptr h.length 0) bx (h ++ [.cells (cs.map AV.un) cs.length]) else K (.lptr bx.length 0) (bx ++ [cs.map AV.un]) h)

def allocK (T : Tab) (heap : Bool) (t : Nat) (bx : List (List AV)) (h : List AObj) (K : AV → List (List AV) → List AObj → Prop) : Prop :=
  match T.get t with
  | none => False
  | some ti => ti.zero ≠ [] ∧ newK heap ti.zero bx h K

def boxK (T : Tab) (heap : Bool) (t : Nat) (x : AV) (bx : List (List AV)) (h : List AObj) (K : AV → List (List AV) → List AObj → Prop) : Prop :=
  newK heap x.cells bx h K

def chunks (sz : Nat) : Nat → List AV → List (List AV)
  | 0, _ => []
  | n + 1, l => l.take sz :: chunks sz n (l.drop sz)

def buildSliceK (T : Tab) (mu : Bool) (t : Nat) (len : Nat) (parts : List (Nat × AV)) (h : List AObj) (K : AV → List AObj → Prop) : Prop :=
  match T.get t with
  | none => False
  | some ti => match ti.d with
    | .slice e => (match T.get e with
      | none => False
      | some ei => len * ei.size ≤ 16777216 ∧ ei.zero ≠ [] ∧ ei.zero.length = ei.size ∧ (parts.all fun p => p.2.cells.all AV.one) = true ∧ (match fillA (fun i => some (i * ei.size, ei.size)) (List.replicate len ei.zero).flatten parts with
        | none => False
        | some cs => cs.all AV.one = true ∧ cs.all AV.nol = true ∧ cs.length = len * ei.size ∧ (if mu then K (.msl h.length ei.size 0 len) (h ++ [.cells (cs.map AV.un) (len * ei.size)]) else K (.sl false ei.size (chunks ei.size len cs) .full) h)))
    | _ => False

def makeMapK (h : List AObj) (K : AV → List AObj → Prop) : Prop := K (.map h.length) (h ++ [.map []])

section
variable {P : Program} {T : Tab} {Γ : G} {X : Ctx} {bx : List (List AV)} {h : List AObj} {w : World}

theorem chunks_flatten {sz : Nat} : ∀ {n : Nat} {l : List AV}, l.length = n * sz → (chunks sz n l).flatten = l ∧ (∀ c ∈ chunks sz n l, c.length = sz) ∧ (chunks sz n l).length = n
  | 0, l, h => by
    have : l = [] := List.eq_nil_of_length_eq_zero (by simpa using h)
    simp [chunks, this]
  | n + 1, l, h => by
    rw [Nat.add_mul] at h
    obtain ⟨h1, h2, h3⟩ := chunks_flatten (sz := sz) (n := n) (l := l.drop sz) (by simp; omega)
    refine ⟨by simp [chunks, h1], ?_, by simp [chunks, h3]⟩
    intro c hc
    simp only [chunks, List.mem_cons] at hc
    rcases hc with rfl | hc
    · simp; omega
    · exact h2 c hc

theorem all_get {p : AV → Bool} {cs : List AV} (h : cs.all p = true) {j : Nat} {a : AV} (hj : cs[j]? = some a) : p a = true := List.all_eq_true.1 h a (List.mem_of_getElem? hj)

theorem lrel_un : ∀ {as : List AV} {vs : List Value}, lrel Γ as vs → lrel Γ (as.map AV.un) vs
  | [], vs, h => by simpa [lrel] using h
  | a :: as, vs, h => by
    simp only [lrel, List.map_cons] at h ⊢
    obtain ⟨v, vs', h1, h2, h3⟩ := h
    exact ⟨v, vs', h1, vrel_un h2, lrel_un h3⟩
theorem nols_all : ∀ {as : List AV}, as.all AV.nol = true → AV.nol.nols as = true
  | [], _ => rfl
  | a :: as, h => by
    simp only [List.all_cons, Bool.and_eq_true] at h
    simp [AV.nol.nols, h.1, nols_all h.2]

theorem ones_of {as : List AV} {vs : List Value} (hl : lrel Γ as vs) (ho : as.all AV.one = true) : ∀ v ∈ vs, v.oneCell' = true := by
  intro v hv
  obtain ⟨j, hj, rfl⟩ := List.getElem_of_mem hv
  have hlen := lrel_length hl
  obtain ⟨y, e1, e2⟩ := lrel_get hl (List.getElem?_eq_getElem (show j < as.length by omega))
  rw [List.getElem?_eq_getElem hj] at e1
  simp only [Option.some.injEq] at e1
  rw [e1]
  exact vrel_one e2 (all_get ho (List.getElem?_eq_getElem (show j < as.length by omega)))

/-- What a step leaves of who owns what: all that others hold, at slots. -/
theorem new_sim (k : Inv X Γ bx h w) {heap : Bool} {cs : List AV} {c : Array Value} {e : TypeId} {K : AV → List (List AV) → List AObj → Prop} (hk : newK heap cs bx h K) (hl : lrel Γ cs c.toList) :
    ∃ r bx' h' Γ', K r bx' h' ∧ Inv X Γ' bx' h' (w.alloc (.cells c e)) ∧ Ext Γ Γ' ∧ Keeps Γ Γ' none ∧ vrel Γ' r (.pointer (some ⟨w.heap.size, 0, none⟩)) ∧ r.owns = false := by
  obtain ⟨hone, hk⟩ := hk
  have ho := ones_of hl hone
  have hlen : cs.length = c.size := by simpa using lrel_length hl
  cases heap with
  | true =>
    simp only [if_true] at hk
    obtain ⟨hnol, hk⟩ := hk
    have hln : lrel Γ.noL (cs.map AV.un) c.toList := lrel_un (lrel_nol _ _ (nols_all hnol) hl)
    have hE := Ext.addObj k.freshI w.heap.size c.size
    have hrow := rowOK_rest (w := w.alloc (.cells c e)) (alloc_new _) (vs := c.toList) (r := []) (by simp) (lrel_mono hE.noL _ _ hln) ho (by simp) (m := 0) (by simp)
    simp only [List.replicate_zero, List.append_nil] at hrow
    have hok : ObjOK X (Γ.addObj h.length w.heap.size c.size) (w.alloc (.cells c e)) w.heap.size c.size (.cells (cs.map AV.un) c.size) := ⟨rfl, hrow, fun o => k.freshF o⟩
    rw [hlen] at hk
    refine ⟨_, _, _, _, hk, k.allocObj hok, hE, fresh_keeps k (fun b hb => by simp only [G.addObj]; rw [if_neg hb]) none, ?_, rfl⟩
    simp only [vrel]
    exact ⟨w.heap.size, c.size, by simp [G.addObj], rfl⟩
  | false =>
    simp only [Bool.false_eq_true, if_false] at hk
    have k1 := k.moreBox (cs.map AV.un)
    have hL : Γ.L bx.length = none := by
      cases hL : Γ.L bx.length with
      | none => rfl
      | some b => exact absurd (k.L _ _ hL).1 (Nat.lt_irrefl _)
    have hinv := k1.allocBox (i := bx.length) (cs := cs.map AV.un) (c := c) (e := e) (by simp) hL (by simp [hlen]) (fun j a hj => by
      simp only [List.getElem?_map, Option.map_eq_some_iff] at hj
      obtain ⟨a0, hj, rfl⟩ := hj
      obtain ⟨v, e1, e2⟩ := lrel_get hl hj
      exact ⟨v, by simpa using e1, ho v (List.mem_of_getElem? e1), vrel_un e2, un_owns _⟩)
    refine ⟨_, _, _, _, hk, hinv, Ext.addBox hL _, fresh_keeps k (fun b hb => by simp only [G.addBox]; rw [if_neg hb]) none, ?_, rfl⟩
    simp only [vrel]
    exact ⟨w.heap.size, by simp [G.addBox], rfl⟩

theorem alloc_sim (hT : TabOK P T) (k : Inv X Γ bx h w) {heap : Bool} {t : Nat} {K : AV → List (List AV) → List AObj → Prop} (hk : allocK T heap t bx h K) :
    ∃ r bx' h' r' w' Γ', K r bx' h' ∧ (Instr.alloc t true (.tuple #[])).run P w = .ok r' w' ∧ Inv X Γ' bx' h' w' ∧ Ext Γ Γ' ∧ Keeps Γ Γ' none ∧ vrel Γ' r r' ∧ r.owns = false := by
  unfold allocK at hk
  cases hg : T.get t with
  | none => rw [hg] at hk; exact hk.elim
  | some ti =>
    rw [hg] at hk
    obtain ⟨hne, hk⟩ := hk
    obtain ⟨i, z0, hi, e1, e2, hz0, hzr, hz1, hz3, hz2⟩ := (hT t ti hg).info
    obtain ⟨r, bx', h', Γ', g1, g2, g3, g4, g5, g6⟩ := new_sim k (e := t) hk (hzr hne Γ)
    exact ⟨r, bx', h', _, _, Γ', g1, by simp [Instr.alloc, zeroValue, typeInfo, hi, hz0, newVar, newRow], g2, g3, g4, g5, g6⟩

theorem box_sim (k : Inv X Γ bx h w) {heap : Bool} {t : Nat} {x : AV} {x' : Value} {K : AV → List (List AV) → List AObj → Prop} (hk : boxK T heap t x bx h K) (hx : vrel Γ x x') :
    ∃ r bx' h' r' w' Γ', K r bx' h' ∧ (Instr.box t x').run P w = .ok r' w' ∧ Inv X Γ' bx' h' w' ∧ Ext Γ Γ' ∧ Keeps Γ Γ' none ∧ vrel Γ' r r' ∧ r.owns = false := by
  obtain ⟨r, bx', h', Γ', g1, g2, g3, g4, g5, g6⟩ := new_sim k (e := t) hk (vrel_cells hx hk.1)
  exact ⟨r, bx', h', _, _, Γ', g1, by simp [Instr.box, newVar, newRow], g2, g3, g4, g5, g6⟩

theorem makeMap_sim (k : Inv X Γ bx h w) {t : Nat} {K : AV → List AObj → Prop} (hk : makeMapK h K) :
    ∃ r h' r' w' Γ', K r h' ∧ (Instr.makeMap t none).run P w = .ok r' w' ∧ Inv X Γ' bx h' w' ∧ Ext Γ Γ' ∧ Keeps Γ Γ' none ∧ vrel Γ' r r' ∧ r.owns = false := by
  have hE := Ext.addObj k.freshI w.heap.size 0
  have hok : ObjOK X (Γ.addObj h.length w.heap.size 0) (w.alloc (.map #[] 0)) w.heap.size 0 (.map []) := ⟨⟨#[], 0, alloc_new _, rfl, by simp⟩, fun o => k.freshF o⟩
  refine ⟨_, _, _, _, _, hk, by simp [Instr.makeMap]; rfl, k.allocObj hok, hE, fresh_keeps k (fun b hb => by simp only [G.addObj]; rw [if_neg hb]) none, ?_, rfl⟩
  simp only [vrel]
  exact ⟨w.heap.size, 0, by simp [G.addObj], rfl⟩

theorem buildSlice_sim (hT : TabOK P T) (k : Inv X Γ bx h w) {mu : Bool} {t len : Nat} {parts : List (Nat × AV)} {parts' : Array (Nat × Value)} {K : AV → List AObj → Prop} (hk : buildSliceK T mu t len parts h K)
    (hl : parts.length = parts'.size) (hp : ∀ (j : Nat) (p : Nat × AV), parts[j]? = some p → ∃ v, parts'[j]? = some (p.1, v) ∧ vrel Γ p.2 v) :
    ∃ r h' r' w' Γ', K r h' ∧ (Instr.buildSlice t len parts').run P w = .ok r' w' ∧ Inv X Γ' bx h' w' ∧ Ext Γ Γ' ∧ Keeps Γ Γ' none ∧ vrel Γ' r r' ∧ r.owns = false := by
  unfold buildSliceK at hk
  cases hg : T.get t with
  | none => rw [hg] at hk; exact hk.elim
  | some ti =>
    rw [hg] at hk
    simp only at hk
    have hd := (hT t ti hg).desc
    split at hk
    · rename_i e hdd
      rw [hdd] at hd
      simp only [descOK] at hd
      cases hge : T.get e with
      | none => rw [hge] at hk; exact hk.elim
      | some ei =>
        rw [hge] at hk
        simp only at hk
        obtain ⟨hsm, hne, hzl, hone, hk⟩ := hk
        obtain ⟨i, z0, hi, e1, e2, hz0, hzr, hz1, hz3, hz2⟩ := (hT e ei hge).info
        split at hk
        · exact hk.elim
        · rename_i cs hf
          obtain ⟨hc1, hc2, hc3, hk⟩ := hk
          have hzz := lrel_zeroCells (hzr hne Γ) len
          obtain ⟨r', hr1, hr2⟩ := fill_sim (Γ := Γ) parts parts'.toList (List.replicate len ei.zero).flatten (Builtin.zeroCells z0.cells len) cs hf hzz (by simpa using hl) (fun j p hj => by simpa using hp j p hj) (List.all_eq_true.1 hone)
          have hrun : (Instr.buildSlice t len parts').run P w = .ok (.slice (some ⟨w.heap.size, 0, none⟩) len len) (w.alloc (.cells r' e)) := by
            have hsm' : ¬ (16777216 < len * i.size) := by rw [e1]; omega
            have hr0 : Array.range 0 = #[] := rfl
            by_cases h0 : len * i.size = 0
            · have hz : (Builtin.zeroCells z0.cells len) = #[] := by
                apply Array.eq_empty_of_size_eq_zero
                rw [size_zeroCells, hz2, ← e1, h0]
              rw [hz, ← e1] at hr1
              simp [Instr.buildSlice, run_underlying hd, sizeOf, typeInfo, hi, hsm', h0, newRow, hr0, hr1]
            · have hz : (Array.range (len * i.size)).map (fun x => z0.cells[x % z0.cells.size]!) = Builtin.zeroCells z0.cells len := by
                simp [Builtin.zeroCells, hz2, e1]
              rw [← hz, ← e1] at hr1
              simp [Instr.buildSlice, run_underlying hd, sizeOf, typeInfo, zeroValue, hi, hz0, hsm', h0, newRow, hr1]
          have hlen : cs.length = r'.size := by simpa using lrel_length hr2
          have ho := ones_of hr2 hc1
          have hln := lrel_nol _ _ (nols_all hc2) hr2
          cases mu with
          | true =>
            simp only [if_true] at hk
            have hE := Ext.addObj k.freshI w.heap.size r'.size
            have hrow := rowOK_rest (w := w.alloc (.cells r' e)) (alloc_new _) (vs := r'.toList) (r := []) (by simp) (lrel_mono hE.noL _ _ (lrel_un hln)) ho (by simp) (m := 0) (by simp)
            simp only [List.replicate_zero, List.append_nil] at hrow
            have hok : ObjOK X (Γ.addObj h.length w.heap.size r'.size) (w.alloc (.cells r' e)) w.heap.size r'.size (.cells (cs.map AV.un) r'.size) := ⟨rfl, hrow, fun o => k.freshF o⟩
            rw [← hc3, hlen] at hk
            refine ⟨_, _, _, _, _, hk, hrun, k.allocObj hok, hE, fresh_keeps k (fun b hb => by simp only [G.addObj]; rw [if_neg hb]) none, ?_, rfl⟩
            simp only [vrel]
            exact ⟨w.heap.size, r'.size, len, by simp [G.addObj], rfl, Nat.le_refl _, by omega⟩
          | false =>
            simp only [Bool.false_eq_true, if_false] at hk
            have E := Ext.addF (Γ := Γ) (b := w.heap.size) (fun o => k.freshF o) r'.size r'
            have hinv := k.allocFrozen (c := r') (e := e) (fun j v hj => ho v (by
              have : r'.toList[j]? = some v := by simpa using hj
              exact List.mem_of_getElem? this))
            obtain ⟨q1, q2, q3⟩ := chunks_flatten hc3
            refine ⟨_, _, _, _, _, hk, hrun, hinv, E, fresh_keeps k (fun b hb => rfl) none, ?_, rfl⟩
            simp only [vrel]
            refine ⟨w.heap.size, 0, len, by rw [q3], by omega, by simp [q3], elemsAt_iff.2 ⟨q2, flatAt_of_get fun j a hj => ?_⟩⟩
            rw [q1] at hj
            obtain ⟨v, x1, x2⟩ := lrel_get hln hj
            have hlt := (List.getElem?_eq_some_iff.1 hj).1
            refine ⟨v, ?_, vrel_mono E.noL a v x2⟩
            simp only [G.addF, if_true, Nat.zero_add]
            rw [if_pos (by omega)]
            simpa using x1
    · exact hk.elim

end
end Go.Ab
end
section
/- One operation that calls nothing, on the state of an activation. -/
set_option linter.unusedSimpArgs false
set_option linter.unusedVariables false
namespace Go.Ab

structure SlotsOK (Γ : G) (sl : List AV) (tmps : Array Value) : Prop where
  size : tmps.size = sl.length
  get : ∀ (t : Nat) (a : AV), sl[t]? = some a → ∃ v, tmps[t]? = some v ∧ crel Γ (.slot t) a v

def put (s : ASt) (dst : Option Nat) (v : AV) : ASt :=
  match dst with
  | some d => { s with sl := s.sl.set d v }
  | none => s

def optX (s : ASt) : Option Operand → Option AV := optV (ev s)

/-- The ways in which an operation is told otherwise than plainly. -/
def opK (T : Tab) (ann : Ann) (o : Oper) (s : ASt) (K : ASt → Prop) : Prop :=
  match o.op with
  | .move x => if isDst ann.take o.dst then K (put (takeS s x) o.dst (takeV s x)) else K (put s o.dst (ev s x).un)
  | .assign x => K (put (takeS s x) o.dst (takeV s x))
  | .load t a =>
    if isDst ann.take o.dst then
      match T.get t, ev s a with
      | some ti, .lptr i off => ti.d.known = true ∧ ti.d.isAgg = false ∧ (match s.bx[i]? with
        | some cs => (match cs[off]? with
          | some c => K (put { s with bx := s.bx.set i (cs.set off c.un) } o.dst c)
          | none => False)
        | none => False)
      | _, _ => False
    else loadK T t (ev s a) s.bx s.h fun v => K (put s o.dst v.un)
  | .store t a x => storeK T t (ev s a) (takeV s x) s.bx s.h fun bx h => K (put { takeS s x with bx := bx, h := h } o.dst (.tup []))
  | .alloc t => allocK T (isDst ann.heap o.dst) t s.bx s.h fun v bx h => K (put { s with bx := bx, h := h } o.dst v)
  | .box t x => boxK T (isDst ann.heap o.dst) t (ev s x) s.bx s.h fun v bx h => K (put { s with bx := bx, h := h } o.dst v)
  | .buildSlice t len parts => buildSliceK T (isDst ann.mu o.dst) t len (parts.toList.map fun p => (p.1, (ev s p.2).un)) s.h fun v h => K (put { s with h := h } o.dst v)
  | .makeMap _ r => r.isNone = true ∧ makeMapK s.h fun v h => K (put { s with h := h } o.dst v)
  | .lookup t x y ok => (ev s y).nol = true ∧ lookupK T t (ev s x) (ev s y) ok s.h fun v => K (put s o.dst v.un)
  | .mapUpdate t m k v => mapUpdateK T t (ev s m) (ev s k) (ev s v).un s.h fun h => K (put { s with h := h } o.dst (.tup []))
  | .slice t x lo hi mx => if isDst ann.over o.dst then mx.isNone = true ∧ overK T t (ev s x) (optX s lo) (optX s hi) s.h (fun v => K (put s o.dst v)) else pureK T (ev s) o.op fun v => K (put s o.dst v.un)
  | .call c => (match c.callee with
    | .builtin .append => (match c.args.toList, c.argTypes.toList with
      | [x, y], [t, t2] => appendK T (isDst ann.mu o.dst) t t2 (takeV s x) (ev (takeS s x) y) s.h fun v h => K (put { takeS s x with h := h } o.dst v)
      | _, _ => False)
    | .builtin .copy => (match c.args.toList, c.argTypes.toList with
      | [x, y], [t, t2] => copyK T t t2 (ev s x) (ev s y) s.h fun v h => K (put { s with h := h } o.dst v)
      | _, _ => False)
    | .builtin .clear => (match c.args.toList, c.argTypes.toList with
      | [x], [t] => clearK T t (ev s x) s.h fun h => K (put { s with h := h } o.dst (.tup []))
      | _, _ => False)
    | .builtin .cap => (match c.args.toList, c.argTypes.toList with
      | [x], [t] => capK T t (ev s x) s.h fun v => K (put s o.dst v)
      | _, _ => False)
    | .builtin _ => pureK T (ev s) o.op fun v => K (put s o.dst v.un)
    | _ => False)
  | op => pureK T (ev s) op fun v => K (put s o.dst v.un)

section
variable {P : Program} {T : Tab} {Γ Γ' : G} {X : Ctx} {s : ASt} {a : Act} {w : World}

theorem SlotsOK.tmp (hs : SlotsOK Γ s.sl a.tmps) (t : Nat) : crel Γ (.slot t) (s.sl.getD t .undef) (a.tmps.getD t undef) := by
  by_cases ht : t < s.sl.length
  · obtain ⟨v, h1, h2⟩ := hs.get t _ (List.getElem?_eq_getElem ht)
    have e1 : s.sl.getD t .undef = s.sl[t] := by simp [List.getD, List.getElem?_eq_getElem ht]
    have e2 : a.tmps.getD t undef = v := by
      have := (Array.getElem?_eq_some_iff.1 h1)
      obtain ⟨h3, h4⟩ := this
      simp [Array.getD, h3, h4]
    rw [e1, e2]
    exact h2
  · have e1 : s.sl.getD t .undef = .undef := by simp [List.getD, List.getElem?_eq_none (by omega : s.sl.length ≤ t)]
    rw [e1]
    exact ⟨by simp [vrel], by simp [ownOK]⟩

theorem ev_rel (hs : SlotsOK Γ s.sl a.tmps) (x : Operand) : vrel Γ (ev s x) (a.eval x) := by
  cases x with
  | tmp t => exact (hs.tmp t).1
  | const v => exact vrel_ofV Γ v
  | func f => simp [ev, Act.eval, vrel, lrel]
  | global g => simp [ev, vrel]

theorem takeV_rel (hs : SlotsOK Γ s.sl a.tmps) (x : Operand) : vrel Γ (takeV s x) (a.eval x) := by
  cases x with
  | tmp t => exact (hs.tmp t).1
  | const v => exact vrel_un (ev_rel hs (.const v))
  | func f => exact vrel_un (ev_rel hs (.func f))
  | global g => exact vrel_un (ev_rel hs (.global g))

theorem takeV_own (hs : SlotsOK Γ s.sl a.tmps) (x : Operand) : (takeV s x).owns = true → ∃ u, x = .tmp u ∧ ownOK Γ (.slot u) (takeV s x) (a.eval x) := by
  intro h
  cases x with
  | tmp t => exact ⟨t, rfl, (hs.tmp t).2⟩
  | _ => simp only [takeV, un_owns] at h; cases h

theorem un_un (a : AV) : a.un.un = a.un := by
  cases a with
  | sl z sz es t => cases t <;> rfl
  | _ => rfl
/-- Slots of which one is told less. -/
theorem SlotsOK.unset (hs : SlotsOK Γ s.sl a.tmps) (t : Nat) : SlotsOK Γ (s.sl.set t (s.sl.getD t .undef).un) a.tmps := by
  refine ⟨by simpa using hs.size, fun u b hu => ?_⟩
  rw [List.getElem?_set] at hu
  split at hu
  · rename_i e
    subst e
    split at hu
    · simp only [Option.some.injEq] at hu
      subst hu
      rename_i hlt
      obtain ⟨v, h1, h2⟩ := hs.get t _ (List.getElem?_eq_getElem hlt)
      have e1 : s.sl.getD t .undef = s.sl[t] := by simp [List.getD, List.getElem?_eq_getElem hlt]
      exact ⟨v, h1, by rw [e1]; exact vrel_un h2.1, ownOK_of_not (un_owns _)⟩
    · cases hu
  · exact hs.get u b hu

theorem takeS_slots (hs : SlotsOK Γ s.sl a.tmps) (x : Operand) : SlotsOK Γ (takeS s x).sl a.tmps := by
  cases x with
  | tmp t =>
    simp only [takeS]
    split
    · exact hs.unset t
    · exact hs
  | _ => exact hs

theorem takeS_bx (x : Operand) : (takeS s x).bx = s.bx := by
  cases x with
  | tmp t => simp only [takeS]; split <;> rfl
  | _ => rfl
theorem takeS_h (x : Operand) : (takeS s x).h = s.h := by
  cases x with
  | tmp t => simp only [takeS]; split <;> rfl
  | _ => rfl

/-- The slot of an operand. -/
def slotOf : Operand → Option Nat
  | .tmp t => some t
  | _ => none

/-- What the slots hold, but for one from which the right was taken. -/
def Free (sl : List AV) (t : Option Nat) : Prop := ∀ u, t = some u → (sl.getD u .undef).owns = false

theorem takeS_free (s : ASt) (x : Operand) : Free (takeS s x).sl (slotOf x) := by
  intro u hu
  cases x with
  | tmp t =>
    simp only [slotOf, Option.some.injEq] at hu
    subst hu
    simp only [takeS]
    split
    · rename_i h
      by_cases ht : t < s.sl.length
      · simp [List.getD, ht, un_owns]
      · have : s.sl.getD t .undef = .undef := by simp [List.getD, List.getElem?_eq_none (Nat.le_of_not_lt ht)]
        rw [this] at h
        simp [AV.owns] at h
    · rename_i h
      simpa using h
  | _ => simp [slotOf] at hu
theorem free_none (sl : List AV) : Free sl none := fun u h => by cases h

/-- What slots hold is kept. -/
def KeepsS (Γ Γ' : G) (t : Option Nat) : Prop := ∀ b u tip s, Γ.O b = some (.spare (.slot u) tip s) → t ≠ some u → Γ'.O b = Γ.O b
theorem Keeps.slots {t : Option Nat} (h : Keeps Γ Γ' t) : KeepsS Γ Γ' t := fun b u tip s hb hne => h b _ tip s hb (fun u' hu' e => by
  simp only [Pos.slot.injEq] at e
  subst e
  exact hne hu')

/-- The slots behind a step that keeps what they hold. -/
theorem SlotsOK.extS (hs : SlotsOK Γ s.sl a.tmps) (hE : Ext Γ Γ') {t : Option Nat} (hk : KeepsS Γ Γ' t) (hf : Free s.sl t) : SlotsOK Γ' s.sl a.tmps := by
  refine ⟨hs.size, fun u b hu => ?_⟩
  obtain ⟨v, h1, h2, h3⟩ := hs.get u b hu
  refine ⟨v, h1, vrel_mono hE _ _ h2, ?_⟩
  cases ho : b.owns with
  | false => exact ownOK_of_not ho
  | true =>
    cases b with
    | sl z sz es tip =>
      cases z <;> cases tip <;> simp [AV.owns] at ho
      simp only [ownOK] at h3 ⊢
      obtain ⟨b', o, cap, s', e1, e2, e3⟩ := h3
      refine ⟨b', o, cap, s', e1, ?_, e3⟩
      rw [hk b' _ _ _ e2 (fun hu' => ?_)]
      · exact e2
      · have := hf u hu'
        simp [List.getD, hu, AV.owns] at this
    | _ => simp [AV.owns] at ho
theorem SlotsOK.ext (hs : SlotsOK Γ s.sl a.tmps) (hE : Ext Γ Γ') {t : Option Nat} (hk : Keeps Γ Γ' t) (hf : Free s.sl t) : SlotsOK Γ' s.sl a.tmps := hs.extS hE hk.slots hf

theorem SlotsOK.put (hs : SlotsOK Γ s.sl a.tmps) (dst : Option Nat) {r : AV} {v : Value} (hr : vrel Γ r v) (ho : ∀ d, dst = some d → ownOK Γ (.slot d) r v) : SlotsOK Γ (put s dst r).sl (a.put dst v).tmps := by
  cases dst with
  | none => exact hs
  | some d =>
    refine ⟨by simpa [Ab.put, Act.put] using hs.size, fun u b hu => ?_⟩
    simp only [Ab.put, Act.put] at hu ⊢
    rw [List.getElem?_set] at hu
    split at hu
    · rename_i e
      subst e
      split at hu
      · rename_i hlt
        simp only [Option.some.injEq] at hu
        subst hu
        exact ⟨v, by rw [Array.getElem?_setIfInBounds_self_of_lt (by rw [hs.size]; exact hlt)], hr, ho _ rfl⟩
      · cases hu
    · rename_i e
      rw [Array.getElem?_setIfInBounds_ne e]
      exact hs.get u b hu

theorem put_bx (dst : Option Nat) (r : AV) : (put s dst r).bx = s.bx := by cases dst <;> rfl
theorem put_h (dst : Option Nat) (r : AV) : (put s dst r).h = s.h := by cases dst <;> rfl

end
end Go.Ab
end
section
/- One operation that calls nothing: what opK says is what the model does. -/
set_option linter.unusedSimpArgs false
set_option linter.unusedVariables false
namespace Go.Ab

section
variable {P : Program} {T : Tab} {Γ : G} {X : Ctx} {s : ASt} {a : Act} {w : World}

/-- What a step leads to. -/
def Led (P : Program) (X : Ctx) (Γ : G) (a : Act) (w : World) (o : Oper) (K : ASt → Prop) : Prop :=
  ∃ s' Γ' v w' nx, K s' ∧ (execOp a.eval o).run P w = .ok nx w' ∧ (nx = .value v ∨ nx = .skip ∧ v = undef) ∧ Inv X Γ' s'.bx s'.h w' ∧ SlotsOK Γ' s'.sl (a.put o.dst v).tmps ∧ Ext Γ Γ'

theorem argsOf {c : Call} {l : List Operand} (h : c.args.toList = l) (ρ : Operand → Value) : c.args.map ρ = (l.map ρ).toArray := by
  apply Array.ext'
  simp [h]
theorem typesOf {c : Call} {l : List TypeId} (h : c.argTypes.toList = l) : c.argTypes = l.toArray := by
  apply Array.ext'
  simp [h]

/-- A new value at the slot of an operation, nothing else being turned. -/
theorem led_value (k : Inv X Γ s.bx s.h w) (hs : SlotsOK Γ s.sl a.tmps) {o : Oper} {K : ASt → Prop} {s' : ASt} {Γ' : G} {r : AV} {v : Value} {w' : World} {t : Option Nat} (e : s'.sl = s.sl)
    (hK : K (put s' o.dst r)) (hrun : (execOp a.eval o).run P w = .ok (.value v) w') (k' : Inv X Γ' s'.bx s'.h w') (hE : Ext Γ Γ') (hk : Keeps Γ Γ' t) (hf : Free s.sl t) (hr : vrel Γ' r v) (ho : ∀ d, o.dst = some d → ownOK Γ' (.slot d) r v) : Led P X Γ a w o K := by
  have h1 := hs.ext hE hk hf
  rw [← e] at h1
  exact ⟨_, Γ', v, w', _, hK, hrun, .inl rfl, by rw [put_bx, put_h]; exact k', h1.put o.dst hr ho, hE⟩

theorem led_skip (k : Inv X Γ s.bx s.h w) (hs : SlotsOK Γ s.sl a.tmps) {o : Oper} {K : ASt → Prop} {s' : ASt} {Γ' : G} {w' : World} {t : Option Nat} (e : s'.sl = s.sl)
    (hK : K (put s' o.dst (.tup []))) (hrun : (execOp a.eval o).run P w = .ok .skip w') (k' : Inv X Γ' s'.bx s'.h w') (hE : Ext Γ Γ') (hk : Keeps Γ Γ' t) (hf : Free s.sl t) : Led P X Γ a w o K := by
  have h1 := hs.ext hE hk hf
  rw [← e] at h1
  exact ⟨_, Γ', undef, w', _, hK, hrun, .inr ⟨rfl, rfl⟩, by rw [put_bx, put_h]; exact k', h1.put o.dst (by simp [vrel, lrel, undef]) (fun d _ => by simp [ownOK]), hE⟩

theorem keeps_refl (Γ : G) (t : Option Nat) : Keeps Γ Γ t := fun _ _ _ _ _ _ => rfl

theorem led_pure (hT : TabOK P T) (k : Inv X Γ s.bx s.h w) (hs : SlotsOK Γ s.sl a.tmps) {o : Oper} {K : ASt → Prop} (h : pureK T (ev s) o.op fun v => K (put s o.dst v.un)) : Led P X Γ a w o K := by
  obtain ⟨r, r', hK, hrun, hr⟩ := pure_sim hT (ev_rel hs) h
  exact led_value k hs (s' := s) rfl hK (hrun w) k (Ext.refl Γ) (keeps_refl Γ none) (free_none _) (vrel_un hr) (fun d _ => ownOK_of_not (un_owns _))

/-- What one slot held is another's. -/
theorem Inv.turn (k : Inv X Γ s.bx s.h w) (hs : SlotsOK Γ s.sl a.tmps) (x : Operand) (q : Pos) :
    ∃ Γ', Inv X Γ' s.bx s.h w ∧ Ext Γ Γ' ∧ Keeps Γ Γ' (slotOf x) ∧ ownOK Γ' q (takeV s x) (a.eval x) := by
  cases ho : (takeV s x).owns with
  | false => exact ⟨Γ, k, Ext.refl Γ, keeps_refl Γ _, ownOK_of_not ho⟩
  | true =>
    obtain ⟨u, rfl, h⟩ := takeV_own hs x ho
    revert h
    generalize takeV s (.tmp u) = c at ho
    intro h
    cases c with
    | sl z sz es tip =>
      cases z <;> cases tip <;> simp [AV.owns] at ho
      simp only [ownOK] at h
      obtain ⟨b, o, cap, s', e1, e2, e3⟩ := h
      refine ⟨Γ.reown b q (o + es.length * sz) s', k.reown e2 q, Ext.reown _ _ _ _ _, fun b' p tip s2 hb' hp => ?_, ?_⟩
      · simp only [G.reown]
        split
        · rename_i hbb
          subst hbb
          rw [e2] at hb'
          simp only [Option.some.injEq, Own.spare.injEq] at hb'
          exact absurd hb'.1.symm (hp u rfl)
        · rfl
      · simp only [ownOK]
        exact ⟨b, o, cap, s', e1, by simp [G.reown], e3⟩
    | _ => simp [AV.owns] at ho

theorem led_taken (k : Inv X Γ s.bx s.h w) (hs : SlotsOK Γ s.sl a.tmps) {o : Oper} {K : ASt → Prop} (x : Operand) (hK : K (put (takeS s x) o.dst (takeV s x))) (hrun : (execOp a.eval o).run P w = .ok (.value (a.eval x)) w) : Led P X Γ a w o K := by
  obtain ⟨Γ', k', hE, hk, ho⟩ := k.turn hs x (.slot (o.dst.getD 0))
  have hs1 := (takeS_slots hs x).ext hE hk (takeS_free s x)
  refine ⟨_, Γ', _, w, _, hK, hrun, .inl rfl, by rw [put_bx, put_h, takeS_bx, takeS_h]; exact k', hs1.put o.dst (vrel_mono hE _ _ (takeV_rel hs x)) (fun d hd => ?_), hE⟩
  rw [hd] at ho
  exact ho

/-- What a box's cell held is another's. -/
theorem Inv.takeBox {bx : List (List AV)} {h : List AObj} (k : Inv X Γ bx h w) {i off bb : Nat} {cs : List AV} {c : AV} {v : Value} (hL : Γ.L i = some bb) (hcs : bx[i]? = some cs) (hc : cs[off]? = some c)
    (hv : ownOK Γ (.box i off) c v) (q : Pos) : ∃ Γ', Inv X Γ' (bx.set i (cs.set off c.un)) h w ∧ Ext Γ Γ' ∧ KeepsS Γ Γ' none ∧ ownOK Γ' q c v := by
  obtain ⟨ho, hrow, hF⟩ := k.boxRow hL hcs
  have hib : i < bx.length := (List.getElem?_eq_some_iff.1 hcs).1
  -- less is told of the cell
  have hrow1 : ∀ Γ' : G, Ext Γ Γ' → (∀ b j tip s, Γ.O b = some (.spare (.box i j) tip s) → j ≠ off → Γ'.O b = Γ.O b) → RowOK w bb (cs.set off c.un).length (fun j => crel Γ' (.box i j)) (cs.set off c.un) := fun Γ' hE hkeep => by
    obtain ⟨r, e, h1, h2, h3, h4⟩ := hrow
    refine ⟨r, e, h1, by simpa using h2, by simp, fun j a hj => ?_⟩
    rw [List.getElem?_set] at hj
    split at hj
    · rename_i e'
      subst e'
      split at hj
      · simp only [Option.some.injEq] at hj
        subst hj
        obtain ⟨u, x1, x2, x3⟩ := h4 off c hc
        exact ⟨u, x1, x2, vrel_mono hE _ _ (vrel_un x3.1), ownOK_of_not (un_owns _)⟩
      · cases hj
    · rename_i hne
      obtain ⟨u, x1, x2, x3, x4⟩ := h4 j a hj
      refine ⟨u, x1, x2, vrel_mono hE _ _ x3, ?_⟩
      unfold ownOK at x4 ⊢
      split at x4
      · obtain ⟨b1, o1, cap, s1, e1, e2, e3⟩ := x4
        exact ⟨b1, o1, cap, s1, e1, by rw [hkeep b1 j _ _ e2 (Ne.symm hne)]; exact e2, e3⟩
      · trivial
  have other : ∀ j x, x ≠ bb → Γ.O x = some (.box j) → (bx.set i (cs.set off c.un))[j]? = bx[j]? := fun j x hx hj => by
    rw [List.getElem?_set_ne]
    intro e
    subst e
    have hx' := k.O x
    unfold BlockOK at hx'
    rw [hj] at hx'
    have := hx'.1
    rw [hL] at this
    simp only [Option.some.injEq] at this
    exact hx this.symm
  cases hown : c.owns with
  | false =>
    refine ⟨Γ, k.update (fun x => x = bb) (Ext.refl Γ) (fun x _ => .inl rfl) (fun x _ => rfl) (fun x o _ => rfl) (fun x o v hx hv => by subst hx; rw [hF o] at hv; cases hv)
      (fun x hx hn => by subst hx; have := (k.N x hn).2.1; rw [ho] at this; cases this) (fun j x hx hj => other j x hx hj) (fun i' j tip s x x' hx ho' => by subst hx; rw [ho] at ho'; cases ho') (fun id x _ _ => rfl)
      (fun x hx => ?_) (fun x o hx ho' => by subst hx; exact k.Olt _ _ ho') k.Ilt k.Ilive (fun j x hj => by simpa using k.L j x hj) rfl rfl rfl (Nat.le_refl _), Ext.refl Γ, fun _ _ _ _ _ _ => rfl, ownOK_of_not hown⟩
    subst hx
    unfold BlockOK
    rw [ho]
    exact ⟨hL, _, by rw [List.getElem?_set_self hib], hrow1 Γ (Ext.refl Γ) (fun _ _ _ _ _ _ => rfl), hF⟩
  | true =>
    cases c with
    | sl z sz es tip =>
      cases z <;> cases tip <;> simp [AV.owns] at hown
      simp only [ownOK] at hv
      obtain ⟨b, o, cap, s', e1, e2, e3⟩ := hv
      have hb := k.O b
      unfold BlockOK at hb
      rw [e2] at hb
      have hne : b ≠ bb := fun e => by subst e; rw [ho] at e2; cases e2
      have hrow2 := hrow1 (Γ.reown b q (o + es.length * sz) s') (Ext.reown _ _ _ _ _) (fun b' j tip s2 hb' hj => by
        simp only [G.reown]
        split
        · rename_i hbb
          subst hbb
          rw [e2] at hb'
          simp only [Option.some.injEq, Own.spare.injEq, Pos.box.injEq] at hb'
          exact absurd hb'.1.2.symm hj
        · rfl)
      refine ⟨Γ.reown b q (o + es.length * sz) s', k.update (fun x => x = bb ∨ x = b) (Ext.reown _ _ _ _ _) (fun x _ => .inl rfl) (fun x hx => by simp only [G.reown]; rw [if_neg (fun e => hx (.inr e))]) (fun x o _ => rfl)
        (fun x o v hx hv => k.F _ _ _ hv) (fun x hx hn => ?_) (fun j x hx hj => other j x (fun e => hx (.inl e)) hj) (fun i' j tip s x x' hx ho' hx' => ?_) (fun id x _ _ => rfl)
        (fun x hx => ?_) (fun x o hx ho' => ?_) k.Ilt (fun id x s1 hI hl => ?_) (fun j x hj => ?_) rfl rfl rfl (Nat.le_refl _), Ext.reown _ _ _ _ _, fun b' u tip s2 hb' _ => ?_, ?_⟩
      · rcases hx with rfl | rfl
        · have := (k.N _ hn).2.1; rw [ho] at this; cases this
        · have := (k.N _ hn).2.1; rw [e2] at this; cases this
      · rcases hx with rfl | rfl
        · rw [ho] at ho'; cases ho'
        · rw [e2] at ho'
          simp only [Option.some.injEq, Own.spare.injEq, Pos.box.injEq] at ho'
          obtain ⟨⟨rfl, _⟩, _⟩ := ho'
          have hx2 := k.O x'
          unfold BlockOK at hx2
          rw [hx'] at hx2
          have := hx2.1
          rw [hL] at this
          simp only [Option.some.injEq] at this
          exact .inl this.symm
      · rcases hx with rfl | rfl
        · unfold BlockOK
          simp only [G.reown]
          rw [if_neg (Ne.symm hne), ho]
          exact ⟨hL, _, by rw [List.getElem?_set_self hib], hrow2, hF⟩
        · unfold BlockOK
          simp only [G.reown, if_true]
          exact hb
      · rcases hx with rfl | rfl
        · exact k.Olt _ _ ho
        · exact k.Olt _ _ e2
      · have := k.Ilive id x s1 hI hl
        simp only [G.reown]
        split
        · rename_i e; subst e; rw [e2] at this; cases this
        · exact this
      · have := k.L j x hj
        refine ⟨by simpa using this.1, ?_⟩
        simp only [G.reown]
        split
        · rename_i e; subst e; rw [e2] at this; cases this.2
        · exact this.2
      · simp only [G.reown]
        split
        · rename_i hbb
          subst hbb
          rw [e2] at hb'
          simp at hb'
        · rfl
      · simp only [ownOK]
        exact ⟨b, o, cap, s', e1, by simp [G.reown], e3⟩
    | _ => simp [AV.owns] at hown

theorem orel_of (hs : SlotsOK Γ s.sl a.tmps) (x : Option Operand) : orel Γ (optX s x) (x.map a.eval) := by
  cases x with
  | none => simp [optX, optV, orel]
  | some x =>
    simp only [optX, optV, orel, Option.map_some]
    exact ⟨_, rfl, ev_rel hs x⟩

theorem op_sim (hT : TabOK P T) (k : Inv X Γ s.bx s.h w) (hs : SlotsOK Γ s.sl a.tmps) {ann : Ann} {o : Oper} {K : ASt → Prop} (h : opK T ann o s K) : Led P X Γ a w o K := by
  obtain ⟨dst, op, ty, pos, after, guard⟩ := o
  unfold opK at h
  simp only at h
  cases op
  case move x =>
    simp only at h
    split at h
    · exact led_taken k hs x h rfl
    · exact led_value k hs (s' := s) rfl h rfl k (Ext.refl Γ) (keeps_refl Γ none) (free_none _) (vrel_un (ev_rel hs x)) (fun d _ => ownOK_of_not (un_owns _))
  case assign x => exact led_taken k hs x h rfl
  case load t y =>
    simp only at h
    split at h
    · split at h
      · rename_i ti i off hti hev
        obtain ⟨hkn, hag, h⟩ := h
        split at h
        · rename_i cs hcs
          split at h
          · rename_i c hc
            have hy := ev_rel hs y
            rw [hev] at hy
            simp only [vrel] at hy
            obtain ⟨bb, hL, hu⟩ := hy
            obtain ⟨ho, hrow, hF⟩ := k.boxRow hL hcs
            obtain ⟨v, hv1, hv2, hv3⟩ := row_cells hrow off c hc
            obtain ⟨Γ', k', hE, hk, hown⟩ := k.takeBox hL hcs hc hv3.2 (.slot (dst.getD 0))
            have h1 := hs.extS hE hk (free_none _)
            have hsz := fun w => (hT t ti hti).isAgg hkn w
            have hsize := fun w => (hT t ti hti).sizeOf w
            refine ⟨_, Γ', v, w, _, h, ?_, .inl rfl, by rw [put_bx, put_h]; exact k', SlotsOK.put (s := { s with bx := s.bx.set i (cs.set off c.un) }) h1 dst (vrel_mono hE _ _ hv3.1) (fun d hd => ?_), hE⟩
            · have hl : (loadVar t ⟨bb, off, none⟩).run P w = .ok v w := by simp only [loadVar, Sem.run_bind, (hT t ti hti).isAgg hkn, hag, Result.andThen_ok, Bool.false_eq_true, if_false, run_load, hv1]
              simp [execOp, Instr.loadAt, Instr.sureAddr, hu, hl]
            · subst hd
              exact hown
          · exact h.elim
        · exact h.elim
      · exact h.elim
    · obtain ⟨r, r', hK, hrun, hr⟩ := load_sim hT k h (ev_rel hs y)
      exact led_value k hs (s' := s) rfl hK (by simp [execOp, hrun]) k (Ext.refl Γ) (keeps_refl Γ none) (free_none _) (vrel_un hr) (fun d _ => ownOK_of_not (un_owns _))
  case store t y x =>
    simp only at h
    obtain ⟨Γ', k1, hE, hk, ho⟩ := k.turn hs x (match ev s y with | .lptr i off => .box i off | _ => .slot 0)
    obtain ⟨bx', h', w', hK, hrun, k2⟩ := store_sim (P := P) hT k1 h (vrel_mono hE _ _ (ev_rel hs y)) (vrel_mono hE _ _ (takeV_rel hs x)) (fun i off e => by rw [e] at ho; exact ho)
    have hs1 := (takeS_slots hs x).ext hE hk (takeS_free s x)
    exact ⟨_, Γ', undef, w', .skip, hK, by simp [execOp, hrun], .inr ⟨rfl, rfl⟩, by rw [put_bx, put_h]; exact k2, SlotsOK.put (s := { takeS s x with bx := bx', h := h' }) hs1 dst (by simp [vrel, lrel, undef]) (fun d _ => by simp [ownOK]), hE⟩
  case alloc t =>
    obtain ⟨r, bx', h', r', w', Γ', hK, hrun, k', hE, hk, hr, hn⟩ := alloc_sim (P := P) hT k h
    exact led_value k hs (s' := { s with bx := bx', h := h' }) rfl hK (by simp [execOp, hrun]) k' hE hk (free_none _) hr (fun d _ => ownOK_of_not hn)
  case box t x =>
    obtain ⟨r, bx', h', r', w', Γ', hK, hrun, k', hE, hk, hr, hn⟩ := box_sim (P := P) (t := t) k h (ev_rel hs x)
    exact led_value k hs (s' := { s with bx := bx', h := h' }) rfl hK (by simp [execOp, hrun]) k' hE hk (free_none _) hr (fun d _ => ownOK_of_not hn)
  case buildSlice t len parts =>
    obtain ⟨r, h', r', w', Γ', hK, hrun, k', hE, hk, hr, hn⟩ := buildSlice_sim (P := P) hT k h (parts' := parts.map fun p => (p.1, a.eval p.2)) (by simp) (fun j p hj => by
      simp only [List.getElem?_map, Option.map_eq_some_iff] at hj
      obtain ⟨q, hq, rfl⟩ := hj
      exact ⟨a.eval q.2, by simp only [List.getElem?_toArray, Array.getElem?_map]; rw [show parts[j]? = some q by simpa using hq]; rfl, vrel_un (ev_rel hs q.2)⟩)
    exact led_value k hs (s' := { s with h := h' }) rfl hK (by simp [execOp, hrun]) k' hE hk (free_none _) hr (fun d _ => ownOK_of_not hn)
  case makeMap t r =>
    simp only at h
    obtain ⟨hr0, h⟩ := h
    cases r with
    | some _ => simp at hr0
    | none =>
      obtain ⟨r, h', r', w', Γ', hK, hrun, k', hE, hk, hr, hn⟩ := makeMap_sim (P := P) (t := t) k h
      exact led_value k hs (s' := { s with h := h' }) rfl hK (by simp [execOp, hrun]) k' hE hk (free_none _) hr (fun d _ => ownOK_of_not hn)
  case lookup t x y ok =>
    simp only at h
    obtain ⟨hn, h⟩ := h
    obtain ⟨r, r', hK, hrun, hr⟩ := lookup_sim (P := P) hT k h (ev_rel hs x) (vrel_nol _ _ hn (ev_rel hs y))
    exact led_value k hs (s' := s) rfl hK (by simp [execOp, hrun]) k (Ext.refl Γ) (keeps_refl Γ none) (free_none _) (vrel_un hr) (fun d _ => ownOK_of_not (un_owns _))
  case mapUpdate t m y v =>
    obtain ⟨h', w', hK, hrun, k'⟩ := mapUpdate_sim (P := P) hT k h (ev_rel hs m) (ev_rel hs y) (vrel_un (ev_rel hs v))
    exact led_skip k hs (s' := { s with h := h' }) rfl hK (by simp [execOp, hrun]) k' (Ext.refl Γ) (keeps_refl Γ none) (free_none _)
  case slice t x lo hi mx =>
    simp only at h
    split at h
    · obtain ⟨hm, h⟩ := h
      cases mx with
      | some _ => simp at hm
      | none =>
        obtain ⟨r, r', hK, hrun, hr, hn⟩ := over_sim (P := P) hT k h (ev_rel hs x) (lo' := lo.map a.eval) (hi' := hi.map a.eval) (orel_of hs lo) (orel_of hs hi)
        exact led_value k hs (s' := s) rfl hK (by simp [execOp, hrun]) k (Ext.refl Γ) (keeps_refl Γ none) (free_none _) hr (fun d _ => ownOK_of_not hn)
    · exact led_pure hT k hs (o := ⟨dst, .slice t x lo hi mx, ty, pos, after, guard⟩) h
  case call c =>
    simp only at h
    split at h
    · rename_i hcal
      split at h
      · rename_i x y t t2 hargs htys
        have hav := argsOf hargs a.eval
        have htv := typesOf htys
        obtain ⟨r, h', r', w', Γ', hK, hrun, k', hE, hk, hr, ho⟩ := append_sim (P := P) (ty := ty) (d := dst.getD 0) hT k h (takeV_rel hs x) (by
            have := ev_rel (s := takeS s x) (Γ := Γ) (a := a) (takeS_slots hs x) y
            exact this) (ts := slotOf x) (fun hown => by
            obtain ⟨u, rfl, ho⟩ := takeV_own hs x hown
            exact ⟨u, rfl, ho⟩)
        have hs1 := (takeS_slots hs x).ext hE hk (takeS_free s x)
        refine ⟨_, Γ', r', w', .value r', hK, ?_, .inl rfl, by rw [put_bx, put_h]; simpa [takeS_bx] using k', SlotsOK.put (s := { takeS s x with h := h' }) hs1 dst hr (fun d hd => by subst hd; exact ho), hE⟩
        simp [execOp, resolve, hcal, hav, htv, invoke, builtin, hrun]
      · exact h.elim
    · rename_i hcal
      split at h
      · rename_i x y t t2 hargs htys
        have hav := argsOf hargs a.eval
        have htv := typesOf htys
        obtain ⟨r, h', r', w', hK, hrun, k', hr, hn⟩ := copy_sim (P := P) (ty := ty) hT k h (ev_rel hs x) (ev_rel hs y)
        exact led_value k hs (s' := { s with h := h' }) rfl hK (by simp [execOp, resolve, hcal, hav, htv, invoke, builtin, hrun]) k' (Ext.refl Γ) (keeps_refl Γ none) (free_none _) hr (fun d _ => ownOK_of_not hn)
      · exact h.elim
    · rename_i hcal
      split at h
      · rename_i x t hargs htys
        have hav := argsOf hargs a.eval
        have htv := typesOf htys
        obtain ⟨h', w', hK, hrun, k'⟩ := clear_sim (P := P) (ty := ty) hT k h (ev_rel hs x)
        exact led_value k hs (s' := { s with h := h' }) rfl hK (by simp [execOp, resolve, hcal, hav, htv, invoke, builtin, hrun]; rfl) k' (Ext.refl Γ) (keeps_refl Γ none) (free_none _) (by simp [vrel, lrel]) (fun d _ => by simp [ownOK])
      · exact h.elim
    · rename_i hcal
      split at h
      · rename_i x t hargs htys
        have hav := argsOf hargs a.eval
        have htv := typesOf htys
        obtain ⟨r, r', hK, hrun, hr, hn⟩ := cap_sim (P := P) (ty := ty) hT k h (ev_rel hs x)
        exact led_value k hs (s' := s) rfl hK (by simp [execOp, resolve, hcal, hav, htv, invoke, builtin, hrun]) k (Ext.refl Γ) (keeps_refl Γ none) (free_none _) hr (fun d _ => ownOK_of_not hn)
      · exact h.elim
    · exact led_pure hT k hs (o := ⟨dst, .call c, ty, pos, after, guard⟩) h
    · exact h.elim
  all_goals exact led_pure hT k hs h

end
end Go.Ab
end
