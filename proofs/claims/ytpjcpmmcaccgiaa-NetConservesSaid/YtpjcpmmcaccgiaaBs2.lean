/- One text out of several: see the remark at the head of each part. -/
import Derived.Test.YtpjcpmmcaccgiaaBs1
import Derived.RangeFuncLeaves
import Derived.RangeFuncRecord
set_option linter.all false
section
/- Code: what must hold ahead of it. -/
set_option linter.unusedSimpArgs false
set_option linter.unusedVariables false
namespace Go.Ab

def Fc (ro : Option Nat) : Fence := { Fence.wide with round := ro }

/-- The records of loops lie in memory. -/
def Rok (X : Ctx) : Prop := ∀ b r, X.R b = some r → b < X.w0.heap.size
/-- X' knows all that X knows, and of no more loops but new ones. -/
structure Up (X X' : Ctx) : Prop where
  R : ∀ b r, X.R b = some r → X'.R b = some r
  Rn : ∀ b r, X'.R b = some r → X.R b = some r ∨ b < X'.w0.heap.size
  E : Ext X.Γ0.noL X'.Γ0
  size : X.w0.heap.size ≤ X'.w0.heap.size
theorem Up.refl (X : Ctx) : Up X X := ⟨fun _ _ h => h, fun _ _ h => .inl h, Ext.of_noL _, Nat.le_refl _⟩
theorem Up.trans {X Y Z : Ctx} (a : Up X Y) (b : Up Y Z) : Up X Z := ⟨fun _ _ h => b.R _ _ (a.R _ _ h), fun c r h => (b.Rn c r h).elim (fun h => (a.Rn c r h).elim .inl fun h => .inr (Nat.lt_of_lt_of_le h b.size)) .inr,
  ⟨fun _ _ _ x => b.E.F _ _ _ (a.E.F _ _ _ x), fun _ _ x => b.E.I _ _ (a.E.I _ _ x), fun _ _ x => by simp [G.noL] at x⟩, Nat.le_trans a.size b.size⟩
theorem Up.rok {X X' : Ctx} (a : Up X X') (h : Rok X) : Rok X' := fun b r hb => (a.Rn b r hb).elim (fun h1 => Nat.lt_of_lt_of_le (h b r h1) a.size) id

/-- All that is known of X' is known of X. -/
structure Sub (X X' : Ctx) : Prop where
  up : Up X X'
  inv : ∀ Γ bx h w, Inv X' Γ bx h w → Inv X Γ bx h w
  size : X.w0.heap.size ≤ X'.w0.heap.size
  marks : ∀ r ∈ X'.marks, r ∈ X.marks ∨ X.w0.heap.size ≤ r
theorem Sub.refl (X : Ctx) : Sub X X := ⟨Up.refl X, fun _ _ _ _ h => h, Nat.le_refl _, fun _ h => .inl h⟩
theorem Sub.trans {X Y Z : Ctx} (a : Sub X Y) (b : Sub Y Z) : Sub X Z := ⟨a.up.trans b.up, fun _ _ _ _ h => a.inv _ _ _ _ (b.inv _ _ _ _ h), Nat.le_trans a.size b.size, fun r hr => (b.marks r hr).elim (fun h => a.marks r h) (fun h => .inr (Nat.le_trans a.size h))⟩

def markOf (r : Nat) : Deferred := { target := .collected r, args := #[] }
/-- The calls put off are the marks. -/
structure DOK (X : Ctx) (ds : List Deferred) : Prop where
  eq : ds = X.marks.map markOf
  nodup : X.marks.Nodup
  get : ∀ r ∈ X.marks, X.N r ∧ X.w0.heap[r]? = some (.deferred (some [])) ∧ ∀ o, X.Γ0.F r o = none

structure Rel (X : Ctx) (Γ : G) (s : ASt) (a : Act) (w : World) : Prop where
  inv : Inv X Γ s.bx s.h w
  slots : SlotsOK Γ s.sl a.tmps
  defers : DOK X a.defers

/-- Worlds of a kind: what holds of one holds of all that know more. -/
structure CX where
  ok : Ctx → Prop
  up : ∀ X X', ok X → Up X X' → ok X'
  rok : ∀ X, ok X → Rok X

def CX.any : CX := ⟨Rok, fun _ _ h u => u.rok h, fun _ h => h⟩

def CallPost (X : Ctx) (Γ : G) (K : AV → List AObj → Prop) (v : Value) (w' : World) : Prop :=
  ∃ r h' Γ', K r h' ∧ Inv X Γ' [] h' w' ∧ Ext Γ Γ' ∧ vrel Γ' r v ∧ ownOK Γ' (.slot 0) r v

/-- A call of a function: from the heap h, with these arguments, it returns what K takes. -/
structure ACall (C : CX) (P : Program) (f : FuncId) (args : List AV) (h : List AObj) (K : AV → List AObj → Prop) : Prop where
  run : ∀ X, C.ok X → ∀ Γ w (vs : Array Value), Inv X Γ [] h w → lrel Γ args vs.toList →
    ((callFunc f vs).run P w = .ok (.enter f vs) w ∧ Calls P f vs w (fun | .returned v, w' => CallPost X Γ K v w' | _, _ => False)) ∨
    (∃ v w', (callFunc f vs).run P w = .ok (.value v) w' ∧ CallPost X Γ K v w')

/-- A call of the yield of a loop that another activation runs. -/
structure AYield (C : CX) (P : Program) (l : Nat) (args : List AV) (h : List AObj) (K : AV → List AObj → Prop) : Prop where
  run : ∀ X, C.ok X → ∀ Γ w (vs : Array Value), Inv X Γ [] h w → lrel Γ args vs.toList → ∀ b s, Γ.I l = some (b, s) →
    ∃ l' f tmps assign body, (Instr.yield b vs).run P w = .ok (.round l' f tmps assign body) w ∧
      RoundIn (Fc none) 0 P l' f tmps assign body w (fun | .returned v, w' => CallPost X Γ K v w' | _, _ => False)

/-- How a method is found. -/
structure AMethod (P : Program) (t : TypeId) (name : String) (f : FuncId) : Prop where
  run : ∀ v w, (method (P.types.size + Made.depth) t v name).run P w = .ok (f, v) w

def br (b : Bool) (X Y : Prop) : Prop := match b with | true => X | false => Y
@[simp] theorem br_true {X Y : Prop} : br true X Y = X := rfl
@[simp] theorem br_false {X Y : Prop} : br false X Y = Y := rfl

/-- A slot that a test has told. -/
def told (s : ASt) (x : Operand) (b : Bool) : ASt :=
  match x with
  | .tmp t => { s with sl := s.sl.set t (.bool b) }
  | _ => s

section
variable (C : CX) (P : Program) (T : Tab) (ann : Ann)

def callArgs (s : ASt) (c : Call) : List AV := c.args.toList.map fun x => (ev s x).un

def callK (o : Oper) (c : Call) (s : ASt) (K : ASt → Prop) : Prop :=
  match c.callee with
  | .value f => (match ev s f with
    | .fn g caps => AV.nol.nols (callArgs s c ++ caps) = true ∧ ACall C P g (callArgs s c ++ caps) s.h fun r h => K (put { s with h := h } o.dst r)
    | .yld l => AV.nol.nols (callArgs s c) = true ∧ AYield C P l (callArgs s c) s.h fun r h => K (put { s with h := h } o.dst r)
    | _ => False)
  | .invoke recv name => (match ev s recv with
    | .iface t v => AV.nol.nols (v.un :: callArgs s c) = true ∧ ∃ f, AMethod P t name f ∧ ACall C P f (v.un :: callArgs s c) s.h fun r h => K (put { s with h := h } o.dst r)
    | _ => False)
  | .builtin _ => opK T ann o s K

def plainK (o : Oper) (s : ASt) (K : ASt → Prop) : Prop :=
  match o.op with
  | .call c => callK C P T ann o c s K
  | _ => opK T ann o s K

/-- One operation of a region, its guard ahead of it. -/
def stepK (ops : Array Oper) (o : Oper) (s : ASt) (K : ASt → Prop) : Prop :=
  match o.guard with
  | none => plainK C P T ann o s K
  | some (j, want) =>
    match (ops[j]?).bind (·.dst) with
    | none => K (put s o.dst (.tup []))
    | some d =>
      match s.sl.getD d .undef with
      | .bool b => br b
          (if want then plainK C P T ann o (told s (.tmp d) true) K else K (put (told s (.tmp d) true) o.dst (.tup [])))
          (if want then K (put (told s (.tmp d) false) o.dst (.tup [])) else plainK C P T ann o (told s (.tmp d) false) K)
      | .tup [] => K (put s o.dst (.tup []))
      | _ => False

/-- An order in which a region's operations are looked at. -/
inductive Plan where
  | done
  | take (i : Nat) (p : Plan)
  | all (ps : List (Nat × Plan))

mutual
def planK (ops : Array Oper) : Plan → ASt → (ASt → Prop) → Prop
  | .done, s, K => K s
  | .take i p, s, K => (match ops[i]? with
    | none => planK ops p s K
    | some o => stepK C P T ann ops o s fun s' => planK ops p s' K)
  | .all ps, s, K => plansK ops ps s K
def plansK (ops : Array Oper) : List (Nat × Plan) → ASt → (ASt → Prop) → Prop
  | [], _, _ => True
  | (i, p) :: ps, s, K => (match ops[i]? with
    | none => planK ops p s K
    | some o => stepK C P T ann ops o s fun s' => planK ops p s' K) ∧ plansK ops ps s K
end

def textPlan : Nat → Nat → Plan
  | _, 0 => .done
  | i, n + 1 => .take i (textPlan (i + 1) n)

def planOf (pl : List (Nat × Plan)) (id : Nat) (n : Nat) (draw : Bool) : Plan :=
  if draw then (match pl.lookup id with | some p => p | none => .all []) else textPlan 0 n

/-- What must hold ahead of code. Loops are left as they are (A). -/
def vc (A : Code → ASt → (Exit → ASt → Prop) → Prop) (pl : List (Nat × Plan)) : Code → ASt → (Exit → ASt → Prop) → Prop
  | .skip, s, K => K .normal s
  | .label _, s, K => K .normal s
  | .exit id, s, K => K (.exit id) s
  | .goto l, s, K => K (.goto l) s
  | .ret, s, K => K .ret s
  | .seq x y, s, K => vc A pl x s fun e s' => match e with | .normal => vc A pl y s' K | e => K e s'
  | .cond c x y, s, K => (match ev s c with
    | .bool b => br b (vc A pl x (told s c true) K) (vc A pl y (told s c false) K)
    | _ => False)
  | .block id c, s, K => vc A pl c s fun e s' => match e with | .exit i => if i = id then K .normal s' else K (.exit i) s' | e => K e s'
  | .region id ops draw, s, K => planK C P T ann ops (planOf pl id ops.size draw) s (K .normal)
  | .loop c, s, K => A (.loop c) s K
  | .rangeFunc g ps x y, s, K => A (.rangeFunc g ps x y) s K
  | _, _, _ => False
end

def Post (C : CX) (X : Ctx) (K : Exit → ASt → Prop) : Exit → Act → World → Prop := fun e a w => ∃ s Γ X', K e s ∧ Rel X' Γ s a w ∧ Sub X X' ∧ C.ok X'

/-- Code, from a state. -/
structure AWp (C : CX) (P : Program) (ro : Option Nat) (c : Code) (s : ASt) (K : Exit → ASt → Prop) : Prop where
  run : ∀ X, C.ok X → ∀ Γ a w, Rel X Γ s a w → c.wpIn (Fc ro) 0 P (Post C X K) a w

end Go.Ab
end
section
/- Calls: the caller's memory stays hidden from the callee, but for the objects. -/
set_option linter.unusedSimpArgs false
set_option linter.unusedVariables false
namespace Go.Ab

def Own.isObj : Option Own → Bool
  | some (.obj _) => true
  | _ => false

/-- What a callee is told. -/
def G.inner (Γ : G) : G := { Γ with L := fun _ => none, O := fun b => if Own.isObj (Γ.O b) then Γ.O b else none }
def Ctx.inner (X : Ctx) (Γ : G) (w : World) : Ctx := { w0 := w, N := fun b => b < w.heap.size ∧ Own.isObj (Γ.O b) = false, Γ0 := Γ.inner, R := X.R, marks := [] }
/-- What the caller is told behind the call. -/
def G.outer (Γ Γ' : G) (w : World) (rb : Option Nat) (d : Pos) : G :=
  { F := Γ'.F, I := Γ'.I, L := Γ.L, O := fun b => if b < w.heap.size ∧ Own.isObj (Γ.O b) = false then Γ.O b else
      match Γ'.O b with
      | some (.obj id) => some (.obj id)
      | some (.spare _ tip s) => if rb = some b then some (.spare d tip s) else none
      | _ => none }

section
variable {P : Program} {T : Tab} {Γ : G} {X : Ctx} {bx : List (List AV)} {h : List AObj} {w : World}

theorem Own.isObj_iff {o : Option Own} : Own.isObj o = true ↔ ∃ id, o = some (.obj id) := by
  unfold Own.isObj
  split <;> simp_all

theorem Ext.inner (Γ : G) : Ext Γ.noL Γ.inner := ⟨fun _ _ _ x => x, fun _ _ x => x, fun _ _ x => x⟩

theorem Ext.innerL (Γ : G) : Ext Γ.noL Γ.inner.noL := ⟨fun _ _ _ x => x, fun _ _ x => x, fun _ _ x => x⟩

/-- Going in. -/
theorem Inv.enter (k : Inv X Γ bx h w) : Inv (X.inner Γ w) Γ.inner [] h w where
  F := k.F
  O := fun b => by
    unfold BlockOK
    have hb := k.O b
    unfold BlockOK at hb
    cases ho : Γ.inner.O b with
    | none => trivial
    | some o =>
      simp only [G.inner] at ho
      split at ho
      · rename_i hobj
        obtain ⟨id, hid⟩ := Own.isObj_iff.1 hobj
        rw [hid] at ho hb
        simp only [Option.some.injEq] at ho
        subst ho
        obtain ⟨s, o, h1, h2, h3⟩ := hb
        refine ⟨s, o, h1, h2, ?_⟩
        cases o with
        | cells cs n => exact ⟨h3.1, h3.2.1.mono rfl (fun j a v _ x => vrel_mono (Ext.innerL Γ) a v x), h3.2.2⟩
        | map es => exact ⟨h3.1.mono rfl (Ext.innerL Γ), h3.2⟩
        | loop j => exact h3
        | dead => trivial
      · cases ho
  Olt := fun b o ho => by
    simp only [G.inner] at ho
    split at ho
    · exact k.Olt b o ho
    · cases ho
  Ilt := k.Ilt
  Ilive := fun id b s hI hl => by
    have := k.Ilive id b s hI hl
    simp [G.inner, this, Own.isObj]
  L := fun i b hL => by simp [G.inner] at hL
  N := fun b hb => ⟨hb.1, by simp [G.inner, hb.2], rfl, fun _ => rfl⟩
  E := Ext.refl _
  os := rfl
  tape := rfl
  output := rfl
  size := Nat.le_refl _

/-- What is known inside is known outside. -/
theorem Inv.sub_inner (k : Inv X Γ bx h w) : Sub X (X.inner Γ w) := by
  refine ⟨⟨fun _ _ x => x, fun _ _ x => .inl x, ⟨k.E.F, k.E.I, fun _ _ x => by simp [G.noL] at x⟩, k.size⟩, fun Γ' bx' h' w' k' => ?_, k.size, fun r hr => by simp [Ctx.inner] at hr⟩
  refine ⟨k'.F, fun b => ?_, k'.Olt, k'.Ilt, k'.Ilive, k'.L, fun b hb => ?_, ?_, k'.os.trans k.os, k'.tape.trans k.tape, k'.output.trans k.output, Nat.le_trans k.size k'.size⟩
  · have := k'.O b
    unfold BlockOK at this ⊢
    cases ho : Γ'.O b with
    | none => trivial
    | some o =>
      rw [ho] at this
      cases o with
      | obj id =>
        obtain ⟨s, o, h1, h2, h3⟩ := this
        refine ⟨s, o, h1, h2, ?_⟩
        cases o <;> exact h3
      | _ => exact this
  · have h1 := k.N b hb
    have h2 := k'.N b ⟨Nat.lt_of_lt_of_le h1.1 k.size, by rw [h1.2.1]; rfl⟩
    exact ⟨h1.1, h2.2.1, h2.2.2.1.trans h1.2.2.1, fun o => (h2.2.2.2 o).trans (h1.2.2.2 o)⟩
  · have e1 := k.E
    have e2 := k'.E
    exact ⟨fun b o v x => e2.F _ _ _ (e1.F _ _ _ x), fun i p x => e2.I _ _ (e1.I _ _ x), fun i b x => by simp [G.noL] at x⟩

theorem Ext.outer (k : Inv X Γ bx h w) {Γ' : G} (hE : Ext Γ.inner Γ') (rb : Option Nat) (d : Pos) : Ext Γ (Γ.outer Γ' w rb d) := ⟨hE.F, hE.I, fun _ _ x => x⟩
theorem Ext.out {h' : List AObj} {w' : World} {Γ' : G} (k' : Inv (X.inner Γ w) Γ' [] h' w') (rb : Option Nat) (d : Pos) : Ext Γ' (Γ.outer Γ' w rb d) := ⟨fun _ _ _ x => x, fun _ _ x => x, fun i b x => absurd (k'.L i b x).1 (by simp)⟩

theorem outer_kept {Γ' : G} {rb : Option Nat} {d : Pos} {b : Nat} (h1 : b < w.heap.size) (h2 : Own.isObj (Γ.O b) = false) : (Γ.outer Γ' w rb d).O b = Γ.O b := by
  simp [G.outer, h1, h2]
theorem outer_obj {Γ' : G} {rb : Option Nat} {d : Pos} {b id : Nat} (h1 : ¬ (b < w.heap.size ∧ Own.isObj (Γ.O b) = false)) (h2 : Γ'.O b = some (.obj id)) : (Γ.outer Γ' w rb d).O b = some (.obj id) := by
  simp only [G.outer]
  rw [if_neg h1, h2]

theorem outer_keeps (k : Inv X Γ bx h w) (Γ' : G) (rb : Option Nat) (d : Pos) : Keeps Γ (Γ.outer Γ' w rb d) none := fun b p tip s hb _ =>
  outer_kept (k.Olt _ _ hb) (by rw [hb]; rfl)

/-- Coming out. -/
theorem Inv.leave (k : Inv X Γ bx h w) {h' : List AObj} {w' : World} {Γ' : G} (k' : Inv (X.inner Γ w) Γ' [] h' w') (hE : Ext Γ.inner Γ') (rb : Option Nat) (d : Pos) : Inv X (Γ.outer Γ' w rb d) bx h' w' := by
  have E1 := Ext.outer k hE rb d
  have E2 := Ext.out (Γ := Γ) k' rb d
  have hkept : ∀ b, b < w.heap.size → Own.isObj (Γ.O b) = false → Γ'.O b = none ∧ w'.heap[b]? = w.heap[b]? ∧ ∀ o, Γ'.F b o = Γ.F b o := fun b h1 h2 => (k'.N b ⟨h1, h2⟩).2
  refine ⟨k'.F, fun b => ?_, fun b o ho => ?_, k'.Ilt, fun id b s hI hl => ?_, fun i b hL => ?_, fun b hb => ?_, k.E.trans E1, k'.os.trans k.os, k'.tape.trans k.tape, k'.output.trans k.output, Nat.le_trans k.size k'.size⟩
  · by_cases hc : b < w.heap.size ∧ Own.isObj (Γ.O b) = false
    · obtain ⟨c1, c2, c3⟩ := hkept b hc.1 hc.2
      have hb := k.O b
      unfold BlockOK at hb ⊢
      rw [outer_kept hc.1 hc.2]
      cases ho : Γ.O b with
      | none => trivial
      | some o =>
        rw [ho] at hb
        cases o with
        | obj id => rw [ho] at hc; simp [Own.isObj] at hc
        | box i =>
          obtain ⟨h1, cs, h2, h3, h4⟩ := hb
          refine ⟨h1, cs, h2, h3.mono c2 (fun j a v _ x => ⟨vrel_mono E1 a v x.1, ?_⟩), fun o => (c3 o).trans (h4 o)⟩
          have x2 := x.2
          unfold ownOK at x2 ⊢
          split at x2
          · obtain ⟨b1, o1, cap, s1, y1, y2, y3⟩ := x2
            exact ⟨b1, o1, cap, s1, y1, by rw [outer_kept (k.Olt _ _ y2) (by rw [y2]; rfl)]; exact y2, y3⟩
          · trivial
        | spare p tip s =>
          obtain ⟨c, e, h1, h2, h3⟩ := hb
          exact ⟨c, e, c2.trans h1, h2, fun x hx => (c3 x).trans (h3 x hx)⟩
        | mark => exact c2.trans hb
    · have hb := k'.O b
      unfold BlockOK at hb ⊢
      simp only [G.outer]
      rw [if_neg hc]
      cases ho : Γ'.O b with
      | none => trivial
      | some o =>
        rw [ho] at hb
        cases o with
        | obj id =>
          obtain ⟨s, o, h1, h2, h3⟩ := hb
          refine ⟨s, o, h1, h2, ?_⟩
          cases o with
          | cells cs n => exact ⟨h3.1, h3.2.1.mono rfl (fun j a v _ x => vrel_mono E2.noL a v x), h3.2.2⟩
          | map es => exact ⟨h3.1.mono rfl E2.noL, h3.2⟩
          | loop j => exact h3
          | dead => trivial
        | box i => trivial
        | spare p tip s =>
          simp only
          split
          · trivial
          · rename_i hh
            split at hh <;> simp at hh
          · rename_i hh
            split at hh <;> simp at hh
          · rename_i hh
            split at hh
            · simp only [Option.some.injEq, Own.spare.injEq] at hh
              obtain ⟨rfl, rfl, rfl⟩ := hh
              exact hb
            · cases hh
          · rename_i hh
            split at hh <;> simp at hh
        | mark => trivial
  · by_cases hc : b < w.heap.size ∧ Own.isObj (Γ.O b) = false
    · exact Nat.lt_of_lt_of_le hc.1 k'.size
    · simp only [G.outer] at ho
      rw [if_neg hc] at ho
      cases ho' : Γ'.O b with
      | none => rw [ho'] at ho; cases ho
      | some q => exact k'.Olt b q ho'
  · have ho := k'.Ilive id b s hI hl
    refine outer_obj (fun hc => ?_) ho
    have := (hkept b hc.1 hc.2).1
    rw [ho] at this
    cases this
  · have := k.L i b hL
    exact ⟨this.1, by rw [outer_kept (k.Olt _ _ this.2) (by rw [this.2]; rfl)]; exact this.2⟩
  · have h1 := k.N b hb
    have hlt := Nat.lt_of_lt_of_le h1.1 k.size
    have hno : Own.isObj (Γ.O b) = false := by rw [h1.2.1]; rfl
    obtain ⟨c1, c2, c3⟩ := hkept b hlt hno
    exact ⟨h1.1, (outer_kept hlt hno).trans h1.2.1, c2.trans h1.2.2.1, fun o => (c3 o).trans (h1.2.2.2 o)⟩

/-- What a call hands back, told to the caller. -/
theorem callPost_out (k : Inv X Γ bx h w) {K : AV → List AObj → Prop} {v : Value} {w' : World} (hp : CallPost (X.inner Γ w) Γ.inner K v w') (d : Nat) :
    ∃ r h' Γ', K r h' ∧ Inv X Γ' bx h' w' ∧ Ext Γ Γ' ∧ Keeps Γ Γ' none ∧ vrel Γ' r v ∧ ownOK Γ' (.slot d) r v := by
  obtain ⟨r, h', Γ', hK, k', hE, hr, ho⟩ := hp
  cases hown : r.owns with
  | false => exact ⟨r, h', _, hK, k.leave k' hE none (.slot d), Ext.outer k hE none (.slot d), outer_keeps k Γ' none (.slot d), vrel_mono (Ext.out (Γ := Γ) k' none (.slot d)) _ _ hr, ownOK_of_not hown⟩
  | true =>
    cases r with
    | sl z sz es tip =>
      cases z <;> cases tip <;> simp [AV.owns] at hown
      have ho' := ho
      simp only [ownOK] at ho'
      obtain ⟨b, o, cap, s, e1, e2, e3⟩ := ho'
      refine ⟨_, h', _, hK, k.leave k' hE (some b) (.slot d), Ext.outer k hE (some b) (.slot d), outer_keeps k Γ' (some b) (.slot d), vrel_mono (Ext.out (Γ := Γ) k' (some b) (.slot d)) _ _ hr, ?_⟩
      simp only [ownOK]
      refine ⟨b, o, cap, s, e1, ?_, e3⟩
      have hc : ¬ (b < w.heap.size ∧ Own.isObj (Γ.O b) = false) := fun hc => by
        have := (k'.N b hc).2.1
        rw [e2] at this
        cases this
      simp only [G.outer]
      rw [if_neg hc, e2]
      simp
    | _ => simp [AV.owns] at hown

end
end Go.Ab
end
section
/- What must hold ahead of code does bring what is to hold behind it. -/
set_option linter.unusedSimpArgs false
set_option linter.unusedVariables false
namespace Go.Ab

def PostN (C : CX) (X : Ctx) (K : ASt → Prop) (a : Act) (w : World) : Prop := ∃ s Γ X', K s ∧ Rel X' Γ s a w ∧ Sub X X' ∧ C.ok X'

section
variable {C : CX} {P : Program} {T : Tab} {ann : Ann} {ro : Option Nat} {Γ : G} {X : Ctx} {s : ASt} {a : Act} {w : World}

theorem callsIn_Fc {f : FuncId} {args : Array Value} {w : World} {R : Ending → World → Prop} (h : Calls P f args w R) : CallsIn (Fc ro) 0 P f args w R := callsIn_wide.2 h

theorem put_defers (a : Act) (dst : Option Tmp) (v : Value) : (a.put dst v).defers = a.defers := by cases dst <;> rfl

/-- What a callee hands back, at the slot of the call. -/
theorem call_back (k : Rel X Γ s a w) (hC : C.ok X) {o : Oper} {K : ASt → Prop} {v : Value} {w' : World}
    (hp : CallPost (X.inner Γ w) Γ.inner (fun r h => K (put { s with h := h } o.dst r)) v w') : PostN C X K (a.put o.dst v) w' := by
  obtain ⟨r, h', Γ', hK, k', hE, hk, hr, ho⟩ := callPost_out k.inv hp (o.dst.getD 0)
  refine ⟨_, Γ', X, hK, ⟨by rw [put_bx, put_h]; exact k', SlotsOK.put (s := { s with h := h' }) (k.slots.ext hE hk (free_none _)) o.dst hr (fun d hd => by rw [hd] at ho; exact ho), by rw [put_defers]; exact k.defers⟩, Sub.refl X, hC⟩

theorem lrel_args (k : SlotsOK Γ s.sl a.tmps) (c : Call) : lrel Γ (callArgs s c) (c.args.map a.eval).toList := by
  simp only [callArgs, Array.toList_map]
  exact lrel_map _ _ _ (fun x _ => vrel_un (ev_rel k x))

theorem lrel_noL_inner {as : List AV} {vs : List Value} (h : lrel Γ.noL as vs) : lrel Γ.inner as vs := lrel_mono (Ext.inner Γ) _ _ h

theorem enter_sound (k : Rel X Γ s a w) (hC : C.ok X) {o : Oper} {g : FuncId} {args : List AV} {vs : Array Value} {K : ASt → Prop} {Q : Exit → Act → World → Prop}
    (hc : ACall C P g args s.h fun r h => K (put { s with h := h } o.dst r)) (hn : AV.nol.nols args = true) (hv : lrel Γ args vs.toList) :
    o.uponIn (Fc ro) 0 P a (PostN C X K) Q ((callFunc g vs).run P w) := by
  have hsub := k.inv.sub_inner
  rcases hc.run (X.inner Γ w) (C.up _ _ hC hsub.up) Γ.inner w vs k.inv.enter (lrel_noL_inner (lrel_nol _ _ hn hv)) with ⟨h1, h2⟩ | ⟨v, w', h1, h2⟩
  · rw [h1]
    refine ⟨fun h => by simp [Fc, Fence.wide] at h, callsIn_Fc ?_⟩
    intro cs
    obtain ⟨e, w', fr, r, rest⟩ := h2 cs
    refine ⟨e, w', fr, ?_, rest⟩
    cases e with
    | returned v => exact call_back k hC r
    | panicked c => exact r.elim
    | outgrown => exact r.elim
  · rw [h1]
    exact call_back k hC h2

theorem plain_sound (hT : TabOK P T) (k : Rel X Γ s a w) (hC : C.ok X) {o : Oper} {K : ASt → Prop} {Q : Exit → Act → World → Prop} (h : plainK C P T ann o s K) :
    o.uponIn (Fc ro) 0 P a (PostN C X K) Q ((o.semAt ro a.eval).run P w) := by
  have hdef : ∀ c, o.op ≠ .defer c := fun c e => by
    unfold plainK at h
    rw [e] at h
    simp only [opK] at h
    rw [e] at h
    exact h
  rw [Oper.semAt_eq ro a.eval o hdef]
  have plain : opK T ann o s K → o.uponIn (Fc ro) 0 P a (PostN C X K) Q ((execOp a.eval o).run P w) := fun h => by
    obtain ⟨s', Γ', v, w', nx, hK, hrun, hnx, k', hs', hE⟩ := op_sim hT k.inv k.slots h
    rw [hrun]
    rcases hnx with rfl | ⟨rfl, rfl⟩
    · exact ⟨s', Γ', X, hK, ⟨k', hs', by rw [put_defers]; exact k.defers⟩, Sub.refl X, hC⟩
    · exact ⟨s', Γ', X, hK, ⟨k', hs', by rw [put_defers]; exact k.defers⟩, Sub.refl X, hC⟩
  unfold plainK at h
  split at h
  · rename_i c hop
    have hargs := lrel_args k.slots c
    unfold callK at h
    split at h
    · rename_i f hcal
      have hf := ev_rel k.slots f
      split at h
      · rename_i g caps hev
        obtain ⟨hn, h⟩ := h
        rw [hev] at hf
        simp only [vrel] at hf
        obtain ⟨vs, hfv, hcaps⟩ := hf
        have := enter_sound (ro := ro) (o := o) (vs := c.args.map a.eval ++ vs) (Q := Q) k hC h hn (by rw [Array.toList_append]; exact lrel_append hargs hcaps)
        have hex : (execOp a.eval o).run P w = (callFunc g (c.args.map a.eval ++ vs)).run P w := by
          simp [execOp, hop, resolve, hcal, hfv, Deferred.ofValue, invoke]
        rw [hex]
        exact this
      · rename_i l hev
        obtain ⟨hn, h⟩ := h
        rw [hev] at hf
        simp only [vrel] at hf
        obtain ⟨b, sz, hI, hfv⟩ := hf
        have hsub := k.inv.sub_inner
        obtain ⟨l', f', tmps, assign, body, h1, h2⟩ := h.run (X.inner Γ w) (C.up _ _ hC hsub.up) Γ.inner w (c.args.map a.eval) k.inv.enter (lrel_noL_inner (lrel_nol _ _ hn hargs)) b sz hI
        have hex : (execOp a.eval o).run P w = .ok (.round l' f' tmps assign body) w := by
          simp [execOp, hop, resolve, hcal, hfv, Deferred.ofValue, invoke, h1]
        rw [hex]
        refine ⟨fun h => by simp [Fc, Fence.wide] at h, RoundIn.mono (F := Fc ro) h2 fun e w' he => ?_⟩
        cases e with
        | returned v => exact call_back k hC he
        | panicked c => exact he.elim
        | outgrown => exact he.elim
      · exact h.elim
    · rename_i recv name hcal
      have hf := ev_rel k.slots recv
      split at h
      · rename_i t v hev
        obtain ⟨hn, f, hm, h⟩ := h
        rw [hev] at hf
        simp only [vrel] at hf
        obtain ⟨u, hfv, hu⟩ := hf
        have := enter_sound (ro := ro) (o := o) (vs := #[u] ++ c.args.map a.eval) (Q := Q) k hC h hn (by
          rw [Array.toList_append]
          simp only [lrel]
          exact ⟨u, _, rfl, vrel_un hu, hargs⟩)
        have hex : (execOp a.eval o).run P w = (callFunc f (#[u] ++ c.args.map a.eval)).run P w := by
          have h0 : (#[Value.iface t u] ++ c.args.map a.eval)[0]? = some (.iface t u) := by rw [Array.getElem?_append_left (by simp)]; rfl
          have h1 : (c.args.map a.eval).extract 0 c.args.size = c.args.map a.eval := by
            have := Array.extract_size (xs := c.args.map a.eval)
            simpa using this
          simp [execOp, hop, resolve, hcal, hfv, invoke, h0, h1, callMethod, hm.run u w]
        rw [hex]
        exact this
      · exact h.elim
    · exact plain h
  · exact plain h

/-- A slot that is told by a test. -/
theorem told_rel (k : Rel X Γ s a w) {x : Operand} {b : Bool} (h : ev s x = .bool b) : Rel X Γ (told s x b) a w := by
  cases x with
  | tmp t =>
    refine ⟨k.inv, ?_, k.defers⟩
    have : s.sl.set t (.bool b) = s.sl := by
      simp only [ev] at h
      by_cases ht : t < s.sl.length
      · have e1 : s.sl[t] = .bool b := by simpa [List.getD, List.getElem?_eq_getElem ht] using h
        rw [← e1]
        exact List.set_getElem_self ht
      · simp [List.getD, List.getElem?_eq_none (Nat.le_of_not_lt ht)] at h
    simp only [told, this]
    exact k.slots
  | _ => exact k

theorem step_sound (hT : TabOK P T) (k : Rel X Γ s a w) (hC : C.ok X) {ops : Array Oper} {i : Nat} {o : Oper} (ho : ops[i]? = some o) {K : ASt → Prop} {Q : Exit → Act → World → Prop} (h : stepK C P T ann ops o s K) :
    wpOpIn (Fc ro) 0 P ops Q i (PostN C X K) a w := by
  have skip : ∀ s', Rel X Γ s' a w → K (put s' o.dst (.tup [])) → PostN C X K (a.put o.dst undef) w := fun s' k' hK =>
    ⟨_, Γ, X, hK, ⟨by rw [put_bx, put_h]; exact k'.inv, k'.slots.put o.dst (by simp [vrel, lrel, undef]) (fun d _ => by simp [ownOK]), by rw [put_defers]; exact k'.defers⟩, Sub.refl X, hC⟩
  have ab : ∀ f, o.about P w a.eval = some f → (Fc ro).fn f := fun _ _ => trivial
  unfold wpOpIn
  simp only [ho]
  unfold stepK at h
  cases hg : o.guard with
  | none =>
    rw [hg] at h
    have hw : Region.wanted o (yielded ops a.tmps) = true := by simp [Region.wanted, hg]
    rw [if_pos hw]
    exact ⟨ab, plain_sound hT k hC h⟩
  | some p =>
    obtain ⟨j, want⟩ := p
    rw [hg] at h
    simp only at h
    cases hd : (ops[j]?).bind (·.dst) with
    | none =>
      rw [hd] at h
      have hw : Region.wanted o (yielded ops a.tmps) = false := by simp [Region.wanted, hg, yielded, hd]
      simp only [hw, Bool.false_eq_true, if_false]
      exact ⟨ab, skip s k h⟩
    | some d =>
      rw [hd] at h
      simp only at h
      have hsl := k.slots.tmp d
      split at h
      · rename_i b hb
        have htold := told_rel k (x := .tmp d) (b := b) hb
        have hv := hsl.1
        rw [hb] at hv
        simp only [vrel] at hv
        have hy : yielded ops a.tmps j = some b := by
          simp only [yielded, hd, Option.bind_some]
          have hlt : d < a.tmps.size := by
            rcases Nat.lt_or_ge d a.tmps.size with hl | hge
            · exact hl
            · simp [Array.getD, Nat.not_lt.2 hge, undef] at hv
          simp only [Array.getD, hlt, dif_pos] at hv
          rw [Array.getElem?_eq_getElem hlt]
          have hv' : a.tmps[d] = .bool b := hv
          simp [hv']
        cases b with
        | true =>
          simp only [br_true] at h
          cases want with
          | true =>
            have hw : Region.wanted o (yielded ops a.tmps) = true := by simp [Region.wanted, hg, hy]
            rw [if_pos hw]
            exact ⟨ab, plain_sound hT htold hC (by simpa using h)⟩
          | false =>
            have hw : Region.wanted o (yielded ops a.tmps) = false := by simp [Region.wanted, hg, hy]
            simp only [hw, Bool.false_eq_true, if_false]
            exact ⟨ab, skip _ htold (by simpa using h)⟩
        | false =>
          simp only [br_false] at h
          cases want with
          | true =>
            have hw : Region.wanted o (yielded ops a.tmps) = false := by simp [Region.wanted, hg, hy]
            simp only [hw, Bool.false_eq_true, if_false]
            exact ⟨ab, skip _ htold (by simpa using h)⟩
          | false =>
            have hw : Region.wanted o (yielded ops a.tmps) = true := by simp [Region.wanted, hg, hy]
            rw [if_pos hw]
            exact ⟨ab, plain_sound hT htold hC (by simpa using h)⟩
      · rename_i hb
        have hv := hsl.1
        rw [hb] at hv
        simp only [vrel, lrel] at hv
        obtain ⟨vs, hv, hvs⟩ := hv
        have hy : yielded ops a.tmps j = none := by
          simp only [yielded, hd, Option.bind_some]
          rcases Nat.lt_or_ge d a.tmps.size with hlt | hge
          · simp only [Array.getD, hlt, dif_pos] at hv
            rw [Array.getElem?_eq_getElem hlt]
            have hv' : a.tmps[d] = .tuple vs := hv
            simp [hv']
          · simp [hge]
        have hw : Region.wanted o (yielded ops a.tmps) = false := by simp [Region.wanted, hg, hy]
        simp only [hw, Bool.false_eq_true, if_false]
        exact ⟨ab, skip s k h⟩
      · exact h.elim

end
end Go.Ab
end
section
/- Regions whose order is drawn. -/
set_option linter.unusedSimpArgs false
set_option linter.unusedVariables false
namespace Go.Ab

/-- Operations that read no memory and give one value. -/
def isPure (ann : Ann) (o : Oper) : Bool :=
  match o.op with
  | .move _ | .assign _ | .pick _ _ _ | .build _ _ | .nilCheck _ | .binOp _ _ _ _ _ | .unOp _ _ _ | .convert _ _ _ | .makeInterface _ _ | .makeFunc _ _ _ | .fieldAddr _ _ _ | .field _ _ _ | .indexAddr _ _ _ | .index _ _ _ | .typeAssert _ _ _ _ | .extract _ _ => true
  | .slice _ _ _ _ _ => !isDst ann.over o.dst
  | .call c => (match c.callee with | .builtin .len | .builtin .min | .builtin .max => true | _ => false)
  | _ => false

mutual
def okPlan (ann : Ann) (ro : Option Nat) (ops : Array Oper) : Plan → Nat → Array Bool → Bool
  | .done, _, listed => (Region.ready .any ops listed).isEmpty
  | .take i p, 0, _ => false
  | .take i p, fuel + 1, listed => ro.isNone && (match ops[i]? with | some o => isPure ann o | none => false) && Region.free .any ops listed i && (Region.ready .any ops listed).contains i && okPlan ann ro ops p fuel (listed.setIfInBounds i true)
  | .all ps, 0, _ => false
  | .all ps, fuel + 1, listed => !ps.isEmpty && (Region.ready .any ops listed == ps.map (·.1)) && okPlans ann ro ops ps fuel listed
def okPlans (ann : Ann) (ro : Option Nat) (ops : Array Oper) : List (Nat × Plan) → Nat → Array Bool → Bool
  | [], _, _ => true
  | (i, p) :: ps, fuel, listed => okPlan ann ro ops p fuel (listed.setIfInBounds i true) && okPlans ann ro ops ps fuel listed
end

section
variable {C : CX} {P : Program} {T : Tab} {ann : Ann} {ro : Option Nat} {Γ : G} {X : Ctx} {s : ASt} {a : Act} {w : World}

theorem PostN.up {X' : Ctx} {K : ASt → Prop} (h : PostN C X' K a w) (hs : Sub X X') : PostN C X K a w :=
  let ⟨s, Γ, Y, h1, h2, h3, h4⟩ := h
  ⟨s, Γ, Y, h1, h2, hs.trans h3, h4⟩

theorem isPure_about {o : Oper} (h : isPure ann o = true) (w : World) (ρ : Operand → Value) : o.about P w ρ = none := by
  unfold Oper.about
  unfold isPure at h
  split
  · rename_i c hop
    rw [hop] at h
    simp only at h
    split at h
    · rename_i hc; simp [resolve, hc, Target.leads]
    · rename_i hc; simp [resolve, hc, Target.leads]
    · rename_i hc; simp [resolve, hc, Target.leads]
    · cases h
  · rfl

/-- What is yielded in whatever world. -/
theorem pure_sound (hT : TabOK P T) (k : Rel X Γ s a w) (hC : C.ok X) {o : Oper} (hp : isPure ann o = true) {K : ASt → Prop} (h : plainK C P T ann o s K) :
    ∃ v, (∀ w', (execOp a.eval o).run P w' = .ok (.value v) w') ∧ PostN C X K (a.put o.dst v) w := by
  have ofLed : ∀ v, (∀ w', (execOp a.eval o).run P w' = .ok (.value v) w') → opK T ann o s K → ∃ v, (∀ w', (execOp a.eval o).run P w' = .ok (.value v) w') ∧ PostN C X K (a.put o.dst v) w := fun v hv h => by
    obtain ⟨s', Γ', v', w', nx, hK, hrun, hnx, k', hs', hE⟩ := op_sim hT k.inv k.slots h
    rw [hv w] at hrun
    simp only [Result.ok.injEq] at hrun
    obtain ⟨rfl, rfl⟩ := hrun
    rcases hnx with e | ⟨e, _⟩
    · simp only [Next.value.injEq] at e
      subst e
      exact ⟨v, hv, s', Γ', X, hK, ⟨k', hs', by rw [put_defers]; exact k.defers⟩, Sub.refl X, hC⟩
    · cases e
  have ofPure : (pureK T (ev s) o.op fun v => K (put s o.dst v.un)) → ∃ v, (∀ w', (execOp a.eval o).run P w' = .ok (.value v) w') ∧ PostN C X K (a.put o.dst v) w := fun h => by
    obtain ⟨r, r', hK, hrun, hr⟩ := pure_sim hT (ev_rel k.slots) h
    exact ⟨r', hrun, _, Γ, X, hK, ⟨by rw [put_bx, put_h]; exact k.inv, k.slots.put o.dst (vrel_un hr) (fun d _ => ownOK_of_not (un_owns _)), by rw [put_defers]; exact k.defers⟩, Sub.refl X, hC⟩
  unfold plainK at h
  unfold isPure at hp
  obtain ⟨dst, op, ty, pos, after, guard⟩ := o
  simp only at h hp ofLed ofPure
  cases op <;> simp only [Bool.false_eq_true] at hp
  case move x => exact ofLed _ (fun _ => rfl) h
  case assign x => exact ofLed _ (fun _ => rfl) h
  case slice t x lo hi mx =>
    simp only [opK] at h
    simp only [Bool.not_eq_true'] at hp
    rw [hp] at h
    simp only [Bool.false_eq_true, if_false] at h
    exact ofPure h
  case call c =>
    simp only [callK] at h
    split at hp
    · rename_i hc; rw [hc] at h; simp only [opK, hc] at h; exact ofPure h
    · rename_i hc; rw [hc] at h; simp only [opK, hc] at h; exact ofPure h
    · rename_i hc; rw [hc] at h; simp only [opK, hc] at h; exact ofPure h
    · cases hp
  all_goals exact ofPure (by simpa only [opK] using h)

theorem pureStep_sound (hT : TabOK P T) (k : Rel X Γ s a w) (hC : C.ok X) {ops : Array Oper} {o : Oper} (hp : isPure ann o = true) {K : ASt → Prop} (h : stepK C P T ann ops o s K) :
    ∃ v, YieldsFenced P ops o v a ∧ PostN C X K (a.put o.dst v) w := by
  have ab : ∀ w, o.about P w a.eval = none := fun w => isPure_about hp w _
  have skip : ∀ s', Rel X Γ s' a w → K (put s' o.dst (.tup [])) → PostN C X K (a.put o.dst undef) w := fun s' k' hK =>
    ⟨_, Γ, X, hK, ⟨by rw [put_bx, put_h]; exact k'.inv, k'.slots.put o.dst (by simp [vrel, lrel, undef]) (fun d _ => by simp [ownOK]), by rw [put_defers]; exact k'.defers⟩, Sub.refl X, hC⟩
  have go : ∀ s', Rel X Γ s' a w → plainK C P T ann o s' K → Region.wanted o (yielded ops a.tmps) = true → ∃ v, YieldsFenced P ops o v a ∧ PostN C X K (a.put o.dst v) w := fun s' k' h hw => by
    obtain ⟨v, h1, h2⟩ := pure_sound hT k' hC hp h
    exact ⟨v, ⟨.inl ⟨hw, h1⟩, ab⟩, h2⟩
  have no : ∀ s', Rel X Γ s' a w → K (put s' o.dst (.tup [])) → Region.wanted o (yielded ops a.tmps) = false → ∃ v, YieldsFenced P ops o v a ∧ PostN C X K (a.put o.dst v) w := fun s' k' h hw =>
    ⟨undef, ⟨.inr ⟨hw, rfl⟩, ab⟩, skip s' k' h⟩
  unfold stepK at h
  cases hg : o.guard with
  | none =>
    rw [hg] at h
    exact go s k h (by simp [Region.wanted, hg])
  | some p =>
    obtain ⟨j, want⟩ := p
    rw [hg] at h
    simp only at h
    cases hd : (ops[j]?).bind (·.dst) with
    | none =>
      rw [hd] at h
      exact no s k h (by simp [Region.wanted, hg, yielded, hd])
    | some d =>
      rw [hd] at h
      simp only at h
      have hsl := k.slots.tmp d
      split at h
      · rename_i b hb
        have htold := told_rel k (x := .tmp d) (b := b) hb
        have hv := hsl.1
        rw [hb] at hv
        simp only [vrel] at hv
        have hy : yielded ops a.tmps j = some b := by
          simp only [yielded, hd, Option.bind_some]
          have hlt : d < a.tmps.size := by
            rcases Nat.lt_or_ge d a.tmps.size with hl | hge
            · exact hl
            · simp [Array.getD, Nat.not_lt.2 hge, undef] at hv
          simp only [Array.getD, hlt, dif_pos] at hv
          rw [Array.getElem?_eq_getElem hlt]
          have hv' : a.tmps[d] = .bool b := hv
          simp [hv']
        cases b <;> cases want
        · exact go _ htold (by simpa using h) (by simp [Region.wanted, hg, hy])
        · exact no _ htold (by simpa using h) (by simp [Region.wanted, hg, hy])
        · exact no _ htold (by simpa using h) (by simp [Region.wanted, hg, hy])
        · exact go _ htold (by simpa using h) (by simp [Region.wanted, hg, hy])
      · rename_i hb
        have hv := hsl.1
        rw [hb] at hv
        simp only [vrel, lrel] at hv
        obtain ⟨vs, hv, hvs⟩ := hv
        have hy : yielded ops a.tmps j = none := by
          simp only [yielded, hd, Option.bind_some]
          rcases Nat.lt_or_ge d a.tmps.size with hlt | hge
          · simp only [Array.getD, hlt, dif_pos] at hv
            rw [Array.getElem?_eq_getElem hlt]
            have hv' : a.tmps[d] = .tuple vs := hv
            simp [hv']
          · simp [hge]
        exact no s k h (by simp [Region.wanted, hg, hy])
      · exact h.elim

theorem text_sound (hT : TabOK P T) {ops : Array Oper} {K : ASt → Prop} {Q : Exit → Act → World → Prop} : ∀ (n i : Nat) {Γ : G} {X : Ctx} {s : ASt} {a : Act} {w : World},
    planK C P T ann ops (textPlan i n) s K → Rel X Γ s a w → C.ok X → (∀ a w, PostN C X K a w → Q .normal a w) → wpOpsIn (Fc ro) 0 P ops Q (List.range' i n) a w
  | 0, i, Γ, X, s, a, w, h, k, hC, hQ => by
    simp only [textPlan, planK] at h
    simp only [List.range'_zero, wpOpsIn]
    exact hQ a w ⟨s, Γ, X, h, k, Sub.refl X, hC⟩
  | n + 1, i, Γ, X, s, a, w, h, k, hC, hQ => by
    simp only [textPlan, planK] at h
    rw [List.range'_succ, wpOpsIn_cons]
    cases ho : ops[i]? with
    | none =>
      rw [ho] at h
      simp only [wpOpIn, ho]
      exact text_sound hT n (i + 1) h k hC hQ
    | some o =>
      rw [ho] at h
      refine wpOpIn_mono ?_ (step_sound hT k hC ho h)
      intro a' w' ⟨s', Γ', X', h', k', hsub, hC'⟩
      exact text_sound hT n (i + 1) h' k' hC' (fun a w hp => hQ a w (hp.up hsub))

mutual
theorem plan_sound (hT : TabOK P T) {ops : Array Oper} {K : ASt → Prop} {Q : Exit → Act → World → Prop} (hs : Region.noSelect ops = true) (hP : ∀ c a w, ¬ Q (.panic c) a w) : ∀ (p : Plan) (fuel : Nat) (listed : Array Bool) {Γ : G} {X : Ctx} {s : ASt} {a : Act} {w : World},
    okPlan ann ro ops p fuel listed = true → planK C P T ann ops p s K → Rel X Γ s a w → C.ok X → (∀ a w, PostN C X K a w → Q .normal a w) → wpAnyIn (Fc ro) 0 P .any ops Q fuel listed a w
  | .done, fuel, listed, Γ, X, s, a, w, hok, h, k, hC, hQ => by
    simp only [okPlan, List.isEmpty_iff] at hok
    simp only [planK] at h
    exact wpAnyIn_done hok (hQ a w ⟨s, Γ, X, h, k, Sub.refl X, hC⟩) fuel
  | .take i p, 0, listed, Γ, X, s, a, w, hok, h, k, hC, hQ => by simp [okPlan] at hok
  | .take i p, fuel + 1, listed, Γ, X, s, a, w, hok, h, k, hC, hQ => by
    simp only [okPlan, Bool.and_eq_true] at hok
    obtain ⟨⟨⟨⟨h1, h2⟩, h3⟩, h4⟩, h5⟩ := hok
    cases ho : ops[i]? with
    | none => rw [ho] at h2; cases h2
    | some o =>
      rw [ho] at h2
      simp only [planK, ho] at h
      obtain ⟨v, hy, s', Γ', X', h', k', hsub, hC'⟩ := pureStep_sound hT k hC h2 h
      have hro : (Fc ro).round = none := by show ro = none; simpa using h1
      exact wpAnyIn_take hro ho hs h3 h4 (fun c a w hc => (hP _ _ _ hc).elim) hy (plan_sound hT hs hP p fuel _ h5 h' k' hC' (fun a w hp => hQ a w (hp.up hsub)))
  | .all ps, 0, listed, Γ, X, s, a, w, hok, h, k, hC, hQ => by simp [okPlan] at hok
  | .all ps, fuel + 1, listed, Γ, X, s, a, w, hok, h, k, hC, hQ => by
    simp only [okPlan, Bool.and_eq_true, beq_iff_eq] at hok
    obtain ⟨⟨h1, h2⟩, h3⟩ := hok
    simp only [planK] at h
    refine wpAnyIn_all h2 (by cases ps <;> simp at h1 ⊢) ?_
    exact plans_sound hT hs hP ps fuel listed h3 h k hC hQ
theorem plans_sound (hT : TabOK P T) {ops : Array Oper} {K : ASt → Prop} {Q : Exit → Act → World → Prop} (hs : Region.noSelect ops = true) (hP : ∀ c a w, ¬ Q (.panic c) a w) : ∀ (ps : List (Nat × Plan)) (fuel : Nat) (listed : Array Bool) {Γ : G} {X : Ctx} {s : ASt} {a : Act} {w : World},
    okPlans ann ro ops ps fuel listed = true → plansK C P T ann ops ps s K → Rel X Γ s a w → C.ok X → (∀ a w, PostN C X K a w → Q .normal a w) →
    ∀ i ∈ ps.map (·.1), wpOpIn (Fc ro) 0 P ops Q i (wpAnyIn (Fc ro) 0 P .any ops Q fuel (listed.setIfInBounds i true)) a w
  | [], fuel, listed, Γ, X, s, a, w, hok, h, k, hC, hQ => by simp
  | (i, p) :: ps, fuel, listed, Γ, X, s, a, w, hok, h, k, hC, hQ => by
    simp only [okPlans, Bool.and_eq_true] at hok
    simp only [plansK] at h
    intro j hj
    simp only [List.map_cons, List.mem_cons] at hj
    rcases hj with rfl | hj
    · cases ho : ops[j]? with
      | none =>
        have h1 := h.1
        rw [ho] at h1
        simp only [wpOpIn, ho]
        exact plan_sound hT hs hP p fuel _ hok.1 h1 k hC hQ
      | some o =>
        have h1 := h.1
        rw [ho] at h1
        refine wpOpIn_mono ?_ (step_sound hT k hC ho h1)
        intro a' w' ⟨s', Γ', X', h', k', hsub, hC'⟩
        exact plan_sound hT hs hP p fuel _ hok.1 h' k' hC' (fun a w hp => hQ a w (hp.up hsub))
    · exact plans_sound hT hs hP ps fuel listed hok.2 h.2 k hC hQ j hj
end

/-- The plans of a code's drawn regions fit. -/
def okCode (ann : Ann) (ro : Option Nat) (pl : List (Nat × Plan)) : Code → Bool
  | .region id ops true => Region.noSelect ops && okPlan ann ro ops (planOf pl id ops.size true) ops.size (Array.replicate ops.size false)
  | .seq x y => okCode ann ro pl x && okCode ann ro pl y
  | .cond _ x y => okCode ann ro pl x && okCode ann ro pl y
  | .block _ c => okCode ann ro pl c
  | _ => true

theorem post_of {X' : Ctx} {K : Exit → ASt → Prop} {e : Exit} (h : Post C X' K e a w) (hs : Sub X X') : Post C X K e a w :=
  let ⟨s, Γ, Y, h1, h2, h3, h4⟩ := h
  ⟨s, Γ, Y, h1, h2, hs.trans h3, h4⟩

theorem vc_sound (hT : TabOK P T) (hm : P.follows .mixedOrders = true) {pl : List (Nat × Plan)} : ∀ (c : Code) (s : ASt) (K : Exit → ASt → Prop), okCode ann ro pl c = true → vc C P T ann (AWp C P ro) pl c s K → AWp C P ro c s K := by
  intro c
  induction c with
  | skip => intro s K _ h; refine ⟨fun X hC Γ a w k => ?_⟩; exact wpIn_skip ⟨s, Γ, X, h, k, Sub.refl X, hC⟩
  | label l => intro s K _ h; refine ⟨fun X hC Γ a w k => ?_⟩; exact wpIn_label ⟨s, Γ, X, h, k, Sub.refl X, hC⟩
  | exit id => intro s K _ h; refine ⟨fun X hC Γ a w k => ?_⟩; exact wpIn_exit ⟨s, Γ, X, h, k, Sub.refl X, hC⟩
  | goto l => intro s K _ h; refine ⟨fun X hC Γ a w k => ?_⟩; exact wpIn_goto ⟨s, Γ, X, h, k, Sub.refl X, hC⟩
  | ret => intro s K _ h; refine ⟨fun X hC Γ a w k => ?_⟩; exact wpIn_ret ⟨s, Γ, X, h, k, Sub.refl X, hC⟩
  | seq x y ihx ihy =>
    intro s K hok h
    refine ⟨fun X hC Γ a w k => ?_⟩
    simp only [okCode, Bool.and_eq_true] at hok
    simp only [vc] at h
    refine wpIn_seq (wpIn_mono ((ihx s _ hok.1 h).run X hC Γ a w k) ?_)
    intro e a' w' hp
    obtain ⟨s', Γ', X', hK, k', hsub, hC'⟩ := hp
    cases e with
    | normal => exact wpIn_mono ((ihy s' K hok.2 hK).run X' hC' Γ' a' w' k') (fun e a w hp => post_of hp hsub)
    | _ => exact ⟨s', Γ', X', hK, k', hsub, hC'⟩
  | cond c x y ihx ihy =>
    intro s K hok h
    refine ⟨fun X hC Γ a w k => ?_⟩
    simp only [okCode, Bool.and_eq_true] at hok
    simp only [vc] at h
    split at h
    · rename_i b hb
      have hv := ev_rel k.slots c
      rw [hb] at hv
      simp only [vrel] at hv
      have k' := told_rel k hb
      cases b with
      | true => exact wpIn_cond_true hv ((ihx _ K hok.1 (by simpa using h)).run X hC Γ a w k')
      | false => exact wpIn_cond_false hv ((ihy _ K hok.2 (by simpa using h)).run X hC Γ a w k')
    · exact h.elim
  | block id c ih =>
    intro s K hok h
    refine ⟨fun X hC Γ a w k => ?_⟩
    simp only [okCode] at hok
    simp only [vc] at h
    refine wpIn_block (wpIn_mono ((ih s _ hok h).run X hC Γ a w k) ?_)
    intro e a' w' ⟨s', Γ', X', hK, k', hsub, hC'⟩
    cases e with
    | exit i =>
      simp only [Exit.inBlock]
      simp only at hK
      by_cases e : i = id
      · rw [if_pos e] at hK ⊢; exact ⟨s', Γ', X', hK, k', hsub, hC'⟩
      · rw [if_neg e] at hK ⊢; exact ⟨s', Γ', X', hK, k', hsub, hC'⟩
    | _ => exact ⟨s', Γ', X', hK, k', hsub, hC'⟩
  | region id ops draw =>
    intro s K hok h
    refine ⟨fun X hC Γ a w k => ?_⟩
    simp only [vc] at h
    let Q : Exit → Act → World → Prop := fun e a w => e = .normal ∧ PostN C X (K .normal) a w
    have hQ : ∀ e a w, Q e a w → Post C X K e a w := fun e a w ⟨e', s, Γ, X', h⟩ => by subst e'; exact ⟨s, Γ, X', h⟩
    cases draw with
    | false =>
      simp only [planOf, Bool.false_eq_true, if_false] at h
      refine wpIn_mono (Q := Q) (wpIn_region ?_) hQ
      rw [List.range_eq_range']
      exact text_sound hT ops.size 0 h k hC (fun a w hp => ⟨rfl, hp⟩)
    | true =>
      simp only [okCode, Bool.and_eq_true] at hok
      refine wpIn_mono (Q := Q) (wpIn_region_any hm ?_) hQ
      refine plan_sound hT hok.1 (fun c a w hc => by cases hc.1) _ _ _ hok.2 h ⟨k.inv.same rfl rfl rfl rfl, k.slots, k.defers⟩ hC (fun a w hp => ⟨rfl, hp⟩)
  | loop c => intro s K _ h; exact h
  | rangeFunc g ps x y => intro s K _ h; exact h
  | scope c => intro s K _ h; exact h.elim
  | refuse c => intro s K _ h; exact h.elim

end
end Go.Ab
end
section
/- Forgetting, and loops. -/
set_option linter.unusedSimpArgs false
set_option linter.unusedVariables false
namespace Go.Ab

/-- No pointer to the boxes from n on. -/
def AV.lb (n : Nat) : AV → Bool
  | .lptr i _ => decide (i < n)
  | .fn _ caps => lbs caps
  | .iface _ a => a.lb n
  | .agg cs => lbs cs
  | .tup cs => lbs cs
  | _ => true
where
  lbs : List AV → Bool
  | [] => true
  | a :: as => a.lb n && lbs as

def G.cut (Γ : G) (n : Nat) : G :=
  { Γ with L := fun i => if i < n then Γ.L i else none, O := fun b => match Γ.O b with
      | some (.box i) => if i < n then some (.box i) else none
      | o => o }

section
variable {C : CX} {P : Program} {T : Tab} {ann : Ann} {ro : Option Nat} {Γ : G} {X : Ctx} {s : ASt} {a : Act} {w : World} {bx : List (List AV)} {h : List AObj}

theorem Ext.cut (Γ : G) (n : Nat) : Ext (Γ.cut n) Γ := ⟨fun _ _ _ x => x, fun _ _ x => x, fun i b x => by
  simp only [G.cut] at x
  split at x
  · exact x
  · cases x⟩
theorem Ext.noL_cut (Γ : G) (n : Nat) : Ext Γ.noL (Γ.cut n) := ⟨fun _ _ _ x => x, fun _ _ x => x, fun _ _ x => by simp [G.noL] at x⟩
theorem Ext.cut_noL (Γ : G) (n : Nat) : Ext Γ.noL (Γ.cut n).noL := ⟨fun _ _ _ x => x, fun _ _ x => x, fun _ _ x => by simp [G.noL] at x⟩

mutual
theorem vrel_cut {n : Nat} : ∀ (a : AV) (v : Value), a.lb n = true → vrel Γ a v → vrel (Γ.cut n) a v
  | .undef, v, _, h => vrel_mono (Ext.noL_cut Γ n) _ v (vrel_nol _ v rfl h)
  | .bool _, v, _, h => vrel_mono (Ext.noL_cut Γ n) _ v (vrel_nol _ v rfl h)
  | .int _ _, v, _, h => vrel_mono (Ext.noL_cut Γ n) _ v (vrel_nol _ v rfl h)
  | .str _, v, _, h => vrel_mono (Ext.noL_cut Γ n) _ v (vrel_nol _ v rfl h)
  | .nilp, v, _, h => vrel_mono (Ext.noL_cut Γ n) _ v (vrel_nol _ v rfl h)
  | .nilm, v, _, h => vrel_mono (Ext.noL_cut Γ n) _ v (vrel_nol _ v rfl h)
  | .nilf, v, _, h => vrel_mono (Ext.noL_cut Γ n) _ v (vrel_nol _ v rfl h)
  | .nili, v, _, h => vrel_mono (Ext.noL_cut Γ n) _ v (vrel_nol _ v rfl h)
  | .sl _ _ _ _, v, _, h => vrel_mono (Ext.noL_cut Γ n) _ v (vrel_nol _ v rfl h)
  | .msl _ _ _ _, v, _, h => vrel_mono (Ext.noL_cut Γ n) _ v (vrel_nol _ v rfl h)
  | .eptr _, v, _, h => vrel_mono (Ext.noL_cut Γ n) _ v (vrel_nol _ v rfl h)
  | .mptr _ _, v, _, h => vrel_mono (Ext.noL_cut Γ n) _ v (vrel_nol _ v rfl h)
  | .yld _, v, _, h => vrel_mono (Ext.noL_cut Γ n) _ v (vrel_nol _ v rfl h)
  | .map _, v, _, h => vrel_mono (Ext.noL_cut Γ n) _ v (vrel_nol _ v rfl h)
  | .lptr i off, v, hb, h => by
    simp only [AV.lb, decide_eq_true_eq] at hb
    simp only [vrel] at h ⊢
    obtain ⟨b, h1, h2⟩ := h
    exact ⟨b, by simp [G.cut, hb, h1], h2⟩
  | .fn f caps, v, hb, h => by
    simp only [AV.lb] at hb
    simp only [vrel] at h ⊢
    obtain ⟨vs, h1, h2⟩ := h
    exact ⟨vs, h1, lrel_cut caps _ hb h2⟩
  | .iface t a, v, hb, h => by
    simp only [AV.lb] at hb
    simp only [vrel] at h ⊢
    obtain ⟨x, h1, h2⟩ := h
    exact ⟨x, h1, vrel_cut a x hb h2⟩
  | .agg cs, v, hb, h => by
    simp only [AV.lb] at hb
    simp only [vrel] at h ⊢
    obtain ⟨vs, h1, h2⟩ := h
    exact ⟨vs, h1, lrel_cut cs _ hb h2⟩
  | .tup cs, v, hb, h => by
    simp only [AV.lb] at hb
    simp only [vrel] at h ⊢
    obtain ⟨vs, h1, h2⟩ := h
    exact ⟨vs, h1, lrel_cut cs _ hb h2⟩
theorem lrel_cut {n : Nat} : ∀ (as : List AV) (vs : List Value), AV.lb.lbs n as = true → lrel Γ as vs → lrel (Γ.cut n) as vs
  | [], vs, _, h => by simpa [lrel] using h
  | a :: as, vs, hb, h => by
    simp only [AV.lb.lbs, Bool.and_eq_true] at hb
    simp only [lrel] at h ⊢
    obtain ⟨v, vs', h1, h2, h3⟩ := h
    exact ⟨v, vs', h1, vrel_cut a v hb.1 h2, lrel_cut as vs' hb.2 h3⟩
end

theorem cut_spare {n b : Nat} {p : Pos} {tip s : Nat} : (Γ.cut n).O b = some (.spare p tip s) ↔ Γ.O b = some (.spare p tip s) := by
  simp only [G.cut]
  cases ho : Γ.O b with
  | none => simp
  | some o => cases o <;> simp <;> (try split) <;> simp
theorem cut_obj {n b id : Nat} : (Γ.cut n).O b = some (.obj id) ↔ Γ.O b = some (.obj id) := by
  simp only [G.cut]
  cases ho : Γ.O b with
  | none => simp
  | some o => cases o <;> simp <;> (try split) <;> simp
theorem ownOK_cut {n : Nat} {p : Pos} {a : AV} {v : Value} (h : ownOK Γ p a v) : ownOK (Γ.cut n) p a v := by
  unfold ownOK at h ⊢
  split at h
  · obtain ⟨b, o, cap, s, e1, e2, e3⟩ := h
    exact ⟨b, o, cap, s, e1, cut_spare.2 e2, e3⟩
  · trivial

/-- The boxes from n on are told of no more. -/
theorem Inv.cut (k : Inv X Γ bx h w) (n : Nat) (hb : (bx.take n).all (fun cs => AV.lb.lbs n cs) = true) : Inv X (Γ.cut n) (bx.take n) h w := by
  have hO : ∀ b o, (Γ.cut n).O b = some o → Γ.O b = some o := fun b o ho => by
    simp only [G.cut] at ho
    split at ho
    · rename_i i hi
      split at ho
      · simp only [Option.some.injEq] at ho; subst ho; exact hi
      · cases ho
    · exact ho
  refine ⟨k.F, fun b => ?_, fun b o ho => k.Olt b o (hO b o ho), k.Ilt, fun id b s hI hl => cut_obj.2 (k.Ilive id b s hI hl), fun i b hL => ?_, fun b hb => ?_, ?_, k.os, k.tape, k.output, k.size⟩
  · have hbk := k.O b
    unfold BlockOK at hbk ⊢
    cases ho : (Γ.cut n).O b with
    | none => trivial
    | some o =>
      rw [hO b o ho] at hbk
      cases o with
      | obj id =>
        obtain ⟨s, o, h1, h2, h3⟩ := hbk
        refine ⟨s, o, h1, h2, ?_⟩
        cases o with
        | cells cs m => exact ⟨h3.1, h3.2.1.mono rfl (fun j a v _ x => vrel_mono (Ext.cut_noL Γ n) a v x), h3.2.2⟩
        | map es => exact ⟨h3.1.mono rfl (Ext.cut_noL Γ n), h3.2⟩
        | loop j => exact h3
        | dead => trivial
      | box i =>
        obtain ⟨h1, cs, h2, h3, h4⟩ := hbk
        have hi : i < n := by
          simp only [G.cut] at ho
          split at ho
          · split at ho
            · simp only [Option.some.injEq, Own.box.injEq] at ho; subst ho; assumption
            · cases ho
          · rename_i hne
            exact absurd ho (hne i)
        have hget : (bx.take n)[i]? = some cs := by rw [List.getElem?_take, if_pos hi]; exact h2
        have hlb := List.all_eq_true.1 hb cs (List.mem_of_getElem? hget)
        refine ⟨by simp [G.cut, hi, h1], cs, hget, h3.mono rfl (fun j a v hj x => ⟨vrel_cut a v ?_ x.1, ownOK_cut x.2⟩), h4⟩
        have : ∀ (l : List AV), AV.lb.lbs n l = true → ∀ (j : Nat) (a : AV), l[j]? = some a → a.lb n = true := by
          intro l
          induction l with
          | nil => intro _ j a hj; simp at hj
          | cons c l ih =>
            intro hl j a hj
            simp only [AV.lb.lbs, Bool.and_eq_true] at hl
            cases j with
            | zero => simp at hj; subst hj; exact hl.1
            | succ j => exact ih hl.2 j a (by simpa using hj)
        exact this cs hlb j a hj
      | spare p tip s => exact hbk
      | mark => exact hbk
  · simp only [G.cut] at hL
    split at hL
    · rename_i hi
      have := k.L i b hL
      exact ⟨by simp; omega, by simp [G.cut, this.2, hi]⟩
    · cases hL
  · have := k.N b hb
    exact ⟨this.1, by simp [G.cut, this.2.1], this.2.2.1, this.2.2.2⟩
  · exact ⟨k.E.F, k.E.I, fun i b x => by simp [G.noL] at x⟩

def maskL (live : List Nat) : Nat → List AV → List AV
  | _, [] => []
  | i, a :: as => (if live.contains i then a else .undef) :: maskL live (i + 1) as

/-- s' is s, but for the slots that are not live, and the boxes from n on. -/
structure Mask (live : List Nat) (n : Nat) (s s' : ASt) : Prop where
  sl : s'.sl = maskL live 0 s.sl
  bx : s'.bx = s.bx.take n
  h : s'.h = s.h
  lb1 : AV.lb.lbs n s'.sl = true
  lb2 : s'.bx.all (fun cs => AV.lb.lbs n cs) = true

theorem maskL_get {live : List Nat} : ∀ {i : Nat} {l : List AV} {j : Nat} {b : AV}, (maskL live i l)[j]? = some b → ∃ c, l[j]? = some c ∧ (b = c ∨ b = .undef)
  | i, [], j, b, h => by simp [maskL] at h
  | i, a :: as, 0, b, h => by
    simp only [maskL, List.getElem?_cons_zero, Option.some.injEq] at h
    refine ⟨a, rfl, ?_⟩
    split at h
    · exact .inl h.symm
    · exact .inr h.symm
  | i, a :: as, j + 1, b, h => by
    simp only [maskL, List.getElem?_cons_succ] at h
    exact maskL_get (i := i + 1) (l := as) h
theorem maskL_length {live : List Nat} : ∀ {i : Nat} {l : List AV}, (maskL live i l).length = l.length
  | _, [] => rfl
  | i, a :: as => by simp [maskL, maskL_length]

theorem Rel.mask (k : Rel X Γ s a w) {live : List Nat} {n : Nat} {s' : ASt} (hm : Mask live n s s') : ∃ Γ', Rel X Γ' s' a w := by
  obtain ⟨h1, h2, h3, h4, h5⟩ := hm
  refine ⟨Γ.cut n, ?_, ⟨by rw [h1, maskL_length]; exact k.slots.size, fun t b hb => ?_⟩, k.defers⟩
  · rw [h2, h3]
    exact k.inv.cut n (by rw [← h2]; exact h5)
  · have hlb : b.lb n = true := by
      have : ∀ (l : List AV), AV.lb.lbs n l = true → ∀ (j : Nat) (a : AV), l[j]? = some a → a.lb n = true := by
        intro l
        induction l with
        | nil => intro _ j a hj; simp at hj
        | cons c l ih =>
          intro hl j a hj
          simp only [AV.lb.lbs, Bool.and_eq_true] at hl
          cases j with
          | zero => simp at hj; subst hj; exact hl.1
          | succ j => exact ih hl.2 j a (by simpa using hj)
      exact this _ h4 t b hb
    rw [h1] at hb
    obtain ⟨c, hc, e⟩ := maskL_get hb
    obtain ⟨v, hv, hr⟩ := k.slots.get t c hc
    rcases e with rfl | rfl
    · exact ⟨v, hv, vrel_cut _ _ hlb hr.1, ownOK_cut hr.2⟩
    · exact ⟨v, hv, by simp [vrel], by simp [ownOK]⟩

/-- A loop, by what is known ahead of each round. -/
theorem AWp.loopA {c : Code} {s : ASt} {K : Exit → ASt → Prop} {α : Type} (live : List Nat) (n : Nat) (st : α → ASt) (φ : α → Prop) (μ : α → Nat)
    (g0 : α) (h0 : φ g0) (e0 : Mask live n s (st g0))
    (round : ∀ g, φ g → AWp C P ro c (st g) fun e s' => match e with | .normal => ∃ g', φ g' ∧ μ g' < μ g ∧ Mask live n s' (st g') | e => K e s') : AWp C P ro (.loop c) s K := by
  refine ⟨fun X hC Γ a w k => ?_⟩
  let J : Nat → Act → World → Prop := fun m a w => ∃ g Γ X', φ g ∧ μ g = m ∧ Rel X' Γ (st g) a w ∧ Sub X X' ∧ C.ok X'
  obtain ⟨Γ1, k1⟩ := k.mask e0
  classical
  have lead : ∀ a w, (∃ m, J m a w) → ∃ m, J m a w ∧ ∀ m', J m' a w → m ≤ m' := fun a w hex => by
    obtain ⟨m, hm⟩ := hex
    induction m using Nat.strongRecOn with
    | _ m ih =>
      by_cases hl : ∃ m', m' < m ∧ J m' a w
      · obtain ⟨m', h1, h2⟩ := hl; exact ih m' h1 h2
      · exact ⟨m, hm, fun m' h' => Nat.le_of_not_lt fun hlt => hl ⟨m', hlt, h'⟩⟩
  let μ' : Act → World → Nat := fun a w => if h : ∃ m, J m a w then Classical.choose (lead a w h) else 0
  refine wpIn_loop (fun a w => ∃ m, J m a w) μ' ⟨_, g0, Γ1, X, h0, rfl, k1, Sub.refl X, hC⟩ ?_
  intro a w hI
  obtain ⟨⟨g, Γ2, X2, hg, hgm, k2, hs2, hC2⟩, hmin⟩ := Classical.choose_spec (lead a w hI)
  have hμ : μ' a w = μ g := by
    show (if h : ∃ m, J m a w then Classical.choose (lead a w h) else 0) = μ g
    rw [dif_pos hI]
    exact hgm.symm
  refine wpIn_mono ((round g hg).run X2 hC2 Γ2 a w k2) ?_
  intro e a' w' ⟨s', Γ', X', hK, k', hs', hC'⟩
  cases e with
  | normal =>
    obtain ⟨g', hg', hlt, hmask⟩ := hK
    obtain ⟨Γ3, k3⟩ := k'.mask hmask
    have hJ : J (μ g') a' w' := ⟨g', Γ3, X', hg', rfl, k3, hs2.trans hs', hC'⟩
    refine ⟨⟨_, hJ⟩, ?_⟩
    have h1 : μ' a' w' ≤ μ g' := by
      show (if h : ∃ m, J m a' w' then Classical.choose (lead a' w' h) else 0) ≤ μ g'
      rw [dif_pos ⟨_, hJ⟩]
      exact (Classical.choose_spec (lead a' w' ⟨_, hJ⟩)).2 _ hJ
    rw [hμ]
    omega
  | _ => exact ⟨s', Γ', X', hK, k', hs2.trans hs', hC'⟩

theorem AWp.loop (hT : TabOK P T) (hm : P.follows .mixedOrders = true) {pl : List (Nat × Plan)} {c : Code} {s : ASt} {K : Exit → ASt → Prop} {α : Type} (live : List Nat) (n : Nat) (st : α → ASt) (φ : α → Prop) (μ : α → Nat)
    (hok : okCode ann ro pl c = true) (g0 : α) (h0 : φ g0) (e0 : Mask live n s (st g0))
    (round : ∀ g, φ g → vc C P T ann (AWp C P ro) pl c (st g) fun e s' => match e with | .normal => ∃ g', φ g' ∧ μ g' < μ g ∧ Mask live n s' (st g') | e => K e s') : AWp C P ro (.loop c) s K :=
  AWp.loopA live n st φ μ g0 h0 e0 (fun g hg => vc_sound hT hm c (st g) _ hok (round g hg))

end
end Go.Ab
end
section
/- A function's contract, from what must hold ahead of its body. -/
set_option linter.unusedSimpArgs false
set_option linter.unusedVariables false
namespace Go.Ab

def resK (T : Tab) : List ResultVar → ASt → (List AV → Prop) → Prop
  | [], s, K => K []
  | .tmp t :: r, s, K => resK T r s fun vs => K (s.sl.getD t .undef :: vs)
  | .cell p t :: r, s, K => loadK T t (s.sl.getD p .undef) s.bx s.h fun v => resK T r s fun vs => K (v.un :: vs)

def retK (h : List AObj) (K : AV → List AObj → Prop) : List AV → Prop
  | [v] => v.nol = true ∧ K v h
  | vs => AV.nol.nols vs = true ∧ K (.tup (vs.map AV.un)) h

/-- What a body must leave behind. -/
def bodyK (T : Tab) (fn : Func) (K : AV → List AObj → Prop) (e : Exit) (s : ASt) : Prop :=
  match e with
  | .normal | .ret => resK T fn.results.toList s (retK s.h K)
  | _ => False

def inits (fn : Func) (args : List AV) : List AV := args ++ List.replicate (fn.ntmps - args.length) (.tup [])

def resV (tmps : Array Value) : ResultVar → Sem Value
  | .tmp t => pure (tmps.getD t undef)
  | .cell a t => do loadVar t (← asAddr (tmps.getD a undef))

section
variable {C : CX} {P : Program} {T : Tab} {ann : Ann} {ro : Option Nat} {Γ : G} {X : Ctx} {s : ASt} {a : Act} {w : World} {bx : List (List AV)} {h : List AObj}

theorem res_sim (hT : TabOK P T) {tmps : Array Value} (k : Inv X Γ s.bx s.h w) (hs : SlotsOK Γ s.sl tmps) : ∀ (rs : List ResultVar) {K : List AV → Prop}, resK T rs s K →
    ∃ vs us, K vs ∧ (rs.mapM (resV tmps)).run P w = .ok us w ∧ lrel Γ vs us ∧
      (∀ v, vs = [v] → v.owns = true → ∃ t, ownOK Γ (.slot t) v (us.headD undef)) := by
  intro rs
  induction rs with
  | nil => intro K h; exact ⟨[], [], h, by simp, by simp [lrel], by simp⟩
  | cons r rs ih =>
    intro K h
    have hs' : SlotsOK Γ s.sl (Act.mk tmps []).tmps := hs
    cases r with
    | tmp t =>
      simp only [resK] at h
      obtain ⟨vs, us, hK, hrun, hl, _⟩ := ih h
      have ht := hs'.tmp t
      refine ⟨_, tmps.getD t undef :: us, hK, by simp only [List.mapM_cons, resV, Sem.run_bind, Sem.run_pure, Result.andThen_ok, hrun], ?_, fun v hv ho => ?_⟩
      · simp only [lrel]; exact ⟨_, us, rfl, ht.1, hl⟩
      · simp only [List.cons.injEq] at hv
        obtain ⟨rfl, _⟩ := hv
        exact ⟨t, ht.2⟩
    | cell p t =>
      simp only [resK] at h
      have hp := (hs'.tmp p).1
      obtain ⟨r, r', hK, hrun1, hr⟩ := load_sim (P := P) hT k h hp
      obtain ⟨vs, us, hK, hrun, hl, _⟩ := ih hK
      refine ⟨_, r' :: us, hK, ?_, ?_, fun v hv ho => ?_⟩
      · have : ∃ ad, tmps.getD p undef = .pointer (some ad) ∧ (loadVar t ad).run P w = .ok r' w := by
          have h2 := hp
          unfold loadK at h
          cases hti : T.get t with
          | none => rw [hti] at h; exact h.elim
          | some ti =>
            rw [hti] at h
            obtain ⟨_, h⟩ := h
            split at h
            · rename_i heq; rw [heq] at h2; simp only [vrel] at h2
              obtain ⟨b, o, hv, _⟩ := h2
              refine ⟨_, hv, ?_⟩
              have hv' : (Act.mk tmps []).tmps.getD p undef = .pointer (some ⟨b, o, none⟩) := hv
              simpa [Instr.loadAt, Instr.sureAddr, hv'] using hrun1
            · rename_i heq; rw [heq] at h2; simp only [vrel] at h2
              obtain ⟨b, _, hv⟩ := h2
              refine ⟨_, hv, ?_⟩
              have hv' : (Act.mk tmps []).tmps.getD p undef = .pointer (some ⟨b, _, none⟩) := hv
              simpa [Instr.loadAt, Instr.sureAddr, hv'] using hrun1
            · rename_i heq; rw [heq] at h2; simp only [vrel] at h2
              obtain ⟨b, s', _, hv⟩ := h2
              refine ⟨_, hv, ?_⟩
              have hv' : (Act.mk tmps []).tmps.getD p undef = .pointer (some ⟨b, _, none⟩) := hv
              simpa [Instr.loadAt, Instr.sureAddr, hv'] using hrun1
            · exact h.elim
        obtain ⟨ad, e1, e2⟩ := this
        simp only [List.mapM_cons, resV, e1, asAddr, pure_bind, Sem.run_bind, Sem.run_pure, Result.andThen_ok, e2, hrun]
      · simp only [lrel]; exact ⟨_, us, rfl, vrel_un hr, hl⟩
      · simp only [List.cons.injEq] at hv
        obtain ⟨rfl, _⟩ := hv
        rw [un_owns] at ho
        cases ho

theorem run_results {fn : Func} {tmps : Array Value} {us : List Value} (h : (fn.results.toList.mapM (resV tmps)).run P w = .ok us w) :
    (results fn tmps).run P w = .ok (match us with | [v] => v | vs => .tuple vs.toArray) w := by
  have e : results fn tmps = (do let vs ← fn.results.mapM (resV tmps); pure (if h : vs.size = 1 then vs[0] else .tuple vs)) := rfl
  rw [e, Array.mapM_eq_mapM_toList]
  simp only [Sem.run_bind, Sem.run_map, h, Result.andThen_ok, Sem.run_pure]
  cases us with
  | nil => simp
  | cons u us =>
    cases us with
    | nil => simp
    | cons v us => simp

/-- The marks of an activation's loops are taken. -/
theorem marks_leave {X0 : Ctx} {fn : Func} {tmps : Array Value} {R : Ending → World → Prop} : ∀ (ms : List Nat) (w : World), Inv X0 Γ bx h w → ms.Nodup → (∀ r ∈ ms, w.heap[r]? = some (.deferred (some [])) ∧ X0.w0.heap.size ≤ r ∧ Γ.O r = none ∧ ∀ o, Γ.F r o = none) →
    (∀ w', Inv X0 Γ bx h w' → ∃ v, (results fn tmps).run P w' = .ok v w' ∧ R (.returned v) w') → LeavesInM (Fc none) 0 P fn tmps R (ms.map markOf) .returning w
  | [], w, k, _, _, hR => hR w k
  | r :: ms, w, k, hn, hm, hR => by
    obtain ⟨h1, h2, h3, h4⟩ := hm r (by simp)
    refine ⟨by simp, .inl ⟨r, w.putObj r (.deferred none), rfl, run_takeDeferred h1, ?_⟩⟩
    have hlt := (Array.getElem?_eq_some_iff.1 h1).1
    have k' : Inv X0 Γ bx h (w.putObj r (.deferred none)) := by
      refine k.update (fun x => x = r) (Ext.refl Γ) (fun x hx => .inl (World.putObj_heap_other hx)) (fun _ _ => rfl) (fun _ _ _ => rfl) (fun x o v hx hv => by subst hx; rw [h4 o] at hv; cases hv)
        (fun x hx hN => by subst hx; have := (k.N x hN).1; omega) (fun _ _ _ _ => rfl) (fun i j tip s x x' hx ho => by subst hx; rw [h3] at ho; cases ho) (fun _ _ _ _ => rfl) (fun x hx => by subst hx; unfold BlockOK; rw [h3]; trivial)
        (fun x o hx ho => by subst hx; rw [h3] at ho; cases ho) k.Ilt k.Ilive k.L rfl rfl rfl (by simp [World.putObj])
    have hn' := List.nodup_cons.1 hn
    exact marks_leave ms _ k' hn'.2 (fun r' hr' => by
      have := hm r' (by simp [hr'])
      refine ⟨?_, this.2⟩
      rw [World.putObj_heap_other (fun e => by subst e; exact hn'.1 hr')]
      exact this.1) hR

theorem cut0 (k : Inv X Γ bx h w) : Inv X (Γ.cut 0) [] h w := by simpa using k.cut 0 (by simp)

/-- Where a call starts. -/
def Ctx.start (X : Ctx) (Γ : G) (w : World) : Ctx := { w0 := w, N := X.N, Γ0 := Γ, R := X.R, marks := [] }
theorem Inv.start (k : Inv X Γ bx h w) : Inv (X.start Γ w) Γ bx h w ∧ Sub X (X.start Γ w) := by
  refine ⟨⟨k.F, fun b => ?_, k.Olt, k.Ilt, k.Ilive, k.L, fun b hb => ?_, Ext.of_noL Γ, rfl, rfl, rfl, Nat.le_refl _⟩, ⟨⟨fun _ _ x => x, fun _ _ x => .inl x, k.E, k.size⟩, fun Γ' bx' h' w' k' => ⟨k'.F, fun b => ?_, k'.Olt, k'.Ilt, k'.Ilive, k'.L, fun b hb => ?_, ?_, k'.os.trans k.os, k'.tape.trans k.tape, k'.output.trans k.output, Nat.le_trans k.size k'.size⟩, k.size, fun r hr => by cases hr⟩⟩
  · have := k.O b
    unfold BlockOK at this ⊢
    cases ho : Γ.O b with
    | none => trivial
    | some o =>
      rw [ho] at this
      cases o with
      | obj id =>
        obtain ⟨s, o, h1, h2, h3⟩ := this
        refine ⟨s, o, h1, h2, ?_⟩
        cases o <;> exact h3
      | _ => exact this
  · have h1 := k.N b hb
    exact ⟨Nat.lt_of_lt_of_le h1.1 k.size, h1.2.1, rfl, fun _ => rfl⟩
  · have := k'.O b
    unfold BlockOK at this ⊢
    cases ho : Γ'.O b with
    | none => trivial
    | some o =>
      rw [ho] at this
      cases o with
      | obj id =>
        obtain ⟨s, o, h1, h2, h3⟩ := this
        refine ⟨s, o, h1, h2, ?_⟩
        cases o <;> exact h3
      | _ => exact this
  · have h1 := k.N b hb
    have h2 := k'.N b hb
    exact ⟨h1.1, h2.2.1, h2.2.2.1.trans h1.2.2.1, fun o => (h2.2.2.2 o).trans (h1.2.2.2 o)⟩
  · have e1 := k.E
    have e2 := k'.E
    exact ⟨fun b o v x => e2.F _ _ _ (e1.F _ _ _ x), fun i p x => e2.I _ _ (e1.I _ _ x), fun i b x => by simp [G.noL] at x⟩

/-- A function's contract. -/
theorem ACall.of_awp (hT : TabOK P T) {f : FuncId} {fn : Func} {c : Code} (hf : P.funcs[f]? = some fn) (hb : fn.body = some c) (hnm : (fn.name == "runtime.NumGoroutine") = false)
    {args : List AV} {hp : List AObj} {K : AV → List AObj → Prop} (hown : args.all (fun a => !a.owns) = true)
    (hv : AWp C P none c ⟨inits fn args, [], hp⟩ (bodyK T fn K)) : ACall C P f args hp K := by
  refine ⟨fun X hC Γ w vs k hl => ?_⟩
  refine .inl ⟨?_, ?_⟩
  · have hnm' : ¬ (fn.name = "runtime.NumGoroutine") := by simpa using hnm
    simp [callFunc, hf, hnm', hb]
  · obtain ⟨k0, hsub⟩ := k.start
    have hlen := lrel_length hl
    have hsl : SlotsOK Γ (inits fn args) (vs ++ Array.replicate (fn.ntmps - vs.size) undef) := by
      have hsz : args.length = vs.size := by simpa using hlen
      refine ⟨by simp [inits, hsz], fun t b hb => ?_⟩
      simp only [inits] at hb
      rw [List.getElem?_append] at hb
      split at hb
      · rename_i hlt
        obtain ⟨v, e1, e2⟩ := lrel_get hl hb
        refine ⟨v, ?_, e2, ownOK_of_not ?_⟩
        · rw [Array.getElem?_append_left (by omega)]
          simpa using e1
        · have := List.all_eq_true.1 hown b (List.mem_of_getElem? hb)
          simpa using this
      · rename_i hge
        have hlt := (List.getElem?_eq_some_iff.1 hb).1
        simp only [List.length_replicate] at hlt
        rw [List.getElem?_replicate, if_pos (by omega)] at hb
        simp only [Option.some.injEq] at hb
        subst hb
        refine ⟨undef, ?_, by simp [vrel, lrel, undef], by simp [ownOK]⟩
        rw [Array.getElem?_append_right (by omega), Array.getElem?_replicate, if_pos (by omega)]
    have key := hv.run (X.start Γ w) (C.up _ _ hC hsub.up) Γ ⟨vs ++ Array.replicate (fn.ntmps - vs.size) undef, []⟩ w ⟨k0, hsl, ⟨rfl, List.nodup_nil, fun r hr => by cases hr⟩⟩
    have key2 : CallsIn Fence.wide 0 P f vs w (fun | .returned v, w' => CallPost X Γ K v w' | _, _ => False) := by
      refine callsIn_of_wp_marks hf hb trivial (wpIn_mono key ?_)
      intro e a' w' ⟨s', Γ', X', hK, k', hs', hC'⟩
      have go : resK T fn.results.toList s' (retK s'.h K) → LeavesInM (Fc none) 0 P fn a'.tmps (fun | .returned v, w' => CallPost X Γ K v w' | _, _ => False) a'.defers .returning w' := fun hres => by
        rw [k'.defers.eq]
        refine marks_leave X'.marks w' (hs'.inv _ _ _ _ k'.inv) k'.defers.nodup (fun r hr => ?_) (fun w2 k2 => ?_)
        · obtain ⟨h1, h2, h3⟩ := k'.defers.get r hr
          obtain ⟨n1, n2, n3, n4⟩ := k'.inv.N r h1
          refine ⟨n3.trans h2, ?_, n2, fun o => (n4 o).trans (h3 o)⟩
          rcases hs'.marks r hr with hx | hx
          · cases hx
          · exact hx
        · obtain ⟨avs, us, hK', hrun, hlr, hown⟩ := res_sim (P := P) hT k2 k'.slots fn.results.toList hres
          refine ⟨_, run_results hrun, ?_⟩
          have hE : Ext Γ (Γ'.cut 0) := by
            have e := k2.E
            exact ⟨e.F, e.I, fun i b x => absurd (k.L i b x).1 (by simp)⟩
          have kc : Inv X (Γ'.cut 0) [] s'.h w2 := hsub.inv _ _ _ _ (cut0 k2)
          have many : ∀ vs : List AV, AV.nol.nols vs = true → K (.tup (vs.map AV.un)) s'.h → lrel Γ' vs us → CallPost X Γ K (.tuple us.toArray) w2 := fun vs hn hK' hl' =>
            ⟨_, s'.h, Γ'.cut 0, hK', kc, hE, by simp only [vrel]; exact ⟨us.toArray, rfl, lrel_mono (Ext.noL_cut Γ' 0) _ _ (by simpa using lrel_un (lrel_nol _ _ hn hl'))⟩, by simp [ownOK]⟩
          match avs, us, hK', hlr, hown with
          | [v], us, hK', hlr, hown =>
            simp only [lrel] at hlr
            obtain ⟨u, us', rfl, hr, rfl⟩ := hlr
            obtain ⟨hn, hK'⟩ := hK'
            have hr' := vrel_mono (Ext.noL_cut Γ' 0) _ _ (vrel_nol _ _ hn hr)
            cases ho : v.owns with
            | false => exact ⟨v, s'.h, Γ'.cut 0, hK', kc, hE, hr', ownOK_of_not ho⟩
            | true =>
              obtain ⟨t, how⟩ := hown v rfl ho
              cases v with
              | sl z sz es tip =>
                cases z <;> cases tip <;> simp [AV.owns] at ho
                simp only [ownOK] at how
                obtain ⟨b, o, cap, s1, e1, e2, e3⟩ := how
                have kr := kc.reown (cut_spare.2 e2) (.slot 0)
                exact ⟨_, s'.h, _, hK', kr, hE.trans (Ext.reown _ _ _ _ _), vrel_mono (Ext.reown _ _ _ _ _) _ _ hr', by simp only [ownOK]; exact ⟨b, o, cap, s1, e1, by simp [G.reown], e3⟩⟩
              | _ => simp [AV.owns] at ho
          | [], us, hK', hlr, hown =>
            have hu := hlr
            simp only [lrel] at hu
            subst hu
            exact many [] hK'.1 hK'.2 hlr
          | v1 :: v2 :: vs, us, hK', hlr, hown =>
            have hu := hlr
            simp only [lrel] at hu
            obtain ⟨u1, us1, rfl, _, u2, us2, rfl, _⟩ := hu
            exact many (v1 :: v2 :: vs) hK'.1 hK'.2 hlr
      cases e with
      | normal => exact go hK
      | ret => exact go hK
      | _ => exact hK.elim
    exact callsIn_wide.1 key2

end
end Go.Ab
end
section
/- The types' table of a program, made. -/
set_option linter.unusedSimpArgs false
set_option linter.unusedVariables false
namespace Go.Ab

def mkD (P : Program) (t : Nat) : TD :=
  match P.underlying t with
  | some (.int k) => .int k
  | some .bool => .bool
  | some .string => .str
  | some (.slice e) => .slice e
  | some (.struct fs) => .struct (fs.toList.map fun f => (f.offset, f.type))
  | some (.array n e) => .arr n e
  | some (.pointer e) => .ptr e
  | some (.map k e) => .map k e
  | some (.func _ _ _) => .func
  | some (.interface _) => .iface
  | _ => .other

/-- The fields of a flat struct, from the i-th on. -/
def flatFrom (P : Program) : Nat → List Field → Bool
  | _, [] => true
  | i, f :: fs => f.name != "_" && f.offset == i && (mkD P f.type).scalar && flatFrom P (i + 1) fs
def mkEq (P : Program) (t : Nat) : List TD :=
  match P.underlying t with
  | some (.struct fs) => if !P.stoodInHeld t && !P.eqGuardType P.depth t && flatFrom P 0 fs.toList then fs.toList.map fun f => mkD P f.type else []
  | _ => []

def mkTI (P : Program) (t : Nat) : Option TI :=
  match P.info? t with
  | none => none
  | some i => match i.zero with
    | none => none
    | some z => if z.cells.toList.all Value.oneCell' && ((mkD P t).isAgg || z.oneCell') && z.cells.size == i.size then
        some { d := mkD P t, size := i.size, bytes := i.bytes, zero := z.cells.toList.map ofV, eqk := mkEq P t } else none

def tabOf (P : Program) (n : Nat) : Tab := (List.range n).map (mkTI P)

section
variable {P : Program}

theorem mkD_ok (P : Program) (t : Nat) : descOK P t (mkD P t) := by
  unfold mkD
  split <;> simp only [descOK] <;> first
    | assumption
    | (exact ⟨_, _, _, by assumption⟩)
    | (exact ⟨_, by assumption, rfl⟩)
    | (exact ⟨_, by assumption⟩)

theorem flatFrom_ok : ∀ {fs : List Field} {i : Nat}, flatFrom P i fs = true → ∀ (j : Nat) (f : Field), fs[j]? = some f → f.name ≠ "_" ∧ f.offset = i + j ∧ (mkD P f.type).scalar = true
  | [], i, _, j, f, hj => by simp at hj
  | g :: fs, i, h, j, f, hj => by
    simp only [flatFrom, Bool.and_eq_true, bne_iff_ne, beq_iff_eq] at h
    obtain ⟨⟨⟨h1, h2⟩, h3⟩, h4⟩ := h
    cases j with
    | zero =>
      simp only [List.getElem?_cons_zero, Option.some.injEq] at hj
      subst hj
      exact ⟨h1, h2, h3⟩
    | succ j =>
      have := flatFrom_ok h4 j f (by simpa using hj)
      exact ⟨this.1, by rw [this.2.1]; omega, this.2.2⟩

theorem mkEq_ok {t : Nat} (h : mkEq P t ≠ []) : FlatEq P t (mkEq P t) := by
  unfold mkEq at h ⊢
  split at h
  · rename_i fs hu
    split at h
    · rename_i hc
      rw [if_pos hc]
      simp only [Bool.and_eq_true, Bool.not_eq_true'] at hc
      obtain ⟨⟨h1, h2⟩, h3⟩ := hc
      refine ⟨h1, h2, fs, hu, by simp, fun i f d hf hd => ?_⟩
      have hf' : fs.toList[i]? = some f := by simpa using hf
      have := flatFrom_ok h3 i f hf'
      rw [List.getElem?_map, hf'] at hd
      simp only [Option.map_some, Option.some.injEq] at hd
      subst hd
      exact ⟨this.1, by simpa using this.2.1, this.2.2, mkD_ok P f.type⟩
    · exact absurd rfl h
  · exact absurd rfl h

theorem mkTI_ok {t : Nat} {x : TI} (h : mkTI P t = some x) : TIOK P t x := by
  unfold mkTI at h
  cases hi : P.info? t with
  | none => rw [hi] at h; cases h
  | some i =>
    rw [hi] at h
    simp only at h
    cases hz : i.zero with
    | none => rw [hz] at h; cases h
    | some z =>
      rw [hz] at h
      simp only at h
      split at h
      · rename_i hc
        simp only [Option.some.injEq] at h
        subst h
        simp only [Bool.and_eq_true, Bool.or_eq_true, beq_iff_eq] at hc
        obtain ⟨⟨h1, h2⟩, h3⟩ := hc
        refine ⟨⟨i, z, hi, rfl, rfl, hz, fun _ Γ => ?_, fun v hv => List.all_eq_true.1 h1 v hv, fun ha => ?_, h3⟩, mkD_ok P t, mkEq_ok⟩
        · have := lrel_map (Γ := Γ) ofV (fun v => v) z.cells.toList (fun v _ => vrel_ofV Γ v)
          simpa using this
        · rcases h2 with h2 | h2
          · simp only at ha
            rw [ha] at h2
            cases h2
          · exact h2
      · cases h

theorem tabOf_ok (P : Program) (n : Nat) : TabOK P (tabOf P n) := fun t x h => by
  unfold Tab.get tabOf at h
  rw [List.getElem?_map] at h
  cases hr : (List.range n)[t]? with
  | none => rw [hr] at h; cases h
  | some u =>
    rw [hr] at h
    have : u = t := by
      rw [List.getElem?_eq_some_iff] at hr
      obtain ⟨_, hr⟩ := hr
      simpa using hr.symm
    subst this
    simp only [Option.map_some] at h
    cases hm : mkTI P u with
    | none => rw [hm] at h; cases h
    | some y =>
      rw [hm] at h
      simp only [Option.some.injEq] at h
      subst h
      exact mkTI_ok hm

end
end Go.Ab
end
