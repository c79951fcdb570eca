/- One text out of several: see the remark at the head of each part. -/
import Derived.Test.YtpjcpmmcaccgiaaBs2
import Derived.Test.YtpjcpmmcaccgiaaProg
import Derived.Test.YtpjcpmmcaccgiaaChecked
import Derived.ChangeArms
import Derived.ChangeSlices
import Derived.LoopNIn
set_option linter.all false
section
/- The seat's program: its types' table, and what all proofs of it begin with. -/
set_option linter.unusedSimpArgs false
set_option linter.unusedVariables false
set_option maxRecDepth 100000
namespace Go.Ab

def T : Tab := [
  none,
  some (TI.mk .func 1 8 [.nilf] []),
  some (TI.mk (.int .i64) 1 8 [.int .i64 0] []),
  some (TI.mk (.int .i64) 1 8 [.int .i64 0] []),
  some (TI.mk .bool 1 1 [.bool false] []),
  some (TI.mk (.int .u8) 1 1 [.int .u8 0] []),
  some (TI.mk (.int .u8) 1 1 [.int .u8 0] []),
  some (TI.mk (.struct [(0, 2), (1, 3), (2, 4), (3, 6)]) 4 24 [.int .i64 0, .int .i64 0, .bool false, .int .u8 0] [.int .i64, .int .i64, .bool, .int .u8]),
  some (TI.mk (.struct [(0, 2), (1, 3), (2, 4), (3, 6)]) 4 24 [.int .i64 0, .int .i64 0, .bool false, .int .u8 0] [.int .i64, .int .i64, .bool, .int .u8]),
  some (TI.mk .str 1 16 [.str []] []),
  some (TI.mk .str 1 16 [.str []] []),
  some (TI.mk .str 1 16 [.str []] []),
  some (TI.mk (.int .u64) 1 8 [.int .u64 0] []),
  some (TI.mk (.struct [(0, 9), (1, 12)]) 2 24 [.str [], .int .u64 0] []),
  some (TI.mk (.struct [(0, 9), (1, 12)]) 2 24 [.str [], .int .u64 0] []),
  some (TI.mk (.ptr 167) 1 8 [.nilp] []),
  some (TI.mk (.ptr 170) 1 8 [.nilp] []),
  some (TI.mk (.ptr 180) 1 8 [.nilp] []),
  some (TI.mk (.struct [(0, 17)]) 1 8 [.nilp] []),
  some (TI.mk (.struct [(0, 17)]) 1 8 [.nilp] []),
  some (TI.mk .iface 1 16 [.nili] []),
  some (TI.mk (.int .i32) 1 4 [.int .i32 0] []),
  some (TI.mk (.slice 33) 1 24 [.sl true 0 [] .own] []),
  some (TI.mk (.slice 100) 1 24 [.sl true 0 [] .own] []),
  some (TI.mk (.slice 86) 1 24 [.sl true 0 [] .own] []),
  some (TI.mk (.struct [(0, 3), (1, 3), (2, 3), (3, 22), (4, 23), (5, 24)]) 6 96 [.int .i64 0, .int .i64 0, .int .i64 0, .sl true 0 [] .own, .sl true 0 [] .own, .sl true 0 [] .own] []),
  some (TI.mk (.struct [(0, 3), (1, 3), (2, 3), (3, 22), (4, 23), (5, 24)]) 6 96 [.int .i64 0, .int .i64 0, .int .i64 0, .sl true 0 [] .own, .sl true 0 [] .own, .sl true 0 [] .own] []),
  some (TI.mk .func 1 8 [.nilf] []),
  some (TI.mk .func 1 8 [.nilf] []),
  some (TI.mk (.int .i64) 1 8 [.int .i64 0] []),
  none,
  some (TI.mk .func 1 8 [.nilf] []),
  some (TI.mk (.struct [(0, 3), (1, 3), (2, 3), (3, 3), (4, 9)]) 5 48 [.int .i64 0, .int .i64 0, .int .i64 0, .int .i64 0, .str []] [.int .i64, .int .i64, .int .i64, .int .i64, .str]),
  some (TI.mk (.struct [(0, 3), (1, 3), (2, 3), (3, 3), (4, 9)]) 5 48 [.int .i64 0, .int .i64 0, .int .i64 0, .int .i64 0, .str []] [.int .i64, .int .i64, .int .i64, .int .i64, .str]),
  some (TI.mk (.struct [(0, 26), (6, 3), (7, 33), (12, 24), (13, 29)]) 14 184 [.int .i64 0, .int .i64 0, .int .i64 0, .sl true 0 [] .own, .sl true 0 [] .own, .sl true 0 [] .own, .int .i64 0, .int .i64 0, .int .i64 0, .int .i64 0, .int .i64 0, .str [], .sl true 0 [] .own, .int .i64 0] []),
  some (TI.mk (.struct [(0, 26), (6, 3), (7, 33), (12, 24), (13, 29)]) 14 184 [.int .i64 0, .int .i64 0, .int .i64 0, .sl true 0 [] .own, .sl true 0 [] .own, .sl true 0 [] .own, .int .i64 0, .int .i64 0, .int .i64 0, .int .i64 0, .int .i64 0, .str [], .sl true 0 [] .own, .int .i64 0] []),
  some (TI.mk .func 1 8 [.nilf] []),
  some (TI.mk (.slice 3) 1 24 [.sl true 0 [] .own] []),
  none,
  some (TI.mk .func 1 8 [.nilf] []),
  some (TI.mk (.struct [(0, 37), (1, 29)]) 2 32 [.sl true 0 [] .own, .int .i64 0] []),
  some (TI.mk (.struct [(0, 37), (1, 29)]) 2 32 [.sl true 0 [] .own, .int .i64 0] []),
  some (TI.mk .func 1 8 [.nilf] []),
  some (TI.mk .func 1 8 [.nilf] []),
  some (TI.mk .func 1 8 [.nilf] []),
  some (TI.mk .func 1 8 [.nilf] []),
  some (TI.mk (.slice 53) 1 24 [.sl true 0 [] .own] []),
  some (TI.mk .func 1 8 [.nilf] []),
  some (TI.mk (.slice 55) 1 24 [.sl true 0 [] .own] []),
  none,
  some (TI.mk .func 1 8 [.nilf] []),
  some (TI.mk (.slice 57) 1 24 [.sl true 0 [] .own] []),
  some (TI.mk (.struct [(0, 3), (1, 3), (2, 3), (3, 3), (4, 9)]) 5 48 [.int .i64 0, .int .i64 0, .int .i64 0, .int .i64 0, .str []] [.int .i64, .int .i64, .int .i64, .int .i64, .str]),
  some (TI.mk (.struct [(0, 3), (1, 3), (2, 3), (3, 3), (4, 9)]) 5 48 [.int .i64 0, .int .i64 0, .int .i64 0, .int .i64 0, .str []] [.int .i64, .int .i64, .int .i64, .int .i64, .str]),
  some (TI.mk (.struct [(0, 53), (5, 29), (6, 3), (7, 33), (12, 24)]) 13 136 [.int .i64 0, .int .i64 0, .int .i64 0, .int .i64 0, .str [], .int .i64 0, .int .i64 0, .int .i64 0, .int .i64 0, .int .i64 0, .int .i64 0, .str [], .sl true 0 [] .own] []),
  some (TI.mk (.struct [(0, 53), (5, 29), (6, 3), (7, 33), (12, 24)]) 13 136 [.int .i64 0, .int .i64 0, .int .i64 0, .int .i64 0, .str [], .int .i64 0, .int .i64 0, .int .i64 0, .int .i64 0, .int .i64 0, .int .i64 0, .str [], .sl true 0 [] .own] []),
  some (TI.mk (.struct [(0, 3), (1, 3)]) 2 16 [.int .i64 0, .int .i64 0] [.int .i64, .int .i64]),
  some (TI.mk (.struct [(0, 3), (1, 3)]) 2 16 [.int .i64 0, .int .i64 0] [.int .i64, .int .i64]),
  some (TI.mk .func 1 8 [.nilf] []),
  some (TI.mk .func 1 8 [.nilf] []),
  some (TI.mk .func 1 8 [.nilf] []),
  some (TI.mk .func 1 8 [.nilf] []),
  some (TI.mk .func 1 8 [.nilf] []),
  some (TI.mk .func 1 8 [.nilf] []),
  none,
  some (TI.mk .func 1 8 [.nilf] []),
  some (TI.mk .func 1 8 [.nilf] []),
  some (TI.mk .func 1 8 [.nilf] []),
  some (TI.mk .func 1 8 [.nilf] []),
  none,
  some (TI.mk .func 1 8 [.nilf] []),
  some (TI.mk .func 1 8 [.nilf] []),
  none,
  some (TI.mk .func 1 8 [.nilf] []),
  some (TI.mk .func 1 8 [.nilf] []),
  some (TI.mk .func 1 8 [.nilf] []),
  some (TI.mk (.int .u16) 1 2 [.int .u16 0] []),
  some (TI.mk .func 1 8 [.nilf] []),
  some (TI.mk .func 1 8 [.nilf] []),
  none,
  some (TI.mk .func 1 8 [.nilf] []),
  some (TI.mk .func 1 8 [.nilf] []),
  none,
  some (TI.mk .func 1 8 [.nilf] []),
  some (TI.mk .func 1 8 [.nilf] []),
  some (TI.mk (.struct [(0, 3), (1, 3), (2, 3)]) 3 24 [.int .i64 0, .int .i64 0, .int .i64 0] [.int .i64, .int .i64, .int .i64]),
  some (TI.mk (.struct [(0, 3), (1, 3), (2, 3)]) 3 24 [.int .i64 0, .int .i64 0, .int .i64 0] [.int .i64, .int .i64, .int .i64]),
  none,
  some (TI.mk .func 1 8 [.nilf] []),
  some (TI.mk .func 1 8 [.nilf] []),
  some (TI.mk (.ptr 125) 1 8 [.nilp] []),
  none,
  some (TI.mk .func 1 8 [.nilf] []),
  some (TI.mk .func 1 8 [.nilf] []),
  some (TI.mk .func 1 8 [.nilf] []),
  some (TI.mk .func 1 8 [.nilf] []),
  some (TI.mk .func 1 8 [.nilf] []),
  some (TI.mk .func 1 8 [.nilf] []),
  some (TI.mk .func 1 8 [.nilf] []),
  some (TI.mk (.struct [(0, 3), (1, 3)]) 2 16 [.int .i64 0, .int .i64 0] [.int .i64, .int .i64]),
  some (TI.mk (.struct [(0, 3), (1, 3)]) 2 16 [.int .i64 0, .int .i64 0] [.int .i64, .int .i64]),
  some (TI.mk .func 1 8 [.nilf] []),
  some (TI.mk .func 1 8 [.nilf] []),
  some (TI.mk .func 1 8 [.nilf] []),
  some (TI.mk .func 1 8 [.nilf] []),
  some (TI.mk .func 1 8 [.nilf] []),
  some (TI.mk (.map 108 4) 1 8 [.nilm] []),
  some (TI.mk (.struct [(0, 3), (1, 3)]) 2 16 [.int .i64 0, .int .i64 0] [.int .i64, .int .i64]),
  some (TI.mk (.struct [(0, 3), (1, 3)]) 2 16 [.int .i64 0, .int .i64 0] [.int .i64, .int .i64]),
  some (TI.mk .func 1 8 [.nilf] []),
  some (TI.mk .func 1 8 [.nilf] []),
  some (TI.mk .func 1 8 [.nilf] []),
  some (TI.mk .func 1 8 [.nilf] []),
  some (TI.mk .func 1 8 [.nilf] []),
  some (TI.mk .func 1 8 [.nilf] []),
  some (TI.mk .func 1 8 [.nilf] []),
  none,
  some (TI.mk .func 1 8 [.nilf] []),
  some (TI.mk .func 1 8 [.nilf] []),
  some (TI.mk .iface 1 16 [.nili] []),
  some (TI.mk .iface 1 16 [.nili] []),
  some (TI.mk .func 1 8 [.nilf] []),
  some (TI.mk .func 1 8 [.nilf] []),
  some (TI.mk .func 1 8 [.nilf] []),
  some (TI.mk (.struct [(0, 26)]) 6 96 [.int .i64 0, .int .i64 0, .int .i64 0, .sl true 0 [] .own, .sl true 0 [] .own, .sl true 0 [] .own] []),
  some (TI.mk (.struct [(0, 26)]) 6 96 [.int .i64 0, .int .i64 0, .int .i64 0, .sl true 0 [] .own, .sl true 0 [] .own, .sl true 0 [] .own] []),
  none,
  some (TI.mk .func 1 8 [.nilf] []),
  some (TI.mk .func 1 8 [.nilf] []),
  some (TI.mk .func 1 8 [.nilf] []),
  some (TI.mk .func 1 8 [.nilf] []),
  some (TI.mk .func 1 8 [.nilf] []),
  some (TI.mk .func 1 8 [.nilf] []),
  some (TI.mk .func 1 8 [.nilf] []),
  some (TI.mk .func 1 8 [.nilf] []),
  some (TI.mk (.map 100 4) 1 8 [.nilm] []),
  some (TI.mk .func 1 8 [.nilf] []),
  some (TI.mk .func 1 8 [.nilf] []),
  some (TI.mk .func 1 8 [.nilf] []),
  none,
  some (TI.mk .func 1 8 [.nilf] []),
  some (TI.mk .func 1 8 [.nilf] []),
  none,
  some (TI.mk .func 1 8 [.nilf] []),
  none,
  some (TI.mk .func 1 8 [.nilf] []),
  some (TI.mk .func 1 8 [.nilf] []),
  some (TI.mk .func 1 8 [.nilf] []),
  some (TI.mk .func 1 8 [.nilf] []),
  some (TI.mk .func 1 8 [.nilf] []),
  some (TI.mk .func 1 8 [.nilf] []),
  some (TI.mk (.struct []) 0 0 [] []),
  some (TI.mk (.struct []) 0 0 [] []),
  none,
  some (TI.mk .func 1 8 [.nilf] []),
  some (TI.mk (.int .u64) 1 8 [.int .u64 0] []),
  some (TI.mk .func 1 8 [.nilf] []),
  some (TI.mk .func 1 8 [.nilf] []),
  some (TI.mk .func 1 8 [.nilf] []),
  some (TI.mk .func 1 8 [.nilf] []),
  some (TI.mk .func 1 8 [.nilf] []),
  some (TI.mk .func 1 8 [.nilf] []),
  some (TI.mk .func 1 8 [.nilf] []),
  some (TI.mk .func 1 8 [.nilf] []),
  some (TI.mk .func 1 8 [.nilf] []),
  some (TI.mk .func 1 8 [.nilf] []),
  some (TI.mk (.struct [(0, 17), (1, 17), (2, 17), (3, 9)]) 4 40 [.nilp, .nilp, .nilp, .str []] []),
  some (TI.mk (.struct [(0, 17), (1, 17), (2, 17), (3, 9)]) 4 40 [.nilp, .nilp, .nilp, .str []] []),
  some (TI.mk (.arr 0 16) 0 0 [] []),
  some (TI.mk (.struct [(0, 168)]) 0 0 [] []),
  some (TI.mk (.struct [(0, 168)]) 0 0 [] []),
  some (TI.mk .func 1 8 [.nilf] []),
  some (TI.mk (.int .u32) 1 4 [.int .u32 0] []),
  some (TI.mk (.int .u8) 1 1 [.int .u8 0] []),
  some (TI.mk (.int .u8) 1 1 [.int .u8 0] []),
  some (TI.mk .func 1 8 [.nilf] []),
  some (TI.mk (.ptr 5) 1 8 [.nilp] []),
  some (TI.mk (.int .i32) 1 4 [.int .i32 0] []),
  some (TI.mk (.int .i32) 1 4 [.int .i32 0] []),
  some (TI.mk (.struct [(0, 12), (1, 12), (2, 172), (3, 173), (4, 5), (5, 5), (6, 174), (7, 175), (8, 176), (9, 177), (10, 178)]) 11 48 [.int .u64 0, .int .u64 0, .int .u32 0, .int .u8 0, .int .u8 0, .int .u8 0, .int .u8 0, .nilf, .nilp, .int .i32 0, .int .i32 0] []),
  some (TI.mk (.struct [(0, 12), (1, 12), (2, 172), (3, 173), (4, 5), (5, 5), (6, 174), (7, 175), (8, 176), (9, 177), (10, 178)]) 11 48 [.int .u64 0, .int .u64 0, .int .u32 0, .int .u8 0, .int .u8 0, .int .u8 0, .int .u8 0, .nilf, .nilp, .int .i32 0, .int .i32 0] []),
  some (TI.mk .other 1 8 [.nilp] [])]

noncomputable abbrev Pg : Program := Go.Proofs.Try.prog
theorem T_eq : tabOf Pg 182 = T := by kernel_rfl
theorem T_ok : TabOK Pg T := T_eq ▸ tabOf_ok Pg 182
theorem mixed : Pg.follows .mixedOrders = true := by kernel_rfl
def bodyOf (f : Func) : Code := f.body.getD .skip

end Go.Ab
end
section
/- From a contract to what a row asks. -/
set_option linter.unusedSimpArgs false
set_option linter.unusedVariables false
namespace Go.Ab
open Go.RowKit (Below)

/-- What is known of memory when the program's outermost call begins. -/
def G.init (w : World) : G :=
  { F := fun b o => match w.cell? ⟨b, o, none⟩ with | some v => if v.oneCell' then some v else none | none => none, I := fun _ => none, L := fun _ => none, O := fun _ => none }
def Ctx.init (w : World) : Ctx := { w0 := w, N := fun b => b < w.heap.size, Γ0 := G.init w, R := fun _ => none, marks := [] }

section
variable {P : Program} {Γ : G} {X : Ctx} {bx : List (List AV)} {h : List AObj} {w w' : World}

theorem init_F {b o : Nat} {v : Value} (h : w.cell? ⟨b, o, none⟩ = some v) (h1 : v.oneCell' = true) : (G.init w).F b o = some v := by simp [G.init, h, h1]

theorem Inv.init (w : World) : Inv (Ctx.init w) (G.init w) [] [] w where
  F := fun b o v hv => by
    simp only [G.init] at hv
    split at hv
    · rename_i u hu
      split at hv
      · rename_i h1
        simp only [Option.some.injEq] at hv
        subst hv
        exact ⟨hu, h1⟩
      · cases hv
    · cases hv
  O := fun b => trivial
  Olt := fun b k hk => by cases hk
  Ilt := fun id p hp => by cases hp
  Ilive := fun id b s hI => by cases hI
  L := fun i b hL => by cases hL
  N := fun b hb => ⟨hb, rfl, rfl, fun _ => rfl⟩
  E := Ext.of_noL _
  os := rfl
  tape := rfl
  output := rfl
  size := Nat.le_refl _

theorem row_of {f : FuncId} {fn : Func} (hf : P.funcs[f]? = some fn) (hb : fn.body.isSome = true) (hnm : (fn.name == "runtime.NumGoroutine") = false) {args : List AV} (hc : ACall .any P f args [] (fun r _ => r = .bool true)) {vs : Array Value} (hv : lrel (G.init w) args vs.toList) :
    Calls P f vs w fun e w' => e = .returned (.bool true) ∧ Below w.heap.size w w' := by
  rcases hc.run (Ctx.init w) (fun _ _ h => by cases h) (G.init w) w vs (Inv.init w) hv with ⟨_, h2⟩ | ⟨v, w', h1, _⟩
  · intro cs
    obtain ⟨e, w', fr, r, rest⟩ := h2 cs
    refine ⟨e, w', fr, ?_, rest⟩
    cases e with
    | returned v =>
      obtain ⟨r, h', Γ', hK, k, hE, hr, _⟩ := r
      subst hK
      simp only [vrel] at hr
      subst hr
      exact ⟨rfl, k.os, k.tape, k.output, k.size, fun b hb => (k.N b hb).2.2.1⟩
    | panicked c => exact r.elim
    | outgrown => exact r.elim
  · exfalso
    have hnm' : ¬ (fn.name = "runtime.NumGoroutine") := by simpa using hnm
    cases hbd : fn.body with
    | none => rw [hbd] at hb; cases hb
    | some c =>
      simp [callFunc, hf, hnm', hbd] at h1

end
end Go.Ab
end
section
/- The arguments of a law's row, told as abstract values: numbers, truths, strings, structs of these, slices of these. -/
set_option linter.unusedSimpArgs false
set_option linter.unusedVariables false
namespace Go.Ab

section
variable {P : Program} {w : World} {H : Type} {enc : TypeId × Value → H} {sp : Nat → Bool} {held : Bool}

def fieldsT (F : Nat → List AV → Prop) : List Field → List AV → Prop
  | [], avs => avs = []
  | f :: r, avs => ∃ a b, avs = a ++ b ∧ F f.type a ∧ fieldsT F r b
/-- Abstract values of a type. -/
def isT (P : Program) : Nat → Nat → List AV → Prop
  | 0, _, _ => False
  | n + 1, t, avs => match P.underlying t with
    | some .bool => ∃ b, avs = [.bool b]
    | some (.int k) => ∃ m, avs = [.int k m] ∧ (Lit.int k m).wf = true
    | some .string => ∃ s : List UInt8, avs = [.str s] ∧ s.length ≤ maxLen
    | some (.slice e) => ∃ z s es, avs = [.sl z s es .no] ∧ (z = true → es = []) ∧ (z = false → s = P.cellsOf e) ∧ es.length ≤ maxLen ∧ ∀ c ∈ es, isT P n e c
    | some (.struct fs) => fieldsT (isT P n) fs.toList avs
    | _ => False
def tile (P : Program) (F : Nat → Bool) (total : Nat) : Nat → List Field → Bool
  | o, [] => o == total
  | o, f :: r => f.offset == o && F f.type && tile P F total (o + P.cellsOf f.type) r
def flatB (P : Program) : Nat → Nat → Bool
  | 0, _ => false
  | n + 1, t => match P.underlying t with
    | some .bool => true
    | some (.int _) => true
    | some .string => true
    | some (.struct fs) => tile P (flatB P n) (P.cellsOf t) 0 fs.toList
    | _ => false
def argB (P : Program) : Nat → Nat → Bool
  | 0, _ => false
  | n + 1, t => match P.underlying t with
    | some .bool => true
    | some (.int _) => true
    | some .string => true
    | some (.slice e) => flatB P n e
    | some (.struct fs) => tile P (argB P n) (P.cellsOf t) 0 fs.toList
    | _ => false

theorem tile_open {Γ : G} {F : Nat → List AV → Prop} {B : Nat → Bool} {total : Nat} {cs : List Value} (hl : cs.length = total) : ∀ (fs : List Field) (o : Nat), tile P B total o fs = true →
    (∀ f ∈ fs, B f.type = true → ∃ avs, lrel Γ avs ((cs.drop f.offset).take (P.cellsOf f.type)) ∧ F f.type avs) → ∃ avs, lrel Γ avs (cs.drop o) ∧ fieldsT F fs avs
  | [], o, ht, _ => by
    simp only [tile, beq_iff_eq] at ht
    exact ⟨[], by rw [List.drop_of_length_le (by omega)]; simp [lrel], rfl⟩
  | f :: r, o, ht, h => by
    simp only [tile, Bool.and_eq_true, beq_iff_eq] at ht
    obtain ⟨⟨h1, h2⟩, h3⟩ := ht
    obtain ⟨a, ha, hF⟩ := h f (List.mem_cons_self ..) h2
    obtain ⟨b, hb, hG⟩ := tile_open hl r _ h3 fun g hg => h g (List.mem_cons_of_mem _ hg)
    refine ⟨a ++ b, ?_, a, b, rfl, hF, hG⟩
    rw [h1] at ha
    have e : cs.drop o = (cs.drop o).take (P.cellsOf f.type) ++ cs.drop (o + P.cellsOf f.type) := by
      rw [← List.drop_drop, List.take_append_drop]
    rw [e]
    exact lrel_append ha hb

theorem fieldsT_and {F : Nat → List AV → Prop} {p : AV → Prop} : ∀ {fs : List Field} {avs : List AV}, fieldsT (fun t a => F t a ∧ ∀ x ∈ a, p x) fs avs → fieldsT F fs avs ∧ ∀ x ∈ avs, p x
  | [], avs, h => by
    simp only [fieldsT] at h ⊢
    subst h
    simp
  | f :: r, avs, h => by
    simp only [fieldsT] at h ⊢
    obtain ⟨a, b, rfl, ⟨h1, h2⟩, h3⟩ := h
    obtain ⟨h4, h5⟩ := fieldsT_and h3
    exact ⟨⟨a, b, rfl, h1, h4⟩, fun x hx => (List.mem_append.1 hx).elim (h2 x) (h5 x)⟩
def scal : AV → Bool
  | .bool _ => true
  | .int _ _ => true
  | .str _ => true
  | _ => false
theorem one_scal {Γ : G} {a : AV} {v : Value} (h : vrel Γ a v) (hs : scal a = true) : v.oneCell' = true ∧ ∀ Γ', vrel Γ' a v := by
  cases a <;> simp only [scal, Bool.false_eq_true] at hs <;> (simp only [vrel] at h ⊢; subst h; exact ⟨rfl, fun _ => rfl⟩)
theorem trod_bool {t fuel : Nat} {cs : List Value} {x : DataW H × List MemPlace} (hu : P.underlying t = some .bool) (h : DataW.trod enc P w 0 sp held fuel t cs = some x) : ∃ b, cs = [.bool b] := by
  cases fuel with
  | zero => simp [DataW.trod] at h
  | succ m =>
    unfold DataW.trod at h
    rw [hu] at h
    split at h <;> simp_all

theorem open_flat : ∀ (n : Nat) {t : Nat} {fuel : Nat} {cs : List Value} {x : DataW H × List MemPlace} {Γ : G}, flatB P n t = true → DataW.trod enc P w 0 sp held fuel t cs = some x →
    ∃ avs, lrel Γ avs cs ∧ isT P n t avs ∧ ∀ v ∈ avs, scal v = true
  | 0, t, fuel, cs, x, Γ, hf, _ => by simp [flatB] at hf
  | n + 1, t, fuel, cs, x, Γ, hf, h => by
    unfold flatB at hf
    unfold isT
    split at hf
    · rename_i hu
      obtain ⟨b, rfl⟩ := trod_bool hu h
      rw [hu]
      exact ⟨[.bool b], by simp [lrel, vrel], ⟨b, rfl⟩, by simp [scal]⟩
    · rename_i k hu
      obtain ⟨m, rfl, _, hw⟩ := DataW.trod_int hu h
      rw [hu]
      exact ⟨[.int k m], by simp [lrel, vrel], ⟨m, rfl, hw⟩, by simp [scal]⟩
    · rename_i hu
      obtain ⟨s, rfl, _, hs⟩ := DataW.trod_string hu h
      rw [hu]
      exact ⟨[.str s.data.toList], by simp [lrel, vrel], ⟨_, rfl, hs⟩, by simp [scal]⟩
    · rename_i fs hu
      obtain ⟨xs, m, _, _, hl, hlen, hfs⟩ := DataW.trod_struct hu h
      rw [hu]
      have each : ∀ f ∈ fs.toList, flatB P n f.type = true → ∃ avs, lrel Γ avs ((cs.drop f.offset).take (P.cellsOf f.type)) ∧ (isT P n f.type avs ∧ ∀ v ∈ avs, scal v = true) := fun f hf hb => by
        obtain ⟨i, hi, rfl⟩ := List.mem_iff_getElem.1 hf
        have hi' : fs[i]? = some fs.toList[i] := by simp at hi ⊢
        have h1 := hfs i _ hi'
        cases hx : xs[i]? with
        | none => rw [List.getElem?_eq_none_iff] at hx; simp at hi; omega
        | some y =>
          rw [hx] at h1
          obtain ⟨avs, h2, h3, h4⟩ := open_flat n (Γ := Γ) hb h1
          exact ⟨avs, h2, h3, h4⟩
      obtain ⟨avs, h2, h3⟩ := tile_open (F := fun t a => isT P n t a ∧ ∀ v ∈ a, scal v = true) hl fs.toList 0 hf each
      obtain ⟨h4, h5⟩ := fieldsT_and (p := fun v => scal v = true) h3
      exact ⟨avs, by simpa using h2, h4, h5⟩
    · cases hf

theorem flat_cells {b : Nat} : ∀ {avs : List AV} {cs : List Value} {o : Nat}, lrel (G.init w) avs cs → (∀ v ∈ avs, scal v = true) → (∀ j (hj : j < cs.length), w.cell? ⟨b, o + j, none⟩ = some cs[j]) → flatAt (G.init w) b o avs
  | [], _, _, _, _, _ => by simp [flatAt]
  | a :: avs, cs, o, h, hs, hc => by
    simp only [lrel] at h
    obtain ⟨v, vs, rfl, h1, h2⟩ := h
    have ⟨h3, h4⟩ := one_scal h1 (hs a (List.mem_cons_self ..))
    refine ⟨⟨v, ?_, h4 _⟩, flat_cells h2 (fun x hx => hs x (List.mem_cons_of_mem _ hx)) fun j hj => ?_⟩
    · have := hc 0 (by simp)
      exact init_F (by simpa using this) h3
    · have := hc (j + 1) (by simp; omega)
      rw [show o + 1 + j = o + (j + 1) by omega]
      simpa using this
theorem cells_at {a : Addr} {n : Nat} {cs : List Value} (h : w.cells? 0 a n = some cs) : cs.length = n ∧ ∀ j (hj : j < cs.length), w.cell? (a.add j) = some cs[j] := by
  obtain ⟨_, h1, h2⟩ := World.cells?_some h
  exact ⟨h1, fun j hj => by rw [h2 j (by omega), List.getElem?_eq_getElem hj]⟩
theorem add_none {a : Addr} (ha : a.spot = none) (k : Nat) : a.add k = ⟨a.block, a.off + k, none⟩ := by
  cases a
  simp only at ha
  subst ha
  simp only [Addr.add]
  split
  · rename_i h; subst h; rfl
  · rfl
theorem open_elems {e : Nat} {a : Addr} (ha : a.spot = none) {n m : Nat} (hf : flatB P n e = true) : ∀ (k i0 : Nat), (∀ i, i0 ≤ i → i < i0 + k → ∃ x, (w.cells? 0 (a.add (i * P.cellsOf e)) (P.cellsOf e)).bind (DataW.trod enc P w 0 sp held m e) = some x) →
    ∃ es : List (List AV), es.length = k ∧ elemsAt (G.init w) a.block (a.off + i0 * P.cellsOf e) (P.cellsOf e) es ∧ ∀ c ∈ es, isT P n e c
  | 0, i0, _ => ⟨[], rfl, by simp [elemsAt], by simp⟩
  | k + 1, i0, h => by
    obtain ⟨x, hx⟩ := h i0 (Nat.le_refl _) (by omega)
    rw [Option.bind_eq_some_iff] at hx
    obtain ⟨cs, hcs, hx⟩ := hx
    obtain ⟨hl, hcell⟩ := cells_at hcs
    obtain ⟨avs, h1, h2, h3⟩ := open_flat n (Γ := G.init w) hf hx
    obtain ⟨es, h4, h5, h6⟩ := open_elems ha hf k (i0 + 1) fun i hi1 hi2 => h i (by omega) (by omega)
    refine ⟨avs :: es, by simp [h4], ?_, ?_⟩
    · simp only [elemsAt]
      refine ⟨by rw [lrel_length h1, hl], flat_cells h1 h3 fun j hj => ?_, ?_⟩
      · rw [← hcell j hj, add_none ha, add_none rfl]
      · rw [show a.off + i0 * P.cellsOf e + P.cellsOf e = a.off + (i0 + 1) * P.cellsOf e by rw [Nat.add_mul]; omega]
        exact h5
    · intro c hc
      rcases List.mem_cons.1 hc with rfl | hc
      · exact h2
      · exact h6 c hc
theorem open_arg : ∀ (n : Nat) {t : Nat} {fuel : Nat} {cs : List Value} {x : DataW H × List MemPlace}, argB P n t = true → (∀ a l c, Value.slice (some a) l c ∈ cs → a.spot = none) → DataW.trod enc P w 0 sp held fuel t cs = some x →
    ∃ avs, lrel (G.init w) avs cs ∧ isT P n t avs
  | 0, t, fuel, cs, x, hf, _, _ => by simp [argB] at hf
  | n + 1, t, fuel, cs, x, hf, hsp, h => by
    unfold argB at hf
    unfold isT
    split at hf
    · rename_i hu
      obtain ⟨b, rfl⟩ := trod_bool hu h
      try rw [hu]
      exact ⟨[.bool b], by simp [lrel, vrel], ⟨b, rfl⟩⟩
    · rename_i k hu
      obtain ⟨m, rfl, _, hw⟩ := DataW.trod_int hu h
      try rw [hu]
      exact ⟨[.int k m], by simp [lrel, vrel], ⟨m, rfl, hw⟩⟩
    · rename_i hu
      obtain ⟨s, rfl, _, hs⟩ := DataW.trod_string hu h
      try rw [hu]
      exact ⟨[.str s.data.toList], by simp [lrel, vrel], ⟨_, rfl, hs⟩⟩
    · rename_i e hu
      try rw [hu]
      rcases DataW.trod_slice hu h with ⟨rfl, _⟩ | ⟨a, len, cap, elems, rest, m, _, rfl, _, _, hl, hm, hlen, hel, _⟩
      · exact ⟨[.sl true 0 [] .no], by simp [lrel, vrel], ⟨true, 0, [], rfl, by simp, by simp, by simp, by simp⟩⟩
      · have ha := hsp a len cap (by simp)
        obtain ⟨es, h1, h2, h3⟩ := open_elems (P := P) (enc := enc) (sp := sp) (held := held) (w := w) (m := m) ha hf len 0 fun i _ hi => by
          have := hel i (by omega)
          rw [List.getElem?_eq_getElem (by omega)] at this
          exact ⟨_, this⟩
        refine ⟨[.sl false (P.cellsOf e) es .no], ?_, ⟨false, _, es, rfl, by simp, by simp, by omega, h3⟩⟩
        simp only [lrel, vrel]
        refine ⟨_, [], rfl, ⟨a.block, a.off, cap, ?_, by omega, by simp, by simpa using h2⟩, rfl⟩
        rw [h1]
        cases a
        simp only at ha
        subst ha
        rfl
    · rename_i fs hu
      obtain ⟨xs, m, _, _, hl, hlen, hfs⟩ := DataW.trod_struct hu h
      try rw [hu]
      have each : ∀ f ∈ fs.toList, argB P n f.type = true → ∃ avs, lrel (G.init w) avs ((cs.drop f.offset).take (P.cellsOf f.type)) ∧ isT P n f.type avs := fun f hf hb => by
        obtain ⟨i, hi, rfl⟩ := List.mem_iff_getElem.1 hf
        have hi' : fs[i]? = some fs.toList[i] := by simp at hi ⊢
        have h1 := hfs i _ hi'
        cases hx : xs[i]? with
        | none => rw [List.getElem?_eq_none_iff] at hx; simp at hi; omega
        | some y =>
          rw [hx] at h1
          exact open_arg n hb (fun a l c hm => hsp a l c (List.mem_of_mem_drop (List.mem_of_mem_take hm))) h1
      obtain ⟨avs, h2, h3⟩ := tile_open hl fs.toList 0 hf each
      exact ⟨avs, by simpa using h2, h3⟩
    · cases hf
end
end Go.Ab
end
section
/- Code in a shape that is quick to look through: the types' facts written in, a stack of what is still to do. -/
set_option linter.unusedSimpArgs false
set_option linter.unusedVariables false
namespace Go.Ab

inductive Opd where
  | t (n : Nat)
  | c (a : AV)
def Opd.of : Operand → Opd
  | .tmp n => .t n
  | .const v => .c (ofV v)
  | .func f => .c (.fn f [])
  | .global _ => .c .undef
def evo (s : ASt) : Opd → AV
  | .t n => s.sl.getD n .undef
  | .c a => a
theorem evo_of (s : ASt) (x : Operand) : evo s (Opd.of x) = ev s x := by cases x <;> rfl

inductive V where
  | mv (x : Opd) | tk (x : Operand)
  | ld1 (d : TD) (a : Opd) | ldA (sz : Nat) (ks : List TD) (a : Opd)
  | st (sz : Nat) (a : Opd) (x : Operand)
  | pick (c a b : Opd)
  | nilck (x : Opd)
  | ar (op : BinOp) (x y : Opd)
  | eq1 (d : TD) (neg : Bool) (x y : Opd)
  | not (x : Opd)
  | mki (t : Nat) (x : Opd) | mkf (f : FuncId) (caps : List Opd)
  | fa (off : Nat) (x : Opd)
  | ixs (sz : Nat) (ks : List TD) (x i : Opd)
  | ixa (len esz : Nat) (x i : Opd)
  | ext (x : Opd) (i : Nat)
  | lens (x : Opd) | lenS (x : Opd)
  | alloc (heap : Bool) (zero : List AV) | box (heap : Bool) (x : Opd)
  | bld (t : Nat) (parts : List (Nat × Opd))
  | bsl (mu : Bool) (t len : Nat) (parts : List (Nat × Opd))
  | slc (t : Nat) (x : Opd) (lo hi mx : Option Opd)
  | ovr (t : Nat) (x : Opd) (lo hi : Option Opd)
  | app (mu : Bool) (t t2 : Nat) (x y : Operand)
  | cpy (t t2 : Nat) (x y : Opd)
  | clr (t : Nat) (x : Opd)
  | cps (t : Nat) (x : Opd)
  | mkm
  | lkp (t : Nat) (x y : Opd) (ok : Bool)
  | mup (t : Nat) (m k v : Opd)
  | eqt (t : Nat) (neg : Bool) (x y : Opd)
  | cvt (src dst : Nat) (x : Opd)
  | tas (x : Opd) (t : Nat) (ok : Bool)
  | shf (op : BinOp) (x y : Opd)
  | mnx (mx : Bool) (x y : Opd)
  | inv (recv : Opd) (name : String) (args : List Opd)
  | ldT (t : Nat) (a : Opd)
  | call (f : FuncId) (args : List Opd)
  | callv (f : Opd) (args : List Opd)
  | gen (o : Oper)

def fo (K : Prop) : Prop := K

/-- A value at the slot of an operation, and on. -/
def putK (s : ASt) (d : Option Nat) (K : ASt → Prop) (v : AV) : Prop := K (put s d v)
def putU (s : ASt) (d : Option Nat) (K : ASt → Prop) (v : AV) : Prop := K (put s d v.un)
/-- New memory told, a value at the slot, and on. -/
def putM (s : ASt) (d : Option Nat) (K : ASt → Prop) (v : AV) (bx : List (List AV)) (h : List AObj) : Prop := K (put { s with bx := bx, h := h } d v)
def putH (s : ASt) (d : Option Nat) (K : ASt → Prop) (v : AV) (h : List AObj) : Prop := K (put { s with h := h } d v)
def putS (s : ASt) (d : Option Nat) (K : ASt → Prop) (x : Operand) (bx : List (List AV)) (h : List AObj) : Prop := K (put { takeS s x with bx := bx, h := h } d (.tup []))

def pickK : AV → AV → AV → (AV → Prop) → Prop
  | .bool true, a, _, K => K a
  | .bool false, _, b, K => K b
  | _, _, _, _ => False
def nilckK : AV → (AV → Prop) → Prop
  | .eptr cs, K => K (.eptr cs)
  | .mptr i o, K => K (.mptr i o)
  | .lptr i o, K => K (.lptr i o)
  | .fn f cs, K => K (.fn f cs)
  | .iface t v, K => K (.iface t v)
  | _, _ => False
def faK (off : Nat) : AV → (AV → Prop) → Prop
  | .eptr cs, K => K (.eptr (cs.drop off))
  | .mptr i o, K => K (.mptr i (o + off))
  | .lptr i o, K => K (.lptr i (o + off))
  | _, _ => False
def notK : AV → (AV → Prop) → Prop
  | .bool b, K => K (.bool !b)
  | _, _ => False
def eq1K (d : TD) (neg : Bool) : AV → AV → (AV → Prop) → Prop
  | .int k a, .int k' b, K => (match d with | .int _ => k = k' ∧ K (.bool (if neg then !decide (a = b) else decide (a = b))) | _ => False)
  | .bool a, .bool b, K => (match d with | .bool => K (.bool (if neg then !(a == b) else (a == b))) | _ => False)
  | .str a, .str b, K => (match d with | .str => K (.bool (if neg then !decide (a = b) else decide (a = b))) | _ => False)
  | _, _, _ => False
def extK : AV → Nat → (AV → Prop) → Prop
  | .tup vs, i, K => extL vs i K
  | _, _, _ => False
where
  extL : List AV → Nat → (AV → Prop) → Prop
  | [], _, _ => False
  | v :: _, 0, K => K v
  | _ :: vs, i + 1, K => extL vs i K
def lensK : AV → (AV → Prop) → Prop
  | .sl _ _ es _, K => K (.int .i64 es.length)
  | .msl _ _ _ len, K => K (.int .i64 len)
  | _, _ => False
def lenSK : AV → (AV → Prop) → Prop
  | .str s, K => K (.int .i64 s.length)
  | _, _ => False
def ixsK (sz : Nat) (ks : List TD) : AV → AV → (AV → Prop) → Prop
  | .sl z sz' es _, .int _ n, K => z = false ∧ sz = sz' ∧ 0 ≤ n ∧ exCells ks fun c => es[n.toNat]? = some c ∧ K (.eptr c)
  | .msl id sz' off len, .int _ n, K => sz = sz' ∧ 0 ≤ n ∧ n < len ∧ K (.mptr id (off + n.toNat * sz'))
  | _, _, _ => False
def ixaK (len esz : Nat) : AV → AV → (AV → Prop) → Prop
  | .eptr cs, .int _ n, K => 0 ≤ n ∧ n < len ∧ K (.eptr (cs.drop (n.toNat * esz)))
  | .mptr id off, .int _ n, K => 0 ≤ n ∧ n < len ∧ K (.mptr id (off + n.toNat * esz))
  | .lptr id off, .int _ n, K => 0 ≤ n ∧ n < len ∧ K (.lptr id (off + n.toNat * esz))
  | _, _, _ => False
def hd1 : List AV → (AV → Prop) → Prop
  | c :: _, K => K c
  | [], _ => False
def ld1K (d : TD) (bx : List (List AV)) (h : List AObj) : AV → (AV → Prop) → Prop
  | .eptr cs, K => hd1 cs K
  | .lptr i off, K => hd1 ((bx.getD i []).drop off) K
  | .mptr id off, K => exCells [d] fun c => hread h id off c ∧ hd1 c K
  | _, _ => False
def ldAK (sz : Nat) (ks : List TD) (bx : List (List AV)) (h : List AObj) : AV → (AV → Prop) → Prop
  | .eptr cs, K => sz ≤ cs.length ∧ K (.agg (cs.take sz))
  | .lptr i off, K => i < bx.length ∧ off + sz ≤ (bx.getD i []).length ∧ K (.agg ((((bx.getD i []).drop off).take sz).map AV.un))
  | .mptr id off, K => exCells ks fun c => c.length = sz ∧ hread h id off c ∧ K (.agg c)
  | _, _ => False
def stK (sz : Nat) (v : AV) (bx : List (List AV)) (h : List AObj) : AV → (List (List AV) → List AObj → Prop) → Prop
  | .lptr i off, K => v.cells.length = sz ∧ v.cells.all AV.one = true ∧ i < bx.length ∧ off + sz ≤ (bx.getD i []).length ∧ K (bx.set i (laid (bx.getD i []) off v.scells)) h
  | .mptr id off, K => v.cells.length = sz ∧ v.cells.all AV.one = true ∧ AV.nol.nols v.cells = true ∧ ∃ cs n, h[id]? = some (.cells cs n) ∧ off + sz ≤ cs.length ∧ K bx (h.set id (.cells (laid cs off (v.cells.map AV.un)) n))
  | _, _ => False

section
variable (C : CX) (P : Program) (T : Tab) (ann : Ann)

def callvK (o : Option Nat) (args : List AV) (s : ASt) (K : ASt → Prop) : AV → Prop
  | .fn g caps => AV.nol.nols (args ++ caps) = true ∧ ACall C P g (args ++ caps) s.h (putH s o K)
  | .yld l => AV.nol.nols args = true ∧ AYield C P l args s.h (putH s o K)
  | _ => False

def agK : Option (List AV) → (AV → Prop) → Prop
  | some cs, K => K (.agg cs)
  | none, _ => False
def eqtK (neg : Bool) : Option Bool → (AV → Prop) → Prop
  | some b, K => K (.bool (if neg then !b else b))
  | none, _ => False
def cvtK (sk : Bool) : TD → AV → (AV → Prop) → Prop
  | .int k, .int _ n, K => sk = true ∧ K (.int k (k.wrap n))
  | .str, .str x, K => sk = true ∧ K (.str x)
  | _, _, _ => False
def mnxK (mx : Bool) : AV → AV → (AV → Prop) → Prop
  | .int k a, .int _ b, K => K (.int k (if mx then (if a < b then b else a) else (if b < a then b else a)))
  | _, _, _ => False
def tasK (t : Nat) (ok agg : Bool) (zero : List AV) : AV → (AV → Prop) → Prop
  | .iface u v, K => if u = t then K (if ok then .tup [v, .bool true] else v) else (ok = true ∧ if agg then K (.tup [.undef, .bool false]) else zero.length = 1 ∧ K (.tup (zero ++ [.bool false])))
  | _, _ => False
def optO (s : ASt) : Option Opd → Option AV
  | none => none
  | some x => some (evo s x)
def invK (o : Option Nat) (name : String) (args : List AV) (s : ASt) (K : ASt → Prop) : AV → Prop
  | .iface t v => AV.nol.nols (v.un :: args) = true ∧ ∃ f, AMethod P t name f ∧ ACall C P f (v.un :: args) s.h (putH s o K)
  | _ => False
def putA (s : ASt) (d : Option Nat) (K : ASt → Prop) (x : Operand) (v : AV) (h : List AObj) : Prop := K (put { takeS s x with h := h } d v)
def putC (s : ASt) (d : Option Nat) (K : ASt → Prop) (h : List AObj) : Prop := K (put { s with h := h } d (.tup []))
def ldTK (s : ASt) (d : Option Nat) (K : ASt → Prop) : AV → Prop
  | .lptr i off => i < s.bx.length ∧ off < (s.bx.getD i []).length ∧ K (put { s with bx := s.bx.set i ((s.bx.getD i []).set off ((s.bx.getD i []).getD off .undef).un) } d ((s.bx.getD i []).getD off .undef))
  | _ => False

/-- One operation. -/
def vK (s : ASt) (d : Option Nat) (K : ASt → Prop) : V → Prop
  | .mv x => putU s d K (evo s x)
  | .tk x => putK (takeS s x) d K (takeV s x)
  | .ld1 k a => ld1K k s.bx s.h (evo s a) (putU s d K)
  | .ldA sz ks a => ldAK sz ks s.bx s.h (evo s a) (putU s d K)
  | .st sz a x => stK sz (takeV s x) s.bx s.h (evo s a) (putS s d K x)
  | .pick c a b => pickK (evo s c) (evo s a).un (evo s b).un (putU s d K)
  | .nilck x => nilckK (evo s x) (putU s d K)
  | .ar op x y => arithK op (evo s x) (evo s y) (putU s d K)
  | .eq1 k neg x y => eq1K k neg (evo s x) (evo s y) (putU s d K)
  | .not x => notK (evo s x) (putU s d K)
  | .mki t x => putU s d K (.iface t (evo s x).un)
  | .mkf f caps => putU s d K (.fn f (caps.map fun x => (evo s x).un))
  | .fa off x => faK off (evo s x) (putU s d K)
  | .ixs sz ks x i => ixsK sz ks (evo s x) (evo s i) (putU s d K)
  | .ixa len esz x i => ixaK len esz (evo s x) (evo s i) (putU s d K)
  | .ext x i => extK (evo s x) i (putU s d K)
  | .lens x => lensK (evo s x) (putU s d K)
  | .lenS x => lenSK (evo s x) (putU s d K)
  | .alloc heap z => newK heap z s.bx s.h (putM s d K)
  | .box heap x => newK heap (evo s x).cells s.bx s.h (putM s d K)
  | .call f args => AV.nol.nols (args.map fun x => (evo s x).un) = true ∧ ACall C P f (args.map fun x => (evo s x).un) s.h (putH s d K)
  | .callv f args => callvK C P d (args.map fun x => (evo s x).un) s K (evo s f)
  | .bld t ps => agK (abuild T t (ps.map fun p => (p.1, (evo s p.2).un))) (putU s d K)
  | .bsl mu t len ps => buildSliceK T mu t len (ps.map fun p => (p.1, (evo s p.2).un)) s.h (putH s d K)
  | .slc t x lo hi mx => sliceK T t (evo s x) (optO s lo) (optO s hi) (optO s mx) (putU s d K)
  | .ovr t x lo hi => overK T t (evo s x) (optO s lo) (optO s hi) s.h (putK s d K)
  | .app mu t t2 x y => appendK T mu t t2 (takeV s x) (ev (takeS s x) y) s.h (putA s d K x)
  | .cpy t t2 x y => copyK T t t2 (evo s x) (evo s y) s.h (putH s d K)
  | .clr t x => clearK T t (evo s x) s.h (putC s d K)
  | .cps t x => capK T t (evo s x) s.h (putK s d K)
  | .mkm => makeMapK s.h (putH s d K)
  | .lkp t x y ok => (evo s y).nol = true ∧ lookupK T t (evo s x) (evo s y) ok s.h (putU s d K)
  | .mup t m k v => mapUpdateK T t (evo s m) (evo s k) (evo s v).un s.h (putC s d K)
  | .eqt t neg x y => eqtK neg (aeq T t (evo s x) (evo s y)) (putU s d K)
  | .cvt src dst x => (match T.get src, T.get dst with | some si, some di => cvtK si.d.known di.d (evo s x) (putU s d K) | _, _ => False)
  | .tas x t ok => (match T.get t with | some ti => (match ti.d with | .iface => False | .other => False | k => tasK t ok k.isAgg ti.zero (evo s x) (putU s d K)) | none => False)
  | .shf op x y => shiftK op (evo s x) (evo s y) (putU s d K)
  | .mnx mx x y => mnxK mx (evo s x) (evo s y) (putU s d K)
  | .inv r name args => invK C P d name (args.map fun x => (evo s x).un) s K (evo s r)
  | .ldT t a => (match T.get t with | some ti => ti.d.known = true ∧ ti.d.isAgg = false ∧ ldTK s d K (evo s a) | none => False)
  | .gen o => plainK C P T ann o s K
end

/-- An operation, written short. -/
def comp (T : Tab) (ann : Ann) (o : Oper) : V :=
  match o.op with
  | .move x => if isDst ann.take o.dst then .tk x else .mv (Opd.of x)
  | .assign x => .tk x
  | .load t a => if isDst ann.take o.dst then .ldT t (Opd.of a) else
    (match T.get t with
    | some ti => if ti.d.known then (if ti.d.isAgg then .ldA ti.size (cellKinds T t) (Opd.of a) else .ld1 ti.d (Opd.of a)) else .gen o
    | none => .gen o)
  | .store t a x => (match T.get t with | some ti => .st ti.size (Opd.of a) x | none => .gen o)
  | .pick c a b => .pick (Opd.of c) (Opd.of a) (Opd.of b)
  | .nilCheck x => .nilck (Opd.of x)
  | .binOp op t x y _ =>
    (match op with
    | .shl => .shf .shl (Opd.of x) (Opd.of y)
    | .shr => .shf .shr (Opd.of x) (Opd.of y)
    | .eql => (match T.get t with
      | some ti => (match ti.d with | .int k => .eq1 (.int k) false (Opd.of x) (Opd.of y) | .bool => .eq1 .bool false (Opd.of x) (Opd.of y) | .str => .eq1 .str false (Opd.of x) (Opd.of y) | _ => .eqt t false (Opd.of x) (Opd.of y))
      | none => .gen o)
    | .neq => (match T.get t with
      | some ti => (match ti.d with | .int k => .eq1 (.int k) true (Opd.of x) (Opd.of y) | .bool => .eq1 .bool true (Opd.of x) (Opd.of y) | .str => .eq1 .str true (Opd.of x) (Opd.of y) | _ => .eqt t true (Opd.of x) (Opd.of y))
      | none => .gen o)
    | op => .ar op (Opd.of x) (Opd.of y))
  | .unOp op _ x => (match op with | .not => .not (Opd.of x) | _ => .gen o)
  | .makeInterface t x => (match T.get t with
    | some ti => (match ti.d with | .iface | .other => .gen o | _ => .mki t (Opd.of x))
    | none => .gen o)
  | .makeFunc fn first captured => (match fn with
    | .func f => if first.size = 0 then .mkf f (captured.toList.map Opd.of) else .gen o
    | _ => .gen o)
  | .fieldAddr st x f => (match T.get st with
    | some si => (match si.d with
      | .struct fs => (match fs[f]? with
        | some (off, ft) => (match T.get ft with | some fi => if fi.size ≠ 0 then .fa off (Opd.of x) else .gen o | none => .gen o)
        | none => .gen o)
      | _ => .gen o)
    | none => .gen o)
  | .indexAddr t x i => (match T.get t with
    | some si => (match si.d with
      | .slice e => (match T.get e with | some ei => .ixs ei.size (cellKinds T e) (Opd.of x) (Opd.of i) | none => .gen o)
      | .arr len e => (match T.get e with | some ei => .ixa len ei.size (Opd.of x) (Opd.of i) | none => .gen o)
      | _ => .gen o)
    | none => .gen o)
  | .extract x i => .ext (Opd.of x) i
  | .alloc t => (match T.get t with | some ti => if ti.zero.isEmpty then .gen o else .alloc (isDst ann.heap o.dst) ti.zero | none => .gen o)
  | .box t x => .box (isDst ann.heap o.dst) (Opd.of x)
  | .call c => (match c.callee with
    | .value (.func f) => .call f (c.args.toList.map Opd.of)
    | .value f => .callv (Opd.of f) (c.args.toList.map Opd.of)
    | .builtin .len => (match c.args.toList, c.argTypes.toList with
      | [x], [t] => (match T.get t with
        | some ti => (match ti.d with | .str => .lenS (Opd.of x) | .slice _ => .lens (Opd.of x) | _ => .gen o)
        | none => .gen o)
      | _, _ => .gen o)
    | .builtin .append => (match c.args.toList, c.argTypes.toList with
      | [x, y], [t, t2] => .app (isDst ann.mu o.dst) t t2 x y
      | _, _ => .gen o)
    | .builtin .copy => (match c.args.toList, c.argTypes.toList with
      | [x, y], [t, t2] => .cpy t t2 (Opd.of x) (Opd.of y)
      | _, _ => .gen o)
    | .builtin .clear => (match c.args.toList, c.argTypes.toList with
      | [x], [t] => .clr t (Opd.of x)
      | _, _ => .gen o)
    | .builtin .cap => (match c.args.toList, c.argTypes.toList with
      | [x], [t] => .cps t (Opd.of x)
      | _, _ => .gen o)
    | .builtin .min => (match c.args.toList with
      | [x, y] => .mnx false (Opd.of x) (Opd.of y)
      | _ => .gen o)
    | .builtin .max => (match c.args.toList with
      | [x, y] => .mnx true (Opd.of x) (Opd.of y)
      | _ => .gen o)
    | .invoke recv name => .inv (Opd.of recv) name (c.args.toList.map Opd.of)
    | _ => .gen o)
  | .build t parts => .bld t (parts.toList.map fun p => (p.1, Opd.of p.2))
  | .buildSlice t len parts => .bsl (isDst ann.mu o.dst) t len (parts.toList.map fun p => (p.1, Opd.of p.2))
  | .slice t x lo hi mx => if isDst ann.over o.dst then (if mx.isNone then .ovr t (Opd.of x) (lo.map Opd.of) (hi.map Opd.of) else .gen o) else .slc t (Opd.of x) (lo.map Opd.of) (hi.map Opd.of) (mx.map Opd.of)
  | .makeMap _ r => if r.isNone then .mkm else .gen o
  | .lookup t x y ok => .lkp t (Opd.of x) (Opd.of y) ok
  | .mapUpdate t m k v => .mup t (Opd.of m) (Opd.of k) (Opd.of v)
  | .convert src dst x => .cvt src dst (Opd.of x)
  | .typeAssert x _ t ok => .tas (Opd.of x) t ok
  | _ => .gen o

end Go.Ab
end
section
/- The short shape says no less. -/
set_option linter.unusedSimpArgs false
set_option linter.unusedVariables false
namespace Go.Ab

section
variable {C : CX} {P : Program} {T : Tab} {ann : Ann} {s : ASt} {K : ASt → Prop}

theorem drop_get {α : Type} {l : List α} {n : Nat} {c : α} {r : List α} (h : l.drop n = c :: r) : l[n]? = some c := by
  have := congrArg (fun x => x[0]?) h
  simpa using this

theorem getD_get {bx : List (List AV)} {i : Nat} {c : AV} {r : List AV} {off : Nat} (h : (bx.getD i []).drop off = c :: r) : ∃ cs, bx[i]? = some cs ∧ cs[off]? = some c := by
  cases hb : bx[i]? with
  | none => simp [List.getD, hb] at h
  | some cs => exact ⟨cs, rfl, by simp [List.getD, hb] at h; exact drop_get h⟩

theorem getD_lt {bx : List (List AV)} {i : Nat} (h : i < bx.length) : bx[i]? = some (bx.getD i []) := by
  simp [List.getD, List.getElem?_eq_getElem h]

theorem args_map (s : ASt) (c : Call) : (c.args.toList.map Opd.of).map (fun x => (evo s x).un) = callArgs s c := by
  simp [callArgs, List.map_map, Function.comp_def, evo_of]

theorem exCells_mono {ds : List TD} : ∀ {K K' : List AV → Prop}, (∀ c, K c → K' c) → exCells ds K → exCells ds K' := by
  induction ds with
  | nil => intro K K' h; exact h []
  | cons d ds ih =>
    intro K K' hK h
    cases d <;> simp only [exCells] at h ⊢ <;> (obtain ⟨x, h⟩ := h; exact ⟨x, ih (fun c => hK _) h⟩)

theorem ext_sound {vs : List AV} {i : Nat} {K : AV → Prop} (h : extK.extL vs i K) : ∃ v, vs[i]? = some v ∧ K v := by
  induction vs generalizing i with
  | nil => exact h.elim
  | cons v vs ih =>
    cases i with
    | zero => exact ⟨v, rfl, h⟩
    | succ i => simpa using ih h

theorem optO_of (s : ASt) (x : Option Operand) : optO s (x.map Opd.of) = optX s x := by cases x <;> simp [optO, optX, optV, evo_of]
theorem optO_of' (s : ASt) (x : Option Operand) : optO s (x.map Opd.of) = optV (ev s) x := by cases x <;> simp [optO, optV, evo_of]
theorem parts_of (s : ASt) (ps : Array (Nat × Operand)) : (ps.toList.map fun p => (p.1, Opd.of p.2)).map (fun p => (p.1, (evo s p.2).un)) = ps.toList.map fun p => (p.1, (ev s p.2).un) := by
  simp [List.map_map, Function.comp_def, evo_of]

theorem comp_sound {o : Oper} (h : vK C P T ann s o.dst K (comp T ann o)) : plainK C P T ann o s K := by
  obtain ⟨dst, op, ty, pos, after, guard⟩ := o
  unfold comp at h
  unfold plainK
  simp only at h ⊢
  cases op
  case move x =>
    simp only at h ⊢
    split at h
    · rename_i ht
      simpa [opK, ht, vK, putK] using h
    · rename_i ht
      simp only [Bool.not_eq_true] at ht
      simpa [opK, ht, vK, putU, evo_of] using h
  case assign x => simpa [opK, vK, putK] using h
  case load t a =>
    simp only at h ⊢
    split at h
    · rename_i ht
      simp only [vK, evo_of] at h
      cases hti : T.get t with
      | none => rw [hti] at h; exact h.elim
      | some ti =>
        rw [hti] at h
        obtain ⟨h1, h2, h3⟩ := h
        revert h3
        cases hev : ev s a <;> simp only [ldTK] <;> intro h3 <;> first | exact h3.elim | skip
        rename_i i off
        obtain ⟨h4, h5, h6⟩ := h3
        have e2 : (s.bx.getD i [])[off]? = some ((s.bx.getD i []).getD off .undef) := by
          revert h5
          generalize s.bx.getD i [] = cs
          intro h5
          simp [List.getElem?_eq_getElem h5]
        simp only [opK, ht, if_true, hti, hev, getD_lt h4, e2]
        exact ⟨h1, h2, h6⟩
    · rename_i ht
      simp only [Bool.not_eq_true] at ht
      split at h
      · rename_i ti hti
        split at h
        · rename_i hkn
          simp only [opK, ht, Bool.false_eq_true, if_false, loadK, hti, hkn, true_and]
          split at h
          · rename_i hag
            simp only [vK, evo_of] at h
            split
            · rename_i cs heq
              rw [heq] at h
              simpa [ldAK, hag, putU] using h
            · rename_i i off heq
              rw [heq] at h
              simp only [ldAK] at h
              simp only [getD_lt h.1, hag, if_true]
              exact h.2
            · rename_i id off heq
              rw [heq] at h
              simp only [ldAK] at h
              simp only [hag, if_true]
              exact h
            · rename_i h1 h2 h3
              revert h
              cases hev : ev s a <;> simp only [ldAK] <;> intro h <;> first | exact h.elim | (exact absurd hev (h1 _)) | (exact absurd hev (h2 _ _)) | (exact absurd hev (h3 _ _))
          · rename_i hag
            simp only [Bool.not_eq_true] at hag
            simp only [vK, evo_of] at h
            split
            · rename_i cs heq
              rw [heq] at h
              simp only [hag, Bool.false_eq_true, if_false]
              cases cs with
              | nil => exact h.elim
              | cons c cs => exact h
            · rename_i i off heq
              rw [heq] at h
              simp only [ld1K] at h
              cases hd : (s.bx.getD i []).drop off with
              | nil => rw [hd] at h; exact h.elim
              | cons c r =>
                rw [hd] at h
                obtain ⟨cs, h1, h2⟩ := getD_get hd
                simp only [h1, hag, Bool.false_eq_true, if_false, h2, un_un]
                exact h
            · rename_i id off heq
              rw [heq] at h
              simp only [ld1K] at h
              simp only [hag, Bool.false_eq_true, if_false]
              refine exCells_mono (fun c hc => ⟨hc.1, ?_⟩) h
              cases c with
              | nil => exact hc.2.elim
              | cons c r => exact hc.2
            · rename_i h1 h2 h3
              revert h
              cases hev : ev s a <;> simp only [ld1K] <;> intro h <;> first | exact h.elim | (exact absurd hev (h1 _)) | (exact absurd hev (h2 _ _)) | (exact absurd hev (h3 _ _))
        · exact h
      · exact h
  case store t a x =>
    simp only at h ⊢
    split at h
    · rename_i ti hti
      simp only [vK, evo_of] at h
      simp only [opK, storeK, hti]
      revert h
      cases hev : ev s a <;> simp only [stK] <;> intro h <;> first | exact h.elim | skip
      · exact ⟨h.1, h.2.1, h.2.2⟩
      · simp only [getD_lt h.2.2.1]
        exact ⟨h.1, h.2.1, h.2.2.2⟩
    · exact h
  case pick c a b =>
    simp only [vK, evo_of] at h
    simp only [opK, pureK]
    revert h
    cases hev : ev s c <;> simp only [pickK] <;> intro h <;> first | exact h.elim | skip
    rename_i b'
    cases b' <;> simpa [putU, un_un, pickK] using h
  case nilCheck x =>
    simp only [vK, evo_of] at h
    simp only [opK, pureK]
    revert h
    cases hev : ev s x <;> simp only [nilckK] <;> intro h <;> first | exact h.elim | exact h
  case binOp op t x y z =>
    simp only at h ⊢
    have go : ∀ (k : TD) (neg : Bool), (∃ ti, T.get t = some ti ∧ ti.d = k) → k.scalar = true → vK C P T ann s dst K (.eq1 k neg (Opd.of x) (Opd.of y)) → ∃ r, aeq T t (ev s x) (ev s y) = some r ∧ putU s dst K (.bool (if neg then !r else r)) := fun k neg ⟨ti, hti, hd⟩ hsc h => by
      simp only [vK, evo_of] at h
      unfold aeq
      simp only [hti, hd]
      cases k <;> simp only [TD.scalar] at hsc <;> first | (cases hsc; done) | skip
      all_goals
        revert h
        cases hx : ev s x <;> cases hy : ev s y <;> simp only [eq1K, aeq1] <;> intro h <;> first | exact h.elim | exact ⟨_, rfl, h⟩ | skip
      rw [if_pos h.1]
      exact ⟨_, rfl, h.2⟩
    have ar : ∀ op', op = op' → vK C P T ann s dst K (.ar op' (Opd.of x) (Opd.of y)) → (op' ≠ .eql ∧ op' ≠ .neq ∧ op' ≠ .shl ∧ op' ≠ .shr) → binK T op t (ev s x) (ev s y) (fun v => K (put s dst v.un)) := fun op' e h hne => by
      subst e
      simp only [vK, evo_of] at h
      unfold binK
      split
      · exact absurd rfl hne.1
      · exact absurd rfl hne.2.1
      · exact absurd rfl hne.2.2.1
      · exact absurd rfl hne.2.2.2
      · exact h
    have eqt : ∀ neg, vK C P T ann s dst K (.eqt t neg (Opd.of x) (Opd.of y)) → ∃ r, aeq T t (ev s x) (ev s y) = some r ∧ putU s dst K (.bool (if neg then !r else r)) := fun neg h => by
      simp only [vK, evo_of] at h
      cases hr : aeq T t (ev s x) (ev s y) with
      | none => rw [hr] at h; exact h.elim
      | some r => rw [hr] at h; exact ⟨r, rfl, h⟩
    split at h
    · simp only [vK, evo_of] at h
      simp only [opK, pureK, binK]
      exact h
    · simp only [vK, evo_of] at h
      simp only [opK, pureK, binK]
      exact h
    · split at h
      · rename_i ti hti
        simp only [opK, pureK, binK]
        split at h
        · rename_i k hd
          obtain ⟨r, h1, h2⟩ := go (.int k) false ⟨ti, hti, hd⟩ rfl h
          simp only [h1]; exact h2
        · rename_i hd
          obtain ⟨r, h1, h2⟩ := go .bool false ⟨ti, hti, hd⟩ rfl h
          simp only [h1]; exact h2
        · rename_i hd
          obtain ⟨r, h1, h2⟩ := go .str false ⟨ti, hti, hd⟩ rfl h
          simp only [h1]; exact h2
        · obtain ⟨r, h1, h2⟩ := eqt false h
          simp only [h1]; exact h2
      · exact h
    · split at h
      · rename_i ti hti
        simp only [opK, pureK, binK]
        split at h
        · rename_i k hd
          obtain ⟨r, h1, h2⟩ := go (.int k) true ⟨ti, hti, hd⟩ rfl h
          simp only [h1]; exact h2
        · rename_i hd
          obtain ⟨r, h1, h2⟩ := go .bool true ⟨ti, hti, hd⟩ rfl h
          simp only [h1]; exact h2
        · rename_i hd
          obtain ⟨r, h1, h2⟩ := go .str true ⟨ti, hti, hd⟩ rfl h
          simp only [h1]; exact h2
        · obtain ⟨r, h1, h2⟩ := eqt true h
          simp only [h1]; exact h2
      · exact h
    · rename_i h1 h2 h3 h4
      exact ar op rfl h ⟨h3, h4, h1, h2⟩
  case unOp op t x =>
    simp only at h ⊢
    split at h
    · simp only [vK, evo_of] at h
      simp only [opK, pureK]
      revert h
      cases hev : ev s x <;> simp only [notK] <;> intro h <;> first | exact h.elim | exact h
    · exact h
  case makeInterface t x =>
    simp only at h ⊢
    split at h
    · rename_i ti hti
      split at h
      · exact h
      · exact h
      · rename_i h1 h2
        simp only [vK, evo_of, putU] at h
        simp only [opK, pureK, hti]
        exact h
    · exact h
  case makeFunc fn first captured =>
    simp only at h ⊢
    split at h
    · split at h
      · rename_i hz
        simp only [opK, pureK]
        refine ⟨hz, ?_⟩
        simpa [vK, putU, List.map_map, Function.comp_def, evo_of] using h
      · exact h
    · exact h
  case fieldAddr st x f =>
    simp only at h ⊢
    split at h
    · rename_i si hsi
      split at h
      · rename_i fs hd
        split at h
        · rename_i off ft hfs
          split at h
          · rename_i fi hfi
            split at h
            · rename_i hz
              simp only [vK, evo_of] at h
              simp only [opK, pureK, hsi, hd, hfs, hfi]
              refine ⟨hz, ?_⟩
              revert h
              cases hev : ev s x <;> simp only [faK] <;> intro h <;> first | exact h.elim | exact h
            · exact h
          · exact h
        · exact h
      · exact h
    · exact h
  case indexAddr t x i =>
    simp only at h ⊢
    split at h
    · rename_i si hsi
      split at h
      · rename_i e hd
        split at h
        · rename_i ei hei
          simp only [vK, evo_of] at h
          simp only [opK, pureK, hsi, hd, hei]
          revert h
          cases hev : ev s x <;> cases hev2 : ev s i <;> simp only [ixsK] <;> intro h <;> first | exact h.elim | skip
          · obtain ⟨rfl, h⟩ := h
            exact h
          · exact h
        · exact h
      · rename_i len e hd
        split at h
        · rename_i ei hei
          simp only [vK, evo_of] at h
          simp only [opK, pureK, hsi, hd, hei]
          revert h
          cases hev : ev s x <;> cases hev2 : ev s i <;> simp only [ixaK] <;> intro h <;> first | exact h.elim | exact h
        · exact h
      · exact h
    · exact h
  case extract x i =>
    simp only [vK, evo_of] at h
    simp only [opK, pureK]
    revert h
    cases hev : ev s x <;> simp only [extK] <;> intro h <;> first | exact h.elim | skip
    obtain ⟨v, h1, h2⟩ := ext_sound h
    simp only [h1]
    exact h2
  case alloc t =>
    simp only at h ⊢
    split at h
    · rename_i ti hti
      split at h
      · exact h
      · rename_i hz
        simp only [opK, allocK, hti]
        exact ⟨fun e => hz (by simp [e]), h⟩
    · exact h
  case box t x =>
    simp only [vK, evo_of] at h
    simp only [opK, boxK]
    exact h
  case call c =>
    simp only at h ⊢
    split at h
    · rename_i f hc
      simp only [vK] at h
      simp only [callK, hc, ev, List.append_nil]
      rw [args_map] at h
      exact h
    · rename_i f hne hc
      simp only [vK, evo_of] at h
      rw [args_map] at h
      simp only [callK, hc]
      revert h
      cases hev : ev s f <;> simp only [callvK] <;> intro h <;> first | exact h.elim | exact h
    · rename_i hc
      split at h
      · rename_i x t hargs htys
        split at h
        · rename_i ti hti
          split at h
          · rename_i hd
            simp only [vK, evo_of] at h
            simp only [callK, hc, opK, pureK, hargs, htys, hti, hd]
            revert h
            cases hev : ev s x <;> simp only [lenSK] <;> intro h <;> first | exact h.elim | exact h
          · rename_i e hd
            simp only [vK, evo_of] at h
            simp only [callK, hc, opK, pureK, hargs, htys, hti, hd]
            revert h
            cases hev : ev s x <;> simp only [lensK] <;> intro h <;> first | exact h.elim | exact h
          · exact h
        · exact h
      · exact h
    · rename_i hc
      split at h
      · rename_i x y t t2 hargs htys
        simp only [callK, hc, opK, hargs, htys]
        exact h
      · exact h
    · rename_i hc
      split at h
      · rename_i x y t t2 hargs htys
        simp only [vK, evo_of] at h
        simp only [callK, hc, opK, hargs, htys]
        exact h
      · exact h
    · rename_i hc
      split at h
      · rename_i x t hargs htys
        simp only [vK, evo_of] at h
        simp only [callK, hc, opK, hargs, htys]
        exact h
      · exact h
    · rename_i hc
      split at h
      · rename_i x t hargs htys
        simp only [vK, evo_of] at h
        simp only [callK, hc, opK, hargs, htys]
        exact h
      · exact h
    · rename_i hc
      split at h
      · rename_i x y hargs
        simp only [vK, evo_of] at h
        simp only [callK, hc, opK, pureK, hargs]
        revert h
        cases hev : ev s x <;> cases hev2 : ev s y <;> simp only [mnxK] <;> intro h <;> first | exact h.elim | exact h
      · exact h
    · rename_i hc
      split at h
      · rename_i x y hargs
        simp only [vK, evo_of] at h
        simp only [callK, hc, opK, pureK, hargs]
        revert h
        cases hev : ev s x <;> cases hev2 : ev s y <;> simp only [mnxK] <;> intro h <;> first | exact h.elim | exact h
      · exact h
    · rename_i recv name hc
      simp only [vK, evo_of] at h
      rw [args_map] at h
      simp only [callK, hc]
      revert h
      cases hev : ev s recv <;> simp only [invK] <;> intro h <;> first | exact h.elim | exact h
    · exact h
  case build t parts =>
    simp only [vK, parts_of] at h
    simp only [opK, pureK]
    revert h
    cases hb : abuild T t (parts.toList.map fun p => (p.1, (ev s p.2).un)) <;> simp only [agK] <;> intro h <;> first | exact h.elim | exact h
  case buildSlice t len parts =>
    simp only [vK, parts_of] at h
    simp only [opK]
    exact h
  case slice t x lo hi mx =>
    simp only at h ⊢
    split at h
    · rename_i ho
      split at h
      · rename_i hm
        simp only [vK, evo_of, optO_of] at h
        simp only [opK, ho, if_true]
        exact ⟨hm, h⟩
      · exact h
    · rename_i ho
      simp only [Bool.not_eq_true] at ho
      simp only [vK, evo_of, optO_of'] at h
      simp only [opK, ho, Bool.false_eq_true, if_false, pureK]
      exact h
  case makeMap t r =>
    simp only at h ⊢
    split at h
    · rename_i hr
      simp only [opK]
      exact ⟨hr, h⟩
    · exact h
  case lookup t x y ok =>
    simp only [vK, evo_of] at h
    simp only [opK]
    exact h
  case mapUpdate t m k v =>
    simp only [vK, evo_of] at h
    simp only [opK]
    exact h
  case convert src dst' x =>
    simp only [vK, evo_of] at h
    simp only [opK, pureK]
    cases h1 : T.get src with
    | none => rw [h1] at h; exact h.elim
    | some si =>
      cases h2 : T.get dst' with
      | none => rw [h1, h2] at h; exact h.elim
      | some di =>
        rw [h1, h2] at h
        simp only at h ⊢
        revert h
        cases hd : di.d <;> cases hev : ev s x <;> simp only [cvtK] <;> intro h <;> first | exact h.elim | exact ⟨h.1, h.2⟩
  case typeAssert x xt t ok =>
    simp only [vK, evo_of] at h
    simp only [opK, pureK]
    cases h1 : T.get t with
    | none => rw [h1] at h; exact h.elim
    | some ti =>
      rw [h1] at h
      simp only at h ⊢
      revert h
      cases hd : ti.d <;> cases hev : ev s x <;> simp only [tasK] <;> intro h <;> first | exact h.elim | exact h
  all_goals exact h

end
end Go.Ab
end
section
/- A stack of what is still to do. -/
set_option linter.unusedSimpArgs false
set_option linter.unusedVariables false
namespace Go.Ab

inductive It where
  | o (d : Option Nat) (v : V) (g : Option (Option Nat × Bool))
  | cond (c : Operand) (x y : List It)
  | block (id : Nat) (b : List It)
  | exit (id : Nat)
  | goto (l : Nat)
  | ret
  | loop (b : List It) (c : Code)
  | rf (c : Code)
  | alts (ps : List (List It))
  | bad

def guardK (s : ASt) (d : Option Nat) (sl : Nat) (want : Bool) (K : ASt → Prop) (go : ASt → Prop) : AV → Prop
  | .bool b => br b (if want then go (told s (.tmp sl) true) else K (put (told s (.tmp sl) true) d (.tup [])))
      (if want then K (put (told s (.tmp sl) false) d (.tup [])) else go (told s (.tmp sl) false))
  | .tup [] => K (put s d (.tup []))
  | _ => False

/-- The loops of a code, in the order of the text; of a range over a function the statement itself. -/
def loopsOf : Code → List Code
  | .seq x y => loopsOf x ++ loopsOf y
  | .cond _ x y => loopsOf x ++ loopsOf y
  | .block _ c => loopsOf c
  | .loop c => c :: loopsOf c
  | .rangeFunc g ps x y => .rangeFunc g ps x y :: (loopsOf x ++ loopsOf y)
  | _ => []
def lp (c : Code) (k : Nat) : Code := (loopsOf c).getD k .skip

section
variable (C : CX) (P : Program) (T : Tab) (ann : Ann) (ro : Option Nat)

def stepV (d : Option Nat) (v : V) (g : Option (Option Nat × Bool)) (s : ASt) (K : ASt → Prop) : Prop :=
  match g with
  | none => vK C P T ann s d K v
  | some (none, _) => K (put s d (.tup []))
  | some (some sl, want) => guardK s d sl want K (fun s => vK C P T ann s d K v) (s.sl.getD sl .undef)

mutual
def runI : It → ASt → (Exit → ASt → Prop) → Prop
  | .o d v g, s, K => stepV C P T ann d v g s (K .normal)
  | .cond c x y, s, K => (match ev s c with
    | .bool b => br b (runL x (told s c true) K) (runL y (told s c false) K)
    | _ => False)
  | .block id b, s, K => runL b s fun e s' => match e with | .exit i => if i = id then K .normal s' else K (.exit i) s' | e => K e s'
  | .exit id, s, K => K (.exit id) s
  | .goto l, s, K => K (.goto l) s
  | .ret, s, K => K .ret s
  | .loop _ c, s, K => AWp C P ro (.loop c) s K
  | .rf c, s, K => AWp C P ro c s K
  | .alts ps, s, K => runA ps s K
  | .bad, _, _ => False
def runL : List It → ASt → (Exit → ASt → Prop) → Prop
  | [], s, K => K .normal s
  | i :: r, s, K => runI i s fun e s' => match e with | .normal => runL r s' K | e => K e s'
def runA : List (List It) → ASt → (Exit → ASt → Prop) → Prop
  | [], _, _ => True
  | p :: ps, s, K => runL p s K ∧ runA ps s K
end

/-- On, with the rest of the stack. -/
def sq (r : List It) (K : Exit → ASt → Prop) : Exit → ASt → Prop := fun e s' => match e with | .normal => runL C P T ann ro r s' K | e => K e s'
end
/-- Behind a block. -/
def bk (id : Nat) (K : Exit → ASt → Prop) : Exit → ASt → Prop := fun e s' => match e with | .exit i => if i = id then K .normal s' else K (.exit i) s' | e => K e s'

mutual
def compP (T : Tab) (ann : Ann) (ops : Array Oper) : Plan → List It
  | .done => []
  | .take i p => (match ops[i]? with
    | none => .bad
    | some o => .o o.dst (comp T ann o) (match o.guard with | none => none | some (j, want) => some ((ops[j]?).bind (·.dst), want))) :: compP T ann ops p
  | .all ps => [.alts (compPs T ann ops ps)]
def compPs (T : Tab) (ann : Ann) (ops : Array Oper) : List (Nat × Plan) → List (List It)
  | [] => []
  | (i, p) :: ps => ((match ops[i]? with
    | none => .bad
    | some o => .o o.dst (comp T ann o) (match o.guard with | none => none | some (j, want) => some ((ops[j]?).bind (·.dst), want))) :: compP T ann ops p) :: compPs T ann ops ps
end

def compC (T : Tab) (ann : Ann) (pl : List (Nat × Plan)) : Code → List It
  | .skip => []
  | .label _ => []
  | .exit id => [.exit id]
  | .goto l => [.goto l]
  | .ret => [.ret]
  | .seq x y => compC T ann pl x ++ compC T ann pl y
  | .cond c x y => [.cond c (compC T ann pl x) (compC T ann pl y)]
  | .block id c => [.block id (compC T ann pl c)]
  | .region id ops draw => compP T ann ops (planOf pl id ops.size draw)
  | .loop c => [.loop (compC T ann pl c) c]
  | .rangeFunc g ps x y => [.rf (.rangeFunc g ps x y)]
  | _ => [.bad]

section
variable {C : CX} {P : Program} {T : Tab} {ann : Ann} {ro : Option Nat} {Γ : G} {X : Ctx} {s : ASt} {a : Act} {w : World} {K : Exit → ASt → Prop}

theorem runL_nil : runL C P T ann ro [] s K = K .normal s := by simp only [runL]
theorem runL_cons {i : It} {r : List It} : runL C P T ann ro (i :: r) s K = runI C P T ann ro i s (sq C P T ann ro r K) := by simp only [runL]; rfl
theorem sq_nil : sq C P T ann ro [] K = K := by funext e s; cases e <;> simp only [sq, runL_nil]
theorem runL_append : ∀ {x y : List It} {s : ASt} {K : Exit → ASt → Prop}, runL C P T ann ro (x ++ y) s K = runL C P T ann ro x s (sq C P T ann ro y K)
  | [], y, s, K => by rw [List.nil_append, runL_nil]; rfl
  | i :: x, y, s, K => by
    rw [List.cons_append, runL_cons, runL_cons]
    congr 1
    funext e s'
    cases e <;> simp only [sq]
    exact runL_append

theorem item_sound {ops : Array Oper} {o : Oper} {K : ASt → Prop} (h : stepV C P T ann o.dst (comp T ann o) (match o.guard with | none => none | some (j, want) => some ((ops[j]?).bind (·.dst), want)) s K) : stepK C P T ann ops o s K := by
  unfold stepV at h
  unfold stepK
  cases hg : o.guard with
  | none => rw [hg] at h; exact comp_sound h
  | some p =>
    obtain ⟨j, want⟩ := p
    rw [hg] at h
    simp only at h ⊢
    cases hd : (ops[j]?).bind (·.dst) with
    | none => rw [hd] at h; exact h
    | some d =>
      rw [hd] at h
      simp only at h ⊢
      revert h
      cases hsl : s.sl.getD d .undef with
      | bool b =>
        simp only [guardK]
        cases b <;> cases want <;> simp only [br_true, br_false, if_true, if_false, Bool.false_eq_true] <;> intro h <;> first | exact h | exact comp_sound h
      | tup vs => cases vs <;> simp only [guardK] <;> intro h <;> first | exact h | exact h.elim
      | _ => simp only [guardK]; intro h; exact h.elim

theorem runText_sound (hT : TabOK P T) {ops : Array Oper} {Q : Exit → Act → World → Prop} : ∀ (n i : Nat) {Γ : G} {X : Ctx} {s : ASt} {a : Act} {w : World},
    runL C P T ann ro (compP T ann ops (textPlan i n)) s K → Rel X Γ s a w → C.ok X → (∀ a w, PostN C X (K .normal) a w → Q .normal a w) → wpOpsIn (Fc ro) 0 P ops Q (List.range' i n) a w
  | 0, i, Γ, X, s, a, w, h, k, hC, hQ => by
    simp only [textPlan, compP, runL_nil] at h
    simp only [List.range'_zero, wpOpsIn]
    exact hQ a w ⟨s, Γ, X, h, k, Sub.refl X, hC⟩
  | n + 1, i, Γ, X, s, a, w, h, k, hC, hQ => by
    simp only [textPlan, compP] at h
    rw [List.range'_succ, wpOpsIn_cons]
    cases ho : ops[i]? with
    | none => rw [ho, runL_cons] at h; simp only [runI] at h
    | some o =>
      rw [ho, runL_cons] at h
      simp only [runI] at h
      refine wpOpIn_mono ?_ (step_sound hT k hC ho (item_sound h))
      intro a' w' ⟨s', Γ', X', h', k', hsub, hC'⟩
      exact runText_sound hT n (i + 1) h' k' hC' (fun a w hp => hQ a w (hp.up hsub))

mutual
theorem runPlan_sound (hT : TabOK P T) {ops : Array Oper} {Q : Exit → Act → World → Prop} (hs : Region.noSelect ops = true) (hP : ∀ c a w, ¬ Q (.panic c) a w) : ∀ (p : Plan) (fuel : Nat) (listed : Array Bool) {Γ : G} {X : Ctx} {s : ASt} {a : Act} {w : World},
    okPlan ann ro ops p fuel listed = true → runL C P T ann ro (compP T ann ops p) s K → Rel X Γ s a w → C.ok X → (∀ a w, PostN C X (K .normal) a w → Q .normal a w) → wpAnyIn (Fc ro) 0 P .any ops Q fuel listed a w
  | .done, fuel, listed, Γ, X, s, a, w, hok, h, k, hC, hQ => by
    simp only [okPlan, List.isEmpty_iff] at hok
    simp only [compP, runL_nil] at h
    exact wpAnyIn_done hok (hQ a w ⟨s, Γ, X, h, k, Sub.refl X, hC⟩) fuel
  | .take i p, 0, listed, Γ, X, s, a, w, hok, h, k, hC, hQ => by simp [okPlan] at hok
  | .take i p, fuel + 1, listed, Γ, X, s, a, w, hok, h, k, hC, hQ => by
    simp only [okPlan, Bool.and_eq_true] at hok
    obtain ⟨⟨⟨⟨h1, h2⟩, h3⟩, h4⟩, h5⟩ := hok
    cases ho : ops[i]? with
    | none => rw [ho] at h2; cases h2
    | some o =>
      rw [ho] at h2
      simp only [compP, ho] at h
      rw [runL_cons] at h
      simp only [runI] at h
      obtain ⟨v, hy, s', Γ', X', h', k', hsub, hC'⟩ := pureStep_sound hT k hC h2 (item_sound h)
      have hro : (Fc ro).round = none := by show ro = none; simpa using h1
      exact wpAnyIn_take hro ho hs h3 h4 (fun c a w hc => (hP _ _ _ hc).elim) hy (runPlan_sound hT hs hP p fuel _ h5 h' k' hC' (fun a w hp => hQ a w (hp.up hsub)))
  | .all ps, 0, listed, Γ, X, s, a, w, hok, h, k, hC, hQ => by simp [okPlan] at hok
  | .all ps, fuel + 1, listed, Γ, X, s, a, w, hok, h, k, hC, hQ => by
    simp only [okPlan, Bool.and_eq_true, beq_iff_eq] at hok
    obtain ⟨⟨h1, h2⟩, h3⟩ := hok
    simp only [compP, runL_cons, runI, sq_nil] at h
    refine wpAnyIn_all h2 (by cases ps <;> simp at h1 ⊢) ?_
    exact runPlans_sound hT hs hP ps fuel listed h3 h k hC hQ
theorem runPlans_sound (hT : TabOK P T) {ops : Array Oper} {Q : Exit → Act → World → Prop} (hs : Region.noSelect ops = true) (hP : ∀ c a w, ¬ Q (.panic c) a w) : ∀ (ps : List (Nat × Plan)) (fuel : Nat) (listed : Array Bool) {Γ : G} {X : Ctx} {s : ASt} {a : Act} {w : World},
    okPlans ann ro ops ps fuel listed = true → runA C P T ann ro (compPs T ann ops ps) s K → Rel X Γ s a w → C.ok X → (∀ a w, PostN C X (K .normal) a w → Q .normal a w) →
    ∀ i ∈ ps.map (·.1), wpOpIn (Fc ro) 0 P ops Q i (wpAnyIn (Fc ro) 0 P .any ops Q fuel (listed.setIfInBounds i true)) a w
  | [], fuel, listed, Γ, X, s, a, w, hok, h, k, hC, hQ => by simp
  | (i, p) :: ps, fuel, listed, Γ, X, s, a, w, hok, h, k, hC, hQ => by
    simp only [okPlans, Bool.and_eq_true] at hok
    simp only [compPs, runA] at h
    intro j hj
    simp only [List.map_cons, List.mem_cons] at hj
    rcases hj with rfl | hj
    · cases ho : ops[j]? with
      | none =>
        have h1 := h.1
        rw [ho, runL_cons] at h1
        simp only [runI] at h1
      | some o =>
        have h1 := h.1
        rw [ho, runL_cons] at h1
        simp only [runI] at h1
        refine wpOpIn_mono ?_ (step_sound hT k hC ho (item_sound h1))
        intro a' w' ⟨s', Γ', X', h', k', hsub, hC'⟩
        exact runPlan_sound hT hs hP p fuel _ hok.1 h' k' hC' (fun a w hp => hQ a w (hp.up hsub))
    · exact runPlans_sound hT hs hP ps fuel listed hok.2 h.2 k hC hQ j hj
end

theorem run_sound (hT : TabOK P T) (hm : P.follows .mixedOrders = true) {pl : List (Nat × Plan)} : ∀ (c : Code) (s : ASt) (K : Exit → ASt → Prop), okCode ann ro pl c = true → runL C P T ann ro (compC T ann pl c) s K → AWp C P ro c s K := by
  intro c
  induction c with
  | skip => intro s K _ h; simp only [compC, runL_nil] at h; exact ⟨fun X hC Γ a w k => wpIn_skip ⟨s, Γ, X, h, k, Sub.refl X, hC⟩⟩
  | label l => intro s K _ h; simp only [compC, runL_nil] at h; exact ⟨fun X hC Γ a w k => wpIn_label ⟨s, Γ, X, h, k, Sub.refl X, hC⟩⟩
  | exit id => intro s K _ h; simp only [compC, runL_cons, runI, sq] at h; exact ⟨fun X hC Γ a w k => wpIn_exit ⟨s, Γ, X, h, k, Sub.refl X, hC⟩⟩
  | goto l => intro s K _ h; simp only [compC, runL_cons, runI, sq] at h; exact ⟨fun X hC Γ a w k => wpIn_goto ⟨s, Γ, X, h, k, Sub.refl X, hC⟩⟩
  | ret => intro s K _ h; simp only [compC, runL_cons, runI, sq] at h; exact ⟨fun X hC Γ a w k => wpIn_ret ⟨s, Γ, X, h, k, Sub.refl X, hC⟩⟩
  | seq x y ihx ihy =>
    intro s K hok h
    refine ⟨fun X hC Γ a w k => ?_⟩
    simp only [okCode, Bool.and_eq_true] at hok
    simp only [compC, runL_append] at h
    refine wpIn_seq (wpIn_mono ((ihx s _ hok.1 h).run X hC Γ a w k) ?_)
    intro e a' w' hp
    obtain ⟨s', Γ', X', hK, k', hsub, hC'⟩ := hp
    cases e with
    | normal => exact wpIn_mono ((ihy s' K hok.2 hK).run X' hC' Γ' a' w' k') (fun e a w hp => post_of hp hsub)
    | _ => exact ⟨s', Γ', X', hK, k', hsub, hC'⟩
  | cond c x y ihx ihy =>
    intro s K hok h
    refine ⟨fun X hC Γ a w k => ?_⟩
    simp only [okCode, Bool.and_eq_true] at hok
    simp only [compC, runL_cons, runI] at h
    have hK : ∀ e a w, Post C X (sq C P T ann ro [] K) e a w → Post C X K e a w := fun e a w ⟨s', Γ', X', q1, q2⟩ => by
      refine ⟨s', Γ', X', ?_, q2⟩
      cases e <;> simpa only [sq, runL_nil] using q1
    split at h
    · rename_i b hb
      have hv := ev_rel k.slots c
      rw [hb] at hv
      simp only [vrel] at hv
      have k' := told_rel k hb
      cases b with
      | true => exact wpIn_mono (wpIn_cond_true hv ((ihx _ _ hok.1 (by simpa using h)).run X hC Γ a w k')) hK
      | false => exact wpIn_mono (wpIn_cond_false hv ((ihy _ _ hok.2 (by simpa using h)).run X hC Γ a w k')) hK
    · exact h.elim
  | block id c ih =>
    intro s K hok h
    refine ⟨fun X hC Γ a w k => ?_⟩
    simp only [okCode] at hok
    simp only [compC, runL_cons, runI] at h
    refine wpIn_block (wpIn_mono ((ih s _ hok h).run X hC Γ a w k) ?_)
    intro e a' w' ⟨s', Γ', X', hK, k', hsub, hC'⟩
    cases e with
    | exit i =>
      simp only [Exit.inBlock]
      simp only [sq, runL_nil] at hK
      by_cases e : i = id
      · rw [if_pos e] at hK ⊢; exact ⟨s', Γ', X', hK, k', hsub, hC'⟩
      · rw [if_neg e] at hK ⊢; exact ⟨s', Γ', X', hK, k', hsub, hC'⟩
    | normal => simp only [sq, runL_nil] at hK; exact ⟨s', Γ', X', hK, k', hsub, hC'⟩
    | _ => exact ⟨s', Γ', X', hK, k', hsub, hC'⟩
  | region id ops draw =>
    intro s K hok h
    refine ⟨fun X hC Γ a w k => ?_⟩
    simp only [compC] at h
    let Q : Exit → Act → World → Prop := fun e a w => e = .normal ∧ PostN C X (K .normal) a w
    have hQ : ∀ e a w, Q e a w → Post C X K e a w := fun e a w ⟨e', s, Γ, X', h⟩ => by subst e'; exact ⟨s, Γ, X', h⟩
    cases draw with
    | false =>
      simp only [planOf, Bool.false_eq_true, if_false] at h
      refine wpIn_mono (Q := Q) (wpIn_region ?_) hQ
      rw [List.range_eq_range']
      exact runText_sound hT ops.size 0 h k hC (fun a w hp => ⟨rfl, hp⟩)
    | true =>
      simp only [okCode, Bool.and_eq_true] at hok
      refine wpIn_mono (Q := Q) (wpIn_region_any hm ?_) hQ
      refine runPlan_sound hT hok.1 (fun c a w hc => by cases hc.1) _ _ _ hok.2 h ⟨k.inv.same rfl rfl rfl rfl, k.slots, k.defers⟩ hC (fun a w hp => ⟨rfl, hp⟩)
  | loop c =>
    intro s K _ h
    simp only [compC, runL_cons, runI] at h
    have e : sq C P T ann ro [] K = K := by funext e s; cases e <;> simp only [sq, runL_nil]
    rwa [e] at h
  | rangeFunc g ps x y =>
    intro s K _ h
    simp only [compC, runL_cons, runI] at h
    have e : sq C P T ann ro [] K = K := by funext e s; cases e <;> simp only [sq, runL_nil]
    rwa [e] at h
  | scope c => intro s K _ h; simp only [compC, runL_cons, runI] at h
  | refuse c => intro s K _ h; simp only [compC, runL_cons, runI] at h

end
end Go.Ab
end
section
/- Slots as a list of what was put last; contracts and loops by runs. -/
set_option linter.unusedSimpArgs false
set_option linter.unusedVariables false
namespace Go.Ab

def lk (d : AV) : List (Nat × AV) → Nat → AV
  | [], _ => d
  | (k, v) :: r, n => if k = n then v else lk d r n
def ofL (d : AV) (n : Nat) (l : List (Nat × AV)) : List AV := (List.range n).map (lk d l)

/-- A state, told so. -/
def S (d : AV) (n : Nat) (l : List (Nat × AV)) (bx : List (List AV)) (h : List AObj) : ASt := ⟨ofL d n l, bx, h⟩

def allIn (d : AV) (l : List (Nat × AV)) (m : Nat) : List (Nat × AV) → Prop
  | [] => True
  | (t, v) :: r => lk d l t = v ∧ v.lb m = true ∧ allIn d l m r

section
variable {C : CX} {P : Program} {T : Tab} {ann : Ann} {ro : Option Nat} {K : Exit → ASt → Prop} {d : AV} {n : Nat} {l : List (Nat × AV)} {bx : List (List AV)} {h : List AObj}

theorem lk_cons {k t : Nat} {v : AV} : lk d ((k, v) :: l) t = if k = t then v else lk d l t := rfl
theorem lk_nil {t : Nat} : lk d [] t = d := rfl
theorem ofL_getD {t : Nat} (ht : t < n) : (ofL d n l).getD t .undef = lk d l t := by
  simp [ofL, List.getD, ht]
theorem ofL_set {t : Nat} {v : AV} (ht : t < n) : (ofL d n l).set t v = ofL d n ((t, v) :: l) := by
  apply List.ext_getElem?
  intro i
  rw [List.getElem?_set]
  simp only [ofL, List.length_map, List.length_range, List.getElem?_map]
  by_cases hi : t = i
  · subst hi
    simp [ht, lk]
  · simp only [if_neg hi]
    cases hr : (List.range n)[i]? with
    | none => rfl
    | some j =>
      have : j = i := by
        rw [List.getElem?_eq_some_iff] at hr
        obtain ⟨_, hr⟩ := hr
        simpa using hr.symm
      subst this
      simp [lk, hi]

theorem S_evo {t : Nat} (ht : t < n) : evo (S d n l bx h) (.t t) = lk d l t := ofL_getD ht
theorem S_evc {a : AV} : evo (S d n l bx h) (.c a) = a := rfl
theorem S_ev {t : Nat} (ht : t < n) : ev (S d n l bx h) (.tmp t) = lk d l t := ofL_getD ht
theorem S_put {t : Nat} {v : AV} (ht : t < n) : put (S d n l bx h) (some t) v = S d n ((t, v) :: l) bx h := by simp only [put, S, ofL_set ht]
theorem S_put_none {v : AV} : put (S d n l bx h) none v = S d n l bx h := rfl
theorem S_told {t : Nat} {b : Bool} (ht : t < n) : told (S d n l bx h) (.tmp t) b = S d n ((t, .bool b) :: l) bx h := by simp only [told, S, ofL_set ht]
theorem S_takeV {t : Nat} (ht : t < n) : takeV (S d n l bx h) (.tmp t) = lk d l t := ofL_getD ht
theorem S_takeVc {v : Value} : takeV (S d n l bx h) (.const v) = (ofV v).un := rfl
theorem S_takeVf {f : FuncId} : takeV (S d n l bx h) (.func f) = .fn f [] := rfl
theorem S_takeS {t : Nat} (ht : t < n) : takeS (S d n l bx h) (.tmp t) = if (lk d l t).owns then S d n ((t, (lk d l t).un) :: l) bx h else S d n l bx h := by
  simp only [takeS, S, ofL_getD ht, ofL_set ht]
theorem S_takeSc {v : Value} : takeS (S d n l bx h) (.const v) = S d n l bx h := rfl
theorem S_takeSf {f : FuncId} : takeS (S d n l bx h) (.func f) = S d n l bx h := rfl
theorem S_bx : (S d n l bx h).bx = bx := rfl
theorem S_h : (S d n l bx h).h = h := rfl
theorem S_slot {t : Nat} (ht : t < n) : (S d n l bx h).sl.getD t .undef = lk d l t := ofL_getD ht
theorem maskL_at {live : List Nat} : ∀ {l : List AV} {k i : Nat}, (maskL live k l)[i]? = (l[i]?).map fun a => if live.contains (k + i) then a else .undef
  | [], k, i => by simp [maskL]
  | a :: xs, k, 0 => by simp [maskL]
  | a :: xs, k, i + 1 => by
    simp only [maskL, List.getElem?_cons_succ]
    rw [maskL_at (l := xs) (k := k + 1) (i := i), show k + 1 + i = k + (i + 1) by omega]

theorem lk_allIn {m : Nat} : ∀ {l' : List (Nat × AV)} (t : Nat), allIn d l m l' → lk .undef l' t = if (l'.map (·.1)).contains t then lk d l t else .undef
  | [], t, _ => by simp [lk]
  | (k, v) :: r, t, h1 => by
    obtain ⟨e1, _, e2⟩ := h1
    simp only [lk, List.map_cons, List.contains_cons]
    by_cases hk : k = t
    · subst hk
      simp [e1]
    · have : (t == k) = false := by simp; exact fun e => hk e.symm
      rw [if_neg hk, this, Bool.false_or]
      exact lk_allIn t e2
theorem lk_lb {m : Nat} : ∀ {l' : List (Nat × AV)} (t : Nat), allIn d l m l' → (lk .undef l' t).lb m = true
  | [], t, _ => rfl
  | (k, v) :: r, t, h1 => by
    obtain ⟨_, e1, e2⟩ := h1
    simp only [lk]
    split
    · exact e1
    · exact lk_lb t e2
theorem lbs_of {m : Nat} : ∀ {xs : List AV}, (∀ a ∈ xs, a.lb m = true) → AV.lb.lbs m xs = true
  | [], _ => rfl
  | a :: xs, h => by
    simp only [AV.lb.lbs, Bool.and_eq_true]
    exact ⟨h a (by simp), lbs_of fun b hb => h b (by simp [hb])⟩

theorem Mask.ofL {m : Nat} {l' : List (Nat × AV)} {bx' : List (List AV)} (h1 : allIn d l m l') (h2 : bx' = bx.take m) (h3 : bx'.all (fun cs => AV.lb.lbs m cs) = true) : Mask (l'.map (·.1)) m (S d n l bx h) (S .undef n l' bx' h) := by
  refine ⟨?_, h2, rfl, lbs_of fun a ha => ?_, h3⟩
  · apply List.ext_getElem?
    intro i
    rw [maskL_at]
    simp only [S, Ab.ofL, List.getElem?_map, Nat.zero_add]
    cases hr : (List.range n)[i]? with
    | none => rfl
    | some j =>
      have : j = i := by
        rw [List.getElem?_eq_some_iff] at hr
        obtain ⟨_, hr⟩ := hr
        simpa using hr.symm
      subst this
      simp only [Option.map_some]
      rw [lk_allIn j h1]
  · simp only [S, Ab.ofL, List.mem_map] at ha
    obtain ⟨t, _, rfl⟩ := ha
    exact lk_lb t h1

theorem AWp.mono {c : Code} {s : ASt} {K K' : Exit → ASt → Prop} (hw : AWp C P ro c s K) (hk : ∀ e s, K e s → K' e s) : AWp C P ro c s K' :=
  ⟨fun X hC Γ a w k => wpIn_mono (hw.run X hC Γ a w k) fun e a w ⟨s, Γ, X', h1, h2⟩ => ⟨s, Γ, X', hk e s h1, h2⟩⟩

/-- What a round must lead to. -/
def nextR {α : Type} (d : AV) (n m : Nat) (ls : α → List (Nat × AV)) (bs : α → List (List AV)) (hs : α → List AObj) (φ : α → Prop) (μ : α → Nat) (g : α) (K : Exit → ASt → Prop) (e : Exit) (s' : ASt) : Prop :=
  match e with
  | .normal => ∃ g', φ g' ∧ μ g' < μ g ∧ ∃ d' l bx, s' = S d' n l bx (hs g') ∧ allIn d' l m (ls g') ∧ bs g' = bx.take m ∧ (bs g').all (fun cs => AV.lb.lbs m cs) = true
  | e => K e s'

end
end Go.Ab
end
section
/- How a run goes on: one rule for each item. -/
set_option linter.unusedSimpArgs false
set_option linter.unusedVariables false
namespace Go.Ab

section
variable (C : CX) (P : Program) (T : Tab) (ann : Ann) (ro : Option Nat)

/-- A run, shut: what checks terms does not look into it. -/
structure Run (r : List It) (s : ASt) (K : Exit → ASt → Prop) : Prop where
  h : runL C P T ann ro r s K
/-- On, with the rest of the stack. -/
def sqR (r : List It) (K : Exit → ASt → Prop) : Exit → ASt → Prop := fun e s' => match e with | .normal => Run C P T ann ro r s' K | e => K e s'

/-- An operation behind a guard, by what the guard's slot holds. -/
def guardV (s : ASt) (d : Option Nat) (sl : Nat) (want : Bool) (v : V) (K : ASt → Prop) (a : AV) : Prop := guardK s d sl want K (fun s => vK C P T ann s d K v) a
/-- A test, by what its slot holds. -/
def condV (c : Operand) (x y : List It) (s : ASt) (K : Exit → ASt → Prop) : AV → Prop
  | .bool b => br b (Run C P T ann ro x (told s c true) K) (Run C P T ann ro y (told s c false) K)
  | _ => False
end

section
variable {C : CX} {P : Program} {T : Tab} {ann : Ann} {ro : Option Nat} {d : Option Nat} {v : V} {r : List It} {s : ASt} {K : Exit → ASt → Prop} {K1 : ASt → Prop} {sl : Nat} {want : Bool} {id : Nat} {i : Nat}

theorem Run_eq : Run C P T ann ro r s K = runL C P T ann ro r s K := propext ⟨fun h => h.h, fun h => ⟨h⟩⟩
theorem sqR_eq : sqR C P T ann ro r K = sq C P T ann ro r K := by funext e s'; cases e <;> simp only [sqR, sq, Run_eq]
theorem run_o : Run C P T ann ro (.o d v none :: r) s K = vK C P T ann s d (sqR C P T ann ro r K .normal) v := by rw [Run_eq, runL_cons, sqR_eq]; simp only [runI, stepV]
theorem run_g : Run C P T ann ro (.o d v (some (some sl, want)) :: r) s K = guardV C P T ann s d sl want v (sqR C P T ann ro r K .normal) (s.sl.getD sl .undef) := by rw [Run_eq, runL_cons, sqR_eq]; simp only [runI, stepV, guardV]
theorem run_ret : Run C P T ann ro (.ret :: r) s K = K .ret s := by rw [Run_eq, runL_cons]; simp only [runI, sq]
theorem run_exit : Run C P T ann ro (.exit id :: r) s K = K (.exit id) s := by rw [Run_eq, runL_cons]; simp only [runI, sq]
theorem run_nil : Run C P T ann ro [] s K = K .normal s := by rw [Run_eq, runL_nil]
theorem run_cond {c : Operand} {x y : List It} : Run C P T ann ro (.cond c x y :: r) s K = condV C P T ann ro c x y s (sqR C P T ann ro r K) (ev s c) := by
  rw [Run_eq, runL_cons, sqR_eq]; simp only [runI, condV]
  cases ev s c <;> simp only [condV, Run_eq]
theorem run_block {b : List It} : Run C P T ann ro (.block id b :: r) s K = Run C P T ann ro b s (bk id (sqR C P T ann ro r K)) := by rw [Run_eq, Run_eq, runL_cons, sqR_eq]; simp only [runI]; rfl
theorem run_loop {b : List It} {c : Code} : Run C P T ann ro (.loop b c :: r) s K = AWp C P ro (.loop c) s (sqR C P T ann ro r K) := by rw [Run_eq, runL_cons, sqR_eq]; simp only [runI]
theorem run_rf {c : Code} : Run C P T ann ro (.rf c :: r) s K = AWp C P ro c s (sqR C P T ann ro r K) := by rw [Run_eq, runL_cons, sqR_eq]; simp only [runI]

theorem sq_normal : sqR C P T ann ro r K .normal s = Run C P T ann ro r s K := rfl
theorem sq_ret : sqR C P T ann ro r K .ret s = K .ret s := rfl
theorem sq_exit : sqR C P T ann ro r K (.exit id) s = K (.exit id) s := rfl
theorem bk_normal : bk id K .normal s = K .normal s := rfl
theorem bk_ret : bk id K .ret s = K .ret s := rfl
theorem bk_exit : bk id K (.exit i) s = if i = id then K .normal s else K (.exit i) s := rfl

theorem guardV_t : guardV C P T ann s d sl true v K1 (.bool true) = vK C P T ann (told s (.tmp sl) true) d K1 v := rfl
theorem guardV_tn : guardV C P T ann s d sl false v K1 (.bool true) = K1 (put (told s (.tmp sl) true) d (.tup [])) := rfl
theorem guardV_f : guardV C P T ann s d sl false v K1 (.bool false) = vK C P T ann (told s (.tmp sl) false) d K1 v := rfl
theorem guardV_fn : guardV C P T ann s d sl true v K1 (.bool false) = K1 (put (told s (.tmp sl) false) d (.tup [])) := rfl
theorem guardV_u : guardV C P T ann s d sl want v K1 (.tup []) = K1 (put s d (.tup [])) := rfl
theorem guardV_split {b : Bool} (ht : b = true → guardV C P T ann s d sl want v K1 (.bool true)) (hf : b = false → guardV C P T ann s d sl want v K1 (.bool false)) : guardV C P T ann s d sl want v K1 (.bool b) := by cases b; exact hf rfl; exact ht rfl
theorem condV_t {c : Operand} {x y : List It} : condV C P T ann ro c x y s K (.bool true) = Run C P T ann ro x (told s c true) K := rfl
theorem condV_f {c : Operand} {x y : List It} : condV C P T ann ro c x y s K (.bool false) = Run C P T ann ro y (told s c false) K := rfl
theorem condV_split {c : Operand} {x y : List It} {b : Bool} (ht : b = true → condV C P T ann ro c x y s K (.bool true)) (hf : b = false → condV C P T ann ro c x y s K (.bool false)) : condV C P T ann ro c x y s K (.bool b) := by cases b; exact hf rfl; exact ht rfl

theorem pick_t {a b : AV} {K : AV → Prop} : pickK (.bool true) a b K = K a := rfl
theorem pick_f {a b : AV} {K : AV → Prop} : pickK (.bool false) a b K = K b := rfl
section
variable {α : Type} {d0 : AV} {n m : Nat} {ls : α → List (Nat × AV)} {bs : α → List (List AV)} {hs : α → List AObj} {φ : α → Prop} {μ : α → Nat} {g : α}
theorem next_exit : nextR d0 n m ls bs hs φ μ g K (.exit i) s = K (.exit i) s := rfl
theorem next_ret : nextR d0 n m ls bs hs φ μ g K .ret s = K .ret s := rfl
/-- A round that ends: the next one's state. -/
theorem next_normal {d' : AV} {l : List (Nat × AV)} {bx : List (List AV)} {h : List AObj} (g' : α) (h1 : φ g') (h2 : μ g' < μ g) (h3 : h = hs g') (h4 : allIn d' l m (ls g')) (h5 : bs g' = bx.take m) (h6 : (bs g').all (fun cs => AV.lb.lbs m cs) = true) : nextR d0 n m ls bs hs φ μ g K .normal (S d' n l bx h) :=
  ⟨g', h1, h2, d', l, bx, by rw [h3], h4, h5, h6⟩
end

/-- A state with other memory. -/
def setBH (s : ASt) (bx : List (List AV)) (h : List AObj) : ASt := ⟨s.sl, bx, h⟩
theorem putM_eq {a : AV} {bx : List (List AV)} {h : List AObj} : putM s d K1 a bx h = K1 (put (setBH s bx h) d a) := rfl
theorem putH_eq {a : AV} {h : List AObj} : putH s d K1 a h = K1 (put (setBH s s.bx h) d a) := rfl
theorem putS_eq {x : Operand} {bx : List (List AV)} {h : List AObj} : putS s d K1 x bx h = K1 (put (setBH (takeS s x) bx h) d (.tup [])) := rfl
theorem S_set {d' : AV} {n : Nat} {l : List (Nat × AV)} {bx bx' : List (List AV)} {h h' : List AObj} : setBH (S d' n l bx h) bx' h' = S d' n l bx' h' := rfl
theorem new_f {cs : List AV} {bx : List (List AV)} {h : List AObj} {K : AV → List (List AV) → List AObj → Prop} : newK false cs bx h K = (cs.all AV.one = true ∧ K (.lptr bx.length 0) (bx ++ [cs.map AV.un]) h) := by simp [newK]
theorem new_t {cs : List AV} {bx : List (List AV)} {h : List AObj} {K : AV → List (List AV) → List AObj → Prop} : newK true cs bx h K = (cs.all AV.one = true ∧ cs.all AV.nol = true ∧ K (.mptr h.length 0) bx (h ++ [.cells (cs.map AV.un) cs.length])) := by simp [newK]

end
end Go.Ab
end
section
/- Drawn regions apart, each looked through once and joined behind. -/
set_option linter.unusedSimpArgs false
set_option linter.unusedVariables false
namespace Go.Ab

/-- As compC, with drawn regions left to a rule of their own. -/
def compR (T : Tab) (ann : Ann) (pl : List (Nat × Plan)) : Code → List It
  | .skip => []
  | .label _ => []
  | .exit id => [.exit id]
  | .goto l => [.goto l]
  | .ret => [.ret]
  | .seq x y => compR T ann pl x ++ compR T ann pl y
  | .cond c x y => [.cond c (compR T ann pl x) (compR T ann pl y)]
  | .block id c => [.block id (compR T ann pl c)]
  | .region id ops draw => bif draw then [.rf (.region id ops true)] else compP T ann ops (planOf pl id ops.size false)
  | .loop c => [.loop (compR T ann pl c) c]
  | .rangeFunc g ps x y => [.rf (.rangeFunc g ps x y)]
  | _ => [.bad]

/-- The drawn regions of a code, in the order of the text. -/
def rgsOf : Code → List Code
  | .seq x y => rgsOf x ++ rgsOf y
  | .cond _ x y => rgsOf x ++ rgsOf y
  | .block _ c => rgsOf c
  | .loop c => rgsOf c
  | .rangeFunc _ _ x y => rgsOf x ++ rgsOf y
  | .region id ops true => [.region id ops true]
  | _ => []
def rg (c : Code) (k : Nat) : Code := (rgsOf c).getD k .skip

def enumL : Nat → List AV → List (Nat × AV)
  | _, [] => []
  | k, a :: r => (k, a) :: enumL (k + 1) r

section
variable {C : CX} {P : Program} {T : Tab} {ann : Ann} {ro : Option Nat} {Γ : G} {X : Ctx} {s : ASt} {a : Act} {w : World} {K : Exit → ASt → Prop} {d : AV} {n : Nat} {l : List (Nat × AV)} {bx : List (List AV)} {h : List AObj}

theorem runR_sound (hT : TabOK P T) {pl : List (Nat × Plan)} : ∀ (c : Code) (s : ASt) (K : Exit → ASt → Prop), runL C P T ann ro (compR T ann pl c) s K → AWp C P ro c s K := by
  intro c
  induction c with
  | skip => intro s K h; simp only [compR, runL_nil] at h; exact ⟨fun X hC Γ a w k => wpIn_skip ⟨s, Γ, X, h, k, Sub.refl X, hC⟩⟩
  | label l => intro s K h; simp only [compR, runL_nil] at h; exact ⟨fun X hC Γ a w k => wpIn_label ⟨s, Γ, X, h, k, Sub.refl X, hC⟩⟩
  | exit id => intro s K h; simp only [compR, runL_cons, runI, sq] at h; exact ⟨fun X hC Γ a w k => wpIn_exit ⟨s, Γ, X, h, k, Sub.refl X, hC⟩⟩
  | goto l => intro s K h; simp only [compR, runL_cons, runI, sq] at h; exact ⟨fun X hC Γ a w k => wpIn_goto ⟨s, Γ, X, h, k, Sub.refl X, hC⟩⟩
  | ret => intro s K h; simp only [compR, runL_cons, runI, sq] at h; exact ⟨fun X hC Γ a w k => wpIn_ret ⟨s, Γ, X, h, k, Sub.refl X, hC⟩⟩
  | seq x y ihx ihy =>
    intro s K h
    refine ⟨fun X hC Γ a w k => ?_⟩
    simp only [compR, runL_append] at h
    refine wpIn_seq (wpIn_mono ((ihx s _ h).run X hC Γ a w k) ?_)
    intro e a' w' hp
    obtain ⟨s', Γ', X', hK, k', hsub, hC'⟩ := hp
    cases e with
    | normal => exact wpIn_mono ((ihy s' K hK).run X' hC' Γ' a' w' k') (fun e a w hp => post_of hp hsub)
    | _ => exact ⟨s', Γ', X', hK, k', hsub, hC'⟩
  | cond c x y ihx ihy =>
    intro s K h
    refine ⟨fun X hC Γ a w k => ?_⟩
    simp only [compR, runL_cons, runI] at h
    have hK : ∀ e a w, Post C X (sq C P T ann ro [] K) e a w → Post C X K e a w := fun e a w ⟨s', Γ', X', q1, q2⟩ => by
      refine ⟨s', Γ', X', ?_, q2⟩
      cases e <;> simpa only [sq, runL_nil] using q1
    split at h
    · rename_i b hb
      have hv := ev_rel k.slots c
      rw [hb] at hv
      simp only [vrel] at hv
      have k' := told_rel k hb
      cases b with
      | true => exact wpIn_mono (wpIn_cond_true hv ((ihx _ _ (by simpa using h)).run X hC Γ a w k')) hK
      | false => exact wpIn_mono (wpIn_cond_false hv ((ihy _ _ (by simpa using h)).run X hC Γ a w k')) hK
    · exact h.elim
  | block id c ih =>
    intro s K h
    refine ⟨fun X hC Γ a w k => ?_⟩
    simp only [compR, runL_cons, runI] at h
    refine wpIn_block (wpIn_mono ((ih s _ h).run X hC Γ a w k) ?_)
    intro e a' w' ⟨s', Γ', X', hK, k', hsub, hC'⟩
    cases e with
    | exit i =>
      simp only [Exit.inBlock]
      simp only [sq, runL_nil] at hK
      by_cases e : i = id
      · rw [if_pos e] at hK ⊢; exact ⟨s', Γ', X', hK, k', hsub, hC'⟩
      · rw [if_neg e] at hK ⊢; exact ⟨s', Γ', X', hK, k', hsub, hC'⟩
    | normal => simp only [sq, runL_nil] at hK; exact ⟨s', Γ', X', hK, k', hsub, hC'⟩
    | _ => exact ⟨s', Γ', X', hK, k', hsub, hC'⟩
  | region id ops draw =>
    intro s K h
    refine ⟨fun X hC Γ a w k => ?_⟩
    simp only [compR] at h
    let Q : Exit → Act → World → Prop := fun e a w => e = .normal ∧ PostN C X (K .normal) a w
    have hQ : ∀ e a w, Q e a w → Post C X K e a w := fun e a w ⟨e', s, Γ, X', h⟩ => by subst e'; exact ⟨s, Γ, X', h⟩
    cases draw with
    | false =>
      simp only [cond_false, planOf, Bool.false_eq_true, if_false] at h
      refine wpIn_mono (Q := Q) (wpIn_region ?_) hQ
      rw [List.range_eq_range']
      exact runText_sound hT ops.size 0 h k hC (fun a w hp => ⟨rfl, hp⟩)
    | true =>
      simp only [cond_true, runL_cons, runI] at h
      have e : sq C P T ann ro [] K = K := by funext e s; cases e <;> simp only [sq, runL_nil]
      rw [e] at h
      exact h.run X hC Γ a w k
  | loop c =>
    intro s K h
    simp only [compR, runL_cons, runI] at h
    have e : sq C P T ann ro [] K = K := by funext e s; cases e <;> simp only [sq, runL_nil]
    rwa [e] at h
  | rangeFunc g ps x y =>
    intro s K h
    simp only [compR, runL_cons, runI] at h
    have e : sq C P T ann ro [] K = K := by funext e s; cases e <;> simp only [sq, runL_nil]
    rwa [e] at h
  | scope c => intro s K h; simp only [compR, runL_cons, runI] at h
  | refuse c => intro s K h; simp only [compR, runL_cons, runI] at h


theorem lk_enumL {d : AV} : ∀ {xs : List AV} {k t : Nat}, lk d (enumL k xs) t = if k ≤ t ∧ t < k + xs.length then xs.getD (t - k) d else d
  | [], k, t => by simp only [enumL, lk, List.length_nil]; rw [if_neg (by omega)]
  | a :: xs, k, t => by
    simp only [enumL, lk, List.length_cons]
    by_cases e : k = t
    · subst e
      rw [if_pos rfl, if_pos (by omega)]
      simp
    · rw [if_neg e, lk_enumL]
      by_cases h1 : k + 1 ≤ t ∧ t < k + 1 + xs.length
      · rw [if_pos h1, if_pos (by omega), show t - k = (t - (k + 1)) + 1 by omega]
        rfl
      · rw [if_neg h1, if_neg (by omega)]

theorem inits_enum {fn : Func} {args : List AV} (hl : args.length ≤ fn.ntmps) : inits fn args = ofL (.tup []) fn.ntmps (enumL 0 args) := by
  unfold inits ofL
  apply List.ext_getElem?
  intro i
  rw [List.getElem?_append, List.getElem?_map]
  by_cases h1 : i < args.length
  · rw [if_pos h1, List.getElem?_range (by omega)]
    simp only [Option.map_some, lk_enumL, Nat.zero_add, Nat.sub_zero, Nat.zero_le, h1, and_self, if_true]
    simp [List.getD, h1]
  · rw [if_neg h1, List.getElem?_replicate]
    by_cases h2 : i < fn.ntmps
    · rw [if_pos (by omega), List.getElem?_range h2]
      rw [Option.map_some, lk_enumL, if_neg (by omega)]
    · rw [if_neg (by omega), List.getElem?_eq_none (by simp; omega)]
      rfl

/-- A function's contract, drawn regions apart. -/
theorem ACall.of_runR (hT : TabOK P T) (ann : Ann) (pl : List (Nat × Plan)) {f : FuncId} {fn : Func} {c : Code} {body : List It} {n : Nat} (hf : P.funcs[f]? = some fn) (hb : fn.body = some c) (hnm : (fn.name == "runtime.NumGoroutine") = false)
    (hc : compR T ann pl c = body) (hn : fn.ntmps = n) {args : List AV} {hp : List AObj} {K : AV → List AObj → Prop} (hown : args.all (fun a => !a.owns) = true) (hl : args.length ≤ n)
    (hv : Run C P T ann none body (S (.tup []) n (enumL 0 args) [] hp) (bodyK T fn K)) : ACall C P f args hp K := by
  subst hn
  refine ACall.of_awp hT hf hb hnm hown (runR_sound (ann := ann) (pl := pl) hT c _ _ ?_)
  rw [hc, inits_enum hl]
  exact hv.h

theorem AWp.loopQ (hT : TabOK P T) (ann : Ann) (pl : List (Nat × Plan)) {c : Code} {body : List It} (hc : compR T ann pl c = body) {α : Type} (m : Nat) (ls : α → List (Nat × AV)) (bs : α → List (List AV)) (hs : α → List AObj) (φ : α → Prop) (μ : α → Nat)
    (g0 : α) (h0 : φ g0) (hkeys : ∀ g, (ls g).map (·.1) = (ls g0).map (·.1)) (e1 : allIn d l m (ls g0)) (e2 : bs g0 = bx.take m) (e3 : (bs g0).all (fun cs => AV.lb.lbs m cs) = true) (e4 : h = hs g0)
    (round : ∀ g, φ g → Run C P T ann ro body (S .undef n (ls g) (bs g) (hs g)) (nextR d n m ls bs hs φ μ g K)) : AWp C P ro (.loop c) (S d n l bx h) K := by
  subst e4
  refine AWp.loopA ((ls g0).map (·.1)) m (fun g => S .undef n (ls g) (bs g) (hs g)) φ μ g0 h0 ?_ (fun g hg => ?_)
  · exact Mask.ofL e1 e2 e3
  · refine AWp.mono (runR_sound (ann := ann) (pl := pl) hT c _ _ (hc ▸ (round g hg).h)) fun e s' h' => ?_
    cases e with
    | normal =>
      obtain ⟨g', h1, h2, d', l1, bx1, rfl, h3, h4, h5⟩ := h'
      refine ⟨g', h1, h2, ?_⟩
      rw [← hkeys g']
      exact Mask.ofL h3 h4 h5
    | _ => exact h'

/-- What is put beyond a list is put at slots of W. -/
inductive Sk (W : List Nat) (l : List (Nat × AV)) : List (Nat × AV) → Prop
  | refl : Sk W l l
  | cons {k : Nat} {v : AV} {l' : List (Nat × AV)} (h : W.contains k = true) (h' : Sk W l l') : Sk W l ((k, v) :: l')
theorem Sk.lk {W : List Nat} {l l' : List (Nat × AV)} (h : Sk W l l') {t : Nat} (ht : W.contains t = false) : lk d l' t = Ab.lk d l t := by
  induction h with
  | refl => rfl
  | cons h1 _ ih =>
    simp only [Ab.lk]
    rw [if_neg (by intro e; subst e; rw [h1] at ht; cases ht)]
    exact ih

/-- What a drawn region must lead to. -/
def joinK (d : AV) (n : Nat) (l : List (Nat × AV)) (W : List Nat) (F : List (Nat × AV) → List (List AV) → List AObj → Prop) (e : Exit) (s' : ASt) : Prop :=
  match e with
  | .normal => ∃ l' bx' h', s' = S d n l' bx' h' ∧ Sk W l l' ∧ F l' bx' h'
  | _ => False

theorem AWp.joinR (hT : TabOK P T) (hm : P.follows .mixedOrders = true) (ann : Ann) (pl : List (Nat × Plan)) {c : Code} {body : List It} (hok : okCode ann ro pl c = true) (hc : compC T ann pl c = body) (W : List Nat) (F : List (Nat × AV) → List (List AV) → List AObj → Prop)
    (h1 : Run C P T ann ro body (S d n l bx h) (joinK d n l W F)) (h2 : ∀ l' bx' h', (∀ t, W.contains t = false → lk d l' t = lk d l t) → F l' bx' h' → K .normal (S d n l' bx' h')) : AWp C P ro c (S d n l bx h) K := by
  refine AWp.mono (run_sound hT hm c _ _ hok (hc ▸ h1.h)) fun e s' h' => ?_
  cases e with
  | normal =>
    obtain ⟨l', bx', h', rfl, h3, h4⟩ := h'
    exact h2 l' bx' h' (fun t ht => h3.lk ht) h4
  | _ => exact h'.elim
/-- The same, each order on its own way. -/
theorem AWp.eachR (hT : TabOK P T) (hm : P.follows .mixedOrders = true) (ann : Ann) (pl : List (Nat × Plan)) {c : Code} {body : List It} (hok : okCode ann ro pl c = true) (hc : compC T ann pl c = body) {s : ASt}
    (h1 : Run C P T ann ro body s K) : AWp C P ro c s K := run_sound hT hm c _ _ hok (hc ▸ h1.h)
theorem join_n {W : List Nat} {F : List (Nat × AV) → List (List AV) → List AObj → Prop} {l' : List (Nat × AV)} (h1 : Sk W l l') (h2 : F l' bx h) : joinK d n l W F .normal (S d n l' bx h) := ⟨l', bx, h, rfl, h1, h2⟩

theorem run_alts {ps : List (List It)} {r : List It} : Run C P T ann ro (.alts ps :: r) s K = runA C P T ann ro ps s (sqR C P T ann ro r K) := by rw [Run_eq, runL_cons, sqR_eq]; simp only [runI]
theorem runA_nil {K : Exit → ASt → Prop} : runA C P T ann ro [] s K = True := by simp only [runA]
theorem runA_cons {p : List It} {ps : List (List It)} {K : Exit → ASt → Prop} : runA C P T ann ro (p :: ps) s K = (Run C P T ann ro p s K ∧ runA C P T ann ro ps s K) := by rw [Run_eq]; simp only [runA]
end
end Go.Ab
end
section
/- Drawn regions whose operations give what they give in whatever order: each operation is looked through on its own. -/
set_option linter.unusedSimpArgs false
set_option linter.unusedVariables false
namespace Go.Ab

def itOf (T : Tab) (ann : Ann) (ops : Array Oper) (o : Oper) : It := .o o.dst (comp T ann o) (match o.guard with | none => none | some (j, want) => some ((ops[j]?).bind (·.dst), want))
/-- What an operation's forerunners write. -/
def behind (ops : Array Oper) (o : Oper) : List Nat := o.after.toList.filterMap fun e => if Region.binds .any e then (ops[e.on]?).bind (·.dst) else none
def detItems (T : Tab) (ann : Ann) (ops : Array Oper) : List Oper → List (It × List Nat)
  | [] => []
  | o :: r => (itOf T ann ops o, behind ops o) :: detItems T ann ops r
def detW (ops : Array Oper) : List Nat := ops.toList.filterMap (·.dst)
def detChk : Nat → List Oper → Bool
  | _, [] => true
  | i, o :: r => (o.after.toList.all fun e => !Region.binds .any e || Nat.blt e.on i) && detChk (i + 1) r
def detC (T : Tab) (ann : Ann) : Code → Option (List Nat × List (It × List Nat))
  | .region _ ops true => if detChk 0 ops.toList then some (detW ops, detItems T ann ops ops.toList) else none
  | _ => none

def It.dst : It → Option Nat
  | .o d _ _ => d
  | _ => none

section
variable {C : CX} {P : Program} {T : Tab} {ann : Ann} {ro : Option Nat} {Γ : G} {X : Ctx} {s : ASt} {a : Act} {w : World} {K : Exit → ASt → Prop} {d : AV} {n : Nat} {l l' : List (Nat × AV)} {bx : List (List AV)} {h : List AObj}

/-- What one operation must lead to: its value is the one that is known. -/
def stepR (d : AV) (n : Nat) (bx : List (List AV)) (h : List AObj) (t : Option Nat) (l : List (Nat × AV)) (v : AV) (e : Exit) (s' : ASt) : Prop :=
  match e with
  | .normal => ∃ l2, s' = S d n l2 bx h ∧ ∀ u, lk d l2 u = if t = some u then v else lk d l u
  | _ => False
def vAt (d : AV) (l : List (Nat × AV)) : Option Nat → AV
  | some t => lk d l t
  | none => .undef
def Stab (C : CX) (P : Program) (T : Tab) (ann : Ann) (ro : Option Nat) (d : AV) (n : Nat) (bx : List (List AV)) (h : List AObj) (W : List Nat) (l' : List (Nat × AV)) : List (It × List Nat) → Prop
  | [] => True
  | (it, D) :: r => (∀ l, (∀ t, (!W.contains t || D.contains t) = true → lk d l t = lk d l' t) → Run C P T ann ro [it] (S d n l bx h) (stepR d n bx h it.dst l (vAt d l' it.dst))) ∧ Stab C P T ann ro d n bx h W l' r
theorem step_1 {t : Nat} {v w : AV} (h1 : w = v) : stepR d n bx h (some t) l w .normal (S d n ((t, v) :: l) bx h) := ⟨_, rfl, fun u => by
  subst h1
  simp only [lk, Option.some.injEq]⟩
theorem step_2 {t g : Nat} {v w b : AV} (h1 : w = v) (h2 : lk d l g = b) : stepR d n bx h (some t) l w .normal (S d n ((t, v) :: (g, b) :: l) bx h) := ⟨_, rfl, fun u => by
  subst h1
  simp only [lk, Option.some.injEq]
  by_cases e : t = u
  · subst e; simp
  · by_cases e2 : g = u
    · subst e2; simp [e, h2]
    · simp [e, e2]⟩

theorem S_ext (hl : ∀ t, lk d l t = lk d l' t) : S d n l bx h = S d n l' bx h := by
  simp only [S, ofL]
  congr 1
  exact List.map_congr_left fun t _ => hl t

theorem stab_get {ops : Array Oper} {W : List Nat} : ∀ {os : List Oper} {i : Nat} {o : Oper}, Stab C P T ann ro d n bx h W l' (detItems T ann ops os) → os[i]? = some o →
    ∀ l, (∀ t, (!W.contains t || (behind ops o).contains t) = true → lk d l t = lk d l' t) → Run C P T ann ro [itOf T ann ops o] (S d n l bx h) (stepR d n bx h o.dst l (vAt d l' o.dst))
  | [], i, o, _, hi => by simp at hi
  | x :: os, 0, o, hs, hi => by simp at hi; subst hi; simp only [detItems, Stab] at hs; exact hs.1
  | x :: os, i + 1, o, hs, hi => by simp only [detItems, Stab] at hs; exact stab_get hs.2 (by simpa using hi)
theorem chk_get : ∀ {os : List Oper} {k i : Nat} {o : Oper}, detChk k os = true → os[i]? = some o → ∀ e ∈ o.after, Region.binds .any e = true → e.on < k + i
  | [], k, i, o, _, hi => by simp at hi
  | x :: os, k, 0, o, hc, hi => fun e he hb => by
    simp at hi; subst hi
    simp only [detChk, Bool.and_eq_true, List.all_eq_true, Bool.or_eq_true, Bool.not_eq_true'] at hc
    rcases hc.1 e (by simpa using he) with h1 | h1
    · rw [hb] at h1; cases h1
    · rw [Nat.blt_eq] at h1; omega
  | x :: os, k, i + 1, o, hc, hi => fun e he hb => by
    simp only [detChk, Bool.and_eq_true] at hc
    have := chk_get hc.2 (by simpa using hi) e he hb
    omega

theorem countP_less {p q : Nat → Bool} : ∀ {l : List Nat} {i : Nat}, i ∈ l → (∀ j, q j = true → p j = true) → q i = false → p i = true → l.countP q < l.countP p
  | [], i, hi, _, _, _ => by simp at hi
  | x :: l, i, hi, h, hq, hp => by
    rw [List.countP_cons, List.countP_cons]
    have hm : l.countP q ≤ l.countP p := List.countP_mono_left fun j _ hj => h j hj
    rcases List.mem_cons.1 hi with e | e
    · subst e
      rw [hq, hp]
      simp; omega
    · have := countP_less e h hq hp
      by_cases hx : q x = true
      · rw [hx, h x hx]; simp; omega
      · simp only [hx, Bool.false_eq_true, if_false]
        split <;> omega

/-- What is known of the slots when some operations are done. -/
def Done (d : AV) (ops : Array Oper) (l' : List (Nat × AV)) (listed : Array Bool) (l : List (Nat × AV)) : Prop :=
  (∀ t, (detW ops).contains t = false → lk d l t = lk d l' t) ∧ ∀ i o t, listed.getD i false = true → ops[i]? = some o → o.dst = some t → lk d l t = lk d l' t

theorem regD_sound (hT : TabOK P T) {ops : Array Oper} {Q : Exit → Act → World → Prop} {K : ASt → Prop} (hc : detChk 0 ops.toList = true) (hs : Stab C P T ann ro d n bx h (detW ops) l' (detItems T ann ops ops.toList)) (hK : K (S d n l' bx h)) :
    ∀ (fuel : Nat) (listed : Array Bool) {Γ : G} {X : Ctx} {l : List (Nat × AV)} {a : Act} {w : World}, listed.size = ops.size → (List.range ops.size).countP (fun i => !listed.getD i true) ≤ fuel → Done d ops l' listed l → Rel X Γ (S d n l bx h) a w → C.ok X →
    (∀ a w, PostN C X K a w → Q .normal a w) → wpAnyIn (Fc ro) 0 P .any ops Q fuel listed a w := by
  intro fuel
  induction fuel with
  | zero =>
    intro listed Γ X l a w hsz hcnt hd k hC hQ
    have hall : ∀ i, i < ops.size → listed.getD i true = true := fun i hi => by
      have : (List.range ops.size).countP (fun i => !listed.getD i true) = 0 := by omega
      rw [List.countP_eq_zero] at this
      simpa using this i (by simpa using hi)
    have hr : Region.ready .any ops listed = [] := by
      rw [List.eq_nil_iff_forall_not_mem]
      intro i hi
      obtain ⟨h1, o, ho, _⟩ := mem_ready.1 hi
      have := hall i (Array.getElem?_eq_some_iff.1 ho).1
      rw [this] at h1; cases h1
    refine wpAnyIn_done hr (hQ a w ⟨S d n l' bx h, Γ, X, hK, ?_, Sub.refl X, hC⟩) 0
    rw [← S_ext (l := l)]
    · exact k
    · intro t
      cases hw : (detW ops).contains t with
      | false => exact hd.1 t hw
      | true =>
        simp only [detW, List.contains_iff_mem, List.mem_filterMap] at hw
        obtain ⟨o, ho, ht⟩ := hw
        obtain ⟨i, hi⟩ := List.mem_iff_getElem?.1 ho
        have hi' : ops[i]? = some o := by simpa using hi
        have hlt := (Array.getElem?_eq_some_iff.1 hi').1
        refine hd.2 i o t ?_ hi' ht
        have := hall i hlt
        simp only [Array.getD, hsz, hlt, dif_pos] at this ⊢
        exact this
  | succ fuel ih =>
    intro listed Γ X l a w hsz hcnt hd k hC hQ
    by_cases hr : Region.ready .any ops listed = []
    · have hall : ∀ i, i < ops.size → listed.getD i true = true := by
        intro i
        induction i using Nat.strongRecOn with
        | ind i ihi =>
          intro hi
          cases hl : listed.getD i true with
          | true => rfl
          | false =>
            exfalso
            have : i ∈ Region.ready .any ops listed := mem_ready.2 ⟨hl, ops[i], Array.getElem?_eq_getElem hi, fun e he hb => by
              have h1 := chk_get hc (i := i) (o := ops[i]) (by simp [hi]) e he hb
              have h2 := ihi e.on (by omega) (by omega)
              simp only [Array.getD, hsz, show e.on < ops.size by omega, dif_pos] at h2 ⊢
              exact h2⟩
            rw [hr] at this
            cases this
      have hcnt0 : (List.range ops.size).countP (fun i => !listed.getD i true) ≤ 0 := by
        rw [Nat.le_zero, List.countP_eq_zero]
        intro i hi
        simp only [List.mem_range] at hi
        rw [hall i hi]
        decide
      refine wpAnyIn_done hr ?_ (fuel + 1)
      refine hQ a w ⟨S d n l' bx h, Γ, X, hK, ?_, Sub.refl X, hC⟩
      rw [← S_ext (l := l)]
      · exact k
      · intro t
        cases hw : (detW ops).contains t with
        | false => exact hd.1 t hw
        | true =>
          simp only [detW, List.contains_iff_mem, List.mem_filterMap] at hw
          obtain ⟨o, ho, ht⟩ := hw
          obtain ⟨i, hi⟩ := List.mem_iff_getElem?.1 ho
          have hi' : ops[i]? = some o := by simpa using hi
          have hlt := (Array.getElem?_eq_some_iff.1 hi').1
          refine hd.2 i o t ?_ hi' ht
          have := hall i hlt
          simp only [Array.getD, hsz, hlt, dif_pos] at this ⊢
          exact this
    · refine wpAnyIn_all rfl hr fun i hi => ?_
      obtain ⟨h1, o, ho, hall⟩ := mem_ready.1 hi
      have hlt := (Array.getElem?_eq_some_iff.1 ho).1
      have hag : ∀ t, (!(detW ops).contains t || (behind ops o).contains t) = true → lk d l t = lk d l' t := fun t ht => by
        rw [Bool.or_eq_true, Bool.not_eq_true'] at ht
        rcases ht with ht | ht
        · exact hd.1 t ht
        · simp only [behind, List.contains_iff_mem, List.mem_filterMap] at ht
          obtain ⟨e, he, h2⟩ := ht
          split at h2
          · rename_i hb
            cases ho2 : ops[e.on]? with
            | none => rw [ho2] at h2; cases h2
            | some o2 =>
              rw [ho2] at h2
              exact hd.2 e.on o2 t (hall e (by simpa using he) hb) ho2 h2
          · cases h2
      have hst := stab_get hs (i := i) (o := o) (by simpa using ho) l hag
      rw [Run_eq, itOf, runL_cons] at hst
      simp only [runI, sq_nil] at hst
      refine wpOpIn_mono ?_ (step_sound hT k hC ho (item_sound hst))
      intro a' w' ⟨s', Γ', X', hK', k', hsub, hC'⟩
      obtain ⟨l2, rfl, hl2⟩ := hK'
      refine ih (listed.setIfInBounds i true) (by simpa using hsz) ?_ ?_ k' hC' (fun a w hp => hQ a w (hp.up hsub))
      · have hlt' : i < listed.size := by omega
        have key : ∀ j, ((!(listed.setIfInBounds i true).getD j true) = true) ↔ ((!listed.getD j true) = true ∧ j ≠ i) := fun j => by
          by_cases e : j = i
          · subst e; simp [Array.getD, hlt']
          · rw [getD_set_ne true (Ne.symm e)]; simp [e]
        have h2 : (List.range ops.size).countP (fun j => !(listed.setIfInBounds i true).getD j true) < (List.range ops.size).countP (fun j => !listed.getD j true) := by
          refine countP_less (i := i) (by simpa using hlt) (fun j hx => ((key j).1 hx).1) ?_ (by rw [h1]; rfl)
          cases hx : (!(listed.setIfInBounds i true).getD i true) with
          | false => rfl
          | true => exact absurd rfl ((key i).1 hx).2
        omega
      · constructor
        · intro t ht
          rw [hl2]
          have : ¬ o.dst = some t := fun e => by
            have : (detW ops).contains t = true := by
              simp only [detW, List.contains_iff_mem, List.mem_filterMap]
              exact ⟨o, by simpa using Array.mem_of_getElem? ho, e⟩
            rw [ht] at this; cases this
          rw [if_neg this]
          exact hd.1 t ht
        · intro j o2 t hj ho2 ht
          rw [hl2]
          split
          · rename_i hte
            rw [hte]
            rfl
          · rename_i hne
            by_cases e : j = i
            · subst e
              rw [ho] at ho2
              cases ho2
              exact absurd ht hne
            · rw [getD_set_ne false (Ne.symm e)] at hj
              exact hd.2 j o2 t hj ho2 ht

theorem AWp.regD (hT : TabOK P T) (hm : P.follows .mixedOrders = true) {c : Code} {W : List Nat} {ps : List (It × List Nat)} (hc : detC T ann c = some (W, ps))
    (h1 : ∃ l', Sk W l l' ∧ Stab C P T ann ro d n bx h W l' ps ∧ K .normal (S d n l' bx h)) : AWp C P ro c (S d n l bx h) K := by
  unfold detC at hc
  split at hc
  · rename_i id ops
    split at hc
    · rename_i hchk
      simp only [Option.some.injEq, Prod.mk.injEq] at hc
      obtain ⟨rfl, rfl⟩ := hc
      obtain ⟨l', hsk, hst, hK⟩ := h1
      refine ⟨fun X hC Γ a w k => ?_⟩
      let Q : Exit → Act → World → Prop := fun e a w => e = .normal ∧ PostN C X (K .normal) a w
      have hQ : ∀ e a w, Q e a w → Post C X K e a w := fun e a w ⟨e', s, Γ, X', h⟩ => by subst e'; exact ⟨s, Γ, X', h⟩
      refine wpIn_mono (Q := Q) (wpIn_region_any hm ?_) hQ
      refine regD_sound hT hchk hst hK _ _ (by simp) ?_ ⟨fun t ht => (hsk.lk ht).symm, fun i o t hi => ?_⟩ ⟨k.inv.same rfl rfl rfl rfl, k.slots, k.defers⟩ hC (fun a w hp => ⟨rfl, hp⟩)
      · exact Nat.le_trans List.countP_le_length (by simp)
      · have : (Array.replicate ops.size false).getD i false = false := by simp [Array.getD]
        rw [this] at hi
        cases hi
    · cases hc
  · cases hc
/-- The same: the values are found by a run in the order of the text. -/
theorem AWp.regT (hT : TabOK P T) (hm : P.follows .mixedOrders = true) {c : Code} {W : List Nat} {ps : List (It × List Nat)} (hc : detC T ann c = some (W, ps)) (l' : List (Nat × AV)) (h1 : Sk W l l') (h2 : Stab C P T ann ro d n bx h W l' ps) (h3 : K .normal (S d n l' bx h)) : AWp C P ro c (S d n l bx h) K := AWp.regD hT hm hc ⟨l', h1, h2, h3⟩
end
end Go.Ab
end
section
/- A range over a function. -/
set_option linter.unusedSimpArgs false
set_option linter.unusedVariables false
namespace Go.Ab

/-- What is known of the slots that a loop's rounds begin with. -/
def SlotsW (Γ : G) (sl : List AV) (tmps : Array Value) : Prop := tmps.size = sl.length ∧ ∀ (t : Nat) (a : AV), sl[t]? = some a → ∃ v, tmps[t]? = some v ∧ vrel Γ a v
theorem SlotsW.mono {Γ Γ' : G} {sl : List AV} {tmps : Array Value} (e : Ext Γ Γ') (h : SlotsW Γ sl tmps) : SlotsW Γ' sl tmps := ⟨h.1, fun t a ht => let ⟨v, h1, h2⟩ := h.2 t a ht; ⟨v, h1, vrel_mono e _ _ h2⟩⟩
def LoopIs (X : Ctx) (lid : Nat) (sl : List AV) (ps : Array Tmp) (assign body : Code) : Prop :=
  ∃ b s r, X.Γ0.I lid = some (b, s) ∧ X.R b = some r ∧ r.params = ps ∧ r.assign = assign ∧ r.body = body ∧ SlotsW X.Γ0.noL sl r.tmps
theorem Ext.noL_of {Γ Γ' : G} (e : Ext Γ.noL Γ') : Ext Γ.noL Γ'.noL := ⟨e.F, e.I, fun _ _ x => by simp [G.noL] at x⟩
/-- Worlds in which a loop is under way. -/
def CX.loop (C : CX) (lid : Nat) (sl : List AV) (ps : Array Tmp) (assign body : Code) : CX :=
  ⟨fun X => C.ok X ∧ LoopIs X lid sl ps assign body, fun X X' h u => ⟨C.up _ _ h.1 u, by
    obtain ⟨b, s, r, h1, h2, h3, h4, h5, h6⟩ := h.2
    exact ⟨b, s, r, u.E.I _ _ h1, u.R _ _ h2, h3, h4, h5, h6.mono (Ext.noL_of u.E)⟩⟩, fun X h => C.rok X h.1⟩

def setPs : List AV → List Nat → List AV → List AV
  | sl, t :: ts, a :: as_ => setPs (sl.set t a) ts as_
  | sl, _, _ => sl

section
variable {C : CX} {P : Program} {T : Tab} {ann : Ann} {ro : Option Nat} {Γ : G} {X : Ctx} {s : ASt} {a : Act} {w : World} {bx : List (List AV)} {h : List AObj}

theorem setPs_rel {Γ : G} : ∀ {sl : List AV} {ts : List Nat} {xs : List AV} {tmps : Array Value} {vs : List Value}, SlotsW Γ sl tmps → lrel Γ xs vs → ts.length = vs.length →
    SlotsW Γ (setPs sl ts xs) ((ts.zip vs).foldl (fun tmps p => tmps.setIfInBounds p.1 p.2) tmps)
  | sl, [], xs, tmps, vs, h, _, _ => by cases xs <;> simpa [setPs] using h
  | sl, t :: ts, [], tmps, vs, h, hl, hn => by simp only [lrel] at hl; subst hl; simp at hn
  | sl, t :: ts, x :: xs, tmps, vs, h, hl, hn => by
    simp only [lrel] at hl
    obtain ⟨v, vs', rfl, h1, h2⟩ := hl
    simp only [setPs, List.zip_cons_cons, List.foldl_cons]
    refine setPs_rel ⟨by simpa using h.1, fun u b hu => ?_⟩ h2 (by simpa using hn)
    rw [List.getElem?_set] at hu
    split at hu
    · rename_i e
      subst e
      split at hu
      · rename_i hlt
        simp only [Option.some.injEq] at hu
        subst hu
        exact ⟨v, by rw [Array.getElem?_setIfInBounds_self_of_lt (by rw [h.1]; exact hlt)], h1⟩
      · cases hu
    · rename_i e
      rw [Array.getElem?_setIfInBounds_ne e]
      exact h.2 u b hu

/-- While a round runs the loop's record is shut away. -/
def G.hid (Γ : G) (b : Nat) : G := { Γ with O := fun k => if k = b then none else Γ.O k }
def Ctx.hid (X : Ctx) (Γ : G) (w : World) (b : Nat) : Ctx := { w0 := w, N := fun k => X.N k ∨ k = b, Γ0 := Γ.hid b, R := X.R, marks := X.marks }
theorem Ext.hid (Γ : G) (b : Nat) : Ext Γ (Γ.hid b) := ⟨fun _ _ _ x => x, fun _ _ x => x, fun _ _ x => x⟩
theorem Ext.hid' (Γ : G) (b : Nat) : Ext (Γ.hid b) Γ := ⟨fun _ _ _ x => x, fun _ _ x => x, fun _ _ x => x⟩

theorem ownOK_hid {Γ : G} {b id : Nat} (hO : Γ.O b = some (.obj id)) {p : Pos} {x : AV} {v : Value} (h : ownOK Γ p x v) : ownOK (Γ.hid b) p x v := by
  unfold ownOK at h ⊢
  split at h
  · obtain ⟨b1, o1, cap, s1, e1, e2, e3⟩ := h
    refine ⟨b1, o1, cap, s1, e1, ?_, e3⟩
    simp only [G.hid]
    rw [if_neg (fun e => by subst e; rw [hO] at e2; cases e2)]
    exact e2
  · trivial

theorem Inv.hide (k : Inv X Γ bx h w) {lid b s : Nat} (hI : Γ.I lid = some (b, s)) (hh : h[lid]? = some (.loop none)) (o : Obj) :
    Γ.O b = some (.obj lid) ∧ b < w.heap.size ∧ (∃ r, X.R b = some r ∧ w.heap[b]? = some (.loop { r with state := .ready, pending := none })) ∧
    Inv (X.hid Γ (w.putObj b o) b) (Γ.hid b) bx (h.set lid .dead) (w.putObj b o) := by
  have hO := k.Ilive lid b s hI (by simp [live, hh, AObj.live])
  have hlt := k.Olt b _ hO
  have hb := k.O b
  unfold BlockOK at hb
  rw [hO] at hb
  obtain ⟨s1, o1, e1, e2, e3⟩ := hb
  rw [hh] at e2
  simp only [Option.some.injEq] at e2
  subst e2
  have hFb : ∀ o v, Γ.F b o = some v → False := fun o v hv => by
    have := (k.F b o v hv).1
    obtain ⟨r, _, hr⟩ := e3
    simp [World.cell?, hr] at this
  obtain ⟨r, hr1, hr2⟩ := e3
  have hsz : (w.putObj b o).heap.size = w.heap.size := by simp [World.putObj]
  have hoth : ∀ k, k ≠ b → (w.putObj b o).heap[k]? = w.heap[k]? := fun k hk => World.putObj_heap_other hk
  refine ⟨hO, hlt, ⟨r, hr1, by simpa using hr2⟩, ⟨fun b1 o1 v hv => ?_, fun b1 => ?_, fun b1 o1 ho => ?_, fun id p hp => by simpa using k.Ilt id p hp, fun id b1 s1 hI1 hl => ?_, fun i b1 hL => ?_, fun b1 hb1 => ?_, Ext.of_noL _, rfl, rfl, rfl, Nat.le_refl _⟩⟩
  · have := k.F b1 o1 v hv
    have hne : b1 ≠ b := fun e => by subst e; exact hFb _ _ hv
    exact ⟨by rw [← this.1]; simp only [World.cell?, hoth b1 hne], this.2⟩
  · unfold BlockOK
    by_cases e : b1 = b
    · subst e
      simp [G.hid]
    · have hk := k.O b1
      unfold BlockOK at hk
      simp only [G.hid, if_neg e]
      cases ho : Γ.O b1 with
      | none => trivial
      | some o2 =>
        rw [ho] at hk
        cases o2 with
        | obj id =>
          obtain ⟨s2, o3, h1, h2, h3⟩ := hk
          have hne : lid ≠ id := fun e' => by subst e'; rw [hI] at h1; simp at h1; exact e h1.1.symm
          refine ⟨s2, o3, h1, by rw [List.getElem?_set_ne hne]; exact h2, ?_⟩
          cases o3 with
          | cells cs n => exact ⟨h3.1, h3.2.1.mono (hoth b1 e) (fun j a v _ x => vrel_mono (Ext.hid Γ b).noL _ _ x), h3.2.2⟩
          | map es => exact ⟨h3.1.mono (hoth b1 e) (Ext.hid Γ b).noL, h3.2⟩
          | loop j => obtain ⟨r, h4, h5⟩ := h3; exact ⟨r, h4, (hoth b1 e).trans h5⟩
          | dead => trivial
        | box i =>
          obtain ⟨h1, cs, h2, h3, h4⟩ := hk
          exact ⟨h1, cs, h2, h3.mono (hoth b1 e) (fun j a v _ x => ⟨vrel_mono (Ext.hid Γ b) _ _ x.1, ownOK_hid hO x.2⟩), h4⟩
        | spare p tip s =>
          obtain ⟨c, e', h1, h2, h3⟩ := hk
          exact ⟨c, e', (hoth b1 e).trans h1, h2, h3⟩
        | mark => exact (hoth b1 e).trans hk
  · simp only [G.hid] at ho
    split at ho
    · cases ho
    · rw [hsz]; exact k.Olt b1 o1 ho
  · have hne : lid ≠ id := fun e' => by
      subst e'
      have hlt' := (List.getElem?_eq_some_iff.1 hh).1
      simp [live, hlt', AObj.live] at hl
    have hl' : live h id = true := by
      unfold live at hl ⊢
      rw [List.getElem?_set_ne hne] at hl
      exact hl
    have := k.Ilive id b1 s1 hI1 hl'
    simp only [G.hid]
    rw [if_neg (fun e => by subst e; rw [hO] at this; simp at this; exact hne this)]
    exact this
  · have := k.L i b1 hL
    refine ⟨this.1, ?_⟩
    simp only [G.hid]
    rw [if_neg (fun e => by subst e; rw [hO] at this; simp at this)]
    exact this.2
  · rcases hb1 with h1 | h1
    · have := k.N b1 h1
      refine ⟨by show b1 < (w.putObj b o).heap.size; rw [hsz]; exact Nat.lt_of_lt_of_le this.1 k.size, ?_, rfl, fun _ => rfl⟩
      simp only [G.hid]
      split
      · rfl
      · exact this.2.1
    · subst h1
      exact ⟨by show b1 < (w.putObj b1 o).heap.size; rw [hsz]; exact hlt, by simp [G.hid], rfl, fun _ => rfl⟩

def G.shown (Γ : G) (b lid : Nat) : G := { Γ with O := fun k => if k = b then some (.obj lid) else Γ.O k }
theorem Inv.show (k : Inv X Γ bx h w) {lid b s : Nat} (hI : Γ.I lid = some (b, s)) {o : Obj} {Γ2 : G} {h2 : List AObj} {w2 : World} (k2 : Inv (X.hid Γ (w.putObj b o) b) Γ2 [] h2 w2) (hO : Γ.O b = some (.obj lid)) (hh : h2[lid]? = some .dead) (hlt : b < w.heap.size)
    {r : Loop} (hr : X.R b = some r) (j : Option Code) (hF : ∀ o, Γ.F b o = none) :
    Inv X (Γ2.shown b lid) [] (h2.set lid (.loop j)) (w2.putObj b (.loop { r with state := (if j.isNone then .ready else .done), pending := j })) := by
  have hNb := k2.N b (.inr rfl)
  have hlt2 : b < w2.heap.size := Nat.lt_of_lt_of_le (by simpa [Ctx.hid, World.putObj] using hlt) k2.size
  have hI2 : Γ2.I lid = some (b, s) := k2.E.I _ _ hI
  have hll := (List.getElem?_eq_some_iff.1 hh).1
  have hoth : ∀ k, k ≠ b → (w2.putObj b (.loop { r with state := (if j.isNone then .ready else .done), pending := j })).heap[k]? = w2.heap[k]? := fun k hk => World.putObj_heap_other hk
  have hF2 : ∀ o, Γ2.F b o = none := fun o => (hNb.2.2.2 o).trans (hF o)
  have hE : Ext Γ2 (Γ2.shown b lid) := ⟨fun _ _ _ x => x, fun _ _ x => x, fun _ _ x => x⟩
  refine ⟨fun b1 o1 v hv => ?_, fun b1 => ?_, fun b1 o1 ho => ?_, fun id p hp => by simpa using k2.Ilt id p hp, fun id b1 s1 hI1 hl => ?_, fun i b1 hL => absurd (k2.L i b1 hL).1 (by simp), fun b1 hb1 => ?_, ?_, ?_, ?_, ?_, ?_⟩
  · have := k2.F b1 o1 v hv
    have hne : b1 ≠ b := fun e => by subst e; rw [show (Γ2.shown b1 lid).F b1 o1 = Γ2.F b1 o1 from rfl, hF2] at hv; cases hv
    exact ⟨by rw [← this.1]; simp only [World.cell?, hoth b1 hne], this.2⟩
  · unfold BlockOK
    by_cases e : b1 = b
    · subst e
      simp only [G.shown, if_true]
      exact ⟨s, .loop j, hI2, by simp [hll], ⟨r, hr, World.putObj_heap_same hlt2⟩⟩
    · have hk := k2.O b1
      unfold BlockOK at hk
      simp only [G.shown, if_neg e]
      cases ho : Γ2.O b1 with
      | none => trivial
      | some o2 =>
        rw [ho] at hk
        cases o2 with
        | obj id =>
          obtain ⟨s2, o3, h1, h2', h3⟩ := hk
          have hne : lid ≠ id := fun e' => by subst e'; rw [hI2] at h1; simp at h1; exact e h1.1.symm
          refine ⟨s2, o3, h1, by rw [List.getElem?_set_ne hne]; exact h2', ?_⟩
          cases o3 with
          | cells cs n => exact ⟨h3.1, h3.2.1.mono (hoth b1 e) (fun j a v _ x => vrel_mono hE.noL _ _ x), h3.2.2⟩
          | map es => exact ⟨h3.1.mono (hoth b1 e) hE.noL, h3.2⟩
          | loop j => obtain ⟨r, h4, h5⟩ := h3; exact ⟨r, h4, (hoth b1 e).trans h5⟩
          | dead => trivial
        | box i => exact absurd (k2.L i b1 hk.1).1 (by simp)
        | spare p tip s =>
          obtain ⟨c, e', h1, h2', h3⟩ := hk
          exact ⟨c, e', (hoth b1 e).trans h1, h2', h3⟩
        | mark => exact (hoth b1 e).trans hk
  · simp only [G.shown] at ho
    have hsz : (w2.putObj b (.loop { r with state := (if j.isNone then .ready else .done), pending := j })).heap.size = w2.heap.size := by simp [World.putObj]
    rw [hsz]
    split at ho
    · rename_i e; subst e; exact hlt2
    · exact k2.Olt b1 o1 ho
  · by_cases e : lid = id
    · subst e
      rw [show (Γ2.shown b lid).I lid = Γ2.I lid from rfl, hI2] at hI1
      simp only [Option.some.injEq, Prod.mk.injEq] at hI1
      simp [G.shown, hI1.1]
    · have hl' : live h2 id = true := by
        unfold live at hl ⊢
        rw [List.getElem?_set_ne e] at hl
        exact hl
      have := k2.Ilive id b1 s1 hI1 hl'
      simp only [G.shown]
      rw [if_neg (fun e2 => by subst e2; rw [hNb.2.1] at this; cases this)]
      exact this
  · have h1 := k.N b1 hb1
    have h2' := k2.N b1 (.inl hb1)
    have hne : b1 ≠ b := fun e => by subst e; rw [hO] at h1; simp at h1
    refine ⟨h1.1, by simp only [G.shown, if_neg hne]; exact h2'.2.1, ?_, fun o => (h2'.2.2.2 o).trans (h1.2.2.2 o)⟩
    rw [hoth b1 hne]
    exact h2'.2.2.1.trans ((World.putObj_heap_other hne).trans h1.2.2.1)
  · have e1 := k.E
    have e2 := k2.E
    exact ⟨fun b o v x => e2.F _ _ _ (e1.F _ _ _ x), fun i p x => e2.I _ _ (e1.I _ _ x), fun i b x => by simp [G.noL] at x⟩
  · exact k2.os.trans k.os
  · exact k2.tape.trans k.tape
  · exact k2.output.trans k.output
  · exact Nat.le_trans k.size (Nat.le_trans (by simp [Ctx.hid, World.putObj]) (Nat.le_trans k2.size (by simp [World.putObj])))

/-- How a round ends: what it hands back, and how it leaves the loop. -/
def roundK (lid : Nat) (K : AV → List AObj → Prop) (e : Exit) (s : ASt) : Prop :=
  match e with
  | .normal => s.h[lid]? = some .dead ∧ K (.bool true) (s.h.set lid (.loop none))
  | .ret => s.h[lid]? = some .dead ∧ K (.bool false) (s.h.set lid (.loop (some .ret)))
  | .exit id => s.h[lid]? = some .dead ∧ K (.bool false) (s.h.set lid (.loop (some (.exit id))))
  | _ => False

theorem AYield.of_round {lid : Nat} {sl : List AV} {ps : Array Tmp} {assign body : Code} {xs : List AV} {s1 : ASt} {K : AV → List AObj → Prop} (hps : ps.size = xs.length) (hh : h[lid]? = some (.loop none)) (hown : (setPs sl ps.toList xs).all (fun x => !x.owns) = true)
    (ha : ∀ ro, AWp (C.loop lid sl ps assign body) P ro assign ⟨setPs sl ps.toList xs, [], h⟩ fun e s' => e = .normal ∧ s' = ⟨s1.sl, [], h⟩)
    (hb : ∀ ro, AWp (C.loop lid sl ps assign body) P ro body ⟨s1.sl, [], h.set lid .dead⟩ (roundK lid K)) : AYield (C.loop lid sl ps assign body) P lid xs h K := by
  refine ⟨fun X hC Γ w vs k hl b s hI => ?_⟩
  obtain ⟨hC0, b0, s0, r, q1, q2, q3, q4, q5, q6⟩ := hC
  have hb0 := k.E.I _ _ q1
  rw [hI] at hb0
  simp only [Option.some.injEq, Prod.mk.injEq] at hb0
  obtain ⟨rfl, rfl⟩ := hb0
  have hhd := k.hide hI hh (.loop r)
  obtain ⟨hO, hlt, ⟨r', hr', hheap⟩, _⟩ := hhd
  rw [q2] at hr'
  simp only [Option.some.injEq] at hr'
  subst hr'
  have hsz : vs.size = r.params.size := by rw [q3, hps]; simpa using (lrel_length hl).symm
  refine ⟨b, r.fn, _, r.assign, r.body, run_yield (r := { r with state := .ready, pending := none }) hheap (by simpa using hsz), ?_⟩
  have hΓL : ∀ i b, Γ.L i = some b → False := fun i b x => absurd (k.L i b x).1 (by simp)
  have hΓ : Ext Γ Γ.noL := ⟨fun _ _ _ x => x, fun _ _ x => x, fun i b x => (hΓL i b x).elim⟩
  have hslots0 : SlotsW Γ sl r.tmps := q6.mono ⟨k.E.F, k.E.I, fun _ _ x => by simp [G.noL] at x⟩
  have hslots : SlotsW Γ (setPs sl ps.toList xs) ((r.params.zip vs).foldl (fun tmps (t, a) => tmps.setIfInBounds t a) r.tmps) := by
    have := setPs_rel (ts := ps.toList) hslots0 hl (by simpa [q3] using hsz.symm)
    rw [q3, ← Array.foldl_toList, Array.toList_zip]
    exact this
  obtain ⟨k0, hsub⟩ := k.start
  refine roundIn_of_wpIn (F := Fc none) trivial ?_
  have hCs : (C.loop lid sl ps assign body).ok (X.start Γ w) := (C.loop lid sl ps assign body).up _ _ ⟨hC0, b, s, r, q1, q2, q3, q4, q5, q6⟩ hsub.up
  have key := (ha (some b)).run (X.start Γ w) hCs Γ ⟨_, []⟩ w ⟨k0, ⟨hslots.1, fun t x ht => by
    obtain ⟨v, h1, h2⟩ := hslots.2 t x ht
    exact ⟨v, h1, h2, ownOK_of_not (by simpa using List.all_eq_true.1 hown x (List.mem_of_getElem? ht))⟩⟩, ⟨rfl, List.nodup_nil, fun r hr => by cases hr⟩⟩
  rw [q4, q5]
  refine wpIn_mono key ?_
  rintro e a1 w1 ⟨s', Γ1, X1, ⟨rfl, rfl⟩, k1, hsub1, hC1⟩
  simp only [Exit.then]
  have i1 : Γ1.I lid = some (b, s) := by
    have := (hsub1.inv _ _ _ _ k1.inv).E.I lid (b, s) hI
    exact this
  obtain ⟨hO1, hlt1, ⟨r1, hr1, hheap1⟩, _⟩ := k1.inv.hide i1 hh (.loop r)
  have khid := (k1.inv.hide i1 hh (.loop { r1 with state := .busy, pending := none })).2.2.2
  refine ⟨_, run_beginRound hheap1 rfl, ?_⟩
  have hup : Up X1 (X1.hid Γ1 (w1.putObj b (.loop { r1 with state := .busy, pending := none })) b) := ⟨fun _ _ x => x, fun _ _ x => .inl x, ⟨k1.inv.E.F, k1.inv.E.I, fun _ _ x => by simp [G.noL] at x⟩, Nat.le_trans k1.inv.size (by simp [Ctx.hid, World.putObj])⟩
  have hb1 := (hb (some b)).run _ ((C.loop lid sl ps assign body).up _ _ hC1 hup) (Γ1.hid b) a1 _ ⟨khid, ⟨k1.slots.size, fun t x ht => by
      obtain ⟨v, h1, h2, h3⟩ := k1.slots.get t x ht
      exact ⟨v, h1, vrel_mono (Ext.hid Γ1 b) _ _ h2, ownOK_hid hO1 h3⟩⟩, ⟨k1.defers.eq, k1.defers.nodup, fun m hm => by
      obtain ⟨d1, d2, d3⟩ := k1.defers.get m hm
      obtain ⟨n1, n2, n3, n4⟩ := k1.inv.N m d1
      have hne : m ≠ b := fun e => by subst e; rw [hO1] at n2; cases n2
      exact ⟨.inl d1, (World.putObj_heap_other hne).trans (n3.trans d2), fun o => (n4 o).trans (d3 o)⟩⟩⟩
  refine wpIn_mono hb1 ?_
  rintro e3 a3 w3 ⟨s3, Γ3, X3, hK3, k3, hsub3, hC3⟩
  have kk := cut0 (hsub3.inv _ _ _ _ k3.inv)
  have hFb : ∀ o, Γ1.F b o = none := fun o => by
    cases hv : Γ1.F b o with
    | none => rfl
    | some v => have := (k1.inv.F b o v hv).1; simp [World.cell?, hheap1] at this
  have hbusy : w3.heap[b]? = some (.loop { r1 with state := .busy, pending := none }) := by
    have := (kk.N b (.inr rfl)).2.2.1
    rw [this]
    exact World.putObj_heap_same hlt1
  have fin : ∀ (j : Option Code), s3.h[lid]? = some .dead → K (.bool j.isNone) (s3.h.set lid (.loop j)) → ∃ v w', (Instr.endRound b j).run P w3 = .ok v w' ∧ CallPost X Γ K v w' := fun j hd hK => by
    refine ⟨_, _, run_endRound j hbusy, .bool j.isNone, _, (Γ3.cut 0).shown b lid, hK, ?_, ?_, rfl, by simp [ownOK]⟩
    · have := k1.inv.show i1 kk hO1 hd hlt1 hr1 j hFb
      exact hsub.inv _ _ _ _ (hsub1.inv _ _ _ _ this)
    · have := (hsub1.inv _ _ _ _ (k1.inv.show i1 kk hO1 hd hlt1 hr1 j hFb)).E
      exact ⟨this.F, this.I, fun i b x => (hΓL i b x).elim⟩
  cases e3 with
  | normal => exact fin none hK3.1 hK3.2
  | ret => exact fin (some .ret) hK3.1 hK3.2
  | exit id => exact fin (some (.exit id)) hK3.1 hK3.2
  | goto l => exact hK3.elim
  | panic c => exact hK3.elim
  | outgrown => exact hK3.elim
/-- What a loop's rounds may read of the slots. -/
def roundV (x : AV) : AV := if x.nol then x.un else .undef
/-- What the function that is ranged over must leave behind. -/
def rangeK (s : ASt) (K : Exit → ASt → Prop) (_ : AV) (h : List AObj) : Prop :=
  ∃ j, h[s.h.length]? = some (.loop j) ∧ match j with
    | none => K .normal { s with h := h.set s.h.length .dead }
    | some .ret => K .ret { s with h := h.set s.h.length .dead }
    | some (.exit id) => K (.exit id) { s with h := h.set s.h.length .dead }
    | _ => False

theorem Inv.more (k : Inv X Γ bx h w) (o : Obj) : Inv X Γ bx h (w.alloc o) :=
  k.update (fun _ => False) (Ext.refl Γ) (fun b _ => by
      rcases Nat.lt_or_ge b w.heap.size with hl | hl
      · exact .inl (alloc_old _ (by omega))
      · exact .inr hl) (fun _ _ => rfl) (fun _ _ _ => rfl) (fun _ _ _ f => f.elim) (fun _ f => f.elim) (fun _ _ _ _ => rfl) (fun _ _ _ _ _ _ f => f.elim) (fun _ _ _ _ => rfl) (fun _ f => f.elim) (fun _ _ f => f.elim) k.Ilt k.Ilive k.L rfl rfl rfl (by simp)

/-- Where the rounds of a loop run. -/
def Ctx.ranged (X : Ctx) (Γ : G) (w1 : World) (m : Nat) (R : Nat → Option Loop) : Ctx := { w0 := w1, N := fun b => X.N b ∨ b = m, Γ0 := Γ, R := R, marks := m :: X.marks }
theorem Inv.reR (k : Inv X Γ bx h w) {R : Nat → Option Loop} (hR : ∀ id b s j, Γ.I id = some (b, s) → h[id]? = some (.loop j) → ∀ r, X.R b = some r → R b = some r) : Inv { X with R := R } Γ bx h w :=
  ⟨k.F, fun b => by
    have := k.O b
    unfold BlockOK at this ⊢
    cases ho : Γ.O b with
    | none => trivial
    | some o =>
      rw [ho] at this
      cases o with
      | obj id =>
        obtain ⟨s, o, h1, h2, h3⟩ := this
        refine ⟨s, o, h1, h2, ?_⟩
        cases o with
        | loop j => obtain ⟨r, h4, h5⟩ := h3; exact ⟨r, hR id b s j h1 h2 r h4, h5⟩
        | _ => exact h3
      | _ => exact this, k.Olt, k.Ilt, k.Ilive, k.L, k.N, k.E, k.os, k.tape, k.output, k.size⟩

theorem Inv.ranged (k : Inv X Γ bx h w) {R : Nat → Option Loop} (hR : ∀ b r, X.R b = some r → R b = some r) : Inv (X.ranged Γ (w.alloc (.deferred (some []))) w.heap.size R) Γ bx h (w.alloc (.deferred (some []))) := by
  have k1 := (k.more (.deferred (some []))).reR (R := R) (fun _ _ _ _ _ _ r x => hR _ _ x)
  refine ⟨k1.F, fun b => ?_, k1.Olt, k1.Ilt, k1.Ilive, k1.L, fun b hb => ?_, Ext.of_noL Γ, rfl, rfl, rfl, Nat.le_refl _⟩
  · have := k1.O b
    unfold BlockOK at this ⊢
    cases ho : Γ.O b with
    | none => trivial
    | some o =>
      rw [ho] at this
      cases o with
      | obj id =>
        obtain ⟨s, o, h1, h2, h3⟩ := this
        refine ⟨s, o, h1, h2, ?_⟩
        cases o <;> exact h3
      | _ => exact this
  · rcases hb with h1 | h1
    · have := k.N b h1
      exact ⟨by have := this.1; have := k.size; simp [Ctx.ranged]; omega, this.2.1, rfl, fun _ => rfl⟩
    · subst h1
      exact ⟨by simp [Ctx.ranged], k.freshO, rfl, fun _ => rfl⟩

theorem Inv.sub_ranged (k : Inv X Γ bx h w) : Sub X (X.ranged Γ (w.alloc (.deferred (some []))) w.heap.size X.R) := by
  have hsz : X.w0.heap.size ≤ (w.alloc (.deferred (some []))).heap.size := by have := k.size; simp; omega
  refine ⟨⟨fun _ _ x => x, fun _ _ x => .inl x, k.E, hsz⟩, fun Γ' bx' h' w' k' => ⟨k'.F, fun b => ?_, k'.Olt, k'.Ilt, k'.Ilive, k'.L, fun b hb => ?_, ?_, k'.os.trans k.os, k'.tape.trans k.tape, k'.output.trans k.output, Nat.le_trans hsz k'.size⟩, hsz, fun r hr => ?_⟩
  · have := k'.O b
    unfold BlockOK at this ⊢
    cases ho : Γ'.O b with
    | none => trivial
    | some o =>
      rw [ho] at this
      cases o with
      | obj id =>
        obtain ⟨s, o, h1, h2, h3⟩ := this
        refine ⟨s, o, h1, h2, ?_⟩
        cases o <;> exact h3
      | _ => exact this
  · have h1 := k.N b hb
    have h2 := k'.N b (.inl hb)
    have : b ≠ w.heap.size := by have := h1.1; have := k.size; omega
    exact ⟨h1.1, h2.2.1, h2.2.2.1.trans ((alloc_old _ this).trans h1.2.2.1), fun o => (h2.2.2.2 o).trans (h1.2.2.2 o)⟩
  · have e1 := k.E
    have e2 := k'.E
    exact ⟨fun b o v x => e2.F _ _ _ (e1.F _ _ _ x), fun i p x => e2.I _ _ (e1.I _ _ x), fun i b x => by simp [G.noL] at x⟩
  · rcases List.mem_cons.1 hr with e | e
    · subst e; exact .inr k.size
    · exact .inl e

theorem AWp.range {g : Operand} {gf : FuncId} {caps : List AV} {ps : Array Tmp} {assign body : Code} {fn : Func} {K : Exit → ASt → Prop} (hf : P.funcs[gf]? = some fn) (hbd : fn.body.isSome = true) (hnm : (fn.name == "runtime.NumGoroutine") = false) (hg : ev s g = .fn gf caps) (hn : AV.nol.nols caps = true)
    (hc : ACall (C.loop s.h.length (s.sl.map roundV) ps assign body) P gf (.yld s.h.length :: caps) (s.h ++ [.loop none]) (rangeK s K)) : AWp C P none (.rangeFunc g ps assign body) s K := by
  refine ⟨fun X hC Γ a w k => wpIn_rangeFunc fun f0 _ => ?_⟩
  have hgv := ev_rel k.slots g
  rw [hg] at hgv
  simp only [vrel] at hgv
  obtain ⟨vs, hgv, hcaps⟩ := hgv
  have hnm' : ¬ (fn.name = "runtime.NumGoroutine") := by simpa using hnm
  let l := w.heap.size + 1
  let r : Loop := { state := .ready, pending := none, fn := f0, tmps := a.tmps, params := ps, assign := assign, body := body, defers := w.heap.size }
  let w1 := w.alloc (.deferred (some []))
  let w2 := w1.alloc (.loop r)
  have hl1 : w1.heap.size = l := by simp [w1, l]
  let R : Nat → Option Loop := fun b => if b = l then some r else X.R b
  have hRX : ∀ b r', X.R b = some r' → R b = some r' := fun b r' hb => by
    have := C.rok X hC b r' hb
    have := k.inv.size
    simp only [R]
    rw [if_neg (by simp only [l]; omega)]
    exact hb
  have k1 := k.inv.ranged hRX
  let X1 := X.ranged Γ w1 w.heap.size R
  have k2 : Inv X1 (Γ.addObj s.h.length l 0) s.bx (s.h ++ [.loop none]) w2 := by
    have := k1.allocObj (o := .loop none) (ob := .loop r) (s := 0) ⟨r, by simp [Ctx.ranged, R, hl1, w1] , by
      exact alloc_new (w := w1) (.loop r)⟩
    rw [show (w.alloc (.deferred (some []))).heap.size = l from hl1] at this
    exact this
  have hE1 : Ext Γ (Γ.addObj s.h.length l 0) := Ext.addObj k.inv.freshI l 0
  have hres : (resolve a.eval (rangeCall g l) 0).run P w2 = .ok { target := .fn (.func gf) vs, args := #[.func (.yield l) #[] #[]] } w2 := by
    have e1 : a.eval (.const (.func (.yield l) #[] #[])) = .func (.yield l) #[] #[] := rfl
    simp [resolve, rangeCall, hgv, Deferred.ofValue, e1]
  have hup : Up X (X1.inner (Γ.addObj s.h.length l 0) w2) := ⟨hRX, fun b r' hb => by
      simp only [Ctx.inner, X1, Ctx.ranged, R] at hb ⊢
      split at hb
      · rename_i e; subst e; right; simp [w2, hl1]
      · exact .inl hb, ⟨fun b o v x => k.inv.E.F _ _ _ x, fun i p x => hE1.I _ _ (k.inv.E.I _ _ x), fun _ _ x => by simp [G.noL] at x⟩, by
      have := k.inv.size; simp [Ctx.inner, w2, w1]; omega⟩
  have hCl : (C.loop s.h.length (s.sl.map roundV) ps assign body).ok (X1.inner (Γ.addObj s.h.length l 0) w2) := by
    refine ⟨C.up _ _ hC hup, l, 0, r, by simp [Ctx.inner, G.inner, G.addObj], by simp [Ctx.inner, X1, Ctx.ranged, R], rfl, rfl, rfl, ?_⟩
    refine ⟨by simpa using k.slots.size, fun t x ht => ?_⟩
    rw [List.getElem?_map] at ht
    cases hs : s.sl[t]? with
    | none => rw [hs] at ht; cases ht
    | some y =>
      rw [hs] at ht
      simp only [Option.map_some, Option.some.injEq] at ht
      subst ht
      obtain ⟨v, h1, h2, h3⟩ := k.slots.get t y hs
      refine ⟨v, h1, ?_⟩
      unfold roundV
      split
      · rename_i hnl
        have e : Ext Γ.noL (X1.inner (Γ.addObj s.h.length l 0) w2).Γ0.noL := ⟨fun _ _ _ x => x, fun i p x => hE1.I _ _ x, fun _ _ x => by simp [G.noL] at x⟩
        exact vrel_un (vrel_mono e _ _ (vrel_nol _ _ hnl h2))
      · simp [vrel]
  have hargs : lrel (Γ.addObj s.h.length l 0).inner (.yld s.h.length :: caps) (#[.func (.yield l) #[] #[]] ++ vs : Array Value).toList := by
    rw [Array.toList_append]
    simp only [lrel, vrel]
    refine ⟨_, _, rfl, ⟨l, 0, by simp [G.inner, G.addObj], rfl⟩, ?_⟩
    have e : Ext Γ.noL (Γ.addObj s.h.length l 0).inner := ⟨fun _ _ _ x => x, fun i p x => hE1.I _ _ x, fun _ _ x => by simp [G.noL] at x⟩
    exact lrel_mono e _ _ (lrel_nol _ _ hn hcaps)
  have hinv : (invoke (.fn (.func gf) vs) #[.func (.yield l) #[] #[]]).run P w2 = .ok (.enter gf (#[.func (.yield l) #[] #[]] ++ vs)) w2 := by
    cases hbb : fn.body with
    | none => rw [hbb] at hbd; cases hbd
    | some c => simp [invoke, callFunc, hf, hnm', hbb]
  have hcall := hc.run _ hCl _ w2 (#[.func (.yield l) #[] #[]] ++ vs) k2.enter hargs
  have hC2 : Calls P gf (#[.func (.yield l) #[] #[]] ++ vs) w2 (fun | .returned v, w' => CallPost (X1.inner (Γ.addObj s.h.length l 0) w2) (Γ.addObj s.h.length l 0).inner (rangeK s K) v w' | _, _ => False) := by
    rcases hcall with ⟨_, h2⟩ | ⟨v, w', h1, _⟩
    · exact h2
    · exfalso
      cases hbb : fn.body with
      | none => rw [hbb] at hbd; cases hbd
      | some c => simp [callFunc, hf, hnm', hbb] at h1
  refine ⟨l, [{ target := .collected w.heap.size, args := #[] }], w2, _, w2, gf, _, w2, run_enterLoop_outer f0 a.tmps ps assign body, hres, fun _ _ => trivial, hinv, fun h => by simp [Fc, Fence.wide] at h, CallsIn.mono (callsIn_Fc hC2) ?_⟩
  intro e w3 he
  cases e with
  | panicked c => exact he.elim
  | outgrown => exact he.elim
  | returned v =>
    obtain ⟨rv, h3, Γ3, hK, k3, hE3, hk3, _, _⟩ := callPost_out k2 he 0
    obtain ⟨j, hj, hK⟩ := hK
    have hI3 : Γ3.I s.h.length = some (l, 0) := hE3.I _ _ (by simp [G.addObj])
    have hO3 := k3.Ilive _ l 0 hI3 (by simp [live, hj, AObj.live])
    have hlt3 := k3.Olt l _ hO3
    have hb3 := k3.O l
    unfold BlockOK at hb3
    rw [hO3] at hb3
    obtain ⟨s', o', e1, e2, e3⟩ := hb3
    rw [hj] at e2
    simp only [Option.some.injEq] at e2
    subst e2
    obtain ⟨r', hr', hheap⟩ := e3
    refine ⟨j, _, run_endLoop hheap (by show (if j.isNone then LoopState.ready else .done) ≠ .busy; split <;> simp), ?_⟩
    have hF3 : ∀ o, Γ3.F l o = none := fun o => by
      cases hv : Γ3.F l o with
      | none => rfl
      | some v => have := (k3.F l o v hv).1; simp [World.cell?, hheap] at this
    have hdead : (h3.set s.h.length AObj.dead)[s.h.length]? = some .dead := by simp [(List.getElem?_eq_some_iff.1 hj).1]
    have k4 : ∀ o : Obj, Inv X1 Γ3 s.bx (h3.set s.h.length .dead) (w3.putObj l o) := fun o => by
      refine k3.update (fun x => x = l) (Ext.refl Γ3) (fun x hx => .inl (World.putObj_heap_other hx)) (fun _ _ => rfl) (fun _ _ _ => rfl) (fun x o v hx hv => by subst hx; rw [hF3] at hv; cases hv)
        (fun x hx hN => by subst hx; have := (k3.N _ hN).2.1; rw [hO3] at this; cases this) (fun _ _ _ _ => rfl) (fun i j tip s x x' hx ho => by subst hx; rw [hO3] at ho; cases ho) (fun id x hx ho => ?_) (fun x hx => ?_)
        (fun x o hx ho => by subst hx; simpa [World.putObj] using hlt3) (fun id p hp => by simpa using k3.Ilt id p hp) (fun id x s0 hI hl => ?_) k3.L rfl rfl rfl (by simp [World.putObj])
      · have hne : s.h.length ≠ id := fun e => by
          subst e
          have hb := k3.O x
          unfold BlockOK at hb
          rw [ho] at hb
          obtain ⟨_, _, h1, _⟩ := hb
          rw [hI3] at h1
          simp at h1
          exact hx h1.1.symm
        rw [List.getElem?_set_ne hne]
      · subst hx
        unfold BlockOK
        rw [hO3]
        exact ⟨0, .dead, hI3, hdead, trivial⟩
      · have hne : s.h.length ≠ id := fun e => by subst e; simp [live, hdead, AObj.live] at hl
        refine k3.Ilive id x s0 hI ?_
        unfold live at hl ⊢
        rw [List.getElem?_set_ne hne] at hl
        exact hl
    have k5 : ∀ o : Obj, Inv (X.ranged Γ w1 w.heap.size X.R) Γ3 s.bx (h3.set s.h.length .dead) (w3.putObj l o) := fun o => by
      have := (k4 o).reR (R := X.R) (fun id b s' j' hI hl r1 hr1 => by
        simp only [X1, Ctx.ranged, R] at hr1
        split at hr1
        · rename_i e
          subst e
          have h1 := (k4 o).Ilive id _ s' hI (by simp [live, hl, AObj.live])
          rw [hO3] at h1
          simp only [Option.some.injEq, Own.obj.injEq] at h1
          subst h1
          rw [hdead] at hl
          cases hl
        · exact hr1)
      exact this
    have hsub := k.inv.sub_ranged
    have rel : ∀ o : Obj, Rel (X.ranged Γ w1 w.heap.size X.R) Γ3 { s with h := h3.set s.h.length .dead } { a with defers := [{ target := .collected w.heap.size, args := #[] }] ++ a.defers } (w3.putObj l o) := fun o => by
      have hkp : Keeps Γ Γ3 none := fun b p tip s' hb hp => by
        have hlt := k.inv.Olt b _ hb
        have h1 : (Γ.addObj s.h.length l 0).O b = Γ.O b := by simp only [G.addObj]; rw [if_neg (by simp only [l]; omega)]
        exact (hk3 b p tip s' (h1.trans hb) hp).trans h1
      refine ⟨k5 o, SlotsOK.ext k.slots (hE1.trans hE3) hkp (free_none _), ⟨?_, ?_, fun m hm => ?_⟩⟩
      · show _ = (w.heap.size :: X.marks).map markOf
        rw [List.map_cons, ← k.defers.eq]
        rfl
      · refine List.nodup_cons.2 ⟨fun hm => ?_, k.defers.nodup⟩
        have := (k.inv.N _ (k.defers.get _ hm).1).1
        have := k.inv.size
        omega
      · rcases List.mem_cons.1 hm with e | e
        · subst e
          exact ⟨.inr rfl, alloc_new (w := w) _, fun o => k.inv.freshF o⟩
        · obtain ⟨d1, d2, d3⟩ := k.defers.get m e
          obtain ⟨n1, n2, n3, n4⟩ := k.inv.N m d1
          have hne : m ≠ w.heap.size := by have := k.inv.size; omega
          exact ⟨.inl d1, (alloc_old _ hne).trans (n3.trans d2), fun o => (n4 o).trans (d3 o)⟩
    cases j with
    | none => exact ⟨_, Γ3, _, hK, rel _, hsub, C.up _ _ hC hsub.up⟩
    | some c =>
      cases c with
      | ret => exact wpIn_ret ⟨_, Γ3, _, hK, rel _, hsub, C.up _ _ hC hsub.up⟩
      | exit id => exact wpIn_exit ⟨_, Γ3, _, hK, rel _, hsub, C.up _ _ hC hsub.up⟩
      | _ => exact hK.elim
end
end Go.Ab
end
section
/- Objects that nobody writes any more; ranges over functions and yields, slots told as lists. -/
set_option linter.unusedSimpArgs false
set_option linter.unusedVariables false
namespace Go.Ab

/-- A slice of an object's, told by its elements. -/
def AV.frz (id : Nat) (cs : List AV) : AV → AV
  | .msl i sz off len => if i = id ∧ off + len * sz ≤ cs.length then .sl false sz (chunks sz len (cs.drop off)) .no else .msl i sz off len
  | .agg xs => .agg (frzs xs)
  | .tup xs => .tup (frzs xs)
  | a => a
where
  frzs : List AV → List AV
  | [] => []
  | a :: r => a.frz id cs :: frzs r

/-- An object that is told as frozen. -/
def G.frz (Γ : G) (b : Nat) (n : Nat) (c : Array Value) : G := { Γ with F := fun j o => if j = b then (if o < n then c[o]? else none) else Γ.F j o, O := fun j => if j = b then none else Γ.O j }

section
variable {C : CX} {P : Program} {T : Tab} {Γ : G} {X : Ctx} {w : World} {bx : List (List AV)} {h : List AObj}

theorem elems_chunks {Γ : G} {b : Nat} {sz : Nat} : ∀ {n o : Nat} {cs : List AV}, n * sz ≤ cs.length → flatAt Γ b o cs → elemsAt Γ b o sz (chunks sz n cs)
  | 0, o, cs, _, _ => by simp [chunks, elemsAt]
  | n + 1, o, cs, hl, hf => by
    have h1 : (n + 1) * sz = n * sz + sz := by rw [Nat.add_mul, Nat.one_mul]
    simp only [chunks, elemsAt]
    refine ⟨by rw [List.length_take]; omega, flatAt_take _ hf, ?_⟩
    have := elems_chunks (sz := sz) (n := n) (o := o + sz) (cs := cs.drop sz) (by rw [List.length_drop]; omega) (flatAt_drop sz hf)
    exact this
theorem chunks_len {sz : Nat} : ∀ {n : Nat} {cs : List AV}, (chunks sz n cs).length = n
  | 0, _ => rfl
  | n + 1, cs => by simp [chunks, chunks_len]

mutual
theorem vrel_frz {id : Nat} {cs : List AV} {Γ Γ2 : G} (hE : Ext Γ Γ2) (hf : ∀ b s, Γ.I id = some (b, s) → flatAt Γ2 b 0 cs) : ∀ (a : AV) (v : Value), vrel Γ a v → vrel Γ2 (a.frz id cs) v
  | .msl i sz off len, v, h => by
    simp only [AV.frz]
    split
    · rename_i hc
      obtain ⟨rfl, hlen⟩ := hc
      simp only [vrel] at h ⊢
      obtain ⟨b', s', cap, h1, h2, h3, h4⟩ := h
      refine ⟨b', off, cap, by rw [chunks_len]; exact h2, by rw [chunks_len]; exact h3, by simp, ?_⟩
      have := flatAt_drop off (hf b' s' h1)
      rw [Nat.zero_add] at this
      exact elems_chunks (by rw [List.length_drop]; omega) this
    · exact vrel_mono hE _ _ h
  | .agg xs, v, h => by
    simp only [vrel, AV.frz] at h ⊢
    obtain ⟨vs, h1, h2⟩ := h
    exact ⟨vs, h1, lrel_frz hE hf xs _ h2⟩
  | .tup xs, v, h => by
    simp only [vrel, AV.frz] at h ⊢
    obtain ⟨vs, h1, h2⟩ := h
    exact ⟨vs, h1, lrel_frz hE hf xs _ h2⟩
  | .undef, v, h => by simp [AV.frz, vrel]
  | .bool x, v, h => vrel_mono hE _ _ h
  | .int k x, v, h => vrel_mono hE _ _ h
  | .str x, v, h => vrel_mono hE _ _ h
  | .nilp, v, h => vrel_mono hE _ _ h
  | .nilm, v, h => vrel_mono hE _ _ h
  | .nilf, v, h => vrel_mono hE _ _ h
  | .nili, v, h => vrel_mono hE _ _ h
  | .sl z sz es t, v, h => vrel_mono hE _ _ h
  | .eptr x, v, h => vrel_mono hE _ _ h
  | .mptr i o, v, h => vrel_mono hE _ _ h
  | .lptr i o, v, h => vrel_mono hE _ _ h
  | .fn f x, v, h => vrel_mono hE _ _ h
  | .yld l, v, h => vrel_mono hE _ _ h
  | .iface t x, v, h => vrel_mono hE _ _ h
  | .map i, v, h => vrel_mono hE _ _ h
theorem lrel_frz {id : Nat} {cs : List AV} {Γ Γ2 : G} (hE : Ext Γ Γ2) (hf : ∀ b s, Γ.I id = some (b, s) → flatAt Γ2 b 0 cs) : ∀ (xs : List AV) (vs : List Value), lrel Γ xs vs → lrel Γ2 (AV.frz.frzs id cs xs) vs
  | [], vs, h => by simpa [AV.frz.frzs, lrel] using h
  | a :: xs, vs, h => by
    simp only [lrel, AV.frz.frzs] at h ⊢
    obtain ⟨v, vs', h1, h2, h3⟩ := h
    exact ⟨v, vs', h1, vrel_frz hE hf a v h2, lrel_frz hE hf xs vs' h3⟩
end

theorem Inv.freeze (k : Inv X Γ bx h w) {id n : Nat} {cs : List AV} (hh : h[id]? = some (.cells cs n)) {b s : Nat} (hI : Γ.I id = some (b, s)) : ∃ Γ2, Inv X Γ2 bx (h.set id .dead) w ∧ Ext Γ Γ2 ∧ flatAt Γ2 b 0 cs ∧ (∀ x, x ≠ b → Γ2.O x = Γ.O x) ∧ Γ.O b = some (.obj id) := by
  have hO := k.Ilive id b s hI (by simp [live, hh, AObj.live])
  have hb := k.O b
  unfold BlockOK at hb
  rw [hO] at hb
  obtain ⟨s1, o1, e1, e2, e3⟩ := hb
  rw [hh] at e2
  simp only [Option.some.injEq] at e2
  subst e2
  obtain ⟨rfl, ⟨c, e, hc1, hc2, hc3, hc4⟩, hF⟩ := e3
  have hE : Ext Γ (Γ.frz b cs.length c) := ⟨fun b1 o v hv => by
    simp only [G.frz]
    split
    · rename_i e'; subst e'; rw [hF o] at hv; cases hv
    · exact hv, fun _ _ x => x, fun _ _ x => x⟩
  have hll := (List.getElem?_eq_some_iff.1 hh).1
  have hcell : ∀ o, o < cs.length → ∃ v, c[o]? = some v ∧ v.oneCell' = true := fun o ho => by
    obtain ⟨v, h1, h2, h3⟩ := hc4 o cs[o] (List.getElem?_eq_getElem ho)
    exact ⟨v, h1, h2⟩
  refine ⟨Γ.frz b cs.length c, ?_, hE, ?_, fun x hx => by simp [G.frz, hx], hO⟩
  · refine k.update (fun x => x = b) hE (fun x _ => .inl rfl) (fun x hx => by simp [G.frz, hx]) (fun x o hx => by simp [G.frz, hx]) (fun x o v hx hv => ?_) (fun x hx hN => by subst hx; have := (k.N _ hN).2.1; rw [hO] at this; cases this) (fun _ _ _ _ => rfl)
      (fun i j tip s x x' hx ho => by subst hx; rw [hO] at ho; cases ho) (fun id' x hx ho => ?_) (fun x hx => by subst hx; unfold BlockOK; simp [G.frz]) (fun x o hx ho => by subst hx; simp [G.frz] at ho) (fun id' p hp => by simpa using k.Ilt id' p hp) (fun id' x s' hI' hl => ?_) (fun i x hx => ?_) rfl rfl rfl (Nat.le_refl _)
    · subst hx
      simp only [G.frz, if_true] at hv
      split at hv
      · rename_i ho
        obtain ⟨v', h1, h2⟩ := hcell o ho
        rw [h1] at hv
        simp only [Option.some.injEq] at hv
        subst hv
        exact ⟨by simp [World.cell?, hc1, h1], h2⟩
      · cases hv
    · have hne : id ≠ id' := fun e => by
        subst e
        have hb := k.O x
        unfold BlockOK at hb
        rw [ho] at hb
        obtain ⟨_, _, h1, _⟩ := hb
        rw [hI] at h1
        simp at h1
        exact hx h1.1.symm
      rw [List.getElem?_set_ne hne]
    · have hne : id ≠ id' := fun e => by subst e; simp [live, hll, AObj.live] at hl
      have hl' : live h id' = true := by
        unfold live at hl ⊢
        rw [List.getElem?_set_ne hne] at hl
        exact hl
      have := k.Ilive id' x s' hI' hl'
      simp only [G.frz]
      rw [if_neg (fun e => by subst e; rw [hO] at this; simp at this; exact hne this)]
      exact this
    · have := k.L i x hx
      refine ⟨this.1, ?_⟩
      simp only [G.frz]
      rw [if_neg (fun e => by subst e; rw [hO] at this; simp at this)]
      exact this.2
  · refine flatAt_of_get fun i a hi => ?_
    have ho := (List.getElem?_eq_some_iff.1 hi).1
    obtain ⟨v, h1, h2, h3⟩ := hc4 i a hi
    exact ⟨v, by simp [G.frz, ho, h1], vrel_mono hE.noL _ _ h3⟩

/-- One object is frozen behind a call, or none. -/
def frzK (K : AV → List AObj → Prop) (r : AV) (h : List AObj) : Prop := K r h ∨ ∃ id cs n, h[id]? = some (.cells cs n) ∧ id < h.length ∧ K (r.frz id cs) (h.set id .dead)

theorem own_frz {Γ Γ2 : G} {id : Nat} {cs : List AV} {r : AV} {v : Value} (hO : ∀ b p tip s, Γ.O b = some (.spare p tip s) → Γ2.O b = Γ.O b) (ho : ownOK Γ (.slot 0) r v) : ownOK Γ2 (.slot 0) (r.frz id cs) v := by
  cases hr' : (r.frz id cs).owns with
  | false => exact ownOK_of_not hr'
  | true =>
    cases r with
    | sl z sz es t =>
      cases z <;> cases t <;> simp [AV.frz, AV.owns] at hr'
      simp only [AV.frz, ownOK] at ho ⊢
      obtain ⟨b1, o1, cap, s1, e1, e2, e3⟩ := ho
      exact ⟨b1, o1, cap, s1, e1, by rw [hO b1 _ _ _ e2]; exact e2, e3⟩
    | msl i sz off len =>
      simp only [AV.frz] at hr'
      split at hr' <;> simp [AV.owns] at hr'
    | _ => simp [AV.frz, AV.owns] at hr'

theorem ACall.freeze {f : FuncId} {args : List AV} {K : AV → List AObj → Prop} (hc : ACall C P f args h (frzK K)) : ACall C P f args h K := by
  refine ⟨fun X hC Γ w vs k hl => ?_⟩
  have conv : ∀ v w', CallPost X Γ (frzK K) v w' → CallPost X Γ K v w' := fun v w' hp => by
    obtain ⟨r, h', Γ', hK, k', hE, hr, ho⟩ := hp
    rcases hK with hK | ⟨id, cs, n, hh, _, hK⟩
    · exact ⟨r, h', Γ', hK, k', hE, hr, ho⟩
    · cases hI : Γ'.I id with
      | some p =>
        obtain ⟨b, s⟩ := p
        obtain ⟨Γ2, k2, hE2, hf, hO2, hOb⟩ := k'.freeze hh hI
        refine ⟨_, _, Γ2, hK, k2, hE.trans hE2, vrel_frz hE2 (fun b' s' h' => by rw [hI] at h'; simp only [Option.some.injEq, Prod.mk.injEq] at h'; rw [← h'.1]; exact hf) r v hr, own_frz (fun x p tip s hx => hO2 x (fun e => by subst e; rw [hOb] at hx; cases hx)) ho⟩
      | none =>
        refine ⟨_, _, Γ', hK, ?_, hE, vrel_frz (Ext.refl _) (fun b' s' h' => by rw [hI] at h'; cases h') r v hr, own_frz (fun _ _ _ _ _ => rfl) ho⟩
        refine ⟨k'.F, fun b => ?_, k'.Olt, fun id' p hp => by simpa using k'.Ilt id' p hp, fun id' b s' hI' hl => ?_, k'.L, k'.N, k'.E, k'.os, k'.tape, k'.output, k'.size⟩
        · have hb := k'.O b
          unfold BlockOK at hb ⊢
          cases hob : Γ'.O b with
          | none => trivial
          | some o =>
            rw [hob] at hb
            cases o with
            | obj id' =>
              obtain ⟨s, o, h1, h2, h3⟩ := hb
              have hne : id ≠ id' := fun e => by subst e; rw [hI] at h1; cases h1
              exact ⟨s, o, h1, by rw [List.getElem?_set_ne hne]; exact h2, h3⟩
            | _ => exact hb
        · have hne : id ≠ id' := fun e => by subst e; rw [hI] at hI'; cases hI'
          refine k'.Ilive id' b s' hI' ?_
          unfold live at hl ⊢
          rw [List.getElem?_set_ne hne] at hl
          exact hl
  rcases hc.run X hC Γ w vs k hl with ⟨h1, h2⟩ | ⟨v, w', h1, h2⟩
  · refine .inl ⟨h1, fun cs => ?_⟩
    obtain ⟨e, w', fr, r, rest⟩ := h2 cs
    refine ⟨e, w', fr, ?_, rest⟩
    cases e with
    | returned v => exact conv _ _ r
    | panicked c => exact r.elim
    | outgrown => exact r.elim
  · exact .inr ⟨v, w', h1, conv _ _ h2⟩

/-- The same, but for how full a slice is. -/
def AV.weak : AV → AV
  | .sl z sz es _ => .sl z sz es .no
  | .agg xs => .agg (weaks xs)
  | .tup xs => .tup (weaks xs)
  | a => a
where
  weaks : List AV → List AV
  | [] => []
  | a :: r => a.weak :: weaks r
mutual
theorem vrel_weak {Γ : G} : ∀ (a : AV) (v : Value), vrel Γ a v → vrel Γ a.weak v
  | .agg xs, v, h => by
    simp only [vrel, AV.weak] at h ⊢
    obtain ⟨vs, h1, h2⟩ := h
    exact ⟨vs, h1, lrel_weak xs _ h2⟩
  | .tup xs, v, h => by
    simp only [vrel, AV.weak] at h ⊢
    obtain ⟨vs, h1, h2⟩ := h
    exact ⟨vs, h1, lrel_weak xs _ h2⟩
  | .sl true _ _ _, v, h => by simpa only [vrel, AV.weak] using h
  | .sl false sz es t, v, h => by
    simp only [vrel, AV.weak] at h ⊢
    obtain ⟨b, o, cap, h1, h2, h3, h4⟩ := h
    exact ⟨b, o, cap, h1, h2, by simp, h4⟩
  | .undef, v, h => h
  | .bool x, v, h => h
  | .int k x, v, h => h
  | .str x, v, h => h
  | .nilp, v, h => h
  | .nilm, v, h => h
  | .nilf, v, h => h
  | .nili, v, h => h
  | .msl _ _ _ _, v, h => h
  | .eptr x, v, h => h
  | .mptr i o, v, h => h
  | .lptr i o, v, h => h
  | .fn f x, v, h => h
  | .yld l, v, h => h
  | .iface t x, v, h => h
  | .map i, v, h => h
theorem lrel_weak {Γ : G} : ∀ (xs : List AV) (vs : List Value), lrel Γ xs vs → lrel Γ (AV.weak.weaks xs) vs
  | [], vs, h => by simpa [AV.weak.weaks, lrel] using h
  | a :: xs, vs, h => by
    simp only [lrel, AV.weak.weaks] at h ⊢
    obtain ⟨v, vs', h1, h2, h3⟩ := h
    exact ⟨v, vs', h1, vrel_weak a v h2, lrel_weak xs vs' h3⟩
end
theorem ACall.weaken {f : FuncId} {args : List AV} {K : AV → List AObj → Prop} (hc : ACall C P f args h (fun r h => K r.weak h)) : ACall C P f args h K := by
  refine ⟨fun X hC Γ w vs k hl => ?_⟩
  have conv : ∀ v w', CallPost X Γ (fun r h => K r.weak h) v w' → CallPost X Γ K v w' := fun v w' hp => by
    obtain ⟨r, h', Γ', hK, k', hE, hr, ho⟩ := hp
    refine ⟨r.weak, h', Γ', hK, k', hE, vrel_weak r v hr, ownOK_of_not ?_⟩
    cases r <;> simp only [AV.weak, AV.owns]
  rcases hc.run X hC Γ w vs k hl with ⟨h1, h2⟩ | ⟨v, w', h1, h2⟩
  · refine .inl ⟨h1, fun cs => ?_⟩
    obtain ⟨e, w', fr, r, rest⟩ := h2 cs
    refine ⟨e, w', fr, ?_, rest⟩
    cases e with
    | returned v => exact conv _ _ r
    | panicked c => exact r.elim
    | outgrown => exact r.elim
  · exact .inr ⟨v, w', h1, conv _ _ h2⟩

section
variable {d : AV} {n : Nat} {l : List (Nat × AV)} {K : Exit → ASt → Prop}
theorem S_round (hd : roundV d = d) : (S d n l bx h).sl.map roundV = ofL d n (l.map fun p => (p.1, roundV p.2)) := by
  simp only [S, ofL, List.map_map]
  apply List.map_congr_left
  intro t _
  simp only [Function.comp]
  induction l with
  | nil => exact hd
  | cons p l ih =>
    obtain ⟨k, v⟩ := p
    simp only [lk, List.map_cons]
    split
    · rfl
    · exact ih
theorem ofL_setPs {ts : List Nat} {xs : List AV} (hl : ts.length = xs.length) (ht : ∀ t ∈ ts, t < n) : setPs (ofL d n l) ts xs = ofL d n ((ts.zip xs).reverse ++ l) := by
  induction ts generalizing xs l with
  | nil => cases xs <;> simp [setPs] at hl ⊢
  | cons t ts ih =>
    cases xs with
    | nil => simp at hl
    | cons x xs =>
      simp only [setPs]
      rw [ofL_set (ht t (by simp)), ih (by simpa using hl) (fun u hu => ht u (by simp [hu]))]
      simp
end
end
end Go.Ab
end
section
/- Calls that are told of no objects; loops, round by round; drawn regions that write, joined. -/
set_option linter.unusedSimpArgs false
set_option linter.unusedVariables false
namespace Go.Ab

/-- No object of the call's own in it. -/
def AV.noob : AV → Bool
  | .msl _ _ _ _ | .mptr _ _ | .map _ | .yld _ => false
  | .lptr _ _ => false
  | .fn _ caps => noobs caps
  | .iface _ a => a.noob
  | .agg cs => noobs cs
  | .tup cs => noobs cs
  | _ => true
where
  noobs : List AV → Bool
  | [] => true
  | a :: r => a.noob && noobs r

section
variable {C : CX} {P : Program} {T : Tab} {ann : Ann} {ro : Option Nat} {Γ Γ' : G} {X : Ctx} {w : World} {bx : List (List AV)} {h : List AObj} {s : ASt}

/-- Elements, too, without objects. -/
def AV.deep : AV → Bool
  | .msl _ _ _ _ | .mptr _ _ | .map _ | .yld _ => false
  | .lptr _ _ => false
  | .fn _ caps => deeps caps
  | .iface _ a => a.deep
  | .agg cs => deeps cs
  | .tup cs => deeps cs
  | .eptr cs => deeps cs
  | .sl _ _ es _ => deepss es
  | _ => true
where
  deeps : List AV → Bool
  | [] => true
  | a :: r => a.deep && deeps r
  deepss : List (List AV) → Bool
  | [] => true
  | c :: r => deeps c && deepss r

mutual
theorem vrel_deep {Γ Γ' : G} (hF : ∀ b o v, Γ.F b o = some v → Γ'.F b o = some v) : ∀ (a : AV) (v : Value), a.deep = true → vrel Γ a v → vrel Γ' a v
  | .undef, _, _, _ => by simp [vrel]
  | .bool _, _, _, h => by simpa [vrel] using h
  | .int _ _, _, _, h => by simpa [vrel] using h
  | .str _, _, _, h => by simpa [vrel] using h
  | .nilp, _, _, h => by simpa [vrel] using h
  | .nilm, _, _, h => by simpa [vrel] using h
  | .nilf, _, _, h => by simpa [vrel] using h
  | .nili, _, _, h => by simpa [vrel] using h
  | .sl true _ _ _, _, _, h => by simpa [vrel] using h
  | .sl false sz es t, v, hd, h => by
    simp only [vrel, AV.deep] at h hd ⊢
    obtain ⟨b, o, cap, h1, h2, h3, h4⟩ := h
    exact ⟨b, o, cap, h1, h2, h3, elems_deep hF b o sz es hd h4⟩
  | .msl _ _ _ _, _, hd, _ => by simp [AV.deep] at hd
  | .eptr cs, v, hd, h => by
    simp only [vrel, AV.deep] at h hd ⊢
    obtain ⟨b, o, h1, h2⟩ := h
    exact ⟨b, o, h1, flat_deep hF b o cs hd h2⟩
  | .mptr _ _, _, hd, _ => by simp [AV.deep] at hd
  | .lptr _ _, _, hd, _ => by simp [AV.deep] at hd
  | .fn f caps, v, hd, h => by
    simp only [vrel, AV.deep] at h hd ⊢
    obtain ⟨vs, h1, h2⟩ := h
    exact ⟨vs, h1, lrel_deep hF caps _ hd h2⟩
  | .yld _, _, hd, _ => by simp [AV.deep] at hd
  | .iface t a, v, hd, h => by
    simp only [vrel, AV.deep] at h hd ⊢
    obtain ⟨x, h1, h2⟩ := h
    exact ⟨x, h1, vrel_deep hF a x hd h2⟩
  | .agg cs, v, hd, h => by
    simp only [vrel, AV.deep] at h hd ⊢
    obtain ⟨vs, h1, h2⟩ := h
    exact ⟨vs, h1, lrel_deep hF cs _ hd h2⟩
  | .tup cs, v, hd, h => by
    simp only [vrel, AV.deep] at h hd ⊢
    obtain ⟨vs, h1, h2⟩ := h
    exact ⟨vs, h1, lrel_deep hF cs _ hd h2⟩
  | .map _, _, hd, _ => by simp [AV.deep] at hd
theorem lrel_deep {Γ Γ' : G} (hF : ∀ b o v, Γ.F b o = some v → Γ'.F b o = some v) : ∀ (xs : List AV) (vs : List Value), AV.deep.deeps xs = true → lrel Γ xs vs → lrel Γ' xs vs
  | [], _, _, h => by simpa [lrel] using h
  | a :: xs, vs, hd, h => by
    simp only [lrel, AV.deep.deeps, Bool.and_eq_true] at h hd ⊢
    obtain ⟨v, vs', h1, h2, h3⟩ := h
    exact ⟨v, vs', h1, vrel_deep hF a v hd.1 h2, lrel_deep hF xs vs' hd.2 h3⟩
theorem flat_deep {Γ Γ' : G} (hF : ∀ b o v, Γ.F b o = some v → Γ'.F b o = some v) (b : Nat) : ∀ (o : Nat) (xs : List AV), AV.deep.deeps xs = true → flatAt Γ b o xs → flatAt Γ' b o xs
  | _, [], _, _ => by simp [flatAt]
  | o, a :: xs, hd, h => by
    simp only [flatAt, AV.deep.deeps, Bool.and_eq_true] at h hd ⊢
    obtain ⟨⟨v, h1, h2⟩, h3⟩ := h
    exact ⟨⟨v, hF _ _ _ h1, vrel_deep (Γ := Γ.noL) (Γ' := Γ'.noL) hF a v hd.1 h2⟩, flat_deep hF b (o + 1) xs hd.2 h3⟩
theorem elems_deep {Γ Γ' : G} (hF : ∀ b o v, Γ.F b o = some v → Γ'.F b o = some v) (b : Nat) : ∀ (o sz : Nat) (cs : List (List AV)), AV.deep.deepss cs = true → elemsAt Γ b o sz cs → elemsAt Γ' b o sz cs
  | _, _, [], _, _ => by simp [elemsAt]
  | o, sz, c :: cs, hd, h => by
    simp only [elemsAt, AV.deep.deepss, Bool.and_eq_true] at h hd ⊢
    exact ⟨h.1, flat_deep hF b o c hd.1 h.2.1, elems_deep hF b (o + sz) sz cs hd.2 h.2.2⟩
end

/-- What a call that knows of no objects is told. -/
def G.shut (Γ : G) : G := { F := Γ.F, I := fun _ => none, L := fun _ => none, O := fun _ => none }
def Ctx.shut (X : Ctx) (Γ : G) (w : World) : Ctx := { w0 := w, N := fun b => b < w.heap.size, Γ0 := Γ.shut, R := X.R, marks := [] }
theorem Inv.shut (k : Inv X Γ bx h w) : Inv (X.shut Γ w) Γ.shut [] [] w where
  F := k.F
  O := fun b => trivial
  Olt := fun b o ho => by cases ho
  Ilt := fun id p hp => by cases hp
  Ilive := fun id b s hI => by cases hI
  L := fun i b hL => by cases hL
  N := fun b hb => ⟨hb, rfl, rfl, fun _ => rfl⟩
  E := Ext.refl _
  os := rfl
  tape := rfl
  output := rfl
  size := Nat.le_refl _

/-- A call that is told of no objects, and gives none back, leaves all as it was. -/
theorem ACall.closed {f : FuncId} {args : List AV} {K : AV → List AObj → Prop} (hd : AV.deep.deeps args = true) (hc : ACall .any P f args [] (fun r _ => r.deep = true ∧ r.owns = false ∧ K r h)) : ACall C P f args h K := by
  refine ⟨fun X hC Γ w vs k hl => ?_⟩
  have hRok : Rok (X.shut Γ w) := fun b r hb => Nat.lt_of_lt_of_le (C.rok X hC b r hb) k.size
  have conv : ∀ v w', CallPost (X.shut Γ w) Γ.shut (fun r _ => r.deep = true ∧ r.owns = false ∧ K r h) v w' → CallPost X Γ K v w' := fun v w' hp => by
    obtain ⟨r, h', Γ', ⟨hdr, hor, hK⟩, k', hE, hr, _⟩ := hp
    let Γ2 : G := { F := Γ'.F, I := Γ.I, L := Γ.L, O := Γ.O }
    have hE2 : Ext Γ Γ2 := ⟨hE.F, fun _ _ x => x, fun _ _ x => x⟩
    have hN : ∀ b, b < w.heap.size → w'.heap[b]? = w.heap[b]? ∧ ∀ o, Γ'.F b o = Γ.F b o := fun b hb => ⟨(k'.N b hb).2.2.1, (k'.N b hb).2.2.2⟩
    refine ⟨r, h, Γ2, hK, ?_, hE2, vrel_deep (Γ := Γ') (Γ' := Γ2) (fun _ _ _ x => x) r v hdr hr, ownOK_of_not hor⟩
    refine ⟨k'.F, fun b => ?_, fun b o ho => Nat.lt_of_lt_of_le (k.Olt b o ho) k'.size, k.Ilt, k.Ilive, k.L, fun b hb => ?_, k.E.trans hE2, k'.os.trans k.os, k'.tape.trans k.tape, k'.output.trans k.output, Nat.le_trans k.size k'.size⟩
    · have hb := k.O b
      unfold BlockOK at hb ⊢
      show match Γ.O b with | _ => _
      cases ho : Γ.O b with
      | none => simp [Γ2, ho]
      | some o =>
        have hlt := k.Olt b o ho
        obtain ⟨hw, hF⟩ := hN b hlt
        rw [ho] at hb
        simp only [Γ2, ho]
        cases o with
        | obj id =>
          obtain ⟨s, o, h1, h2, h3⟩ := hb
          refine ⟨s, o, h1, h2, ?_⟩
          cases o with
          | cells cs n => exact ⟨h3.1, h3.2.1.mono hw (fun j a v _ x => vrel_mono hE2.noL _ _ x), fun o => (hF o).trans (h3.2.2 o)⟩
          | map es => exact ⟨h3.1.mono hw hE2.noL, fun o => (hF o).trans (h3.2 o)⟩
          | loop j => obtain ⟨r, h4, h5⟩ := h3; exact ⟨r, h4, hw.trans h5⟩
          | dead => trivial
        | box i => exact absurd (k.L i b hb.1).1 (by simp)
        | spare p tip s =>
          obtain ⟨c, e, h1, h2, h3⟩ := hb
          exact ⟨c, e, hw.trans h1, h2, fun x hx => (hF x).trans (h3 x hx)⟩
        | mark => exact hw.trans hb
    · have h1 := k.N b hb
      obtain ⟨hw, hF⟩ := hN b (Nat.lt_of_lt_of_le h1.1 k.size)
      exact ⟨h1.1, h1.2.1, hw.trans h1.2.2.1, fun o => (hF o).trans (h1.2.2.2 o)⟩
  rcases hc.run (X.shut Γ w) hRok Γ.shut w vs k.shut (lrel_deep (Γ := Γ) (Γ' := Γ.shut) (fun _ _ _ x => x) _ _ hd hl) with ⟨h1, h2⟩ | ⟨v, w', h1, h2⟩
  · refine .inl ⟨h1, fun cs => ?_⟩
    obtain ⟨e, w', fr, r, rest⟩ := h2 cs
    refine ⟨e, w', fr, ?_, rest⟩
    cases e with
    | returned v => exact conv _ _ r
    | panicked c => exact r.elim
    | outgrown => exact r.elim
  · exact .inr ⟨v, w', h1, conv _ _ h2⟩

/-- So many rounds at most, one by one. -/
def RunN (C : CX) (P : Program) (T : Tab) (ann : Ann) (ro : Option Nat) (body : List It) (K : Exit → ASt → Prop) : Nat → ASt → Prop
  | 0, _ => False
  | m + 1, s => Run C P T ann ro body s fun e s' => match e with | .normal => RunN C P T ann ro body K m s' | e => K e s'
def moreK (C : CX) (P : Program) (T : Tab) (ann : Ann) (ro : Option Nat) (body : List It) (K : Exit → ASt → Prop) (m : Nat) (e : Exit) (s' : ASt) : Prop := match e with | .normal => RunN C P T ann ro body K m s' | e => K e s'
section
variable {body : List It} {K : Exit → ASt → Prop} {m : Nat}
theorem runN_succ : RunN C P T ann ro body K (m + 1) s = Run C P T ann ro body s (moreK C P T ann ro body K m) := rfl
theorem more_n : moreK C P T ann ro body K m .normal s = RunN C P T ann ro body K m s := rfl
theorem more_exit {id : Nat} : moreK C P T ann ro body K m (.exit id) s = K (.exit id) s := rfl
theorem more_ret : moreK C P T ann ro body K m .ret s = K .ret s := rfl
theorem rounds_sound (hT : TabOK P T) {c : Code} {pl : List (Nat × Plan)} {X0 : Ctx} (m : Nat) : ∀ {s : ASt} {X : Ctx} {Γ : G} {a : Act} {w : World}, RunN C P T ann ro (compR T ann pl c) K m s → Rel X Γ s a w → C.ok X → Sub X0 X → Code.roundsIn (Fc ro) 0 P c (Post C X0 K) m a w := by
  induction m with
  | zero => intro _ _ _ _ _ h _ _ _; exact h.elim
  | succ m ih =>
    intro s X Γ a w h k hC hsub
    rw [runN_succ] at h
    rw [roundsIn_succ]
    refine wpIn_mono ((runR_sound hT c _ _ h.h).run X hC Γ a w k) ?_
    rintro e a' w' ⟨s', Γ', X', hK, k', hsub', hC'⟩
    cases e with
    | normal => exact ih hK k' hC' (hsub.trans hsub')
    | _ => exact ⟨s', Γ', X', hK, k', hsub.trans hsub', hC'⟩
theorem AWp.rounds {c : Code} {pl : List (Nat × Plan)} (hT : TabOK P T) (hc : compR T ann pl c = body) (m : Nat) (h1 : RunN C P T ann ro body K m s) : AWp C P ro (.loop c) s K :=
  ⟨fun X hC Γ a w k => wpIn_loop_rounds m (rounds_sound hT m (hc ▸ h1) k hC (Sub.refl X))⟩
end

variable {d : AV} {n : Nat} {l l' : List (Nat × AV)} {K : Exit → ASt → Prop}
/-- What each order of a drawn region must lead to: these values, this memory. -/
def sameK (d : AV) (n : Nat) (W : List Nat) (l l' : List (Nat × AV)) (bx : List (List AV)) (h : List AObj) (e : Exit) (s' : ASt) : Prop :=
  match e with
  | .normal => ∃ l2, s' = S d n l2 bx h ∧ Sk W l l2 ∧ ∀ t ∈ W, lk d l2 t = lk d l' t
  | _ => False
theorem AWp.joinV (hT : TabOK P T) (hm : P.follows .mixedOrders = true) (ann : Ann) (pl : List (Nat × Plan)) {c : Code} {body : List It} (hok : okCode ann ro pl c = true) (hc : compC T ann pl c = body) (W : List Nat) (l' : List (Nat × AV)) (bx' : List (List AV)) (h' : List AObj) (hs : Sk W l l')
    (h1 : Run C P T ann ro body (S d n l bx h) (sameK d n W l l' bx' h')) (h2 : K .normal (S d n l' bx' h')) : AWp C P ro c (S d n l bx h) K := by
  refine AWp.mono (run_sound hT hm c _ _ hok (hc ▸ h1.h)) fun e s' hk => ?_
  cases e with
  | normal =>
    obtain ⟨l2, rfl, h3, h4⟩ := hk
    have : S d n l2 bx' h' = S d n l' bx' h' := S_ext fun t => by
      cases ht : W.contains t with
      | true => exact h4 t (by simpa using ht)
      | false => rw [h3.lk ht, hs.lk ht]
    rw [this]
    exact h2
  | _ => exact hk.elim
def vals (d : AV) (l2 l' : List (Nat × AV)) : List Nat → Prop
  | [] => True
  | t :: r => lk d l2 t = lk d l' t ∧ vals d l2 l' r
theorem vals_all {l2 : List (Nat × AV)} : ∀ {W : List Nat}, vals d l2 l' W → ∀ t ∈ W, lk d l2 t = lk d l' t
  | [], _, t, ht => by simp at ht
  | u :: r, h, t, ht => by
    rcases List.mem_cons.1 ht with e | e
    · subst e; exact h.1
    · exact vals_all h.2 t e
theorem same_n {W : List Nat} {l2 : List (Nat × AV)} {bx2 : List (List AV)} {h2 : List AObj} (e1 : bx2 = bx) (e2 : h2 = h) (h1 : Sk W l l2) (h3 : vals d l2 l' W) : sameK d n W l l' bx h .normal (S d n l2 bx2 h2) := by
  subst e1 e2
  exact ⟨l2, rfl, h1, vals_all h3⟩
end
/-- The parts of a range over a function. -/
def rfA : Code → Code
  | .rangeFunc _ _ x _ => x
  | _ => .skip
def rfB : Code → Code
  | .rangeFunc _ _ _ y => y
  | _ => .skip
end Go.Ab
end
section
set_option maxRecDepth 100000
namespace Go.Ab
def ann83 : Ann := { mu := [7] }
def ann84 : Ann := { mu := [7] }
def ann85 : Ann := { mu := [7] }
def ann45 : Ann := { heap := [21] }
def ann47 : Ann := { heap := [1] }
def ann86 : Ann := { heap := [2], mu := [11] }
def ann76 : Ann := { heap := [2, 3, 4, 5] }
def ann97 : Ann := { heap := [4, 5] }
def ann43 : Ann := { heap := [4, 5] }
def ann23 : Ann := { heap := [4, 5] }
def ann27 : Ann := { heap := [5, 6, 7] }
def ann74 : Ann := { heap := [1] }
def ann72 : Ann := { take := [57] }
def ann80 : Ann := { mu := [78] }
def ann105 : Ann := { mu := [38] }
def ann95 : Ann := { mu := [25], over := [60] }
def ann100 : Ann := { mu := [25], over := [60] }
def ann118 : Ann := { over := [31] }
def ann121 : Ann := { over := [31] }
def ann124 : Ann := { over := [31] }
def ann22 : Ann := { take := [35, 41] }
def pl18 : List (Nat × Plan) := [(6, .take 0 (.take 2 (.take 5 (.take 7 (.all [(1, .take 3 (.all [(4, .all [(6, .take 8 (.all [(9, .take 10 (.done))]))]), (6, .take 8 (.all [(4, .all [(9, .take 10 (.done))]), (9, .all [(4, .take 10 (.done))])]))])), (6, .take 8 (.all [(1, .take 3 (.all [(4, .all [(9, .take 10 (.done))]), (9, .all [(4, .take 10 (.done))])])), (9, .all [(1, .take 3 (.all [(4, .take 10 (.done))]))])]))])))))]
def pl33 : List (Nat × Plan) := [(6, .take 0 (.take 1 (.take 2 (.take 4 (.take 5 (.take 6 (.all [(3, .all [(7, .take 8 (.done))]), (7, .all [(3, .take 8 (.done))])])))))))]
def pl34 : List (Nat × Plan) := [(10, .take 1 (.take 2 (.take 3 (.take 4 (.all [(0, .take 6 (.all [(5, .all [(7, .take 8 (.all [(9, .done)]))]), (7, .all [(5, .take 8 (.all [(9, .done)]))])])), (5, .all [(0, .take 6 (.all [(7, .take 8 (.all [(9, .done)]))]))])]))))),
  (11, .take 0 (.take 1 (.take 2 (.all [(3, .all [(4, .all [(5, .all [(6, .take 7 (.done))])]), (5, .all [(4, .all [(6, .take 7 (.done))])])]), (4, .all [(3, .all [(5, .all [(6, .take 7 (.done))])])])]))))]
def pl35 : List (Nat × Plan) := [(6, .take 2 (.all [(0, .all [(1, .all [(3, .all [(4, .take 5 (.done))])]), (3, .all [(1, .all [(4, .take 5 (.done))])])]), (1, .all [(0, .all [(3, .all [(4, .take 5 (.done))])])])]))]
def pl42 : List (Nat × Plan) := [(6, .take 1 (.take 3 (.all [(0, .all [(2, .all [(4, .take 5 (.take 6 (.done)))]), (4, .all [(2, .take 5 (.take 6 (.done)))])]), (2, .all [(0, .all [(4, .take 5 (.take 6 (.done)))])])])))]
def pl45 : List (Nat × Plan) := [(3, .take 0 (.take 3 (.take 6 (.all [(1, .all [(2, .all [(4, .all [(5, .all [(7, .take 9 (.all [(8, .all [(10, .take 11 (.all [(12, .take 13 (.all [(14, .done)]))]))])]))]), (7, .take 9 (.all [(5, .all [(8, .all [(10, .take 11 (.all [(12, .take 13 (.all [(14, .done)]))]))])])]))]), (7, .all [(4, .take 9 (.all [(5, .all [(8, .all [(10, .take 11 (.all [(12, .take 13 (.all [(14, .done)]))]))])])]))])]), (4, .all [(2, .all [(5, .all [(7, .take 9 (.all [(8, .all [(10, .take 11 (.all [(12, .take 13 (.all [(14, .done)]))]))])]))]), (7, .take 9 (.all [(5, .all [(8, .all [(10, .take 11 (.all [(12, .take 13 (.all [(14, .done)]))]))])])]))]), (7, .all [(2, .take 9 (.all [(5, .all [(8, .all [(10, .take 11 (.all [(12, .take 13 (.all [(14, .done)]))]))])])]))])]), (7, .all [(2, .all [(4, .take 9 (.all [(5, .all [(8, .all [(10, .take 11 (.all [(12, .take 13 (.all [(14, .done)]))]))])])]))]), (4, .all [(2, .take 9 (.all [(5, .all [(8, .all [(10, .take 11 (.all [(12, .take 13 (.all [(14, .done)]))]))])])]))])])]), (4, .all [(1, .all [(2, .all [(5, .all [(7, .take 9 (.all [(8, .all [(10, .take 11 (.all [(12, .take 13 (.all [(14, .done)]))]))])]))]), (7, .take 9 (.all [(5, .all [(8, .all [(10, .take 11 (.all [(12, .take 13 (.all [(14, .done)]))]))])])]))]), (7, .all [(2, .take 9 (.all [(5, .all [(8, .all [(10, .take 11 (.all [(12, .take 13 (.all [(14, .done)]))]))])])]))])]), (7, .all [(1, .all [(2, .take 9 (.all [(5, .all [(8, .all [(10, .take 11 (.all [(12, .take 13 (.all [(14, .done)]))]))])])]))])])]), (7, .all [(1, .all [(2, .all [(4, .take 9 (.all [(5, .all [(8, .all [(10, .take 11 (.all [(12, .take 13 (.all [(14, .done)]))]))])])]))]), (4, .all [(2, .take 9 (.all [(5, .all [(8, .all [(10, .take 11 (.all [(12, .take 13 (.all [(14, .done)]))]))])])]))])]), (4, .all [(1, .all [(2, .take 9 (.all [(5, .all [(8, .all [(10, .take 11 (.all [(12, .take 13 (.all [(14, .done)]))]))])])]))])])])]))))]
def pl48 : List (Nat × Plan) := [(15, .take 0 (.take 1 (.take 2 (.take 3 (.take 5 (.take 6 (.take 10 (.all [(4, .take 7 (.take 8 (.all [(9, .all [(11, .take 12 (.take 13 (.take 14 (.take 16 (.take 17 (.take 21 (.all [(15, .take 18 (.take 19 (.all [(20, .all [(22, .take 23 (.take 24 (.take 25 (.take 27 (.take 28 (.take 32 (.all [(26, .take 29 (.take 30 (.all [(31, .all [(33, .take 34 (.take 35 (.take 36 (.take 37 (.done)))))]), (33, .all [(31, .take 34 (.take 35 (.take 36 (.take 37 (.done)))))])]))), (33, .all [(26, .take 29 (.take 30 (.all [(31, .take 34 (.take 35 (.take 36 (.take 37 (.done)))))])))])])))))))]), (22, .all [(20, .take 23 (.take 24 (.take 25 (.take 27 (.take 28 (.take 32 (.all [(26, .take 29 (.take 30 (.all [(31, .all [(33, .take 34 (.take 35 (.take 36 (.take 37 (.done)))))]), (33, .all [(31, .take 34 (.take 35 (.take 36 (.take 37 (.done)))))])]))), (33, .all [(26, .take 29 (.take 30 (.all [(31, .take 34 (.take 35 (.take 36 (.take 37 (.done)))))])))])])))))))])]))), (22, .all [(15, .take 18 (.take 19 (.all [(20, .take 23 (.take 24 (.take 25 (.take 27 (.take 28 (.take 32 (.all [(26, .take 29 (.take 30 (.all [(31, .all [(33, .take 34 (.take 35 (.take 36 (.take 37 (.done)))))]), (33, .all [(31, .take 34 (.take 35 (.take 36 (.take 37 (.done)))))])]))), (33, .all [(26, .take 29 (.take 30 (.all [(31, .take 34 (.take 35 (.take 36 (.take 37 (.done)))))])))])])))))))])))])])))))))]), (11, .all [(9, .take 12 (.take 13 (.take 14 (.take 16 (.take 17 (.take 21 (.all [(15, .take 18 (.take 19 (.all [(20, .all [(22, .take 23 (.take 24 (.take 25 (.take 27 (.take 28 (.take 32 (.all [(26, .take 29 (.take 30 (.all [(31, .all [(33, .take 34 (.take 35 (.take 36 (.take 37 (.done)))))]), (33, .all [(31, .take 34 (.take 35 (.take 36 (.take 37 (.done)))))])]))), (33, .all [(26, .take 29 (.take 30 (.all [(31, .take 34 (.take 35 (.take 36 (.take 37 (.done)))))])))])])))))))]), (22, .all [(20, .take 23 (.take 24 (.take 25 (.take 27 (.take 28 (.take 32 (.all [(26, .take 29 (.take 30 (.all [(31, .all [(33, .take 34 (.take 35 (.take 36 (.take 37 (.done)))))]), (33, .all [(31, .take 34 (.take 35 (.take 36 (.take 37 (.done)))))])]))), (33, .all [(26, .take 29 (.take 30 (.all [(31, .take 34 (.take 35 (.take 36 (.take 37 (.done)))))])))])])))))))])]))), (22, .all [(15, .take 18 (.take 19 (.all [(20, .take 23 (.take 24 (.take 25 (.take 27 (.take 28 (.take 32 (.all [(26, .take 29 (.take 30 (.all [(31, .all [(33, .take 34 (.take 35 (.take 36 (.take 37 (.done)))))]), (33, .all [(31, .take 34 (.take 35 (.take 36 (.take 37 (.done)))))])]))), (33, .all [(26, .take 29 (.take 30 (.all [(31, .take 34 (.take 35 (.take 36 (.take 37 (.done)))))])))])])))))))])))])])))))))])]))), (11, .all [(4, .take 7 (.take 8 (.all [(9, .take 12 (.take 13 (.take 14 (.take 16 (.take 17 (.take 21 (.all [(15, .take 18 (.take 19 (.all [(20, .all [(22, .take 23 (.take 24 (.take 25 (.take 27 (.take 28 (.take 32 (.all [(26, .take 29 (.take 30 (.all [(31, .all [(33, .take 34 (.take 35 (.take 36 (.take 37 (.done)))))]), (33, .all [(31, .take 34 (.take 35 (.take 36 (.take 37 (.done)))))])]))), (33, .all [(26, .take 29 (.take 30 (.all [(31, .take 34 (.take 35 (.take 36 (.take 37 (.done)))))])))])])))))))]), (22, .all [(20, .take 23 (.take 24 (.take 25 (.take 27 (.take 28 (.take 32 (.all [(26, .take 29 (.take 30 (.all [(31, .all [(33, .take 34 (.take 35 (.take 36 (.take 37 (.done)))))]), (33, .all [(31, .take 34 (.take 35 (.take 36 (.take 37 (.done)))))])]))), (33, .all [(26, .take 29 (.take 30 (.all [(31, .take 34 (.take 35 (.take 36 (.take 37 (.done)))))])))])])))))))])]))), (22, .all [(15, .take 18 (.take 19 (.all [(20, .take 23 (.take 24 (.take 25 (.take 27 (.take 28 (.take 32 (.all [(26, .take 29 (.take 30 (.all [(31, .all [(33, .take 34 (.take 35 (.take 36 (.take 37 (.done)))))]), (33, .all [(31, .take 34 (.take 35 (.take 36 (.take 37 (.done)))))])]))), (33, .all [(26, .take 29 (.take 30 (.all [(31, .take 34 (.take 35 (.take 36 (.take 37 (.done)))))])))])])))))))])))])])))))))])))])])))))))),
  (21, .take 1 (.all [(0, .all [(2, .all [(3, .take 4 (.take 5 (.take 6 (.all [(7, .take 8 (.take 9 (.take 10 (.take 11 (.all [(12, .take 13 (.take 14 (.take 15 (.take 16 (.take 18 (.all [(17, .all [(19, .take 20 (.take 21 (.take 22 (.take 23 (.all [(24, .all [(25, .take 26 (.take 27 (.take 28 (.take 29 (.take 30 (.take 31 (.take 32 (.take 34 (.take 35 (.all [(33, .take 36 (.all [(37, .all [(38, .all [(39, .take 40 (.take 41 (.take 42 (.done))))])]), (38, .all [(37, .all [(39, .take 40 (.take 41 (.take 42 (.done))))])])])), (38, .all [(33, .take 36 (.all [(37, .all [(39, .take 40 (.take 41 (.take 42 (.done))))])]))])]))))))))))])])))))]), (19, .all [(17, .take 20 (.take 21 (.take 22 (.take 23 (.all [(24, .all [(25, .take 26 (.take 27 (.take 28 (.take 29 (.take 30 (.take 31 (.take 32 (.take 34 (.take 35 (.all [(33, .take 36 (.all [(37, .all [(38, .all [(39, .take 40 (.take 41 (.take 42 (.done))))])]), (38, .all [(37, .all [(39, .take 40 (.take 41 (.take 42 (.done))))])])])), (38, .all [(33, .take 36 (.all [(37, .all [(39, .take 40 (.take 41 (.take 42 (.done))))])]))])]))))))))))])])))))])]))))))])))))]))))])]), (2, .all [(0, .all [(3, .take 4 (.take 5 (.take 6 (.all [(7, .take 8 (.take 9 (.take 10 (.take 11 (.all [(12, .take 13 (.take 14 (.take 15 (.take 16 (.take 18 (.all [(17, .all [(19, .take 20 (.take 21 (.take 22 (.take 23 (.all [(24, .all [(25, .take 26 (.take 27 (.take 28 (.take 29 (.take 30 (.take 31 (.take 32 (.take 34 (.take 35 (.all [(33, .take 36 (.all [(37, .all [(38, .all [(39, .take 40 (.take 41 (.take 42 (.done))))])]), (38, .all [(37, .all [(39, .take 40 (.take 41 (.take 42 (.done))))])])])), (38, .all [(33, .take 36 (.all [(37, .all [(39, .take 40 (.take 41 (.take 42 (.done))))])]))])]))))))))))])])))))]), (19, .all [(17, .take 20 (.take 21 (.take 22 (.take 23 (.all [(24, .all [(25, .take 26 (.take 27 (.take 28 (.take 29 (.take 30 (.take 31 (.take 32 (.take 34 (.take 35 (.all [(33, .take 36 (.all [(37, .all [(38, .all [(39, .take 40 (.take 41 (.take 42 (.done))))])]), (38, .all [(37, .all [(39, .take 40 (.take 41 (.take 42 (.done))))])])])), (38, .all [(33, .take 36 (.all [(37, .all [(39, .take 40 (.take 41 (.take 42 (.done))))])]))])]))))))))))])])))))])]))))))])))))]))))])])])),
  (26, .take 0 (.take 2 (.take 6 (.all [(1, .take 3 (.take 4 (.all [(5, .all [(7, .take 8 (.take 9 (.take 10 (.take 12 (.take 16 (.all [(11, .take 13 (.take 14 (.all [(15, .all [(17, .take 18 (.take 19 (.done)))]), (17, .all [(15, .take 18 (.take 19 (.done)))])]))), (17, .all [(11, .take 13 (.take 14 (.all [(15, .take 18 (.take 19 (.done)))])))])]))))))]), (7, .all [(5, .take 8 (.take 9 (.take 10 (.take 12 (.take 16 (.all [(11, .take 13 (.take 14 (.all [(15, .all [(17, .take 18 (.take 19 (.done)))]), (17, .all [(15, .take 18 (.take 19 (.done)))])]))), (17, .all [(11, .take 13 (.take 14 (.all [(15, .take 18 (.take 19 (.done)))])))])]))))))])]))), (7, .all [(1, .take 3 (.take 4 (.all [(5, .take 8 (.take 9 (.take 10 (.take 12 (.take 16 (.all [(11, .take 13 (.take 14 (.all [(15, .all [(17, .take 18 (.take 19 (.done)))]), (17, .all [(15, .take 18 (.take 19 (.done)))])]))), (17, .all [(11, .take 13 (.take 14 (.all [(15, .take 18 (.take 19 (.done)))])))])]))))))])))])]))))]
def pl50 : List (Nat × Plan) := [(6, .take 0 (.take 1 (.take 2 (.take 4 (.take 5 (.take 6 (.all [(3, .all [(7, .take 8 (.done))]), (7, .all [(3, .take 8 (.done))])])))))))]
def pl51 : List (Nat × Plan) := [(4, .take 0 (.take 1 (.take 2 (.take 3 (.take 4 (.take 6 (.take 7 (.take 8 (.all [(5, .all [(9, .all [(10, .take 11 (.done))])]), (9, .all [(5, .all [(10, .take 11 (.done))])])])))))))))]
def pl52 : List (Nat × Plan) := [(1, .take 0 (.take 2 (.take 5 (.take 7 (.all [(1, .all [(3, .all [(4, .all [(6, .all [(8, .all [(9, .all [(10, .all [(11, .take 12 (.done))])])])]), (8, .all [(6, .all [(9, .all [(10, .all [(11, .take 12 (.done))])])])])]), (6, .all [(4, .all [(8, .all [(9, .all [(10, .all [(11, .take 12 (.done))])])])]), (8, .all [(4, .all [(9, .all [(10, .all [(11, .take 12 (.done))])])])])]), (8, .all [(4, .all [(6, .all [(9, .all [(10, .all [(11, .take 12 (.done))])])])]), (6, .all [(4, .all [(9, .all [(10, .all [(11, .take 12 (.done))])])])])])]), (6, .all [(3, .all [(4, .all [(8, .all [(9, .all [(10, .all [(11, .take 12 (.done))])])])]), (8, .all [(4, .all [(9, .all [(10, .all [(11, .take 12 (.done))])])])])]), (8, .all [(3, .all [(4, .all [(9, .all [(10, .all [(11, .take 12 (.done))])])])])])]), (8, .all [(3, .all [(4, .all [(6, .all [(9, .all [(10, .all [(11, .take 12 (.done))])])])]), (6, .all [(4, .all [(9, .all [(10, .all [(11, .take 12 (.done))])])])])]), (6, .all [(3, .all [(4, .all [(9, .all [(10, .all [(11, .take 12 (.done))])])])])])])]), (3, .all [(1, .all [(4, .all [(6, .all [(8, .all [(9, .all [(10, .all [(11, .take 12 (.done))])])])]), (8, .all [(6, .all [(9, .all [(10, .all [(11, .take 12 (.done))])])])])]), (6, .all [(4, .all [(8, .all [(9, .all [(10, .all [(11, .take 12 (.done))])])])]), (8, .all [(4, .all [(9, .all [(10, .all [(11, .take 12 (.done))])])])])]), (8, .all [(4, .all [(6, .all [(9, .all [(10, .all [(11, .take 12 (.done))])])])]), (6, .all [(4, .all [(9, .all [(10, .all [(11, .take 12 (.done))])])])])])]), (6, .all [(1, .all [(4, .all [(8, .all [(9, .all [(10, .all [(11, .take 12 (.done))])])])]), (8, .all [(4, .all [(9, .all [(10, .all [(11, .take 12 (.done))])])])])]), (8, .all [(1, .all [(4, .all [(9, .all [(10, .all [(11, .take 12 (.done))])])])])])]), (8, .all [(1, .all [(4, .all [(6, .all [(9, .all [(10, .all [(11, .take 12 (.done))])])])]), (6, .all [(4, .all [(9, .all [(10, .all [(11, .take 12 (.done))])])])])]), (6, .all [(1, .all [(4, .all [(9, .all [(10, .all [(11, .take 12 (.done))])])])])])])]), (6, .all [(1, .all [(3, .all [(4, .all [(8, .all [(9, .all [(10, .all [(11, .take 12 (.done))])])])]), (8, .all [(4, .all [(9, .all [(10, .all [(11, .take 12 (.done))])])])])]), (8, .all [(3, .all [(4, .all [(9, .all [(10, .all [(11, .take 12 (.done))])])])])])]), (3, .all [(1, .all [(4, .all [(8, .all [(9, .all [(10, .all [(11, .take 12 (.done))])])])]), (8, .all [(4, .all [(9, .all [(10, .all [(11, .take 12 (.done))])])])])]), (8, .all [(1, .all [(4, .all [(9, .all [(10, .all [(11, .take 12 (.done))])])])])])]), (8, .all [(1, .all [(3, .all [(4, .all [(9, .all [(10, .all [(11, .take 12 (.done))])])])])]), (3, .all [(1, .all [(4, .all [(9, .all [(10, .all [(11, .take 12 (.done))])])])])])])]), (8, .all [(1, .all [(3, .all [(4, .all [(6, .all [(9, .all [(10, .all [(11, .take 12 (.done))])])])]), (6, .all [(4, .all [(9, .all [(10, .all [(11, .take 12 (.done))])])])])]), (6, .all [(3, .all [(4, .all [(9, .all [(10, .all [(11, .take 12 (.done))])])])])])]), (3, .all [(1, .all [(4, .all [(6, .all [(9, .all [(10, .all [(11, .take 12 (.done))])])])]), (6, .all [(4, .all [(9, .all [(10, .all [(11, .take 12 (.done))])])])])]), (6, .all [(1, .all [(4, .all [(9, .all [(10, .all [(11, .take 12 (.done))])])])])])]), (6, .all [(1, .all [(3, .all [(4, .all [(9, .all [(10, .all [(11, .take 12 (.done))])])])])]), (3, .all [(1, .all [(4, .all [(9, .all [(10, .all [(11, .take 12 (.done))])])])])])])])])))))]
def pl53 : List (Nat × Plan) := [(4, .take 0 (.take 1 (.take 2 (.take 3 (.take 4 (.take 6 (.take 7 (.take 8 (.all [(5, .all [(9, .all [(10, .take 11 (.done))])]), (9, .all [(5, .all [(10, .take 11 (.done))])])])))))))))]
-- too many orders: 2240 in function 54 region 1
def pl60 : List (Nat × Plan) := [(3, .take 0 (.take 1 (.take 2 (.take 3 (.take 5 (.take 6 (.all [(4, .all [(7, .all [(8, .take 9 (.take 10 (.take 11 (.take 12 (.take 13 (.done))))))])]), (7, .all [(4, .all [(8, .take 9 (.take 10 (.take 11 (.take 12 (.take 13 (.done))))))])])]))))))),
  (6, .take 0 (.take 1 (.take 2 (.take 3 (.take 4 (.take 6 (.take 7 (.take 8 (.all [(5, .all [(9, .all [(10, .all [(11, .take 12 (.take 13 (.take 14 (.all [(15, .done)]))))])])]), (9, .all [(5, .all [(10, .all [(11, .take 12 (.take 13 (.take 14 (.all [(15, .done)]))))])]), (10, .all [(5, .all [(11, .take 12 (.take 13 (.take 14 (.all [(15, .done)]))))])])])])))))))))]
def pl65 : List (Nat × Plan) := [(3, .take 0 (.take 1 (.take 2 (.take 3 (.take 5 (.take 6 (.all [(4, .all [(7, .all [(8, .take 9 (.take 10 (.take 11 (.take 12 (.take 13 (.done))))))])]), (7, .all [(4, .all [(8, .take 9 (.take 10 (.take 11 (.take 12 (.take 13 (.done))))))])])])))))))]
def pl67 : List (Nat × Plan) := [(9, .take 0 (.take 1 (.take 2 (.take 3 (.all [(4, .all [(5, .all [(6, .take 7 (.take 8 (.take 9 (.take 10 (.take 11 (.done))))))])]), (5, .all [(4, .all [(6, .take 7 (.take 8 (.take 9 (.take 10 (.take 11 (.done))))))])])]))))),
  (10, .take 0 (.take 1 (.take 2 (.take 3 (.take 4 (.take 6 (.all [(5, .all [(7, .all [(8, .all [(9, .take 10 (.take 11 (.take 12 (.all [(13, .done)]))))])])]), (7, .all [(5, .all [(8, .all [(9, .take 10 (.take 11 (.take 12 (.all [(13, .done)]))))])]), (8, .all [(5, .all [(9, .take 10 (.take 11 (.take 12 (.all [(13, .done)]))))])])])])))))))]
def pl72 : List (Nat × Plan) := [(5, .take 0 (.take 1 (.take 2 (.take 3 (.all [(4, .take 5 (.take 6 (.take 7 (.take 8 (.take 9 (.take 10 (.take 11 (.take 16 (.take 17 (.take 18 (.take 19 (.all [(12, .take 13 (.take 14 (.all [(15, .all [(20, .take 21 (.take 22 (.done)))]), (20, .all [(15, .take 21 (.take 22 (.done)))])]))), (20, .all [(12, .take 13 (.take 14 (.all [(15, .take 21 (.take 22 (.done)))])))])]))))))))))))])))))]
def pl80 : List (Nat × Plan) := [(7, .take 0 (.take 1 (.take 2 (.take 3 (.take 5 (.take 6 (.take 7 (.take 8 (.take 9 (.take 10 (.take 12 (.all [(4, .all [(11, .take 13 (.all [(14, .all [(15, .done)])])), (14, .all [(11, .take 13 (.all [(15, .done)]))])]), (11, .all [(4, .take 13 (.all [(14, .all [(15, .done)])])), (14, .all [(4, .take 13 (.all [(15, .done)]))])]), (14, .all [(4, .all [(11, .take 13 (.all [(15, .done)]))]), (11, .all [(4, .take 13 (.all [(15, .done)]))])])])))))))))))),
  (8, .take 0 (.take 1 (.take 2 (.take 3 (.take 4 (.all [(5, .all [(6, .all [(7, .all [(8, .take 9 (.take 10 (.take 11 (.all [(12, .done)]))))])])]), (6, .all [(5, .all [(7, .all [(8, .take 9 (.take 10 (.take 11 (.all [(12, .done)]))))])]), (7, .all [(5, .all [(8, .take 9 (.take 10 (.take 11 (.all [(12, .done)]))))])])])]))))))]
def pl82 : List (Nat × Plan) := [(5, .take 0 (.take 1 (.take 2 (.take 3 (.take 5 (.take 6 (.take 7 (.take 8 (.take 9 (.take 11 (.all [(4, .all [(10, .take 12 (.take 13 (.take 14 (.all [(15, .done)]))))]), (10, .take 12 (.all [(4, .take 13 (.take 14 (.all [(15, .done)])))]))])))))))))))]
def pl87 : List (Nat × Plan) := [(9, .take 0 (.all [(1, .all [(2, .take 3 (.take 4 (.take 5 (.all [(6, .take 7 (.take 8 (.take 9 (.take 10 (.take 12 (.all [(11, .all [(13, .all [(14, .all [(15, .take 16 (.take 17 (.take 18 (.take 19 (.take 20 (.all [(21, .take 22 (.take 23 (.done)))]))))))])])]), (13, .all [(11, .all [(14, .all [(15, .take 16 (.take 17 (.take 18 (.take 19 (.take 20 (.all [(21, .take 22 (.take 23 (.done)))]))))))])])])]))))))]))))]), (2, .take 3 (.take 4 (.take 5 (.all [(1, .all [(6, .take 7 (.take 8 (.take 9 (.take 10 (.take 12 (.all [(11, .all [(13, .all [(14, .all [(15, .take 16 (.take 17 (.take 18 (.take 19 (.take 20 (.all [(21, .take 22 (.take 23 (.done)))]))))))])])]), (13, .all [(11, .all [(14, .all [(15, .take 16 (.take 17 (.take 18 (.take 19 (.take 20 (.all [(21, .take 22 (.take 23 (.done)))]))))))])])])]))))))]), (6, .all [(1, .take 7 (.take 8 (.take 9 (.take 10 (.take 12 (.all [(11, .all [(13, .all [(14, .all [(15, .take 16 (.take 17 (.take 18 (.take 19 (.take 20 (.all [(21, .take 22 (.take 23 (.done)))]))))))])])]), (13, .all [(11, .all [(14, .all [(15, .take 16 (.take 17 (.take 18 (.take 19 (.take 20 (.all [(21, .take 22 (.take 23 (.done)))]))))))])])])]))))))])]))))]))]
def pl94 : List (Nat × Plan) := [(5, .take 0 (.take 1 (.take 2 (.take 3 (.all [(4, .all [(5, .all [(6, .take 7 (.done))])]), (5, .all [(4, .all [(6, .take 7 (.done))])])]))))),
  (8, .take 0 (.take 1 (.take 2 (.take 3 (.take 4 (.take 5 (.take 6 (.take 7 (.take 8 (.all [(9, .all [(10, .all [(11, .take 12 (.take 13 (.take 14 (.take 15 (.done)))))])]), (10, .all [(9, .all [(11, .take 12 (.take 13 (.take 14 (.take 15 (.done)))))])])]))))))))))]
def pl95 : List (Nat × Plan) := [(11, .take 0 (.take 1 (.take 2 (.take 3 (.take 4 (.take 5 (.take 6 (.take 7 (.all [(8, .done)]))))))))),
  (15, .take 0 (.take 1 (.take 2 (.take 3 (.take 4 (.take 5 (.take 6 (.take 7 (.all [(8, .done)])))))))))]
def pl96 : List (Nat × Plan) := [(2, .take 0 (.take 1 (.take 2 (.take 3 (.all [(4, .take 6 (.all [(5, .all [(7, .done)])])), (5, .all [(4, .take 6 (.all [(7, .done)]))])])))))]
def pl98 : List (Nat × Plan) := [(2, .take 0 (.take 1 (.take 2 (.take 3 (.all [(4, .take 6 (.all [(5, .all [(7, .done)])])), (5, .all [(4, .take 6 (.all [(7, .done)]))])])))))]
def pl99 : List (Nat × Plan) := [(5, .take 0 (.take 1 (.take 2 (.take 3 (.all [(4, .all [(5, .all [(6, .take 7 (.done))])]), (5, .all [(4, .all [(6, .take 7 (.done))])])]))))),
  (8, .take 0 (.take 1 (.take 2 (.take 3 (.take 4 (.take 5 (.take 6 (.take 7 (.take 8 (.all [(9, .all [(10, .all [(11, .take 12 (.take 13 (.take 14 (.take 15 (.done)))))])]), (10, .all [(9, .all [(11, .take 12 (.take 13 (.take 14 (.take 15 (.done)))))])])]))))))))))]
def pl100 : List (Nat × Plan) := [(11, .take 0 (.take 1 (.take 2 (.take 3 (.take 4 (.take 5 (.take 6 (.take 7 (.all [(8, .done)]))))))))),
  (15, .take 0 (.take 1 (.take 2 (.take 3 (.take 4 (.take 5 (.take 6 (.take 7 (.all [(8, .done)])))))))))]
def pl105 : List (Nat × Plan) := [(6, .take 0 (.take 1 (.take 2 (.take 3 (.take 4 (.all [(5, .all [(6, .all [(7, .all [(8, .take 9 (.take 10 (.take 11 (.all [(12, .done)]))))])])]), (6, .all [(5, .all [(7, .all [(8, .take 9 (.take 10 (.take 11 (.all [(12, .done)]))))])]), (7, .all [(5, .all [(8, .take 9 (.take 10 (.take 11 (.all [(12, .done)]))))])])])]))))))]
def pl113 : List (Nat × Plan) := [(2, .take 0 (.take 1 (.take 2 (.take 3 (.all [(4, .take 6 (.all [(5, .all [(7, .done)])])), (5, .all [(4, .take 6 (.all [(7, .done)]))])])))))]
def pl118 : List (Nat × Plan) := [(5, .take 0 (.take 1 (.take 2 (.take 3 (.take 4 (.take 5 (.all [(6, .take 7 (.done))])))))))]
def pl121 : List (Nat × Plan) := [(5, .take 0 (.take 1 (.take 2 (.take 3 (.take 4 (.take 5 (.all [(6, .take 7 (.done))])))))))]
def pl124 : List (Nat × Plan) := [(5, .take 0 (.take 1 (.take 2 (.take 3 (.take 4 (.take 5 (.all [(6, .take 7 (.done))])))))))]
end Go.Ab
end
