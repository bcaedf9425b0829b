/- The reference's constants. -/
import Derived.Test.YtbkpgmlibiclfaaGreatDoorShD
import Derived.Deep.CutRange
import Derived.Deep.DeepCutAuto
import Derived.Laws.Tables
namespace Go.Proofs.YtbkpgmlibiclfaaGreatDoor
open Go.RowKit

def cells32 (l : List W) : List Value := l.map fun x => .int .u32 (wv x)
theorem cells32_one (l : List W) : (cells32 l).toArray.all (·.oneCell') = true := by
  simp [cells32, Value.oneCell']
def kWords : List W := kTab.map (BitVec.ofNat 32)
def S8.cells (s : S8) : List Value := cells32 s.list
def zeros32 (n : Nat) : List Value := List.replicate n (.int .u32 0)

/-- A value put together is this one. -/
theorem wpList_build_is {P : Program} {ops : Array Oper} {rest : List Oper} {o : Oper} {a : Act} {w : World} {Q : Exit → Act → World → Prop} (hg : o.guard = none) (t : TypeId) (parts : Array (Nat × Operand)) (ho : o.op = .build t parts)
    (cells : Array Value) (hf : P.built t (parts.map fun (i, x) => (i, a.eval x)).toList = some cells)
    (h : wpList P ops Q rest (a.put o.dst (.agg cells)) w) : wpList P ops Q (o :: rest) a w :=
  wpList_build hg t parts ho (by rw [hf]; rfl) (by rw [hf]; exact h)
theorem Row.store {P : Program} {ops : Array Oper} {rest : List Oper} {o : Oper} {a : Act} {w : World} {Q : Exit → Act → World → Prop} {g : Nat} {t : TypeId} {L M : List Value} (hrow : Row w g t L) (hgd : o.guard = none) (ty : TypeId) (x y : Operand) (ho : o.op = .store ty x y)
    (hx : a.eval x = .pointer (some ⟨g, 0, none⟩)) (hy : a.eval y = .agg M.toArray) (hi : (P.info? ty).map (·.size) = some M.length) (hl : L.length = M.length) (h1 : M.toArray.all (·.oneCell') = true)
    (h : ∀ w', w' = w.setRow g M.toArray → Row w' g t M → wpList P ops Q rest (a.put o.dst undef) w') : wpList P ops Q (o :: rest) a w :=
  wpList_store_row hgd ty x y ho g M.toArray hx hy t L.toArray hrow (by simpa using hi) (by simpa using hl) h1 (h _ rfl hrow.set)

end Go.Proofs.YtbkpgmlibiclfaaGreatDoor
