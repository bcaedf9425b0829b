/- The law MutantsScripts, reckoned for each number of eight bits. -/
import Derived.Test.YtadledfjejokfaaGreatDoorMaz
set_option maxRecDepth 4000

namespace Go.Ev
open Go.RowKit
open Go.Proofs
open Go.Proofs.YtadledfjejokfaaGreatDoor (Glob)
noncomputable def closedTrueA (P : Program) (O : Orc) (f : FuncId) (a : V) : Bool := C.rec (motive := fun _ => Bool) (fun _ => false) (fun v _ _ => sameV (.b true) v) (fun _ _ _ => false) (callN P O 3000 60 (.f (.func f) .nil .nil) a h0 c0)
theorem law_ofA {O : Orc} (hO : ∀ f g, O f = some g → OrcOk Tryz.prog f g) {f : FuncId} {fn : Func} (hf : Tryz.prog.funcs[f]? = some fn) (hb : fn.body.isSome = true) {a : V} (ha : (wf (S0 Tryz.prog.globals.size) a).s) (ht : closedTrueA Tryz.prog O f a = true) {w : World} (h1 : Glob w) (h2 : Sizes w) :
 Calls Tryz.prog f (lsv L0 a).toArray w fun e w' => e = .returned (.bool true) ∧ Below w.heap.size w w' := by
 obtain ⟨cd, hb⟩ := Option.isSome_iff_exists.1 hb
 cases hc : callN Tryz.prog O 3000 60 (.f (.func f) .nil .nil) a h0 c0 with
 | ret v h' c' =>
   unfold closedTrueA at ht
   rw [hc] at ht
   have hv : V.b true = v := sameV_eq _ _ ht
   subst hv
   obtain ⟨r1, r2⟩ := rel_mem (memG_is h1 h2)
   exact (calls_of_eval namesOk hO hf hb r1 (by rw [globs]; decide) r2 ha hc).mono fun e w' ⟨⟨L', S', h3, _⟩, h4⟩ => ⟨h3, h4⟩
 | bad _ => unfold closedTrueA at ht; rw [hc] at ht; cases ht
 | panic _ _ _ => unfold closedTrueA at ht; rw [hc] at ht; cases ht
noncomputable def allFrom (P : Program) (O : Orc) (f : FuncId) (a k : Nat) : Bool := Nat.rec (motive := fun _ => Bool) true (fun j ih => Bool.rec false ih (closedTrueA P O f (.cons (.i 4 (Nat.add a j)) .nil))) k
theorem allFrom_at {P : Program} {O : Orc} {f : FuncId} {a : Nat} : ∀ k : Nat, allFrom P O f a k = true → ∀ n, a ≤ n → n < a + k → closedTrueA P O f (.cons (.i 4 n) .nil) = true
 | 0, _, n, h1, h2 => absurd h2 (by omega)
 | k + 1, h, n, h1, h2 => by
   have e0 : allFrom P O f a (k + 1) = (Bool.rec false (allFrom P O f a k) (closedTrueA P O f (.cons (.i 4 (Nat.add a k)) .nil)) : Bool) := rfl
   rw [e0] at h
   cases hz : closedTrueA P O f (.cons (.i 4 (Nat.add a k)) .nil)
   · rw [hz] at h; cases h
   · rw [hz] at h
     by_cases hn : n = a + k
     · subst hn; exact hz
     · exact allFrom_at k h n h1 (by omega)
theorem from0 : allFrom Tryz.prog (pick oMaLAST) 3 0 1 = true := by kernel_rfl
theorem from1 : allFrom Tryz.prog (pick oMaLAST) 3 1 1 = true := by kernel_rfl
theorem from2 : allFrom Tryz.prog (pick oMaLAST) 3 2 1 = true := by kernel_rfl
theorem from3 : allFrom Tryz.prog (pick oMaLAST) 3 3 1 = true := by kernel_rfl
theorem from4 : allFrom Tryz.prog (pick oMaLAST) 3 4 1 = true := by kernel_rfl
theorem from5 : allFrom Tryz.prog (pick oMaLAST) 3 5 1 = true := by kernel_rfl
theorem from6 : allFrom Tryz.prog (pick oMaLAST) 3 6 50 = true := by kernel_rfl
theorem from56 : allFrom Tryz.prog (pick oMaLAST) 3 56 50 = true := by kernel_rfl
theorem from106 : allFrom Tryz.prog (pick oMaLAST) 3 106 50 = true := by kernel_rfl
theorem from156 : allFrom Tryz.prog (pick oMaLAST) 3 156 50 = true := by kernel_rfl
theorem from206 : allFrom Tryz.prog (pick oMaLAST) 3 206 50 = true := by kernel_rfl
theorem all256 (n : Nat) (hn : n < 256) : closedTrueA Tryz.prog (pick oMaLAST) 3 (.cons (.i 4 n) .nil) = true := by
 by_cases h0 : n < 1
 · exact allFrom_at _ from0 n (by omega) (by omega)
 by_cases h1 : n < 2
 · exact allFrom_at _ from1 n (by omega) (by omega)
 by_cases h2 : n < 3
 · exact allFrom_at _ from2 n (by omega) (by omega)
 by_cases h3 : n < 4
 · exact allFrom_at _ from3 n (by omega) (by omega)
 by_cases h4 : n < 5
 · exact allFrom_at _ from4 n (by omega) (by omega)
 by_cases h5 : n < 6
 · exact allFrom_at _ from5 n (by omega) (by omega)
 by_cases h6 : n < 56
 · exact allFrom_at _ from6 n (by omega) (by omega)
 by_cases h56 : n < 106
 · exact allFrom_at _ from56 n (by omega) (by omega)
 by_cases h106 : n < 156
 · exact allFrom_at _ from106 n (by omega) (by omega)
 by_cases h156 : n < 206
 · exact allFrom_at _ from156 n (by omega) (by omega)
 exact allFrom_at _ from206 n (by omega) (by omega)
end Go.Ev
