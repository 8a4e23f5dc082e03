/-
  A MAP LITERAL KEYED BY ints, JUST MADE: what a store of a key that is not there does, and what asking does. No condition.
-/
import Derived.WalkKit
import Derived.Carry
import Derived.ChangeMaps4
namespace Go.Proofs.YtbpgcndanlmdjaaDoor
open Go.RowKit Go.ChangeMaps Go.WideMaps Go.MapKept Go.ChangeShapes Go.WideShapes
open Go.ChangeMaps (setBlock)
theorem setBlock_new (w : World) (o o' : Obj) : setBlock (w.alloc o) w.heap.size o' = w.alloc o' := by
  show ({ w with heap := (w.heap.push o).setIfInBounds w.heap.size o' } : World) = { w with heap := w.heap.push o' }
  congr 1
  apply Array.ext_getElem?
  intro i
  rw [Array.getElem?_setIfInBounds, Array.getElem?_push, Array.getElem?_push]
  by_cases h : w.heap.size = i
  · subst h
    simp
  · rw [if_neg h]
    by_cases h2 : i = w.heap.size
    · exact absurd h2.symm h
    · rw [if_neg h2, if_neg h2]
theorem run_ins {P : Program} {t k e : TypeId} (ht : P.underlying t = some (.map k e)) (hk : P.underlying k = some (.int .i64)) (w : World) (es : Array MapEntry) (clock : Nat) (n : Int) (v : Value)
    (h1 : Instr.findNow (.int .i64) (.int .i64 n) es.toList 0 = some none) :
    (Instr.mapUpdate t (.map (some w.heap.size)) (.int .i64 n) v).run P (w.alloc (.map es clock)) = .ok () (w.alloc (.map (es.push ⟨.int .i64 n, v, clock⟩) (clock + 1))) := by
  have hb : (w.alloc (.map es clock)).heap[w.heap.size]? = some (.map es clock) := heap_alloc_new w _
  have hkey : IsKey (.int .i64) (.int .i64 n) := rfl
  rw [← setBlock_new w (.map es clock) (.map (es.push ⟨.int .i64 n, v, clock⟩) (clock + 1))]
  simp [Instr.mapUpdate, run_underlying ht, MapKept.run_getObj_map hb, run_checkKey hk hkey, run_findKey hk h1, MapKept.run_setObj_map _ hb, Result.andThen, setBlock]
theorem run_ask {P : Program} {t k e : TypeId} (ht : P.underlying t = some (.map k e)) (hk : P.underlying k = some (.int .i64)) (w : World) (r : Nat) (es : Array MapEntry) (clock : Nat) (n : Int) (v : Value) (i : Nat)
    (hb : w.heap[r]? = some (.map es clock)) (h1 : Instr.findNow (.int .i64) (.int .i64 n) es.toList 0 = some (some (i, v))) :
    (Instr.lookup t (.map (some r)) (.int .i64 n) false).run P w = .ok v w := by
  have hkey : IsKey (.int .i64) (.int .i64 n) := rfl
  simp [Instr.lookup, run_underlying ht, MapKept.run_getObj_map hb, run_checkKey hk hkey, run_findKey hk h1, Result.andThen]
theorem run_ask_none {P : Program} {t k e : TypeId} (ht : P.underlying t = some (.map k e)) (hk : P.underlying k = some (.int .i64)) (w : World) (r : Nat) (es : Array MapEntry) (clock : Nat) (n : Int) (z : Value)
    (hz : (zeroValue e).run P w = .ok z w) (hb : w.heap[r]? = some (.map es clock)) (h1 : Instr.findNow (.int .i64) (.int .i64 n) es.toList 0 = some none) :
    (Instr.lookup t (.map (some r)) (.int .i64 n) false).run P w = .ok z w := by
  have hkey : IsKey (.int .i64) (.int .i64 n) := rfl
  simp [Instr.lookup, run_underlying ht, MapKept.run_getObj_map hb, run_checkKey hk hkey, run_findKey hk h1, Result.andThen, hz]
end Go.Proofs.YtbpgcndanlmdjaaDoor
