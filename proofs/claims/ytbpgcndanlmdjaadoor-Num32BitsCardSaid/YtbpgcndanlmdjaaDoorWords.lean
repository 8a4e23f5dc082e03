/-
  WORDS THAT THE LAWS OF THIS SEAT SHARE: the small functions num, wakes, ok; what is known of a list of pairs that came in. No condition.
-/
import Derived.Test.YtbpgcndanlmdjaaDoorBinAny
import Derived.Test.YtbpgcndanlmdjaaDoorRefAny
import Derived.ProofKit
import Derived.OpenShut
import Derived.ChangeOld
import Derived.Below
import Derived.Deep.Slices
import Derived.Deep.Fields
import Derived.ChangeSame
namespace Go.Proofs.YtbpgcndanlmdjaaDoor
open Go.RowKit Go.ChangeShapes Go.WideShapes Go.ChangeAt Go.Deep
set_option maxHeartbeats 400000 in
theorem num_any (e : Int) (w : World) : Calls Tryd.prog 8 #[.int .i64 e] w fun r w' => r = .returned (.int .i64 e) ∧ w = w' := by
  go_enter Tryd.func8, Tryd.ntmps8
  go_wp2
  go_ret
  exact ⟨rfl, rfl⟩
set_option maxHeartbeats 400000 in
theorem wakes_any (w : World) : Calls Tryd.prog 9 #[] w fun r w' => r = .returned (.bool true) ∧ Below w.heap.size w w' := by
  go_enter Tryd.func9, Tryd.ntmps9
  go_wp2_with (go_at_call 10; refine (bin_10 2 3 ⟨by decide, by decide⟩ ⟨by decide, by decide⟩ _).mono ?_; rw [show val 10 2 3 = 5 by decide]; rintro e w' ⟨rfl, hb⟩)
  go_wp2
  go_ret
  exact ⟨rfl, by assumption⟩
structure TwoAt (w : World) (b off : Nat) (x y o : Int) : Prop where
  ca : w.cell? ⟨b, off, none⟩ = some (.int .u32 x)
  cb : w.cell? ⟨b, off + 1, none⟩ = some (.int .u32 y)
  co : w.cell? ⟨b, off + 2, none⟩ = some (.int .i64 o)
  ia : Is x
  ib : Is y
/-- the list of pairs that came in: len of them from a cell on. -/
def Twos (w : World) (b off len : Nat) (A B O : Nat → Int) : Prop := b < w.heap.size ∧ len ≤ 9223372036854775807 ∧ ∀ i, i < len → TwoAt w b (off + i * 3) (A i) (B i) (O i)
theorem re_ro (op : Int) : (place op = none ∧ re op = 100 ∧ ro op = false) ∨ (re op = 0 ∧ ro op = true) := by
  unfold re ro
  cases place op with
  | none => exact .inl ⟨rfl, rfl, rfl⟩
  | some k => exact .inr ⟨rfl, rfl⟩

theorem laidOut : laidOutB Tryd.prog = true := by kernel_rfl
theorem is_of_wf {x : Int} (h : (Lit.int .u32 x).wf = true) : Is x := by
  have h0 : IntKind.u32.min = 0 := rfl
  have h1 : IntKind.u32.max = 4294967295 := rfl
  simp only [Lit.wf, Bool.and_eq_true, decide_eq_true_eq, h0, h1] at h
  exact ⟨h.1, by omega⟩
theorem add_none (b off k : Nat) : (⟨b, off, none⟩ : Addr).add k = ⟨b, off + k, none⟩ := by
  unfold Addr.add
  split <;> simp_all
theorem lt_of_cell {w : World} {a : Addr} {v : Value} (h : w.cell? a = some v) : a.block < w.heap.size := by
  rcases Nat.lt_or_ge a.block w.heap.size with hlt | hge
  · exact hlt
  · exfalso
    have e : w.heap[a.block]? = none := Array.getElem?_eq_none hge
    unfold World.cell? at h
    simp [e] at h
section
variable {H : Type} {enc : TypeId × Value → H} {w : World} {base : Nat} {spare : Nat → Bool} {held : Bool}
theorem open_twos {d : DataW H} {p : List MemPlace} {a0 : Option Addr} {len cap : Nat}
    (h : DataW.Trod enc Tryd.prog w base spare held 22 (.slice a0 len cap) d p) :
    len = 0 ∨ ∃ b off, a0 = some ⟨b, off, none⟩ ∧ ∃ A B O, Twos w b off len A B O := by
  obtain ⟨fuel, hf⟩ := h
  rcases open_slice Tryd.underlying22 hf with ⟨hcs, _⟩ | ⟨a, len', cap', m, n, D, Pl, hcs, hb, hl, hm, hmm, hx, hi⟩
  · simp [Value.cells] at hcs
    exact .inl hcs.2.1
  · simp [Value.cells] at hcs
    obtain ⟨rfl, rfl, rfl⟩ := hcs
    by_cases h0 : len = 0
    · exact .inl h0
    · have hml : len ≤ m := by rw [hmm]; split <;> omega
      have cell : ∀ i, i < len → ∃ x y o, w.cell? (a.add (i * 3)) = some (.int .u32 x) ∧ w.cell? (a.add (i * 3 + 1)) = some (.int .u32 y) ∧ w.cell? (a.add (i * 3 + 2)) = some (.int .i64 o) ∧ Is x ∧ Is y := by
        intro i hil
        obtain ⟨cs', hc, ht'⟩ := hi i (by omega)
        rw [show Tryd.prog.cellsOf 25 = 3 by kernel_rfl] at hc
        obtain ⟨ys, n', hn', hy, hlen, hyl, hf⟩ := DataW.trod_struct Tryd.underlying25 ht'
        obtain ⟨_, hcl, hat⟩ := World.cells?_some hc
        obtain ⟨c0, c1, c2, rfl⟩ : ∃ c0 c1 c2, cs' = [c0, c1, c2] := by
          match cs', hcl with
          | [c0, c1, c2], _ => exact ⟨c0, c1, c2, rfl⟩
        have ku : Tryd.prog.cellsOf 23 = 1 := by kernel_rfl
        have ki : Tryd.prog.cellsOf 3 = 1 := by kernel_rfl
        have f0 : DataW.trod enc Tryd.prog w base spare held n' 23 [c0] = ys[0]? := by simpa [ku] using hf 0 _ rfl
        have f1 : DataW.trod enc Tryd.prog w base spare held n' 23 [c1] = ys[1]? := by simpa [ku] using hf 1 _ rfl
        have f2 : DataW.trod enc Tryd.prog w base spare held n' 3 [c2] = ys[2]? := by simpa [ki] using hf 2 _ rfl
        have hy3 : ys.length = 3 := hyl
        have y0 : ys[0]? = some (ys[0]'(by omega)) := List.getElem?_eq_getElem (by omega)
        have y1 : ys[1]? = some (ys[1]'(by omega)) := List.getElem?_eq_getElem (by omega)
        have y2 : ys[2]? = some (ys[2]'(by omega)) := List.getElem?_eq_getElem (by omega)
        obtain ⟨x, ex, _, wx⟩ := DataW.trod_int Tryd.underlying23 (f0.trans y0)
        obtain ⟨y, ey, _, wy⟩ := DataW.trod_int Tryd.underlying23 (f1.trans y1)
        obtain ⟨o, eo, _, _⟩ := DataW.trod_int Tryd.underlying3 (f2.trans y2)
        simp only [List.cons.injEq, and_true] at ex ey eo
        subst ex ey eo
        refine ⟨x, y, o, ?_, ?_, ?_, is_of_wf wx, is_of_wf wy⟩
        · have h0 := hat 0 (by omega)
          rw [Go.Deep.add_add] at h0
          exact h0
        · have h0 := hat 1 (by omega)
          rw [Go.Deep.add_add] at h0
          exact h0
        · have h0 := hat 2 (by omega)
          rw [Go.Deep.add_add] at h0
          exact h0
      obtain ⟨b, off, spot⟩ := a
      obtain ⟨x0, y0, o0, hc0, _⟩ := cell 0 (by omega)
      have hspot : spot = none := by simpa [Addr.add] using World.cell?_spot hc0
      subst hspot
      have hlt : b < w.heap.size := lt_of_cell hc0
      have two : ∀ i, i < len → ∃ x y o, TwoAt w b (off + i * 3) x y o := by
        intro i hi
        obtain ⟨x, y, o, h0, h1, h2, hx, hy⟩ := cell i hi
        rw [add_none] at h0 h1 h2
        exact ⟨x, y, o, h0, by rw [Nat.add_assoc]; exact h1, by rw [Nat.add_assoc]; exact h2, hx, hy⟩
      refine .inr ⟨b, off, rfl, fun i => if h : i < len then (two i h).choose else 0, fun i => if h : i < len then (two i h).choose_spec.choose else 0, fun i => if h : i < len then (two i h).choose_spec.choose_spec.choose else 0, hlt, by unfold maxLen at hm; omega, fun i hi => ?_⟩
      simp only [dif_pos hi]
      exact (two i hi).choose_spec.choose_spec.choose_spec
end

end Go.Proofs.YtbpgcndanlmdjaaDoor
