/-
  PROVED: 'gangwaylaw4.Num64Low' answers true at every list of pairs and leaves it as it was (below 2^32 sums, products and bits end as those of 32 bits do; extended and cut a number is itself). No condition.
-/
import Derived.Test.YtmkpaifcgjldbaaWords
import Derived.Test.YtmkpaifcgjldbaaConv
import Derived.Test.YtmkpaifcgjldbaaRefB
import Derived.Deep.QuietTactic
import Derived.BigQuiet
namespace Go.Proofs.Ytmkpaifcgjldbaa.lawLow
open Go.ChangeShapes Go.WideShapes Go.ChangeAt Go.RowKit

open W32 (six sixOp six_any)
theorem below_drewN {B : Nat} {a w : World} (h : Below B a w) (n : Nat) : Below B a (w.drewN n) := ⟨h.os, h.tape, h.output, h.size, h.block⟩
theorem lit {op : Int} (k : Nat) (hp : place op = some k) (h : ¬ (13 ≤ k ∧ k ≤ 16)) (a b : Int) : re op = 0 ∧ rt op a b = 0 ∧ rv op a b = val k a b := by
  have ht : trap k a b = 0 := by unfold trap; rw [if_neg h]
  refine ⟨by unfold re; rw [hp], by unfold rt; rw [hp]; exact ht, ?_⟩
  unfold rv
  rw [hp]
  simp [ht]
theorem place_six {j : Nat} (hj : j < 6) : place (sixOp j + 18) = some (six j) ∧ ¬ (13 ≤ six j ∧ six j ≤ 16) := by
  have hh : j = 0 ∨ j = 1 ∨ j = 2 ∨ j = 3 ∨ j = 4 ∨ j = 5 := by omega
  rcases hh with rfl | rfl | rfl | rfl | rfl | rfl <;> decide
theorem sixOp_bd (j : Nat) : 0 ≤ sixOp j ∧ sixOp j ≤ 200 := by
  unfold sixOp
  match j with
  | 0 => decide
  | 1 => decide
  | 2 => decide
  | 3 => decide
  | 4 => decide
  | 5 => decide
  | j + 6 => simp
/-- below 2^32 the six end alike. -/
theorem six_same {j : Nat} (hj : j < 6) {a b : Int} (hA : W32.Is a) (hB : W32.Is b) : lowv (val (six j) a b) = W32.val (six j) a b := by
  obtain ⟨a0, a1⟩ := hA
  obtain ⟨b0, b1⟩ := hB
  have hh : j = 0 ∨ j = 1 ∨ j = 2 ∨ j = 3 ∨ j = 4 ∨ j = 5 := by omega
  rcases hh with rfl | rfl | rfl | rfl | rfl | rfl
  · show (a + b) % 18446744073709551616 % 4294967296 = (a + b) % 4294967296
    omega
  · show (a - b) % 18446744073709551616 % 4294967296 = (a - b) % 4294967296
    omega
  · show (a * b) % 18446744073709551616 % 4294967296 = (a * b) % 4294967296
    omega
  · have := W32.and_nat_lt (x := a.toNat) (y := b.toNat) (by omega)
    show ((a.toNat &&& b.toNat : Nat) : Int) % 4294967296 = ((a.toNat &&& b.toNat : Nat) : Int)
    omega
  · have := W32.or_nat_lt (x := a.toNat) (y := b.toNat) (by omega) (by omega)
    show ((a.toNat ||| b.toNat : Nat) : Int) % 4294967296 = ((a.toNat ||| b.toNat : Nat) : Int)
    omega
  · have := W32.xor_nat_lt (x := a.toNat) (y := b.toNat) (by omega) (by omega)
    show ((a.toNat ^^^ b.toNat : Nat) : Int) % 4294967296 = ((a.toNat ^^^ b.toNat : Nat) : Int)
    omega
theorem low_low {a : Int} (h : W32.Is a) : lowv a = a ∧ lowv (lowSv a) = a ∧ (lowSv a / 4294967296 = 0 ∨ lowSv a / 4294967296 = 4294967295) := by
  obtain ⟨a0, a1⟩ := h
  unfold lowv lowSv wrap32
  omega
theorem is_of_32 {a : Int} (h : W32.Is a) : Is a := ⟨h.1, Int.lt_of_lt_of_le h.2 (by decide)⟩
theorem is_lowS (a : Int) : Is (lowSv a) := by unfold lowSv; exact ⟨by omega, by omega⟩
theorem is_cut {a : Int} (h : Is a) : W32.Is (bits .and .u64 a 4294967295) := by
  rw [low_eq h]
  unfold lowv
  exact ⟨by omega, by omega⟩
theorem bin_six {j : Nat} (hj : j < 6) (a b : Int) (hA : Is a) (hB : Is b) (w : World) :
    Calls Try.prog 10 #[.int .i64 (sixOp j + 18), .int .u64 a, .int .u64 b] w fun e w' => e = .returned (.tuple #[.int .u64 (val (six j) a b), .int .i64 0, .int .i64 0]) ∧ Below w.heap.size w w' := by
  obtain ⟨hp, hk⟩ := place_six hj
  obtain ⟨h1, h2, h3⟩ := lit (six j) hp hk a b
  have := bin_any (sixOp j + 18) a b hA hB w
  rw [h1, h2, h3] at this
  exact this
def St (w W : World) (g : Nat) : Prop := Below w.heap.size w W ∧ g < W.heap.size ∧ ∀ j, j < 6 → W.cell? ⟨g, j, none⟩ = some (.int .i64 (sixOp j + 18))
theorem st_start {w W : World} (h : Below w.heap.size w W) (n : Nat) : St w ((W.drewN n).alloc (.cells #[.int .i64 124, .int .i64 125, .int .i64 126, .int .i64 131, .int .i64 132, .int .i64 133] 3)) W.heap.size := by
  refine ⟨(below_drewN h n).alloc h.size _, by simp, fun j hj => ?_⟩
  have hh : j = 0 ∨ j = 1 ∨ j = 2 ∨ j = 3 ∨ j = 4 ∨ j = 5 := by omega
  have hc := cells_at (w := (W.drewN n).alloc (.cells #[.int .i64 124, .int .i64 125, .int .i64 126, .int .i64 131, .int .i64 132, .int .i64 133] 3)) (b := W.heap.size) (t := 3) (Array.getElem?_push_size ..)
  rcases hh with rfl | rfl | rfl | rfl | rfl | rfl <;> exact hc _ _ rfl
theorem St.step {w W W' : World} {g : Nat} (h : St w W g) (hb : Below W.heap.size W W') : St w W' g :=
  ⟨h.1.trans (hb.mono h.1.size), Nat.lt_of_lt_of_le h.2.1 hb.size, fun j hj => (hb.cell (p := ⟨g, j, none⟩) h.2.1).trans (h.2.2 j hj)⟩
set_option maxRecDepth 100000 in
set_option maxHeartbeats 400000 in
theorem walk_none (a : Option Addr) (cap : Nat) (w : World) : Calls Try.prog 9 #[.slice a 0 cap] w fun r w' => r = .returned (.bool true) ∧ Below w.heap.size w w' := by
  go_enter Try.func9, Try.ntmps9
  go_wp2
  refine wp_loop_rounds 1 ?_; rw [rounds_succ]
  go_wp2_with (go_at_call 13; refine (wakes_any w).mono ?_; rintro e w' ⟨rfl, hb⟩)
  go_ret
  exact ⟨rfl, by assumption⟩

set_option maxRecDepth 100000 in
set_option maxHeartbeats 4000000 in
theorem walk (b off len cap : Nat) (X Y O : Nat → Int) (w : World) (h : Twos w b off len X Y O) : Calls Try.prog 9 #[.slice (some ⟨b, off, none⟩) len cap] w fun r w' => r = .returned (.bool true) ∧ Below w.heap.size w w' := by
  obtain ⟨hbs, hlen, hc⟩ := h
  go_enter Try.func9, Try.ntmps9
  go_wp2
  go_loopw [3] (fun i wr => ∃ k : Nat, k ≤ len ∧ k ≤ 30 ∧ i = .int .i64 k ∧ Below w.heap.size w wr) (fun i _ => 30 - (intOf i).toNat)
  case atStart => exact ⟨0, by omega, by omega, rfl, Below.refl _ _⟩
  case round =>
    obtain ⟨k, hk, hk30, rfl, hb⟩ := hrel
    have HB := Lib.hid hb
    by_cases hlt : k < len ∧ k < 30
    · obtain ⟨hl, h30⟩ := hlt
      obtain ⟨ca, cb, co, ia, ib⟩ := hc k hl
      have ca' := (hb.cell (p := ⟨b, off + k * 3, none⟩) hbs).trans ca
      have cb' := (hb.cell (p := ⟨b, off + k * 3 + 1, none⟩) hbs).trans cb
      have hk0 : (0 : Int) ≤ (k : Int) := by omega
      have hkl : (k : Int) < (len : Int) := by omega
      have h30b : decide ((k : Int) < 30) = true := by simp; omega
      have iX := is_cut ia
      have iY := is_cut ib
      clear hc hb ca cb co
      obtain ⟨wo, rfl⟩ : ∃ wo : World, wo = wr := ⟨_, rfl⟩
      go_wp2
      go_quiet (fail)
      clear ca' cb'
      obtain ⟨x, hx⟩ : ∃ x, bits .and .u64 (X k) 4294967295 = x := ⟨_, rfl⟩
      obtain ⟨y, hy⟩ : ∃ y, bits .and .u64 (Y k) 4294967295 = y := ⟨_, rfl⟩
      rw [hx] at iX
      rw [hy] at iY
      simp only [hx, hy]
      clear hx hy ia ib
      have jx := is_of_32 iX
      have jy := is_of_32 iY
      have x0 := iX.1
      have x1 := iX.2
      have y0 := iY.1
      have y1 := iY.2
      go_wp2
      have HS : Hid (St w ((wo.drewN nq).alloc (.cells #[.int .i64 124, .int .i64 125, .int .i64 126, .int .i64 131, .int .i64 132, .int .i64 133] 3)) wo.heap.size) := Lib.hid (st_start HB.out nq)
      go_loopw [7] (fun q wr => ∃ j : Nat, j ≤ 6 ∧ q = .int .i64 j ∧ St w wr wo.heap.size) (fun q _ => 6 - (intOf q).toNat)
      case atStart => exact ⟨0, by omega, rfl, HS.out⟩
      case round =>
        obtain ⟨j, hj6, rfl, hst⟩ := hrel
        replace HS := Lib.hid hst
        have hg := hst.2.1
        by_cases hj : j < 6
        · have cj := hst.2.2 j hj
          have hbd := sixOp_bd j
          obtain ⟨hb0, hb1⟩ := hbd
          have HE := Lib.hid (six_same hj iX iY)
          have iv := W32.val_bd (six j) iX.1 iX.2 iY.1 iY.2 (by have := (place_six hj).2; omega)
          obtain ⟨iv0, iv1⟩ := iv
          have iV : Is (val (six j) x y) := val_bd (six j) jx.1 jx.2 jy.1 jy.2 (by have := (place_six hj).2; omega)
          clear hst
          go_wp2_with fail
          refine (bin_six hj x y jx jy _).mono ?_
          rintro e w1 ⟨rfl, hb1⟩
          replace HS := Lib.hid (HS.out.step hb1)
          clear cj hb1
          go_wp2_with fail
          refine (conv_167 _ _ iV).mono ?_
          rintro e w2 ⟨rfl, hb2⟩
          replace HS := Lib.hid (HS.out.step hb2)
          have cj := HS.out.2.2 j hj
          have hg2 := HS.out.2.1
          clear hb2
          go_wp2_with fail
          refine (six_any j hj x y iX iY _).mono ?_
          rintro e w3 ⟨rfl, rfl⟩
          have he := HE.out
          go_wp2_with (go_at_call 12; refine (num_any _ _).mono ?_; rintro e w' ⟨rfl, rfl⟩)
          go_roundw
          case rel => exact ⟨j + 1, by omega, by go_num, HS.out⟩
          case measure => simp [intOf]; omega
        · have hje : j = 6 := by omega
          subst hje
          replace HB := Lib.hid HS.out.1
          have HL := Lib.hid (low_low iX)
          clear hst hg
          go_wp2_with fail
          refine (conv_172 x _).mono ?_
          rintro e w4 ⟨rfl, hb4⟩
          replace HB := Lib.hid (HB.out.trans (hb4.mono HB.out.size))
          clear hb4
          go_wp2_with fail
          refine (conv_167 _ _ (is_lowS x)).mono ?_
          rintro e w5 ⟨rfl, hb5⟩
          replace HB := Lib.hid (HB.out.trans (hb5.mono HB.out.size))
          clear hb5
          go_wp2_with fail
          refine (conv_173 x _ jx).mono ?_
          rintro e w6 ⟨rfl, hb6⟩
          replace HB := Lib.hid (HB.out.trans (hb6.mono HB.out.size))
          clear hb6
          obtain ⟨l1, l2, l3⟩ := HL.out
          rcases l3 with l3 | l3
          all_goals
            go_wp2_with (go_at_call 12; refine (num_any _ _).mono ?_; rintro e w' ⟨rfl, rfl⟩)
            go_roundw
            case rel => exact ⟨k + 1, by omega, by omega, by go_num, HB.out⟩
            case measure => simp [intOf]; omega
    · have ht : ¬ k < len ∨ (k < len ∧ ¬ k < 30) := by omega
      clear hc hb hlt
      rcases ht with h1 | ⟨h1, h2⟩
      all_goals
        go_wp2_with fail
        refine (wakes_any wr).mono ?_
        rintro e w' ⟨rfl, hb2⟩
        have HB2 := Lib.hid (HB.out.trans (hb2.mono HB.out.size))
        clear hb2
        go_wp2
        go_ret
        exact ⟨rfl, HB2.out⟩

/-! THE ROW's STEP -/
set_option maxRecDepth 100000 in
theorem lifted (os : Os) (started : os.Started) (H : Type) (enc : TypeId × Value → H) :
    ReturnsInHanded {} Try.checked os 9 .any (Rows.num64LowSpec.pre6 enc Try.prog Try.f9 Rows.num64LowRow.domain false) (Rows.num64LowSpec.post enc Try.prog Try.f9 false true false false) := by
  refine returnsInHanded_of_change (C := Try.checked) (by kernel_rfl) started (by kernel_rfl) Try.func9
    (ChangeSpec.witness6 (enc := enc) (C := Try.checked) false ⟨#[], #[.slice none 0 0], []⟩ 8 (by kernel_rfl) (by kernel_rfl) (by kernel_rfl) (by kernel_rfl)) ?_
  intro W base args ds gs before hval0 hW hcnd _
  have hval : ∀ (j : Nat) t v, Try.f9.params[j]? = some t → args[j]? = some v → Value.okWide Try.prog W .any base t v := hval0
  have hW' := hW
  obtain ⟨p, q, hA0, hV, rfl, hfz, hnd⟩ := hW
  have hA : DataW.TrodAll enc Try.prog W 0 (fun _ => true) true Try.f9.params.toList args.toList ds p := hA0
  rw [Try.params9] at hA hval
  obtain ⟨v0, vs0, d0, ds0, p0, q0, hargs, rfl, rfl, h0, r0⟩ := trodAll_cons hA
  obtain ⟨rfl, rfl, rfl⟩ := trodAll_nil r0
  obtain rfl : args = #[v0] := by cases args; simp_all
  obtain ⟨rfl, rfl⟩ := trodVars_none hV
  obtain ⟨a0, len0, cap0, rfl⟩ := okWide_slice Try.underlying22 (hval 0 22 v0 rfl rfl)
  have k0 := h0
  have lt0 : ∀ x ∈ p0, x.block < W.heap.size := by obtain ⟨m, hm⟩ := k0; exact DataW.trod_lt m _ _ _ hm
  have hopen := open_twos h0
  have walked : Calls Try.prog 9 #[.slice a0 len0 cap0] W fun r w' => r = .returned (.bool true) ∧ Below W.heap.size W w' := by
    rcases hopen with rfl | ⟨b, off, rfl, X, Y, O, hT⟩
    · exact walk_none a0 cap0 W
    · exact walk b off len0 cap0 X Y O W hT
  clear hA0 hval0
  refine walked.mono fun e W' ⟨he, bel⟩ => ?_
  subst he
  exact ⟨_, rfl, _, _, _, [], _, [], hW', trodAll_mk1 (shut_bool Try.underlying4 _), (trodAll_cons_mk (Below.trod laidOut (by kernel_rfl) (of_decide_eq_true (by kernel_rfl)) k0 bel lt0) trodAll_mk0), rfl, bel.frame _, fun h => by cases h⟩

theorem over : Rows.num64LowRow.holds Try.pinned (OpenSpec.ofChange Rows.num64LowSpec) :=
  OpenClaim.holds_of_wide 9 Try.f9 rfl rfl rfl rfl rfl rfl rfl ⟨rfl, rfl, rfl, rfl, rfl⟩ rfl rfl rfl rfl rfl (by kernel_rfl) Try.func9 (by kernel_rfl)
    (of_decide_eq_true (by kernel_rfl)) (by unfold Func.isWrapper; first | (rw [if_pos (by decide +kernel)]; kernel_rfl) | (rw [if_neg (by decide +kernel)]; exact ⟨rfl, rfl⟩))
    (fun os started H enc _ => lifted os started H enc)

/-- THE STATEMENT -/
theorem proved : Rows.Num64LowSaid := over
#print axioms proved

end Go.Proofs.Ytmkpaifcgjldbaa.lawLow
