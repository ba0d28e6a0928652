/-
  Comparisons and marks of frames. (Conditions: the bounds of each theorem.)
-/
import Derived.Test.YtjfbbieacpnpkaaFrame
namespace Go.Proofs.Ytjfbbieacpnpkaa
open Go.RowKit
set_option linter.unusedSimpArgs false
set_option linter.unusedVariables false

def f3 (u v x : Value) : Nat → Value := fun i => match i with | 0 => u | 1 => v | _ => x
theorem row_box3x (w : World) (t : TypeId) (u v x : Value) (g : Nat) (hg : g = w.heap.size) : Row (w.alloc (.cells #[u, v, x] t)) g t 3 (f3 u v x) := by
  subst hg; exact ⟨_, heap_alloc_new w _, fun i hi => by match i, hi with | 0, _ => rfl | 1, _ => rfl | 2, _ => rfl⟩
theorem Row.drew {w : World} {g n : Nat} {t : TypeId} {f : Nat → Value} (h : Row w g t n f) : Row w.drew g t n f := h
theorem Row.back {W w1 : World} {g n : Nat} {t : TypeId} {f : Nat → Value} (h : Row W g t n f) (hb : Below W.heap.size W w1) : Row w1 g t n f := h.keep (hb.block g h.lt)
theorem cells3 {w : World} {g : Nat} {t : TypeId} {u v x : Value} (h : Row w g t 3 (f3 u v x)) : w.cell? ⟨g, 0, none⟩ = some u ∧ w.cell? ⟨g, 1, none⟩ = some v ∧ w.cell? ⟨g, 2, none⟩ = some x :=
  ⟨h.cell (by omega), h.cell (by omega), h.cell (by omega)⟩
theorem Row.only3 {w w' : World} {g n lo hi : Nat} {t : TypeId} {f : Nat → Value} (h : Row w g t n f) (ho : Only lo hi w w') (hd : g < lo ∨ hi ≤ g) : Row w' g t n f := h.keep (ho.block g h.lt (by omega))
theorem Only.ofAlloc {lo hi : Nat} {w w' : World} {o : Obj} (h : Only lo hi (w.alloc o) w') : Only lo hi w w' :=
  ⟨h.os, h.tape, h.output, by have := h.size; simp only [World.size_alloc] at this; omega, fun k hk hn => (h.block k (by simp only [World.size_alloc]; omega) hn).trans (Below.heap_alloc w o k hk)⟩
theorem eqFrame_c (zs : List Int) (n : Nat) (A B : Option Addr) (ca cb : Nat) (p q : Int) (w : World) (ha : Ints w A zs) (hb : Ints w B zs) (hl : zs.length = 4 * n) (hz : n ≤ 1000000000000) :
    Calls Try.prog 28 #[.agg #[.int .i64 p, .int .i64 q, .slice A n ca], .agg #[.int .i64 p, .int .i64 q, .slice B n cb]] w fun e w' => e = .returned (.bool true) ∧ Below w.heap.size w w' := by
  have HA := Lib.hid ha
  have HC := Lib.hid hb
  clear ha hb
  go_enter Try.func28, Try.ntmps28
  go_wp2_with fail
  refine (eqColorS_c zs n _ _ _ _ _ _ _ (HA.out.below (by go_grown)) (HC.out.below (by go_grown)) hl rfl rfl hz).mono ?_
  rintro e w1 ⟨rfl, hb⟩
  have HB := Lib.hid (show Below w.heap.size w w1 from below_then (by go_grown) hb)
  clear hb
  go_wp2
  go_ret
  exact ⟨rfl, HB.out⟩
theorem markFrame_c (lo hi : Nat) (zs : List Int) (A : Option Addr) (n cap : Nat) (p q : Int) (m : Int) (w : World) (h : OwnT 69 lo hi w A zs) (hn : zs.length = 4 * n) (hm : n ≤ 1000000000000) (q0 : 0 ≤ m) (q1 : m ≤ 1000000000000) :
    Calls Try.prog 29 #[.agg #[.int .i64 p, .int .i64 q, .slice A n cap], .int .i64 m] w fun e w' => e = .returned (.int .i64 (m + 4 * (n : Int))) ∧ OwnT 69 lo hi w' A (upFrom m (4 * n)) ∧ Only lo hi w w' := by
  have HO := Lib.hid h
  clear h
  go_enter Try.func29, Try.ntmps29
  go_wp2_with fail
  refine (markColorS_c lo hi zs _ _ _ _ _ (HO.out.below (by go_grown)) hn hm q0 q1).mono ?_
  rintro e w1 ⟨rfl, ho, hon, hsz⟩
  have H1 := Lib.hid ho
  have H2 := Lib.hid hon.ofAlloc
  clear ho hon hsz
  go_wp2
  go_ret
  exact ⟨rfl, H1.out, H2.out⟩
theorem heldFrame_c (A : Option Addr) (n cap : Nat) (p q : Int) (m : Int) (w : World) (h : Ints w A (upFrom m (4 * n))) (hm : n ≤ 1000000000000) (q0 : 0 ≤ m) (q1 : m ≤ 1000000000000) :
    Calls Try.prog 30 #[.agg #[.int .i64 p, .int .i64 q, .slice A n cap], .int .i64 m] w fun e w' => e = .returned (.int .i64 (m + 4 * (n : Int))) ∧ w.alloc (.cells #[.int .i64 p, .int .i64 q, .slice A n cap] 42) = w' := by
  have HO := Lib.hid h
  clear h
  go_enter Try.func30, Try.ntmps30
  go_wp2_with (first | (go_at_call 48; refine (heldColorS_c _ _ _ _ _ (HO.out.below (by go_grown)) hm q0 q1).mono ?_; rintro e w1 ⟨rfl, rfl⟩))
  go_ret
  exact ⟨rfl, rfl⟩
end Go.Proofs.Ytjfbbieacpnpkaa
