/-
  Copies, comparisons and marks of queues. (Conditions: the bounds of each theorem.)
-/
import Derived.Test.YthfpplpklhclgaaDequeI
namespace Go.Proofs.Ythfpplpklhclgaa
open Go.RowKit
set_option linter.unusedSimpArgs false
set_option linter.unusedVariables false

theorem row_box3x (w : World) (t : TypeId) (u v x : Value) (g : Nat) (hg : g = w.heap.size) : Row (w.alloc (.cells #[u, v, x] t)) g t 3 (f3 u v x) := by subst hg; exact row_box3 w t u v x
theorem Row.only3 {w w' : World} {g n lo hi : Nat} {t : TypeId} {f : Nat → Value} (h : Row w g t n f) (ho : Only lo hi w w') (hd : g < lo ∨ hi ≤ g) : Row w' g t n f := h.keep (ho.block g h.lt (by omega))
theorem Only.ofAlloc {lo hi : Nat} {w w' : World} {o : Obj} (h : Only lo hi (w.alloc o) w') : Only lo hi w w' :=
  ⟨h.os, h.tape, h.output, by have := h.size; simp only [World.size_alloc] at this; omega, fun k hk hn => (h.block k (by simp only [World.size_alloc]; omega) hn).trans (Below.heap_alloc w o k hk)⟩
theorem ints_below {w w' : World} {A : Option Addr} {zs : List Int} (h : Ints w A zs) (hb : Below w.heap.size w w') : Ints w' A zs := h.below hb
theorem Ints.alloc {w : World} {A : Option Addr} {zs : List Int} (h : Ints w A zs) (o : Obj) : Ints (w.alloc o) A zs := h.below ((Below.refl _ _).alloc (Nat.le_refl _) o)
theorem Own.far {lo hi : Nat} {w : World} {A : Option Addr} {zs : List Int} (h : Own lo hi w A zs) {p : Addr} (hp : p.block < lo) (u : Value) : Own lo hi (w.setCell p u) A zs :=
  h.keep fun k hk h1 h2 => Below.heap_setCell w p u k (by rintro rfl; omega)
theorem Ints.drew {w : World} {A : Option Addr} {zs : List Int} (h : Ints w A zs) : Ints w.drew A zs := h
/-- What a call leaves that makes a queue: slots of its own, two numbers. -/
def MadeD (w : World) (zs : List Int) (a b : Int) (e : Ending) (w' : World) : Prop := ∃ (A : Option Addr) (cap : Nat), e = .returned (.agg #[.slice A zs.length cap, .int .i64 a, .int .i64 b]) ∧ zs.length ≤ cap ∧ Own w.heap.size w'.heap.size w' A zs ∧ Below w.heap.size w w'
set_option maxHeartbeats 1000000 in
theorem toDeque_c (zs : List Int) (A : Option Addr) (n cap : Nat) (a b : Int) (w : World) (h : Ints w A zs) (hn : zs.length = n) (hm : n ≤ 1000000000000) :
    Calls Try.prog 10 #[.agg #[.slice A n cap, .int .i64 a, .int .i64 b]] w (MadeD w zs a b) := by
  subst hn
  have HI := Lib.hid h
  clear h
  go_enter Try.func10, Try.ntmps10
  go_wp2_with fail
  refine (toIntS_c zs _ _ _ _ (HI.out.below (by go_grown)) rfl hm).mono ?_
  rintro e w1 ⟨A1, c1, rfl, hc, ho, hb⟩
  have R1 := (show Row w1 w.heap.size 24 3 (f3 (.slice A zs.length cap) (.int .i64 a) (.int .i64 b)) from Row.back (by (repeat (first | ((with_reducible refine row_box3x _ _ _ _ _ _ ?_) <;> (go_size; done)) | (with_reducible refine Row.alloc ?_ _) | (with_reducible refine Row.drew ?_)))) hb)
  have R2 := (show Row w1 (w.heap.size + 1) 27 3 (f3 (.slice none 0 0) (.int .i64 0) (.int .i64 0)) from Row.back (by (repeat (first | ((with_reducible refine row_box3x _ _ _ _ _ _ ?_) <;> (go_size; done)) | (with_reducible refine Row.alloc ?_ _) | (with_reducible refine Row.drew ?_)))) hb)
  have R3 := (show Row w1 (w.heap.size + 1 + 1) 27 3 (f3 (.slice none 0 0) (.int .i64 0) (.int .i64 0)) from Row.back (by (repeat (first | ((with_reducible refine row_box3x _ _ _ _ _ _ ?_) <;> (go_size; done)) | (with_reducible refine Row.alloc ?_ _) | (with_reducible refine Row.drew ?_)))) hb)
  obtain ⟨a0, a1, a2⟩ := cells3 R1
  obtain ⟨b0, b1, b2⟩ := cells3 R2
  obtain ⟨d0, d1, d2⟩ := cells3 R3
  have e0 := R2.free 0
  have e1 := R2.free 1
  have e2 := R2.free 2
  have f0 := R3.free 0
  have f1 := R3.free 1
  have f2 := R3.free 2
  have hz := hb.size
  simp only [World.size_alloc] at hz
  have HO := Lib.hid (show Own w.heap.size w1.heap.size w1 A1 zs from ho.more (by simp only [World.size_alloc]; omega) (Nat.le_refl _))
  have HS := Lib.hid (show Own (w.heap.size + 1 + 1 + 1) w1.heap.size w1 A1 zs from ho.more (by simp only [World.size_alloc]; omega) (Nat.le_refl _))
  have HB := Lib.hid (show Below w.heap.size w w1 from below_then (by go_grown) hb)
  clear R1 R2 R3 hb ho
  go_wp2
  refine bodyPost_ret (by simp [results, Try.results10, go_sem, *]; try rfl) rfl ?_
  refine ⟨A1, c1, rfl, hc, ?_, by have hhh := HB.out; go_grown⟩
  refine Own.more (lo := w.heap.size + 1 + 1 + 1) (hi := w1.heap.size) ?_ (by omega) (by simp [World.setCell])
  repeat (first | (with_reducible exact HS.out) | (with_reducible refine Own.far ?_ (by simp only []; omega) _))
set_option maxHeartbeats 1000000 in
theorem eqDeque_c (zs : List Int) (A B : Option Addr) (n ca m cb : Nat) (a b : Int) (w : World) (ha : Ints w A zs) (hb : Ints w B zs) (hn : zs.length = n) (hm : zs.length = m) (hz : zs.length ≤ 1000000000000) :
    Calls Try.prog 12 #[.agg #[.slice A n ca, .int .i64 a, .int .i64 b], .agg #[.slice B m cb, .int .i64 a, .int .i64 b]] w fun e w' => e = .returned (.bool true) ∧ Below w.heap.size w w' := by
  have HA := Lib.hid ha
  have HC := Lib.hid hb
  clear ha hb
  go_enter Try.func12, Try.ntmps12
  go_wp2_with fail
  refine (eqIntS_c zs _ _ _ _ _ _ _ (HA.out.below (by go_grown)) (HC.out.below (by go_grown)) hn hm hz).mono ?_
  rintro e w1 ⟨rfl, hb, hsz⟩
  have R1 := (show Row w1 w.heap.size 27 3 (f3 (.slice A n ca) (.int .i64 a) (.int .i64 b)) from Row.back (by (repeat (first | ((with_reducible refine row_box3x _ _ _ _ _ _ ?_) <;> (go_size; done)) | (with_reducible refine Row.alloc ?_ _) | (with_reducible refine Row.drew ?_)))) hb)
  have R2 := (show Row w1 (w.heap.size + 1) 27 3 (f3 (.slice B m cb) (.int .i64 a) (.int .i64 b)) from Row.back (by (repeat (first | ((with_reducible refine row_box3x _ _ _ _ _ _ ?_) <;> (go_size; done)) | (with_reducible refine Row.alloc ?_ _) | (with_reducible refine Row.drew ?_)))) hb)
  obtain ⟨a0, a1, a2⟩ := cells3 R1
  obtain ⟨b0, b1, b2⟩ := cells3 R2
  have HB := Lib.hid (show Below w.heap.size w w1 from below_then (by go_grown) hb)
  clear R1 R2 hb hsz
  go_wp2
  go_ret
  exact ⟨rfl, HB.out⟩
theorem markDeque_c (lo hi : Nat) (zs : List Int) (A : Option Addr) (n cap : Nat) (a b : Int) (q : Int) (w : World) (h : Own lo hi w A zs) (hn : zs.length = n) (hm : n ≤ 1000000000000) (q0 : 0 ≤ q) (q1 : q ≤ 1000000000000) :
    Calls Try.prog 16 #[.agg #[.slice A n cap, .int .i64 a, .int .i64 b], .int .i64 q] w fun e w' => e = .returned (.int .i64 (q + (n : Int))) ∧ Own lo hi w' A (upFrom q n) ∧ Only lo hi w w' := by
  have HO := Lib.hid h
  clear h
  go_enter Try.func16, Try.ntmps16
  go_wp2_with fail
  refine (markIntS_c lo hi zs _ _ _ _ _ (HO.out.below (by go_grown)) hn hm q0 q1).mono ?_
  rintro e w1 ⟨rfl, ho, hon, hsz⟩
  have H1 := Lib.hid ho
  have H2 := Lib.hid hon.ofAlloc
  clear ho hon hsz
  go_wp2
  go_ret
  exact ⟨rfl, H1.out, H2.out⟩
theorem heldDeque_c (A : Option Addr) (n cap : Nat) (a b : Int) (q : Int) (w : World) (h : Ints w A (upFrom q n)) (hm : n ≤ 1000000000000) (q0 : 0 ≤ q) (q1 : q ≤ 1000000000000) :
    Calls Try.prog 21 #[.agg #[.slice A n cap, .int .i64 a, .int .i64 b], .int .i64 q] w fun e w' => e = .returned (.int .i64 (q + (n : Int))) ∧ w.alloc (.cells #[.slice A n cap, .int .i64 a, .int .i64 b] 27) = w' := by
  have HO := Lib.hid h
  clear h
  go_enter Try.func21, Try.ntmps21
  go_wp2_with (first | (go_at_call 18; refine (heldIntS_c _ _ _ _ _ (HO.out.below (by go_grown)) hm q0 q1).mono ?_; rintro e w1 ⟨rfl, rfl⟩))
  go_ret
  exact ⟨rfl, rfl⟩
end Go.Proofs.Ythfpplpklhclgaa
