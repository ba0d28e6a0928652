/-
  The color of stops at a place: where they are valid, where they are not.
-/
import Derived.Test.YtkihbfohdennjaaStopCA
namespace Go.Proofs.Ytkihbfohdennjaa
open Go.RowKit
set_option linter.unusedSimpArgs false
set_option linter.unusedVariables false

theorem StopColor_iT {zs : List Int} {n : Nat} (hv : stopsB zs n = true) (A : Option Addr) (cap : Nat) (t : Int) (w : World) (h : Ints w A zs) (hn : zs.length = 5 * n) (hc0 : n ≤ cap) (hcm : cap ≤ maxLen) (hm : n ≤ 1000000000000) (p : Nat) (hp : Place zs n t p) :
    Calls Try.prog 15 #[.slice A n cap, .int .i64 t] w fun e w' => e = .returned (.agg #[.int .i64 (vC (sR zs) zs n p t), .int .i64 (vC (sG zs) zs n p t), .int .i64 (vC (sB zs) zs n p t), .int .i64 (vC (sA zs) zs n p t)]) ∧ Below w.heap.size w w' := by
  have h1 := StopColor_i zs A n cap t w h hn hc0 hcm hm p hp
  simpa only [ssel, hv, if_true, Bool.false_eq_true, if_false] using h1
theorem StopColor_iF {zs : List Int} {n : Nat} (hv : stopsB zs n = false) (A : Option Addr) (cap : Nat) (t : Int) (w : World) (h : Ints w A zs) (hn : zs.length = 5 * n) (hc0 : n ≤ cap) (hcm : cap ≤ maxLen) (hm : n ≤ 1000000000000) (p : Nat) (hp : Place zs n t p) :
    Calls Try.prog 15 #[.slice A n cap, .int .i64 t] w fun e w' => e = .returned (.agg #[.int .i64 0, .int .i64 0, .int .i64 0, .int .i64 0]) ∧ Below w.heap.size w w' := by
  have h1 := StopColor_i zs A n cap t w h hn hc0 hcm hm p hp
  simpa only [ssel, hv, if_true, Bool.false_eq_true, if_false] using h1
theorem StopColor_sT {zs : List Int} {n : Nat} (hv : stopsB zs n = true) (A : Option Addr) (cap : Nat) (t : Int) (w : World) (h : Ints w A zs) (hn : zs.length = 5 * n) (hc0 : n ≤ cap) (hcm : cap ≤ maxLen) (hm : n ≤ 1000000000000) (p : Nat) (hp : Place zs n t p) :
    Calls Try.prog 14 #[.slice A n cap, .int .i64 t] w fun e w' => e = .returned (.agg #[.int .i64 (vC (sR zs) zs n p t), .int .i64 (vC (sG zs) zs n p t), .int .i64 (vC (sB zs) zs n p t), .int .i64 (vC (sA zs) zs n p t)]) ∧ Below w.heap.size w w' := by
  have h1 := StopColor_s zs A n cap t w h hn hc0 hcm hm p hp
  simpa only [ssel, hv, if_true, Bool.false_eq_true, if_false] using h1
theorem StopColor_sF {zs : List Int} {n : Nat} (hv : stopsB zs n = false) (A : Option Addr) (cap : Nat) (t : Int) (w : World) (h : Ints w A zs) (hn : zs.length = 5 * n) (hc0 : n ≤ cap) (hcm : cap ≤ maxLen) (hm : n ≤ 1000000000000) (p : Nat) (hp : Place zs n t p) :
    Calls Try.prog 14 #[.slice A n cap, .int .i64 t] w fun e w' => e = .returned (.agg #[.int .i64 0, .int .i64 0, .int .i64 0, .int .i64 0]) ∧ Below w.heap.size w w' := by
  have h1 := StopColor_s zs A n cap t w h hn hc0 hcm hm p hp
  simpa only [ssel, hv, if_true, Bool.false_eq_true, if_false] using h1
theorem ValidStops_iT {zs : List Int} {n : Nat} (hv : stopsB zs n = true) (A : Option Addr) (cap : Nat) (w : World) (h : Ints w A zs) (hn : zs.length = 5 * n) (hm : n ≤ 1000000000000) :
    Calls Try.prog 12 #[.slice A n cap] w fun e w' => e = .returned (.bool true) ∧ Below w.heap.size w w' := by
  have h1 := ValidStops_i zs A n cap w h hn hm
  rwa [hv] at h1
theorem ValidStops_iF {zs : List Int} {n : Nat} (hv : stopsB zs n = false) (A : Option Addr) (cap : Nat) (w : World) (h : Ints w A zs) (hn : zs.length = 5 * n) (hm : n ≤ 1000000000000) :
    Calls Try.prog 12 #[.slice A n cap] w fun e w' => e = .returned (.bool false) ∧ Below w.heap.size w w' := by
  have h1 := ValidStops_i zs A n cap w h hn hm
  rwa [hv] at h1
end Go.Proofs.Ytkihbfohdennjaa
