/-
  The color of whatever slice of stops at a place. (Conditions: the bounds of each theorem.)
-/
import Derived.Test.YtkihbfohdennjaaStopCI
namespace Go.Proofs.Ytkihbfohdennjaa
open Go.RowKit
set_option linter.unusedSimpArgs false
set_option linter.unusedVariables false

attribute [local go_sem ↓] Go.wp_at_zero Go.wp_at_succ
def ssel (v : Bool) (x : Int) : Int := if v = true then x else 0
set_option maxHeartbeats 1000000 in
theorem StopColor_i (zs : List Int) (A : Option Addr) (n cap : Nat) (t : Int) (w : World) (h : Ints w A zs) (hn : zs.length = 5 * n) (hc0 : n ≤ cap) (hcm : cap ≤ maxLen) (hm : n ≤ 1000000000000) (p : Nat) (hp : Place zs n t p) :
    Calls Try.prog 15 #[.slice A n cap, .int .i64 t] w fun e w' => e = .returned (.agg #[.int .i64 (ssel (stopsB zs n) (vC (sR zs) zs n p t)), .int .i64 (ssel (stopsB zs n) (vC (sG zs) zs n p t)), .int .i64 (ssel (stopsB zs n) (vC (sB zs) zs n p t)), .int .i64 (ssel (stopsB zs n) (vC (sA zs) zs n p t))]) ∧ Below w.heap.size w w' := by
  have HI := Lib.hid h
  have HP := Lib.hid hp
  have HCM := Lib.hid hcm
  clear h hp hcm
  cases hv : stopsB zs n
  all_goals
    go_enter Try.func15, Try.ntmps15
    go_wp2_with fail
    refine (ValidStops_i zs _ _ _ _ (HI.out.below (by go_grown)) hn hm).mono ?_
    rintro e w1 ⟨rfl, hb⟩
    have rr := (show Row w1 w.heap.size 30 4 (fun _ => .int .i64 0) from Row.back (row_zero4 _ _) hb)
    have HR := Lib.hid rr
    obtain ⟨⟨x0, x1, x2, x3⟩, y0, y1, y2, y3⟩ := zero_cells rr
    have HB := Lib.hid (show Below w.heap.size w w1 from below_then (by go_grown) hb)
    have HI1 := Lib.hid (HI.out.below HB.out)
    have hlr := rr.lt
    rw [hv]
    clear hb rr
  · go_wp2
    refine bodyPost_ret (by simp [results, Try.results15, go_sem, *]; try rfl) rfl ?_
    exact ⟨rfl, by have hhh := HB.out; go_grown⟩
  · have HV := Lib.hid (stops_ok hv)
    clear hv
    go_wp2_with fail
    refine (stopColor_i zs _ _ _ _ _ HI1.out hn hc0 HCM.out HV.out p HP.out).mono ?_
    rintro e w2 ⟨rfl, hb⟩
    have rr := HR.out.back hb
    obtain ⟨⟨u0, u1, u2, u3⟩, v0, v1, v2, v3⟩ := zero_cells rr
    have HB2 := Lib.hid (show Below w.heap.size w w2 from below_then HB.out hb)
    have hlr2 := rr.lt
    clear hb rr x0 x1 x2 x3 y0 y1 y2 y3
    go_wp2
    refine bodyPost_ret (by simp [results, Try.results15, go_sem, *]; try rfl) rfl ?_
    exact ⟨rfl, by have hhh := HB2.out; go_grown⟩
set_option maxHeartbeats 1000000 in
theorem StopColor_s (zs : List Int) (A : Option Addr) (n cap : Nat) (t : Int) (w : World) (h : Ints w A zs) (hn : zs.length = 5 * n) (hc0 : n ≤ cap) (hcm : cap ≤ maxLen) (hm : n ≤ 1000000000000) (p : Nat) (hp : Place zs n t p) :
    Calls Try.prog 14 #[.slice A n cap, .int .i64 t] w fun e w' => e = .returned (.agg #[.int .i64 (ssel (stopsB zs n) (vC (sR zs) zs n p t)), .int .i64 (ssel (stopsB zs n) (vC (sG zs) zs n p t)), .int .i64 (ssel (stopsB zs n) (vC (sB zs) zs n p t)), .int .i64 (ssel (stopsB zs n) (vC (sA zs) zs n p t))]) ∧ Below w.heap.size w w' := by
  have HI := Lib.hid h
  have HP := Lib.hid hp
  have HCM := Lib.hid hcm
  clear h hp hcm
  cases hv : stopsB zs n
  all_goals
    go_enter Try.func14, Try.ntmps14
    go_wp2_with fail
    refine (validStops_s zs _ _ _ _ (HI.out.below (by go_grown)) hn hm).mono ?_
    rintro e w1 ⟨rfl, hb⟩
    have rr := (show Row w1 w.heap.size 30 4 (fun _ => .int .i64 0) from Row.back (row_zero4 _ _) hb)
    have HR := Lib.hid rr
    obtain ⟨⟨x0, x1, x2, x3⟩, y0, y1, y2, y3⟩ := zero_cells rr
    have HB := Lib.hid (show Below w.heap.size w w1 from below_then (by go_grown) hb)
    have HI1 := Lib.hid (HI.out.below HB.out)
    have hlr := rr.lt
    rw [hv]
    clear hb rr
  · go_wp2
    refine bodyPost_ret (by simp [results, Try.results14, go_sem, *]; try rfl) rfl ?_
    exact ⟨rfl, by have hhh := HB.out; go_grown⟩
  · have HV := Lib.hid (stops_ok hv)
    clear hv
    go_wp2_with fail
    refine (stopColor_s zs _ _ _ _ _ HI1.out hn hc0 HCM.out HV.out p HP.out).mono ?_
    rintro e w2 ⟨rfl, hb⟩
    have rr := HR.out.back hb
    obtain ⟨⟨u0, u1, u2, u3⟩, v0, v1, v2, v3⟩ := zero_cells rr
    have HB2 := Lib.hid (show Below w.heap.size w w2 from below_then HB.out hb)
    have hlr2 := rr.lt
    clear hb rr x0 x1 x2 x3 y0 y1 y2 y3
    go_wp2
    refine bodyPost_ret (by simp [results, Try.results14, go_sem, *]; try rfl) rfl ?_
    exact ⟨rfl, by have hhh := HB2.out; go_grown⟩
end Go.Proofs.Ytkihbfohdennjaa
