/-
  Which queues the program calls valid. (Conditions: the bounds of each theorem.)
-/
import Derived.Test.YthfpplpklhclgaaOwn
import Derived.Test.YthfpplpklhclgaaDequeM
namespace Go.Proofs.Ythfpplpklhclgaa
open Go.RowKit
set_option linter.unusedSimpArgs false
set_option linter.unusedVariables false

/-- The cells of a queue. -/
def f3 (u v x : Value) : Nat → Value := fun i => match i with | 0 => u | 1 => v | _ => x
theorem row_box3 (w : World) (t : TypeId) (u v x : Value) : Row (w.alloc (.cells #[u, v, x] t)) w.heap.size t 3 (f3 u v x) :=
  ⟨_, heap_alloc_new w _, fun i hi => by match i, hi with | 0, _ => rfl | 1, _ => rfl | 2, _ => rfl⟩
theorem Row.alloc {w : World} {g n : Nat} {t : TypeId} {f : Nat → Value} (h : Row w g t n f) (o : Obj) : Row (w.alloc o) g t n f := h.keep (Below.heap_alloc w o g h.lt)
theorem Row.drew {w : World} {g n : Nat} {t : TypeId} {f : Nat → Value} (h : Row w g t n f) : Row w.drew g t n f := h
theorem Row.back {W w1 : World} {g n : Nat} {t : TypeId} {f : Nat → Value} (h : Row W g t n f) (hb : Below W.heap.size W w1) : Row w1 g t n f := h.keep (hb.block g h.lt)
theorem cells3 {w : World} {g : Nat} {t : TypeId} {u v x : Value} (h : Row w g t 3 (f3 u v x)) : w.cell? ⟨g, 0, none⟩ = some u ∧ w.cell? ⟨g, 1, none⟩ = some v ∧ w.cell? ⟨g, 2, none⟩ = some x :=
  ⟨h.cell (by omega), h.cell (by omega), h.cell (by omega)⟩
theorem row_false (w : World) (t : TypeId) : Row (w.alloc (.cells #[.bool false, .bool false, .bool false, .bool false, .bool false, .bool false, .bool false, .bool false, .bool false, .bool false, .bool false, .bool false, .bool false, .bool false, .bool false, .bool false] t)) w.heap.size t 16 (fun _ => .bool false) :=
  ⟨_, heap_alloc_new w _, fun i hi => by
    have : i = 0 ∨ i = 1 ∨ i = 2 ∨ i = 3 ∨ i = 4 ∨ i = 5 ∨ i = 6 ∨ i = 7 ∨ i = 8 ∨ i = 9 ∨ i = 10 ∨ i = 11 ∨ i = 12 ∨ i = 13 ∨ i = 14 ∨ i = 15 := by omega
    rcases this with rfl | rfl | rfl | rfl | rfl | rfl | rfl | rfl | rfl | rfl | rfl | rfl | rfl | rfl | rfl | rfl <;> rfl⟩
theorem row_false1 (w : World) (t : TypeId) (a : Int) (x : Nat) (hx : x = w.heap.size) : Row (w.alloc (.cells #[.bool false, .bool false, .bool false, .bool false, .bool false, .bool false, .bool false, .bool false, .bool false, .bool false, .bool false, .bool false, .bool false, .bool false, .bool false, .bool false] t)) x t 16 (fun j => .bool (usedB a 0 j)) := by subst hx; exact row_false w t
theorem ring_q {a : Int} (k : Nat) (h0 : 0 ≤ a) : ∃ q : Nat, q = (a.toNat + k) % 16 ∧ q < 16 ∧ Int.tmod (a + (k : Int)) 16 = (q : Int) := by
  refine ⟨_, rfl, Nat.mod_lt _ (by omega), ?_⟩
  rw [Int.tmod_eq_emod_of_nonneg (by omega)]; omega
theorem devB_len {zs : List Int} {a b : Int} (h : zs.length ≠ 16) : devB zs a b = false := by simp [devB, h]
theorem devB_top {zs : List Int} {a b : Int} (h : inB a 0 500 = false) : devB zs a b = false := by simp [devB, h]
theorem devB_bot {zs : List Int} {a b M : Int} (hM : M = min 500 (a + 16)) (h : inB b a M = false) : devB zs a b = false := by subst hM; simp [devB, h]
theorem devB_in {zs : List Int} {a b M : Int} (hl : zs.length = 16) (h : inB a 0 500 = true) (hM : M = min 500 (a + 16)) (h2 : inB b a M = true) : devB zs a b = slotsB a (cntN a b) zs 16 := by subst hM; simp [devB, h, hl, h2]
set_option maxHeartbeats 2000000 in
theorem ValidDeque_i (zs : List Int) (A : Option Addr) (n cap : Nat) (a b : Int) (w : World) (h : Ints w A zs) (hn : zs.length = n) (hm : zs.length ≤ 1000000000000) :
    Calls Try.prog 11 #[.agg #[.slice A n cap, .int .i64 a, .int .i64 b]] w fun e w' => e = .returned (.bool (devB zs a b)) ∧ Below w.heap.size w w' := by
  subst hn
  have HI := Lib.hid h
  clear h
  by_cases hl : zs.length = 16
  case neg =>
    have hq : ¬ ((zs.length : Int) = 16) := by omega
    have HV := Lib.hid (devB_len (a := a) (b := b) hl)
    clear hl
    go_enter Try.func11, Try.ntmps11
    go_wp2_with (first | (go_at_call 29; refine (in_c _ _ _ _).mono ?_; rintro e w' ⟨rfl, rfl⟩))
    go_ret
    exact ⟨ret_b HV.out.symm, by go_grown⟩
  cases h2 : inB a 0 500
  · have HV := Lib.hid (devB_top (zs := zs) (b := b) h2)
    go_enter Try.func11, Try.ntmps11
    go_wp2_with (first | (go_at_call 29; refine (in_c _ _ _ _).mono ?_; rintro e w' ⟨rfl, rfl⟩))
    go_ret
    exact ⟨ret_b HV.out.symm, by go_grown⟩
  obtain ⟨a0, a1⟩ := inB_true.1 h2
  obtain ⟨M, hM⟩ : ∃ M, M = min 500 (a + 16) := ⟨_, rfl⟩
  have hmn : (if a + 16 < 500 then a + 16 else 500) = M := by rw [hM]; split <;> omega
  have hM2 : M ≤ 500 ∧ M ≤ a + 16 := by omega
  have HM := Lib.hid hM
  clear hM
  cases h3 : inB b a M
  · have HV := Lib.hid (devB_bot (zs := zs) HM.out h3)
    go_enter Try.func11, Try.ntmps11
    go_wp2_with (first | (go_at_call 29; refine (in_c _ _ _ _).mono ?_; rintro e w' ⟨rfl, rfl⟩))
    go_ret
    exact ⟨ret_b HV.out.symm, by go_grown⟩
  obtain ⟨b0, b1⟩ := inB_true.1 h3
  have HV := Lib.hid (devB_in hl h2 HM.out h3)
  have HX := Lib.hid (row_box3 w 27 (.slice A 16 cap) (.int .i64 a) (.int .i64 b))
  have hcn1 : (cntN a b : Int) ≤ b - a := by unfold cntN; omega
  have hcn2 : b - a ≤ (cntN a b : Int) := by unfold cntN; omega
  have hlen : ∀ i : Nat, i < 16 → i < zs.length := fun i hi => by omega
  have HLen := Lib.hid hlen
  clear hlen
  go_enter Try.func11, Try.ntmps11
  go_wp2_with (first | (go_at_call 29; refine (in_c _ _ _ _).mono ?_; rintro e w' ⟨rfl, rfl⟩))
  go_loopw [4] (fun i wr => ∃ k : Nat, k ≤ cntN a b ∧ i = .int .i64 (a + (k : Int)) ∧ Row wr w.heap.size 27 3 (f3 (.slice A 16 cap) (.int .i64 a) (.int .i64 b)) ∧ Row wr (w.heap.size + 1) 42 16 (fun j => .bool (usedB a k j)) ∧ Below w.heap.size w wr) (fun i _ => (b - intOf i).toNat)
  case atStart => exact ⟨0, Nat.zero_le _, by simp, HX.out.alloc _, row_false1 _ _ _ _ (by go_size), by go_grown⟩
  case round =>
    obtain ⟨k, hk, rfl, hx, hu, hbel⟩ := hrel
    obtain ⟨x0, x1, x2⟩ := cells3 hx
    have HXw := Lib.hid hx
    have HU := Lib.hid hu
    have HBel := Lib.hid hbel
    have hsr := hbel.size
    clear hx hu hbel
    by_cases hlt : k < cntN a b
    · obtain ⟨q, hq, hq1, hq2⟩ := ring_q k a0
      have HQ := Lib.hid hq
      clear hq
      have u1 := HU.out.cell hq1
      have u2 := HU.out.free q
      have hql : (q : Int) < 16 := by omega
      have hq0 : (0 : Int) ≤ (q : Int) := by omega
      go_wp2
      go_roundw
      case rel =>
        refine ⟨k + 1, by omega, by go_num, HXw.out.far (by simp) _, (HU.out.set hq1 _).congr fun j hj => ?_, HBel.out.setCell (by simp) _⟩
        rw [usedB_succ, ← HQ.out]
        by_cases hjq : j = q
        · subst hjq; simp
        · have hqj : ¬ q = j := fun e => hjq e.symm
          simp [hjq, hqj]
      case measure => simp [intOf]; omega
    · have he : k = cntN a b := by omega
      subst he
      go_wp2
      go_loop [44] (fun i => ∃ m : Nat, m ≤ 16 ∧ i = .int .i64 m ∧ slotsB a (cntN a b) zs m = true) (fun i => 16 - (intOf i).toNat)
      case atStart => exact ⟨0, by omega, rfl, rfl⟩
      case round =>
        obtain ⟨m, hm16, rfl, hall⟩ := hrel
        have HAll := Lib.hid hall
        clear hall
        by_cases hml : m < 16
        · obtain ⟨bb, off, rfl, hbb, hcc⟩ := HI.out (by omega)
          have hsrc : wr.cell? ⟨bb, off + m, none⟩ = some (.int .i64 (nth zs m)) := (HBel.out.cell (p := ⟨bb, off + m, none⟩) hbb).trans (hcc m (HLen.out m hml))
          clear hcc
          have u1 := HU.out.cell hml
          have hm0 : (0 : Int) ≤ (m : Int) := by omega
          have hm1 : (m : Int) < 16 := by omega
          cases hs : slotB (usedB a (cntN a b) m) (nth zs m)
          · have HNo := Lib.hid (slotsB_no hml hs)
            cases hu : usedB a (cntN a b) m
            · have hv : (nth zs m == -1) = false := by simpa [slotB, hu] using hs
              rw [hu] at u1
              go_wp2_with (first | (go_at_call 29; refine (in_c _ _ _ _).mono ?_; rintro e w' ⟨rfl, rfl⟩))
              go_ret
              exact ⟨ret_b (by rw [HV.out, HNo.out]), HBel.out⟩
            · have hv : inB (nth zs m) 0 99 = false := by simpa [slotB, hu] using hs
              rw [hu] at u1
              go_wp2_with (first | (go_at_call 29; refine (in_c _ _ _ _).mono ?_; rintro e w' ⟨rfl, rfl⟩))
              go_ret
              exact ⟨ret_b (by rw [HV.out, HNo.out]), HBel.out⟩
          · have HYes := Lib.hid (show slotsB a (cntN a b) zs (m + 1) = true by simp only [slotsB, HAll.out, hs, Bool.and_self])
            cases hu : usedB a (cntN a b) m
            · have hv : (nth zs m == -1) = true := by simpa [slotB, hu] using hs
              rw [hu] at u1
              go_wp2_with (first | (go_at_call 29; refine (in_c _ _ _ _).mono ?_; rintro e w' ⟨rfl, rfl⟩))
              go_round
              case rel => exact ⟨m + 1, by omega, by go_num, HYes.out⟩
              case measure => simp [intOf]; omega
            · have hv : inB (nth zs m) 0 99 = true := by simpa [slotB, hu] using hs
              rw [hu] at u1
              go_wp2_with (first | (go_at_call 29; refine (in_c _ _ _ _).mono ?_; rintro e w' ⟨rfl, rfl⟩))
              go_round
              case rel => exact ⟨m + 1, by omega, by go_num, HYes.out⟩
              case measure => simp [intOf]; omega
        · have he : m = 16 := by omega
          subst he
          go_wp2
          go_ret
          exact ⟨ret_b (by rw [HV.out, HAll.out]), HBel.out⟩
end Go.Proofs.Ythfpplpklhclgaa
