/-
  The runs of a line: by the program.
-/
import Derived.Test.YtjigoidcmlebhaaDashLen
import Derived.Test.YtjigoidcmlebhaaSpan
import Derived.Laws.OwnMore
namespace Go.Proofs.Ytjigoidcmlebhaa
open Go.RowKit
set_option linter.unusedSimpArgs false
set_option linter.unusedVariables false

theorem cell_two_new (w : World) (x y : Value) (t : TypeId) : ∀ (j : Nat) (u : Value), [x, y][j]? = some u → (w.alloc (.cells #[x, y] t)).cell? ((⟨w.heap.size, 0, none⟩ : Addr).add j) = some u := by
  intro j u hj
  match j, hj with
  | 0, hj => simp at hj; subst hj; simp [Addr.add]
  | 1, hj => simp at hj; subst hj; simp [Addr.add]
theorem flat_snoc (l : List (Int × Int)) (x y : Int) : (flat (l ++ [(x, y)])).map (Value.int .i64) = (flat l).map (Value.int .i64) ++ [.int .i64 x, .int .i64 y] := by simp [flat]
theorem sp_len (f : Nat → Bool) (n : Nat) : ((sp f n).2 < 0 → (sp f n).1.length ≤ n) ∧ (¬ (sp f n).2 < 0 → (sp f n).1.length + 1 ≤ n) := by
  induction n with
  | zero => simp [sp]
  | succ n ih =>
    simp only [sp]
    cases f n
    · simp only [Bool.false_eq_true, if_false]
      by_cases ho : (sp f n).2 < 0
      · simp only [if_pos ho]; exact ⟨fun _ => by have := ih.1 ho; omega, fun h => absurd ho h⟩
      · simp only [if_neg ho]; exact ⟨fun _ => by have := ih.2 ho; simp; omega, fun h => absurd (show (-1 : Int) < 0 by omega) h⟩
    · simp only [if_true]
      by_cases ho : (sp f n).2 < 0
      · simp only [if_pos ho]; exact ⟨fun h => absurd h (by omega), fun _ => by have := ih.1 ho; omega⟩
      · simp only [if_neg ho]; exact ⟨fun h => absurd h ho, fun _ => by have := ih.2 ho; omega⟩
theorem runs_len (f : Nat → Bool) (n : Nat) : (runs f n).length ≤ n := by
  obtain ⟨h1, h2⟩ := sp_len f n
  unfold runs
  by_cases ho : (sp f n).2 < 0
  · rw [if_pos ho]; exact h1 ho
  · rw [if_neg ho]; have := h2 ho; simp; omega
theorem pth_last (l : List (Int × Int)) (s : Int × Int) : pth (l ++ [s]) ((l ++ [s]).length - 1) = s := by simp [pth]
theorem flat_set_last (l : List (Int × Int)) (o x y : Int) : ((flat (l ++ [(o, x)])).map (Value.int .i64)).set (((l ++ [(o, x)]).length - 1) * 2 + 1) (.int .i64 y) = (flat (l ++ [(o, y)])).map (Value.int .i64) := by
  rw [flat_snoc, flat_snoc]
  have hl : ((flat l).map (Value.int .i64)).length = 2 * l.length := by rw [List.length_map, flat_length]
  have hi : ((l ++ [(o, x)]).length - 1) * 2 + 1 = 2 * l.length + 1 := by simp; omega
  rw [hi, List.set_append_right _ _ (by omega), hl, show 2 * l.length + 1 - 2 * l.length = 1 by omega]
  rfl
theorem owns2_form {t : TypeId} {w : World} {base : Nat} {v : Value} {l : List (Int × Int)} (h : w.ownsRow base t 2 v l.length ((flat l).map (Value.int .i64))) : (v = .slice none 0 0 ∧ l = []) ∨ ∃ g cap, v = .slice (some ⟨g, 0, none⟩) l.length cap ∧ l.length ≤ cap ∧ cap ≤ maxLen ∧ base ≤ g ∧ Row w g t (2 * l.length) (fun i => .int .i64 (nth (flat l) i)) := by
  obtain ⟨hl, hv⟩ := h
  rcases hv with ⟨rfl, h0⟩ | ⟨g, cap, cur, rfl, hb, hh, hnc, hcm, hsz, htk⟩
  · exact .inl ⟨rfl, List.length_eq_zero_iff.1 h0⟩
  · refine .inr ⟨g, cap, rfl, hnc, hcm, hb, cur, hh, fun i hi => ?_⟩
    have hf : i < (flat l).length := by rw [flat_length]; exact hi
    have e : (cur.toList.take (l.length * 2))[i]? = ((flat l).map (Value.int .i64))[i]? := by rw [htk]
    rw [List.getElem?_take_of_lt (by omega), List.getElem?_map, List.getElem?_eq_getElem hf] at e
    rw [← Array.getElem?_toList, e]; simp [nth_getElem hf]
set_option maxHeartbeats 2000000 in
theorem dashes_i (zs : List Int) (A : Option Addr) (n cap : Nat) (b t : Int) (w : World) (h : Ints w A zs) (hn : zs.length = n) (hp : Pat zs) (b0 : 0 ≤ b) (b1 : b ≤ 1000) (t0 : 0 ≤ t) (t1 : t ≤ 1000) :
    Calls Try.prog 41 #[.slice A n cap, .int .i64 b, .int .i64 t] w (MadeT 38 (runs (dr zs b) t.toNat).length w (flat (runs (dr zs b) t.toNat))) := by
  subst hn
  have HI := Lib.hid h
  have HP := Lib.hid hp
  clear h hp
  obtain ⟨i0, hi, hz0, hz1, hz2⟩ := info_parts span_info
  go_enter Try.func41, Try.ntmps41
  go_wp2
  go_loopw [7, 11] (fun v i wr => ∃ k : Nat, (k : Int) ≤ t ∧ i = .int .i64 k ∧ wr.ownsRow w.heap.size 38 2 v (runs (dr zs b) k).length ((flat (runs (dr zs b) k)).map (Value.int .i64)) ∧ Below w.heap.size w wr) (fun _ i _ => t.toNat - (intOf i).toNat)
  case atStart => exact ⟨0, by omega, rfl, World.ownsRow_nil _ _ _ _, Below.refl _ _⟩
  case round =>
    obtain ⟨k, hk, rfl, ho, hbel⟩ := hrel
    have HO := Lib.hid ho
    have HBel := Lib.hid hbel
    have hsr := hbel.size
    have HIw := Lib.hid (HI.out.below hbel)
    have HR := Lib.hid (runs_ok (dr zs b) k)
    have HS := Lib.hid (sp_ok (dr zs b) k)
    clear ho hbel
    by_cases hlt : (k : Int) < t
    · cases hd : drB zs (b + (k : Int))
      · have HN := Lib.hid (runs_no (f := dr zs b) (n := k) hd)
        rcases owns2_form HO.out with ⟨rfl, hnil⟩ | ⟨g, capv, rfl, hnc, hcm, hg, hrow⟩
        all_goals
          (try clear hrow)
          (try clear hnil)
          go_wp2_with (first | (go_at_call 35; refine (drawn_i zs _ _ _ _ _ HIw.out rfl HP.out (by omega) (by omega)).mono ?_; rintro e w' ⟨rfl, rfl⟩))
          go_roundw
          case rel => exact ⟨k + 1, by omega, by go_num, by rw [HN.out]; exact HO.out, HBel.out⟩
          case measure => simp [intOf]; omega
      · by_cases hs : (sp (dr zs b) k).2 < 0
        · have HN := Lib.hid (runs_new (f := dr zs b) (n := k) hd hs)
          have HL := Lib.hid (show ∀ s ∈ runs (dr zs b) k, s.2 < (k : Int) from fun s hm => by
            unfold runs at hm; rw [if_pos hs] at hm; exact (HS.out.bd s hm).2.2)
          rcases owns2_form HO.out with ⟨rfl, hnil⟩ | ⟨g, capv, rfl, hnc, hcm, hg, hrow⟩
          · have hlr := runs_len (dr zs b) k
            have HZ := Lib.hid hnil
            clear hnil
            go_wp2_with (first | (go_at_call 35; refine (drawn_i zs _ _ _ _ _ HIw.out rfl HP.out (by omega) (by omega)).mono ?_; rintro e w' ⟨rfl, rfl⟩) | (at_builtin; refine wpList_append_own _ rfl _ _ 35 rfl w.heap.size 38 i0 (.agg #[.int .i64 0, .int .i64 0]) 2 16 Try.underlying35 hi hz0 hz1 hz2 rfl (by decide) _ _ _ rfl (HO.out.alloc _) ⟨wr.heap.size, 0, none⟩ 1 1 [.int .i64 (k : Int), .int .i64 ((k : Int) + 1)] rfl rfl (cell_two_new _ _ _ _) (by simp [Value.oneCell']) (by unfold maxLen; omega) (by omega) (by simp; omega) ?_; intro v' w9 hown' hgrow hnil; have HO4 := Lib.hid hown'; have HG4 := Lib.hid hgrow; clear hown' hgrow hnil))
            go_roundw
            case rel => exact ⟨k + 1, by omega, by go_num, by rw [HN.out, flat_snoc, List.length_append]; exact HO4.out, (HBel.out.alloc (by omega) _).grown HG4.out (by simp; omega) (fun j hj => (HO.out.lt j hj).1)⟩
            case measure => simp [intOf]; omega
          · have hlr := runs_len (dr zs b) k
            unfold maxLen at hcm
            have HW := Lib.hid hrow
            clear hrow
            by_cases hL : (runs (dr zs b) k).length = 0
            · have hL2 : ¬ (0 : Int) < ((runs (dr zs b) k).length : Int) := by omega
              have HLL := Lib.hid hL
              clear hL
              go_wp2_with (first | (go_at_call 35; refine (drawn_i zs _ _ _ _ _ HIw.out rfl HP.out (by omega) (by omega)).mono ?_; rintro e w' ⟨rfl, rfl⟩) | (at_builtin; refine wpList_append_own _ rfl _ _ 35 rfl w.heap.size 38 i0 (.agg #[.int .i64 0, .int .i64 0]) 2 16 Try.underlying35 hi hz0 hz1 hz2 rfl (by decide) _ _ _ rfl (HO.out.alloc _) ⟨wr.heap.size, 0, none⟩ 1 1 [.int .i64 (k : Int), .int .i64 ((k : Int) + 1)] rfl rfl (cell_two_new _ _ _ _) (by simp [Value.oneCell']) (by unfold maxLen; omega) (by omega) (by simp; omega) ?_; intro v' w9 hown' hgrow hnil; have HO4 := Lib.hid hown'; have HG4 := Lib.hid hgrow; clear hown' hgrow hnil))
              go_roundw
              case rel => exact ⟨k + 1, by omega, by go_num, by rw [HN.out, flat_snoc, List.length_append]; exact HO4.out, (HBel.out.alloc (by omega) _).grown HG4.out (by simp; omega) (fun j hj => (HO.out.lt j hj).1)⟩
              case measure => simp [intOf]; omega
            · have hL1 : 1 ≤ (runs (dr zs b) k).length := by omega
              have hL2 : (0 : Int) < ((runs (dr zs b) k).length : Int) := by omega
              obtain ⟨e1, e2⟩ := nth_flat (runs (dr zs b) k) ((runs (dr zs b) k).length - 1)
              have hcl : wr.cell? ⟨g, ((runs (dr zs b) k).length - 1) * 2 + 1, none⟩ = some (.int .i64 (pth (runs (dr zs b) k) ((runs (dr zs b) k).length - 1)).2) := by
                rw [← e2, show ((runs (dr zs b) k).length - 1) * 2 + 1 = 2 * ((runs (dr zs b) k).length - 1) + 1 by omega]
                exact HW.out.cell (by omega)
              have hlast := HL.out _ (pth_mem (show (runs (dr zs b) k).length - 1 < (runs (dr zs b) k).length by omega))
              have hx : ((pth (runs (dr zs b) k) ((runs (dr zs b) k).length - 1)).2 == (k : Int)) = false := by rw [beq_eq_false_iff_ne]; omega
              clear e1 e2
              go_wp2_with (first | (go_at_call 35; refine (drawn_i zs _ _ _ _ _ HIw.out rfl HP.out (by omega) (by omega)).mono ?_; rintro e w' ⟨rfl, rfl⟩) | (at_builtin; refine wpList_append_own _ rfl _ _ 35 rfl w.heap.size 38 i0 (.agg #[.int .i64 0, .int .i64 0]) 2 16 Try.underlying35 hi hz0 hz1 hz2 rfl (by decide) _ _ _ rfl (HO.out.alloc _) ⟨wr.heap.size, 0, none⟩ 1 1 [.int .i64 (k : Int), .int .i64 ((k : Int) + 1)] rfl rfl (cell_two_new _ _ _ _) (by simp [Value.oneCell']) (by unfold maxLen; omega) (by omega) (by simp; omega) ?_; intro v' w9 hown' hgrow hnil; have HO4 := Lib.hid hown'; have HG4 := Lib.hid hgrow; clear hown' hgrow hnil))
              go_roundw
              case rel => exact ⟨k + 1, by omega, by go_num, by rw [HN.out, flat_snoc, List.length_append]; exact HO4.out, (HBel.out.alloc (by omega) _).grown HG4.out (by simp; omega) (fun j hj => (HO.out.lt j hj).1)⟩
              case measure => simp [intOf]; omega
        · obtain ⟨hr1, hr2⟩ := runs_more (f := dr zs b) (n := k) hd hs
          have HLen := Lib.hid (show (runs (dr zs b) (k + 1)).length = (runs (dr zs b) k).length by rw [hr1, hr2]; simp)
          have HSet := Lib.hid (show ((flat (runs (dr zs b) k)).map (Value.int .i64)).set (((runs (dr zs b) k).length - 1) * 2 + 1) (.int .i64 ((k : Int) + 1)) = (flat (runs (dr zs b) (k + 1))).map (Value.int .i64) by rw [hr1, hr2]; exact flat_set_last _ _ _ _)
          have HLast := Lib.hid (show (pth (runs (dr zs b) k) ((runs (dr zs b) k).length - 1)).2 = (k : Int) by rw [hr1, pth_last])
          have hL1 : 1 ≤ (runs (dr zs b) k).length := by rw [hr1]; simp
          clear hr1 hr2
          rcases owns2_form HO.out with ⟨rfl, hnil⟩ | ⟨g, capv, rfl, hnc, hcm, hg, hrow⟩
          · exfalso; rw [hnil] at hL1; simp at hL1
          · have hlr := runs_len (dr zs b) k
            unfold maxLen at hcm
            have HW := Lib.hid hrow
            clear hrow
            have hL2 : (0 : Int) < ((runs (dr zs b) k).length : Int) := by omega
            have hcl : wr.cell? ⟨g, ((runs (dr zs b) k).length - 1) * 2 + 1, none⟩ = some (.int .i64 (k : Int)) := by
              rw [← HLast.out, ← (nth_flat (runs (dr zs b) k) ((runs (dr zs b) k).length - 1)).2, show ((runs (dr zs b) k).length - 1) * 2 + 1 = 2 * ((runs (dr zs b) k).length - 1) + 1 by omega]
              exact HW.out.cell (by omega)
            have hfr := HW.out.free (((runs (dr zs b) k).length - 1) * 2 + 1)
            go_wp2_with (first | (go_at_call 35; refine (drawn_i zs _ _ _ _ _ HIw.out rfl HP.out (by omega) (by omega)).mono ?_; rintro e w' ⟨rfl, rfl⟩))
            go_roundw
            case rel => exact ⟨k + 1, by omega, by go_num, by rw [HLen.out, ← HSet.out]; exact (HO.out.stored _ _).1, HBel.out.setCell hg _⟩
            case measure => simp [intOf]; omega
    · have he : t.toNat = k := by omega
      rw [he]
      rcases owns2_form HO.out with ⟨rfl, hnil⟩ | ⟨g, capv, rfl, hnc, hcm, hg, hrow⟩
      · have HZ := Lib.hid hnil
        clear hnil
        go_wp2
        go_ret
        exact ⟨none, 0, by rw [HZ.out]; rfl, by rw [HZ.out]; exact Nat.le_refl _, by rw [HZ.out]; exact OwnT.nil _ _ _ _ _, HBel.out⟩
      · have HW := Lib.hid hrow
        clear hrow
        unfold maxLen at hcm
        go_wp2
        go_ret
        exact ⟨some ⟨g, 0, none⟩, _, rfl, Nat.le_refl _, fun hn => ⟨g, rfl, hg, HW.out.lt, by rw [flat_length]; exact HW.out⟩, HBel.out⟩
end Go.Proofs.Ytjigoidcmlebhaa
