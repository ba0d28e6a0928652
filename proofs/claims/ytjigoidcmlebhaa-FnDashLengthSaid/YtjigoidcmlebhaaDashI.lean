/-
  The runs of a line and how many places are drawn: by the program.
-/
import Derived.Test.YtjigoidcmlebhaaDashes
namespace Go.Proofs.Ytjigoidcmlebhaa
open Go.RowKit
set_option linter.unusedSimpArgs false
set_option linter.unusedVariables false

def spansV (zs : List Int) (b t : Int) : List (Int × Int) := if dashB zs b t = true then runs (dr zs b) t.toNat else []
theorem DashSpans_i (zs : List Int) (A : Option Addr) (n cap : Nat) (b t : Int) (w : World) (h : Ints w A zs) (hn : zs.length = n) (hm : zs.length ≤ 1000000000000) :
    Calls Try.prog 22 #[.slice A n cap, .int .i64 b, .int .i64 t] w (MadeT 38 (spansV zs b t).length w (flat (spansV zs b t))) := by
  subst hn
  have HI := Lib.hid h
  clear h
  cases hv : dashB zs b t
  · rw [show spansV zs b t = [] by simp [spansV, hv]]
    go_enter Try.func22, Try.ntmps22
    go_wp2_with (first | (go_at_call 40; refine (dashValid_c zs _ _ _ _ _ _ HI.out rfl hm).mono ?_; rintro e w' ⟨rfl, rfl⟩))
    go_ret
    exact ⟨none, 0, rfl, Nat.le_refl _, OwnT.nil _ _ _ _ _, Below.refl _ _⟩
  · rw [show spansV zs b t = runs (dr zs b) t.toNat by simp [spansV, hv]]
    obtain ⟨h1, b0, b1, t0, t1⟩ := dashB_true hv
    have HP := Lib.hid (patB_pat h1)
    go_enter Try.func22, Try.ntmps22
    go_wp2_with (first | (go_at_call 40; refine (dashValid_c zs _ _ _ _ _ _ HI.out rfl hm).mono ?_; rintro e w' ⟨rfl, rfl⟩) | fail)
    refine (dashes_i zs _ _ _ _ _ _ HI.out rfl HP.out b0 (by omega) t0 (by omega)).mono ?_
    rintro e w1 ⟨A', cap', rfl, hc, ho, hb⟩
    have HO := Lib.hid ho
    have HB := Lib.hid hb
    clear ho hb
    go_wp2
    go_ret
    exact ⟨A', cap', rfl, hc, HO.out, HB.out⟩
theorem tot_take (l : List (Int × Int)) {k : Nat} (hk : k < l.length) : tot (l.take (k + 1)) = tot (l.take k) + ((pth l k).2 - (pth l k).1) := by
  rw [List.take_succ_eq_append_getElem hk, tot_append]
  unfold pth; rw [List.getD_eq_getElem?_getD, List.getElem?_eq_getElem hk]; rfl
theorem tot_bd {l : List (Int × Int)} (h : ∀ s ∈ l, 0 ≤ s.1 ∧ s.1 < s.2 ∧ s.2 ≤ 1000) {k : Nat} (hk : k ≤ l.length) : 0 ≤ tot (l.take k) ∧ tot (l.take k) ≤ 1000 * (k : Int) := by
  induction k with
  | zero => simp [tot]
  | succ k ih =>
    have := ih (by omega)
    have := h _ (pth_mem (show k < l.length by omega))
    rw [tot_take l (by omega)]; omega
set_option maxHeartbeats 1000000 in
theorem DashLength_i (zs : List Int) (A : Option Addr) (n cap : Nat) (b t : Int) (w : World) (h : Ints w A zs) (hn : zs.length = n) (hm : zs.length ≤ 1000000000000) :
    Calls Try.prog 20 #[.slice A n cap, .int .i64 b, .int .i64 t] w fun e w' => e = .returned (.int .i64 (lenV zs b t)) ∧ Below w.heap.size w w' := by
  subst hn
  have HI := Lib.hid h
  clear h
  cases hv : dashB zs b t
  · have hV := Lib.hid (show lenV zs b t = -1 by simp [lenV, hv])
    go_enter Try.func20, Try.ntmps20
    go_wp2_with (first | (go_at_call 40; refine (dashValid_c zs _ _ _ _ _ _ HI.out rfl hm).mono ?_; rintro e w' ⟨rfl, rfl⟩))
    go_ret
    exact ⟨ret_int hV.out.symm, Below.refl _ _⟩
  · have hV := Lib.hid (show lenV zs b t = cnt (dr zs b) t.toNat by simp [lenV, hv])
    obtain ⟨h1, b0, b1, t0, t1⟩ := dashB_true hv
    have HP := Lib.hid (patB_pat h1)
    have hlr := runs_len (dr zs b) t.toNat
    have hbd : ∀ s ∈ runs (dr zs b) t.toNat, 0 ≤ s.1 ∧ s.1 < s.2 ∧ s.2 ≤ 1000 := fun s hs => by have := (runs_ok (dr zs b) t.toNat).bd s hs; omega
    have HBd := Lib.hid hbd
    have HSum := Lib.hid (runs_ok (dr zs b) t.toNat).sum
    obtain ⟨l, hl⟩ : ∃ l, l = runs (dr zs b) t.toNat := ⟨_, rfl⟩
    rw [← hl] at hlr HBd HSum
    have HL := Lib.hid hl
    clear hbd hl
    go_enter Try.func20, Try.ntmps20
    go_wp2_with (first | (go_at_call 40; refine (dashValid_c zs _ _ _ _ _ _ HI.out rfl hm).mono ?_; rintro e w' ⟨rfl, rfl⟩) | fail)
    refine (dashes_i zs _ _ _ _ _ _ HI.out rfl HP.out b0 (by omega) t0 (by omega)).mono ?_
    rw [← HL.out]
    rintro e w1 ⟨A', cap', rfl, hc, ho, hb⟩
    have HO := Lib.hid ho.ints
    have HB := Lib.hid hb
    clear ho hb
    have hll : (l.length : Int) ≤ 400 := by omega
    go_wp2
    go_loopw [7, 20] (fun s i wr => ∃ k : Nat, k ≤ l.length ∧ i = .int .i64 k ∧ s = .int .i64 (tot (l.take k)) ∧ Below w1.heap.size w1 wr) (fun _ i _ => l.length - (intOf i).toNat)
    case atStart => exact ⟨0, Nat.zero_le _, rfl, rfl, Below.refl _ _⟩
    case round =>
      obtain ⟨k, hk, rfl, rfl, hbel⟩ := hrel
      have HBel := Lib.hid hbel
      have hsr := hbel.size
      obtain ⟨z1, z2⟩ := tot_bd HBd.out hk
      clear hbel
      by_cases hlt : k < l.length
      · obtain ⟨bb, off, rfl, hbb, hcc⟩ := HO.out (by rw [flat_length]; omega)
        obtain ⟨s1, s2⟩ := pair_cells (w := wr) (fun i hi => (HBel.out.cell (p := ⟨bb, off + i, none⟩) hbb).trans (hcc i hi)) hlt
        have hbr : bb < wr.heap.size := by omega
        have hp := HBd.out _ (pth_mem hlt)
        have HT := Lib.hid (tot_take l hlt)
        clear hcc
        go_wp2
        go_roundw
        case rel => exact ⟨k + 1, by omega, by go_num, by show Value.int .i64 _ = Value.int .i64 _; congr 1; rw [HT.out], by have hhh := HBel.out; go_grown⟩
        case measure => simp [intOf]; omega
      · have he : l.take k = l := List.take_of_length_le (by omega)
        have HE := Lib.hid he
        clear he
        go_wp2
        go_ret
        exact ⟨ret_int (by rw [HE.out, hV.out, HSum.out]), below_then HB.out HBel.out⟩
end Go.Proofs.Ytjigoidcmlebhaa
