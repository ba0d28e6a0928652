/-
  The functions of colors at valid ones, told by ov, mx, cv.
-/
import Derived.Test.YtmdkfeojkjlpeaaColorA
import Derived.Test.YtmdkfeojkjlpeaaColorL
namespace Go.Proofs.Ytmdkfeojkjlpeaa
open Go.RowKit
set_option linter.unusedSimpArgs false
set_option linter.unusedVariables false

theorem OverColor_iV (r g b a r' g' b' a' : Int) (w : World) (h : colB r g b a = true) (h' : colB r' g' b' a' = true) :
    Calls Try.prog 23 #[.agg #[.int .i64 r, .int .i64 g, .int .i64 b, .int .i64 a], .agg #[.int .i64 r', .int .i64 g', .int .i64 b', .int .i64 a']] w fun e w' => e = .returned (.agg #[.int .i64 (ov r r' a), .int .i64 (ov g g' a), .int .i64 (ov b b' a), .int .i64 (ov a a' a)]) ∧ Below w.heap.size w w' := OverColor_i _ _ _ _ _ _ _ _ w (colB_true.1 h) (colB_true.1 h')
theorem MixColor_iV (r g b a r' g' b' a' t : Int) (w : World) (h : colB r g b a = true) (h' : colB r' g' b' a' = true) (t1 : 0 ≤ t) (t2 : t ≤ 256) :
    Calls Try.prog 21 #[.agg #[.int .i64 r, .int .i64 g, .int .i64 b, .int .i64 a], .agg #[.int .i64 r', .int .i64 g', .int .i64 b', .int .i64 a'], .int .i64 t] w fun e w' => e = .returned (.agg #[.int .i64 (mx r r' t), .int .i64 (mx g g' t), .int .i64 (mx b b' t), .int .i64 (mx a a' t)]) ∧ Below w.heap.size w w' := MixColor_i _ _ _ _ _ _ _ _ _ w (colB_true.1 h) (colB_true.1 h') t1 t2
theorem CoverColor_iV (r g b a t : Int) (w : World) (h : colB r g b a = true) (t1 : 0 ≤ t) (t2 : t ≤ 16) :
    Calls Try.prog 18 #[.agg #[.int .i64 r, .int .i64 g, .int .i64 b, .int .i64 a], .int .i64 t] w fun e w' => e = .returned (.agg #[.int .i64 (cv r t), .int .i64 (cv g t), .int .i64 (cv b t), .int .i64 (cv a t)]) ∧ Below w.heap.size w w' := CoverColor_i _ _ _ _ _ w (colB_true.1 h) t1 t2
theorem OverColor_sV (r g b a r' g' b' a' : Int) (w : World) (h : colB r g b a = true) (h' : colB r' g' b' a' = true) :
    Calls Try.prog 22 #[.agg #[.int .i64 r, .int .i64 g, .int .i64 b, .int .i64 a], .agg #[.int .i64 r', .int .i64 g', .int .i64 b', .int .i64 a']] w fun e w' => e = .returned (.agg #[.int .i64 (ov r r' a), .int .i64 (ov g g' a), .int .i64 (ov b b' a), .int .i64 (ov a a' a)]) ∧ Below w.heap.size w w' := OverColor_s _ _ _ _ _ _ _ _ w (colB_true.1 h) (colB_true.1 h')
theorem MixColor_sV (r g b a r' g' b' a' t : Int) (w : World) (h : colB r g b a = true) (h' : colB r' g' b' a' = true) (t1 : 0 ≤ t) (t2 : t ≤ 256) :
    Calls Try.prog 20 #[.agg #[.int .i64 r, .int .i64 g, .int .i64 b, .int .i64 a], .agg #[.int .i64 r', .int .i64 g', .int .i64 b', .int .i64 a'], .int .i64 t] w fun e w' => e = .returned (.agg #[.int .i64 (mx r r' t), .int .i64 (mx g g' t), .int .i64 (mx b b' t), .int .i64 (mx a a' t)]) ∧ Below w.heap.size w w' := MixColor_s _ _ _ _ _ _ _ _ _ w (colB_true.1 h) (colB_true.1 h') t1 t2
theorem CoverColor_sV (r g b a t : Int) (w : World) (h : colB r g b a = true) (t1 : 0 ≤ t) (t2 : t ≤ 16) :
    Calls Try.prog 17 #[.agg #[.int .i64 r, .int .i64 g, .int .i64 b, .int .i64 a], .int .i64 t] w fun e w' => e = .returned (.agg #[.int .i64 (cv r t), .int .i64 (cv g t), .int .i64 (cv b t), .int .i64 (cv a t)]) ∧ Below w.heap.size w w' := CoverColor_s _ _ _ _ _ w (colB_true.1 h) t1 t2
end Go.Proofs.Ytmdkfeojkjlpeaa
