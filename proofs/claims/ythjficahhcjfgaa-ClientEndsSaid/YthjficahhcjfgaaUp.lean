/-
  The law's Incs: one, of an osd, a bucket and a pool.
-/
import Derived.Test.YthjficahhcjfgaaOsd8
namespace Go.Proofs.Ythjficahhcjfgaa
open Go.RowKit

/-- The list of the one Inc. -/
def Ups (w : World) (en : Ending) (w' : World) : Prop :=
  ∃ q h hc i ci x cx, en = .returned (.slice (some ⟨q, 0, none⟩) 1 1) ∧ Blk w' q 85 #[.int .i64 1, .slice (some ⟨h, 0, none⟩) 3 hc] ∧ IncC w' h i ci x cx ∧ Gr w w'

/-- The changes' cells. -/
abbrev incArr (w : World) : Array Value := ((.int .i64 1 : Value) :: (.int .i64 0 : Value) :: (.int .i64 3 : Value) :: (.int .i64 0 : Value) :: (.int .i64 0 : Value) :: (.int .i64 0 : Value) :: (.int .i64 0 : Value) :: (.int .i64 0 : Value) :: (.int .i64 0 : Value) :: (.slice none 0 0 : Value) :: (.slice none 0 0 : Value) :: (.int .i64 6 : Value) :: (.int .i64 0 : Value) :: (.int .i64 0 : Value) :: (.int .i64 0 : Value) :: (.int .i64 0 : Value) :: (.int .i64 0 : Value) :: (.int .i64 0 : Value) :: (.int .i64 (-1) : Value) :: (.int .i64 3 : Value) :: (.slice (some ⟨w.heap.size, 0, none⟩) 1 1 : Value) :: (.slice (some ⟨w.heap.size + 1, 0, none⟩) 1 1 : Value) :: (.int .i64 5 : Value) :: (.int .i64 0 : Value) :: (.int .i64 0 : Value) :: (.int .i64 1 : Value) :: (.int .i64 1 : Value) :: (.int .i64 1 : Value) :: (.int .i64 1 : Value) :: (.int .i64 0 : Value) :: (.int .i64 0 : Value) :: (.slice none 0 0 : Value) :: (.slice none 0 0 : Value) :: []).toArray

set_option maxRecDepth 100000 in
theorem up_fin (w : World) (a : Array Value) : Ups w (.returned (.slice (some ⟨w.heap.size + 1 + 1 + 1 + 1, 0, none⟩) 1 1))
    (((((w.alloc (.cells #[.int .i64 0] 3)).alloc (.cells #[.int .i64 65536] 3)).alloc (.cells a 93)).alloc (.cells (incArr w) 97)).alloc (.cells #[.int .i64 1, .slice (some ⟨w.heap.size + 1 + 1 + 1, 0, none⟩) 3 3] 85)) := by
  refine ⟨_, w.heap.size + 1 + 1 + 1, 3, w.heap.size, 1, w.heap.size + 1, 1, rfl, Blk.new_ _ _ _ _ (by simp), ?_, ((((((Ch.refl _ w).alloc _).alloc _).alloc _).alloc _).alloc _)⟩
  have ki : Blk (((((w.alloc (.cells #[.int .i64 0] 3)).alloc (.cells #[.int .i64 65536] 3)).alloc (.cells a 93)).alloc (.cells (incArr w) 97)).alloc (.cells #[.int .i64 1, .slice (some ⟨w.heap.size + 1 + 1 + 1, 0, none⟩) 3 3] 85)) w.heap.size 3 #[.int .i64 0] :=
    ((((Blk.new w 3 _).alloc _).alloc _).alloc _).alloc _
  have kx : Blk (((((w.alloc (.cells #[.int .i64 0] 3)).alloc (.cells #[.int .i64 65536] 3)).alloc (.cells a 93)).alloc (.cells (incArr w) 97)).alloc (.cells #[.int .i64 1, .slice (some ⟨w.heap.size + 1 + 1 + 1, 0, none⟩) 3 3] 85)) (w.heap.size + 1) 3 #[.int .i64 65536] :=
    (((Blk.new_ _ 3 _ _ (by simp)).alloc _).alloc _).alloc _
  have kh : Blk (((((w.alloc (.cells #[.int .i64 0] 3)).alloc (.cells #[.int .i64 65536] 3)).alloc (.cells a 93)).alloc (.cells (incArr w) 97)).alloc (.cells #[.int .i64 1, .slice (some ⟨w.heap.size + 1 + 1 + 1, 0, none⟩) 3 3] 85)) (w.heap.size + 1 + 1 + 1) 97 (incArr w) :=
    (Blk.new_ _ 97 _ _ (by simp)).alloc _
  exact ⟨kh.lt, ki.lt, kx.lt, kh.cell 0, kh.cell 1, kh.cell 2, kh.cell 3, kh.cell 4, kh.cell 5, kh.cell 6, kh.cell 7, kh.cell 8, kh.cell 9, kh.cell 10, kh.cell 11, kh.cell 12, kh.cell 13, kh.cell 14, kh.cell 15, kh.cell 16, kh.cell 17, kh.cell 18, kh.cell 19, kh.cell 20, kh.cell 21, kh.cell 22, kh.cell 23, kh.cell 24, kh.cell 25, kh.cell 26, kh.cell 27, kh.cell 28, kh.cell 29, kh.cell 30, kh.cell 31, kh.cell 32, ki.cell 0, kx.cell 0⟩

set_option maxHeartbeats 4000000 in
set_option maxRecDepth 100000 in
theorem up_any (w : World) : Calls Try.prog 7 #[] w (Ups w) := by
  go_enter Try.func7, Try.ntmps7
  go_wp2
  go_ret
  exact up_fin w _

end Go.Proofs.Ythjficahhcjfgaa
