/-
  The one map that the law comes to (one osd, one pool, one bucket), as it lies in memory; the small functions that read it.
-/
import Derived.Test.YthjficahhcjfgaaBase
namespace Go.Proofs.Ythjficahhcjfgaa
open Go.RowKit

/-- The map's value: its lists lie at the heads of blocks o, p, b. -/
abbrev M1v (o co p cp b cb : Nat) : Value :=
  .agg #[.int .i64 1, .slice (some ⟨o, 0, none⟩) 1 co, .slice (some ⟨p, 0, none⟩) 1 cp, .slice (some ⟨b, 0, none⟩) 1 cb, .int .i64 0]

/-- What its lists hold: osd 0, up, of weight one; pool 1 of one group; the root, with osd 0. -/
structure M1 (w : World) (o co p cp b cb i ci x cx : Nat) : Prop where
  lo : o < w.heap.size
  lp : p < w.heap.size
  lb : b < w.heap.size
  li : i < w.heap.size
  lx : x < w.heap.size
  ho : 1 ≤ co
  hp : 1 ≤ cp
  hb : 1 ≤ cb
  hi : 1 ≤ ci
  hx : 1 ≤ cx
  o0 : w.cell? ⟨o, 0, none⟩ = some (.bool true)
  o1 : w.cell? ⟨o, 1, none⟩ = some (.bool true)
  o2 : w.cell? ⟨o, 2, none⟩ = some (.int .i64 65536)
  o3 : w.cell? ⟨o, 3, none⟩ = some (.int .i64 3)
  o4 : w.cell? ⟨o, 4, none⟩ = some (.int .i64 1)
  o5 : w.cell? ⟨o, 5, none⟩ = some (.int .i64 0)
  p0 : w.cell? ⟨p, 0, none⟩ = some (.int .i64 1)
  p1 : w.cell? ⟨p, 1, none⟩ = some (.int .i64 1)
  p2 : w.cell? ⟨p, 2, none⟩ = some (.int .i64 1)
  p3 : w.cell? ⟨p, 3, none⟩ = some (.int .i64 1)
  b0 : w.cell? ⟨b, 0, none⟩ = some (.int .i64 (-1))
  b1 : w.cell? ⟨b, 1, none⟩ = some (.int .i64 3)
  b2 : w.cell? ⟨b, 2, none⟩ = some (.slice (some ⟨i, 0, none⟩) 1 ci)
  b3 : w.cell? ⟨b, 3, none⟩ = some (.slice (some ⟨x, 0, none⟩) 1 cx)
  i0 : w.cell? ⟨i, 0, none⟩ = some (.int .i64 0)
  x0 : w.cell? ⟨x, 0, none⟩ = some (.int .i64 65536)

theorem M1.ch {S : Nat → Prop} {w w' : World} {o co p cp b cb i ci x cx : Nat} (h : M1 w o co p cp b cb i ci x cx) (hc : Ch S w w') (so : ¬ S o) (sp : ¬ S p) (sb : ¬ S b) (si : ¬ S i) (sx : ¬ S x) : M1 w' o co p cp b cb i ci x cx := by
  have hz := hc.size
  have k : ∀ (g n : Nat), g < w.heap.size → ¬ S g → w'.cell? ⟨g, n, none⟩ = w.cell? ⟨g, n, none⟩ := fun g n hg hn => hc.cell (p := ⟨g, n, none⟩) hg hn
  obtain ⟨lo, lp, lb, li, lx, ho, hp, hb, hi, hx, o0, o1, o2, o3, o4, o5, p0, p1, p2, p3, b0, b1, b2, b3, i0, x0⟩ := h
  refine ⟨by omega, by omega, by omega, by omega, by omega, ho, hp, hb, hi, hx, ?_, ?_, ?_, ?_, ?_, ?_, ?_, ?_, ?_, ?_, ?_, ?_, ?_, ?_, ?_, ?_⟩ <;> (rw [k _ _ (by assumption) (by assumption)]; assumption)

theorem M1.gr {w w' : World} {o co p cp b cb i ci x cx : Nat} (h : M1 w o co p cp b cb i ci x cx) (hc : Gr w w') : M1 w' o co p cp b cb i ci x cx :=
  h.ch hc (fun f => f) (fun f => f) (fun f => f) (fun f => f) (fun f => f)

section
variable {w : World} {o co p cp b cb i ci x cx : Nat}

set_option maxHeartbeats 400000 in
theorem pool_one (h : M1 w o co p cp b cb i ci x cx) :
    Calls Try.prog 20 #[M1v o co p cp b cb, .int .i64 1] w fun e w' => e = .returned (.tuple #[.agg #[.int .i64 1, .int .i64 1, .int .i64 1, .int .i64 1], .bool true]) ∧ Gr w w' := by
  have lp := h.lp
  have p0 := h.p0
  have p1 := h.p1
  have p2 := h.p2
  have p3 := h.p3
  clear h
  go_enter Try.func20, Try.ntmps20
  go_wp2
  refine wp_loop_rounds 1 ?_
  rw [rounds_succ]
  go_wp2
  exact bodyPost_ret (v := .tuple #[.agg #[.int .i64 1, .int .i64 1, .int .i64 1, .int .i64 1], .bool true]) (by simp [results, Try.results20, go_sem]) rfl ⟨rfl, ((Ch.refl _ _).alloc _).alloc _⟩

set_option maxHeartbeats 400000 in
theorem pool_none (w : World) (e l : Value) (id : Int) :
    Calls Try.prog 20 #[.agg #[e, .slice none 0 0, .slice none 0 0, .slice none 0 0, l], .int .i64 id] w fun e w' => e = .returned (.tuple #[.agg #[.int .i64 0, .int .i64 0, .int .i64 0, .int .i64 0], .bool false]) ∧ Gr w w' := by
  go_enter Try.func20, Try.ntmps20
  go_wp2
  refine wp_loop_rounds 1 ?_
  rw [rounds_succ]
  go_wp2
  exact bodyPost_ret (v := .tuple #[.agg #[.int .i64 0, .int .i64 0, .int .i64 0, .int .i64 0], .bool false]) (by simp [results, Try.results20, go_sem]) rfl ⟨rfl, ((Ch.refl _ _).alloc _).alloc _⟩

set_option maxHeartbeats 400000 in
theorem stableMod_one (a : Int) (w : World) :
    Calls Try.prog 48 #[.int .u32 a, .int .i64 1] w fun e w' => e = .returned (.int .i64 0) ∧ w = w' := by
  go_enter Try.func48, Try.ntmps48
  go_wp2
  go_ret
  exact ⟨rfl, rfl⟩

set_option maxHeartbeats 400000 in
theorem able_one (h : M1 w o co p cp b cb i ci x cx) :
    Calls Try.prog 53 #[M1v o co p cp b cb, .int .i64 0] w fun e w' => e = .returned (.bool true) ∧ Gr w w' := by
  have lo := h.lo
  have o0 := h.o0
  have o1 := h.o1
  have o2 := h.o2
  have o3 := h.o3
  have o4 := h.o4
  have o5 := h.o5
  clear h
  go_enter Try.func53, Try.ntmps53
  go_wp2
  go_ret
  exact ⟨rfl, ((Ch.refl _ _).alloc _).alloc _⟩
end
end Go.Proofs.Ythjficahhcjfgaa
