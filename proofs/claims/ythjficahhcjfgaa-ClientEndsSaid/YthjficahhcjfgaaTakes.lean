/-
  The chooser of the one osd.
-/
import Derived.Test.YthjficahhcjfgaaRoots
import Derived.Test.YthjficahhcjfgaaChoose
namespace Go.Proofs.Ythjficahhcjfgaa
open Go.RowKit

theorem tmod_small (h : Int) : decide (IntKind.i64.wrap (h.tmod 65536) < 65536) = true := by
  have h1 : h.tmod 65536 < 65536 := Int.tmod_lt_of_pos h (by omega)
  have h2 : -65536 < h.tmod 65536 := by
    rcases Int.le_total 0 h with h0 | h0
    · rw [Int.tmod_eq_emod_of_nonneg h0]; omega
    · have e : h.tmod 65536 = -((-h).tmod 65536) := by rw [Int.neg_tmod]; omega
      rw [e, Int.tmod_eq_emod_of_nonneg (by omega)]; omega
  rw [decide_eq_true_eq, IntKind.wrap_i64]
  omega

/-- A chooser's block, nothing chosen yet. -/
abbrev chooserCells (o co p cp b cb : Nat) (xv : Int) : Array Value :=
  #[.int .i64 1, .slice (some ⟨o, 0, none⟩) 1 co, .slice (some ⟨p, 0, none⟩) 1 cp, .slice (some ⟨b, 0, none⟩) 1 cb, .int .i64 0, .int .u32 xv, .slice none 0 0, .slice none 0 0]

set_option maxHeartbeats 1000000 in
set_option maxRecDepth 100000 in
theorem takes_one (g : Nat) (xv : Int) (o co p cp b cb i ci x cx : Nat) (w : World) (h : M1 w o co p cp b cb i ci x cx) (hb : Blk w g 164 (chooserCells o co p cp b cb xv)) :
    Calls Try.prog 72 #[.pointer (some ⟨g, 0, none⟩), .int .i64 0] w fun e w' => e = .returned (.bool true) ∧ Gr w w' := by
  have c0 := hb.cell 0
  have c1 := hb.cell 1
  have c5 := hb.cell 5
  have c6 := hb.cell 6
  simp at c0 c1 c5 c6
  have lo := h.lo
  have lg := hb.lt
  have o0 := h.o0
  have o1 := h.o1
  have o2 := h.o2
  have o3 := h.o3
  have o4 := h.o4
  have o5 := h.o5
  have ho := h.ho
  have mk : ∀ a : Array Value, ∃ W : World, W = w.alloc (.cells a 113) ∧ Gr w W ∧ Blk W w.heap.size 113 a := fun a => ⟨_, rfl, (Ch.refl _ _).alloc _, Blk.new _ _ _⟩
  go_enter Try.func72, Try.ntmps72
  go_wp2_with (go_at_call 68; refine (contains_nil _ _).mono ?_; rintro e' w' ⟨rfl, rfl⟩)
  obtain ⟨W, hW, hgW, k⟩ := mk _
  rw [← hW]
  clear hW mk
  have H' : Hid (∀ w', Gr W w' → w'.cell? ⟨w.heap.size, 0, none⟩ = some (.bool true) ∧ w'.cell? ⟨w.heap.size, 1, none⟩ = some (.bool true) ∧ w'.cell? ⟨w.heap.size, 2, none⟩ = some (.int .i64 65536) ∧ w'.cell? ⟨g, 5, none⟩ = some (.int .u32 xv)) := by
    intro w' h1
    have k' := k.gr h1
    exact ⟨k'.cell 0, k'.cell 1, k'.cell 2, (hb.gr (hgW.gr h1)).cell 5⟩
  obtain ⟨q0, q1, q2, q3⟩ := H'.out W (Ch.refl _ _)
  have hg0 : Hid (Gr W W.drew) := (Ch.refl _ _).drew
  have HG := hide hgW
  clear c0 c1 c5 c6 o0 o1 o2 o3 o4 o5 hgW k hb h
  go_region_held3 (fun w' => w'.cell? ⟨w.heap.size, 0, none⟩ = some (.bool true) ∧ w'.cell? ⟨w.heap.size, 1, none⟩ = some (.bool true) ∧ w'.cell? ⟨w.heap.size, 2, none⟩ = some (.int .i64 65536) ∧ w'.cell? ⟨g, 5, none⟩ = some (.int .u32 xv))
    (first | go_keep | exact H'.out _ hg2.out | exact H'.out _ hg1.out)
    (first
      | (go_at_call 49; refine (new_any _).mono ?_; rintro e' w1 ⟨rfl, hw1⟩; have hg1 : Hid (Gr W w1) := hw1 ▸ hg0.out.alloc _; clear hw1)
      | (go_at_call 52; refine (hash2_any _ _ _ _).mono ?_; rintro e' w2 ⟨⟨hv, rfl⟩, hgr⟩; have hg2 : Hid (Gr W w2) := hg1.out.gr hgr; clear hgr))
  go_wp2
  go_ret
  exact ⟨by rw [tmod_small]; rfl, HG.out.gr hg2.out⟩

end Go.Proofs.Ythjficahhcjfgaa
