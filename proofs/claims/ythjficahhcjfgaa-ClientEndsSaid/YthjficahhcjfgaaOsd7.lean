/-
  osdmap.Copy, of the empty map.
-/
import Derived.Test.YthjficahhcjfgaaOsd6
namespace Go.Proofs.Ythjficahhcjfgaa
open Go.RowKit

/-- A copy of the empty map. -/
def CopyE (w : World) (en : Ending) (w' : World) : Prop :=
  ∃ bA bc, en = .returned (mapE 0 bA 0 bc 0) ∧ Gr w w'

set_option maxHeartbeats 4000000 in
set_option maxRecDepth 100000 in
theorem copy_empty (w : World) :
    Calls Try.prog 23 #[.agg #[.int .i64 0, .slice none 0 0, .slice none 0 0, .slice none 0 0, .int .i64 0]] w (CopyE w) := by
  obtain ⟨i0_, hi0, hz0, hz1, hz2⟩ := info_parts info93
  have hr0 : Array.range 0 = #[] := rfl
  have hm : ∀ W : World, (Instr.makeSlice 70 (.int .i64 0) (.int .i64 0)).run Try.prog W = .ok (.slice (some ⟨W.heap.size, 0, none⟩) 0 0) (W.alloc (.cells #[] 93)) := fun W => by
    have h := run_make (P := Try.prog) W 70 93 i0_ _ Try.underlying70 hi0 hz0 .i64 .i64 0 0 (by omega) (by omega) (by omega) (by omega)
    simpa [madeCells, hz1, hr0] using h
  go_enter Try.func23, Try.ntmps23
  go_wp2_with fail
  obtain ⟨W, hW, hg, k1, k2⟩ := mk2 w _ _ _ _
  rw [← hW]
  clear hW
  have a0 := k1.cell 0
  have a1 := k1.cell 1
  have a2 := k1.cell 2
  have a3 := k1.cell 3
  have a4 := k1.cell 4
  have al := k1.lt
  have af := k1.frozen
  have z0 := k2.cell 0
  have z1 := k2.cell 1
  have z2 := k2.cell 2
  have z3 := k2.cell 3
  have z4 := k2.cell 4
  have zl := k2.lt
  have zf := k2.frozen
  simp at a0 a1 a2 a3 a4 z0 z1 z2 z3 z4
  have HG := hide hg
  have HK2 := hide k2
  have mkV : ∀ v1 v2 : Value, ∃ V, V = ((W.setCell ⟨w.heap.size, 1, none⟩ v1).setCell ⟨w.heap.size, 2, none⟩ v2).drew ∧ Ch (· = w.heap.size) W V ∧ Blk V w.heap.size 72 #[.int .i64 0, v1, v2, .slice none 0 0, .int .i64 0] := fun v1 v2 =>
    ⟨_, rfl, (((Ch.refl (· = w.heap.size) W).set (p := ⟨w.heap.size, 1, none⟩) (.inl rfl) v1).set (p := ⟨w.heap.size, 2, none⟩) (.inl rfl) v2).drew, by simpa using ((k1.set_ 1 v1).set_ 2 v2).drew⟩
  clear hg k1 k2
  go_region_with (first
    | (go_at_call 29; refine (clone_osd_nil _).mono ?_; rintro e' w1 ⟨rfl, rfl⟩)
    | (go_at_call 30; refine (clone_pool_nil _).mono ?_; rintro e' w1 ⟨rfl, rfl⟩))
  all_goals
    obtain ⟨V, hV, hcV, kV⟩ := mkV _ _
    rw [← hV]
    have hne : ¬ (w.heap.size + 1 = w.heap.size) := by omega
    have k2 := HK2.out.ch hcV hne
    clear hV mkV a0 a1 a2 a3 a4 al af z0 z1 z2 z3 z4 zl zf
    have a0 := kV.cell 0
    have a1 := kV.cell 1
    have a2 := kV.cell 2
    have a3 := kV.cell 3
    have a4 := kV.cell 4
    have al := kV.lt
    have af := kV.frozen
    have z0 := k2.cell 0
    have z1 := k2.cell 1
    have z2 := k2.cell 2
    have z3 := k2.cell 3
    have z4 := k2.cell 4
    have zl := k2.lt
    have zf := k2.frozen
    simp at a0 a1 a2 a3 a4 z0 z1 z2 z3 z4
    have HGV : Hid (Ch (fun k => w.heap.size ≤ k) w V) := (HG.out.any : Ch (fun k => w.heap.size ≤ k) w W).trans hcV (fun i _ h => by show w.heap.size ≤ i; omega)
    clear hcV kV k2
    go_wp2_with fail
    refine wp_loop_rounds 1 ?_
    rw [rounds_succ]
    go_wp2
    have hfin : ∀ (a1 a2 a3 a4 a5 a6 : Value) (o : Obj), CopyE w (.returned (mapE 0 (some ⟨V.heap.size, 0, none⟩) 0 0 0))
        (((((((V.setCell ⟨w.heap.size, 3, none⟩ a1).setCell ⟨w.heap.size + 1, 0, none⟩ a2).setCell ⟨w.heap.size + 1, 1, none⟩ a3).setCell ⟨w.heap.size + 1, 2, none⟩ a4).setCell ⟨w.heap.size + 1, 3, none⟩ a5).setCell ⟨w.heap.size + 1, 4, none⟩ a6).alloc o) := fun a1 a2 a3 a4 a5 a6 o =>
      ⟨_, _, rfl, ((((((((HGV.out.set (p := ⟨w.heap.size, 3, none⟩) (.inr (Nat.le_refl _)) _).set (p := ⟨w.heap.size + 1, 0, none⟩) (.inr (Nat.le_succ _)) _).set (p := ⟨w.heap.size + 1, 1, none⟩) (.inr (Nat.le_succ _)) _).set (p := ⟨w.heap.size + 1, 2, none⟩) (.inr (Nat.le_succ _)) _).set (p := ⟨w.heap.size + 1, 3, none⟩) (.inr (Nat.le_succ _)) _).set (p := ⟨w.heap.size + 1, 4, none⟩) (.inr (Nat.le_succ _)) _).alloc o).mono (fun i hi h => by have h' : w.heap.size ≤ i := h; omega))⟩
    have HF := hide hfin
    clear hfin
    have hnv : w.heap.size + 1 ≠ V.heap.size := by omega
    have hnv' : V.heap.size ≠ w.heap.size + 1 := by omega
    exact bodyPost_ret (v := mapE 0 (some ⟨V.heap.size, 0, none⟩) 0 0 0) (by simp [results, Try.results23, go_sem, z0, z1, z2, z3, z4, zl, hnv, hnv', World.cell?_alloc_some]) rfl (HF.out _ _ _ _ _ _ _)

end Go.Proofs.Ythjficahhcjfgaa
