/-
  The map's change 'a pool', of a map of no pools: made.
-/
import Derived.Test.YthjficahhcjfgaaOsd4
namespace Go.Proofs.Ythjficahhcjfgaa
open Go.RowKit

/-- A map with its first pool. -/
def WithP (w : World) (e o b l : Value) (en : Ending) (w' : World) : Prop :=
  ∃ p cp, en = .returned (.agg #[e, o, .slice (some ⟨p, 0, none⟩) 1 cp, b, l]) ∧ w'.cell? ⟨p, 0, none⟩ = some (.int .i64 1) ∧ w'.cell? ⟨p, 1, none⟩ = some (.int .i64 1) ∧ w'.cell? ⟨p, 2, none⟩ = some (.int .i64 1) ∧ w'.cell? ⟨p, 3, none⟩ = some (.int .i64 1) ∧
    p < w'.heap.size ∧ 1 ≤ cp ∧ w.heap.size ≤ p ∧ Gr w w'

set_option maxHeartbeats 1000000 in
set_option maxRecDepth 100000 in
theorem made_pool (e l : Int) (oA bA : Option Addr) (on oc bn bc : Nat) (w : World) :
    Calls Try.prog 25 #[.agg #[.int .i64 e, .slice oA on oc, .slice none 0 0, .slice bA bn bc, .int .i64 l], chPool] w (WithP w (.int .i64 e) (.slice oA on oc) (.slice bA bn bc) (.int .i64 l)) := by
  have hd : decide ((0 : Int) < 0) = false := by decide
  go_enter Try.func25, Try.ntmps25
  go_wp2_with fail
  refine wp_loop_rounds 1 ?_
  rw [rounds_succ]
  obtain ⟨W, hW, hg, hz, k1, k2, k3⟩ := mk3 w _ _ _ _ _ _
  rw [← hW]
  clear hW
  have a0 := k1.cell 0
  have a1 := k1.cell 1
  have a2 := k1.cell 2
  have a3 := k1.cell 3
  have a4 := k1.cell 4
  have al := k1.lt
  have b3 := k2.cell 3
  have b4 := k2.cell 4
  have b5 := k2.cell 5
  have b6 := k2.cell 6
  have bl := k2.lt
  simp at a0 a1 a2 a3 a4 b3 b4 b5 b6
  have HG := hide hg
  have HK1 := hide k1
  have HK2 := hide k2
  have HK3 := hide k3
  have HZ := hide hz
  clear hg k1 k2 k3 hz
  have mkE : ∀ (k : Nat) (a : Array Value), ∃ E, E = (W.drewN k).alloc (.cells a 95) ∧ Gr W E ∧ Blk E W.heap.size 95 a := fun k a => ⟨_, rfl, ((Ch.refl _ _).drewN k).alloc _, Blk.new_ (W.drewN k) 95 a W.heap.size rfl⟩
  go_wp2_with fail
  go_quiet (fail)
  go_wp2_with fail
  go_quiet (fail)
  go_wp2_with fail
  obtain ⟨E, hE, hgE, kE⟩ := mkE _ _
  rw [← hE]
  clear hE mkE a0 a1 a2 a3 a4 b3 b4 b5 b6
  refine (insert_nil _ _ _ _ W.heap.size 1 E kE (by simp [Value.oneCell'])).mono ?_
  rintro e' w1 ⟨g, cap, rfl, hown, hg1⟩
  have hg := hgE.gr hg1
  have a0 := (HK1.out.gr hg).cell 0
  have a1 := (HK1.out.gr hg).cell 1
  have a2 := (HK1.out.gr hg).cell 2
  have a3 := (HK1.out.gr hg).cell 3
  have a4 := (HK1.out.gr hg).cell 4
  have af := (HK1.out.gr hg).frozen
  have z0 := (HK3.out.gr hg).cell 0
  have z1 := (HK3.out.gr hg).cell 1
  have z2 := (HK3.out.gr hg).cell 2
  have z3 := (HK3.out.gr hg).cell 3
  have z4 := (HK3.out.gr hg).cell 4
  have zf := (HK3.out.gr hg).frozen
  simp at a0 a1 a2 a3 a4 z0 z1 z2 z3 z4
  have hgl := own_lt hown
  have hcap := own_cap hown
  have g0 := hown.cellAt 0 (by omega)
  have g1 := hown.cellAt 1 (by omega)
  have g2 := hown.cellAt 2 (by omega)
  have g3 := hown.cellAt 3 (by omega)
  simp at g0 g1 g2 g3
  have hsE := hgE.size
  have hsW := HZ.out
  have hfin : ∀ a1 a2 a3 a4 a5 a6, WithP w (.int .i64 e) (.slice oA on oc) (.slice bA bn bc) (.int .i64 l) (.returned (.agg #[.int .i64 e, .slice oA on oc, .slice (some ⟨g, 0, none⟩) 1 cap, .slice bA bn bc, .int .i64 l]))
      ((((((w1.setCell ⟨w.heap.size, 2, none⟩ a1).setCell ⟨w.heap.size + 1 + 1, 0, none⟩ a2).setCell ⟨w.heap.size + 1 + 1, 1, none⟩ a3).setCell ⟨w.heap.size + 1 + 1, 2, none⟩ a4).setCell ⟨w.heap.size + 1 + 1, 3, none⟩ a5).setCell ⟨w.heap.size + 1 + 1, 4, none⟩ a6) := by
    intro a1 a2 a3 a4 a5 a6
    have hs : Ch (fun k => k = w.heap.size ∨ k = w.heap.size + 1 + 1) w1 ((((((w1.setCell ⟨w.heap.size, 2, none⟩ a1).setCell ⟨w.heap.size + 1 + 1, 0, none⟩ a2).setCell ⟨w.heap.size + 1 + 1, 1, none⟩ a3).setCell ⟨w.heap.size + 1 + 1, 2, none⟩ a4).setCell ⟨w.heap.size + 1 + 1, 3, none⟩ a5).setCell ⟨w.heap.size + 1 + 1, 4, none⟩ a6) :=
      (((((((Ch.refl _ _).set (p := ⟨w.heap.size, 2, none⟩) (.inl (.inl rfl)) _).set (p := ⟨w.heap.size + 1 + 1, 0, none⟩) (.inl (.inr rfl)) _).set (p := ⟨w.heap.size + 1 + 1, 1, none⟩) (.inl (.inr rfl)) _).set (p := ⟨w.heap.size + 1 + 1, 2, none⟩) (.inl (.inr rfl)) _).set (p := ⟨w.heap.size + 1 + 1, 3, none⟩) (.inl (.inr rfl)) _).set (p := ⟨w.heap.size + 1 + 1, 4, none⟩) (.inl (.inr rfl)) _)
    have hz' := hs.size
    have kk : ∀ (n : Nat) (u : Value), w1.cell? ⟨g, n, none⟩ = some u → _ = some u := fun n u h => (hs.cell (p := ⟨g, n, none⟩) hgl.2 (by simp; omega)).trans h
    exact ⟨g, cap, rfl, kk 0 _ g0, kk 1 _ g1, kk 2 _ g2, kk 3 _ g3, by omega, hcap, by omega, (HG.out.gr hg).trans hs (fun i hi h => by omega)⟩
  have HF := hide hfin
  clear hfin g0 g1 g2 g3 hown hg hg1 hgE kE
  go_wp2_with fail
  exact bodyPost_ret (v := .agg #[.int .i64 e, .slice oA on oc, .slice (some ⟨g, 0, none⟩) 1 cap, .slice bA bn bc, .int .i64 l]) (by simp [results, Try.results25, go_sem, z0, z1, z2, z3, z4]) rfl (HF.out _ _ _ _ _ _)

end Go.Proofs.Ythjficahhcjfgaa
