/-
  The map's change 'an osd is up', of the empty map: made.
-/
import Derived.Test.YthjficahhcjfgaaOsd5
import Derived.BigRegion
namespace Go.Proofs.Ythjficahhcjfgaa
open Go.RowKit

theorem own_blk {w : World} {B : Nat} {e : TypeId} {size n g c : Nat} {xs : List Value} (h : w.ownsRow B e size (.slice (some ⟨g, 0, none⟩) n c) n xs) : ∃ cur, Blk w g e cur := by
  rcases h.2 with ⟨h', _⟩ | ⟨g', cap', cur, h', _, hb, _⟩
  · simp at h'
  · simp only [Value.slice.injEq, Option.some.injEq, Addr.mk.injEq, and_true, true_and] at h'
    obtain ⟨rfl, rfl⟩ := h'
    exact ⟨cur, hb⟩

/-- A map with its first osd. -/
def WithO (w : World) (p b l : Value) (en : Ending) (w' : World) : Prop :=
  ∃ o co, en = .returned (.agg #[.int .i64 0, .slice (some ⟨o, 0, none⟩) 1 co, p, b, l]) ∧ w'.cell? ⟨o, 0, none⟩ = some (.bool true) ∧ w'.cell? ⟨o, 1, none⟩ = some (.bool true) ∧ w'.cell? ⟨o, 2, none⟩ = some (.int .i64 65536) ∧ w'.cell? ⟨o, 3, none⟩ = some (.int .i64 3) ∧
    w'.cell? ⟨o, 4, none⟩ = some (.int .i64 1) ∧ w'.cell? ⟨o, 5, none⟩ = some (.int .i64 0) ∧ o < w'.heap.size ∧ 1 ≤ co ∧ w.heap.size ≤ o ∧ Gr w w'

set_option maxHeartbeats 4000000 in
set_option maxRecDepth 100000 in
theorem made_up (l : Int) (bA : Option Addr) (bn bc : Nat) (w : World) :
    Calls Try.prog 25 #[mapE 0 bA bn bc l, chUp] w (WithO w (.slice none 0 0) (.slice bA bn bc) (.int .i64 l)) := by
  obtain ⟨i0_, hi0, hz0, hz1, hz2⟩ := info_parts info113
  go_enter Try.func25, Try.ntmps25
  go_wp2_with fail
  obtain ⟨W, hW, hg, hz, k1, k2, k3⟩ := mk3 w _ _ _ _ _ _
  rw [← hW]
  clear hW
  have a1 := k1.cell 1
  have al := k1.lt
  have af := k1.frozen
  have b0 := k2.cell 0
  have b1 := k2.cell 1
  have b2 := k2.cell 2
  have bl := k2.lt
  simp at a1 b0 b1 b2
  have HG := hide hg
  have HK1 := hide k1
  have HK2 := hide k2
  have HK3 := hide k3
  have HZ := hide hz
  clear hg k1 k2 k3 hz
  refine wp_loop_rounds 2 ?_
  rw [rounds_succ]
  go_wp2_with (first
    | (at_builtin
       refine wpList_append_lies _ rfl _ _ 68 rfl W.heap.size 113 i0_ _ 6 40 Try.underlying68 hi0 hz0 hz1 hz2 rfl (by omega) (.slice none 0 0) 0 [] rfl (World.ownsRow_nil _ _ _ _) ⟨W.heap.size, 0, none⟩ 1 1 [.bool false, .bool false, .int .i64 0, .int .i64 0, .int .i64 0, .int .i64 0] rfl rfl (World.news_of_block (cs := #[.bool false, .bool false, .int .i64 0, .int .i64 0, .int .i64 0, .int .i64 0]) (t := 113) (fr := (0, 0)) (Blk.new _ _ _)) (by simp [Value.oneCell']) (by omega) (by simp [maxLen]) (by omega) (by simp) (W.heap.size + 1) (by simp) ?_
       intro g cap w1 hown hgrow hat hlt
       have hg1 : Gr W w1 := ((Ch.refl _ _).alloc _).grown hgrow (fun k hk => by simp [Value.ownBlock] at hk)
       simp only [Nat.zero_add, List.nil_append] at hown
       have HO := hide hown
       have HG1 := hide hg1
       have a1' := (HK1.out.gr hg1).cell 1
       have al' := (HK1.out.gr hg1).lt
       have af' := (HK1.out.gr hg1).frozen
       simp at a1'
       clear hown hgrow hat hlt hg1)
    | fail)
  rw [rounds_succ]
  have hO := HO.out
  have hgl := own_lt hO
  have hcap := own_cap hO
  have hsW := HZ.out
  obtain ⟨cur, hcur⟩ := own_blk hO
  have hgn : g ≠ w.heap.size := by omega
  have mkF : ∀ v : Value, ∃ F, F = w1.setCell ⟨w.heap.size, 1, none⟩ v ∧ Gr w F ∧ Ch (· = w.heap.size) w1 F ∧ Blk F w.heap.size 72 #[.int .i64 0, v, .slice none 0 0, .slice bA bn bc, .int .i64 l] ∧ Blk F g 113 cur := fun v =>
    ⟨_, rfl, (HG.out.gr HG1.out).set (p := ⟨w.heap.size, 1, none⟩) (.inr (Nat.le_refl _)) v, (Ch.refl (· = w.heap.size) w1).set (p := ⟨w.heap.size, 1, none⟩) (.inl rfl) v, by simpa using (HK1.out.gr HG1.out).set_ 1 v, hcur.far (p := ⟨w.heap.size, 1, none⟩) hgn v⟩
  have g0 := hO.cellAt 0 (by omega)
  have g1 := hO.cellAt 1 (by omega)
  have g2 := hO.cellAt 2 (by omega)
  have g3 := hO.cellAt 3 (by omega)
  have g4 := hO.cellAt 4 (by omega)
  have g5 := hO.cellAt 5 (by omega)
  simp at g0 g1 g2 g3 g4 g5
  rw [hcur.cell] at g0 g1 g2 g3 g4 g5
  obtain ⟨F, hF, hgF, hcF, kF, cF⟩ := mkF _
  rw [← hF]
  clear hF mkF a1 b0 b1 b2 a1' af af' al al'
  have f0 := (cF.cell 0).trans g0
  have f1 := (cF.cell 1).trans g1
  have f2 := (cF.cell 2).trans g2
  have f3 := (cF.cell 3).trans g3
  have f4 := (cF.cell 4).trans g4
  have f5 := (cF.cell 5).trans g5
  have ff := cF.frozen
  have fl := cF.lt
  have a0 := kF.cell 0
  have a1 := kF.cell 1
  have a2 := kF.cell 2
  have a3 := kF.cell 3
  have a4 := kF.cell 4
  have af := kF.frozen
  have al := kF.lt
  have K2 := (HK2.out.gr HG1.out).ch hcF (by omega)
  have b0 := K2.cell 0
  have b1 := K2.cell 1
  have b2 := K2.cell 2
  have bl := K2.lt
  have K3 := (HK3.out.gr HG1.out).ch hcF (by omega)
  have z0 := K3.cell 0
  have z1 := K3.cell 1
  have z2 := K3.cell 2
  have z3 := K3.cell 3
  have z4 := K3.cell 4
  have zf := K3.frozen
  have zl := K3.lt
  simp at a0 a1 a2 a3 a4 b0 b1 b2 z0 z1 z2 z3 z4
  have HGF := hide hgF
  have HCF := hide cF
  have HKF := hide kF
  clear hO hcur K2 K3 hgF hcF cF kF
  have hn1 : ¬ (g = w.heap.size + 1) := by omega
  have hn2 : ¬ (g = w.heap.size + 1 + 1) := by omega
  have hn3 : ¬ (w.heap.size = g) := by omega
  have hn4 : ¬ (w.heap.size + 1 = g) := by omega
  have hn5 : ¬ (w.heap.size + 1 + 1 = g) := by omega
  go_wp2_with fail
  have mkG : ∀ v : Value, ∃ G, G = F.setCell ⟨g, 2, none⟩ v ∧ Gr w G ∧ Ch (· = g) F G ∧ Blk G g 113 (cur.setIfInBounds 2 v) := fun v =>
    ⟨_, rfl, HGF.out.set (p := ⟨g, 2, none⟩) (.inr (by show w.heap.size ≤ g; omega)) v, (Ch.refl (· = g) F).set (p := ⟨g, 2, none⟩) (.inl rfl) v, HCF.out.set_ 2 v⟩
  have csz : 2 < cur.size := (Array.getElem?_eq_some_iff.1 g2).1
  obtain ⟨G, hG, hgG, hcG, kG⟩ := mkG (.int .i64 65536)
  have f0 : G.cell? ⟨g, 0, none⟩ = some (.bool false) := (kG.cell 0).trans (by simp [Array.getElem?_setIfInBounds, g0, csz])
  have f1 : G.cell? ⟨g, 1, none⟩ = some (.bool false) := (kG.cell 1).trans (by simp [Array.getElem?_setIfInBounds, g1, csz])
  have f2 : G.cell? ⟨g, 2, none⟩ = some (.int .i64 65536) := (kG.cell 2).trans (by simp [Array.getElem?_setIfInBounds, g2, csz])
  have f3 : G.cell? ⟨g, 3, none⟩ = some (.int .i64 0) := (kG.cell 3).trans (by simp [Array.getElem?_setIfInBounds, g3, csz])
  have f4 : G.cell? ⟨g, 4, none⟩ = some (.int .i64 0) := (kG.cell 4).trans (by simp [Array.getElem?_setIfInBounds, g4, csz])
  have f5 : G.cell? ⟨g, 5, none⟩ = some (.int .i64 0) := (kG.cell 5).trans (by simp [Array.getElem?_setIfInBounds, g5, csz])
  have ff := kG.frozen
  have fl := kG.lt
  rw [← hG]
  have HGG := hide hgG
  have KA := HKF.out.ch hcG hn3
  have a0 := KA.cell 0
  have a1 := KA.cell 1
  have a2 := KA.cell 2
  have a3 := KA.cell 3
  have a4 := KA.cell 4
  have al := KA.lt
  have b2 : G.cell? ⟨w.heap.size + 1, 2, none⟩ = some (.int .i64 3) := (hcG.cell (p := ⟨w.heap.size + 1, 2, none⟩) bl hn4).trans b2
  have z0 := (hcG.cell (p := ⟨w.heap.size + 1 + 1, 0, none⟩) zl hn5).trans z0
  have z1 := (hcG.cell (p := ⟨w.heap.size + 1 + 1, 1, none⟩) zl hn5).trans z1
  have z2 := (hcG.cell (p := ⟨w.heap.size + 1 + 1, 2, none⟩) zl hn5).trans z2
  have z3 := (hcG.cell (p := ⟨w.heap.size + 1 + 1, 3, none⟩) zl hn5).trans z3
  have z4 := (hcG.cell (p := ⟨w.heap.size + 1 + 1, 4, none⟩) zl hn5).trans z4
  have zf : ∀ j, G.frozen? ⟨w.heap.size + 1 + 1, j, none⟩ = false := fun j => (hcG.frozen (p := ⟨w.heap.size + 1 + 1, j, none⟩) zl hn5).trans (zf j)
  simp at a0 a1 a2 a3 a4
  have al' := af
  have HgcG := hcG.size
  have HKG := hide kG
  clear hG mkG hgG hcG kG KA b0 b1 af
  go_region
  have mkV : ∀ v0 v1 v3 v4 : Value, ∃ V, V = ((((G.setCell ⟨g, 0, none⟩ v0).setCell ⟨g, 1, none⟩ v1).setCell ⟨g, 3, none⟩ v3).setCell ⟨g, 4, none⟩ v4).drew ∧ Ch (· = g) G V ∧
      Blk V g 113 (((((cur.setIfInBounds 2 (.int .i64 65536)).setIfInBounds 0 v0).setIfInBounds 1 v1).setIfInBounds 3 v3).setIfInBounds 4 v4) := fun v0 v1 v3 v4 =>
    ⟨_, rfl, (((((Ch.refl (· = g) G).set (p := ⟨g, 0, none⟩) (.inl rfl) v0).set (p := ⟨g, 1, none⟩) (.inl rfl) v1).set (p := ⟨g, 3, none⟩) (.inl rfl) v3).set (p := ⟨g, 4, none⟩) (.inl rfl) v4).drew,
      ((((HKG.out.set_ 0 v0).set_ 1 v1).set_ 3 v3).set_ 4 v4).drew⟩
  obtain ⟨V, hV, hcV, kV⟩ := mkV (.bool true) (.bool true) (.int .i64 3) (.int .i64 1)
  rw [← hV]
  have cz0 : 0 < cur.size := (Array.getElem?_eq_some_iff.1 g0).1
  have cz1 : 1 < cur.size := (Array.getElem?_eq_some_iff.1 g1).1
  have cz3 : 3 < cur.size := (Array.getElem?_eq_some_iff.1 g3).1
  have cz4 : 4 < cur.size := (Array.getElem?_eq_some_iff.1 g4).1
  have v0 : V.cell? ⟨g, 0, none⟩ = some (.bool true) := (kV.cell 0).trans (by simp [Array.getElem?_setIfInBounds, cz0])
  have v1 : V.cell? ⟨g, 1, none⟩ = some (.bool true) := (kV.cell 1).trans (by simp [Array.getElem?_setIfInBounds, cz1])
  have v2 : V.cell? ⟨g, 2, none⟩ = some (.int .i64 65536) := (kV.cell 2).trans (by simp [Array.getElem?_setIfInBounds, csz])
  have v3 : V.cell? ⟨g, 3, none⟩ = some (.int .i64 3) := (kV.cell 3).trans (by simp [Array.getElem?_setIfInBounds, cz3])
  have v4 : V.cell? ⟨g, 4, none⟩ = some (.int .i64 1) := (kV.cell 4).trans (by simp [Array.getElem?_setIfInBounds, cz4])
  have v5 : V.cell? ⟨g, 5, none⟩ = some (.int .i64 0) := (kV.cell 5).trans (by simp [Array.getElem?_setIfInBounds, g5])
  have vl := kV.lt
  have q : ∀ (b n : Nat) (u : Value), b < G.heap.size → ¬ b = g → G.cell? ⟨b, n, none⟩ = some u → V.cell? ⟨b, n, none⟩ = some u := fun b n u hb hn h => (hcV.cell (p := ⟨b, n, none⟩) hb hn).trans h
  have zl' : w.heap.size + 1 + 1 < G.heap.size := by omega
  have a0 := q _ _ _ al hn3 a0
  have a1 := q _ _ _ al hn3 a1
  have a2 := q _ _ _ al hn3 a2
  have a3 := q _ _ _ al hn3 a3
  have a4 := q _ _ _ al hn3 a4
  have z0 := q _ _ _ zl' hn5 z0
  have z1 := q _ _ _ zl' hn5 z1
  have z2 := q _ _ _ zl' hn5 z2
  have z3 := q _ _ _ zl' hn5 z3
  have z4 := q _ _ _ zl' hn5 z4
  have zf : ∀ j, V.frozen? ⟨w.heap.size + 1 + 1, j, none⟩ = false := fun j => (hcV.frozen (p := ⟨w.heap.size + 1 + 1, j, none⟩) zl' hn5).trans (zf j)
  have hfin : ∀ a2 a3 a4 a5 a6, WithO w (.slice none 0 0) (.slice bA bn bc) (.int .i64 l) (.returned (.agg #[.int .i64 0, .slice (some ⟨g, 0, none⟩) 1 cap, .slice none 0 0, .slice bA bn bc, .int .i64 l]))
      (((((V.setCell ⟨w.heap.size + 1 + 1, 0, none⟩ a2).setCell ⟨w.heap.size + 1 + 1, 1, none⟩ a3).setCell ⟨w.heap.size + 1 + 1, 2, none⟩ a4).setCell ⟨w.heap.size + 1 + 1, 3, none⟩ a5).setCell ⟨w.heap.size + 1 + 1, 4, none⟩ a6) := by
    intro a2 a3 a4 a5 a6
    have hs : Ch (fun k => k = w.heap.size + 1 + 1) V (((((V.setCell ⟨w.heap.size + 1 + 1, 0, none⟩ a2).setCell ⟨w.heap.size + 1 + 1, 1, none⟩ a3).setCell ⟨w.heap.size + 1 + 1, 2, none⟩ a4).setCell ⟨w.heap.size + 1 + 1, 3, none⟩ a5).setCell ⟨w.heap.size + 1 + 1, 4, none⟩ a6) :=
      ((((((Ch.refl (fun k => k = w.heap.size + 1 + 1) V).set (p := ⟨w.heap.size + 1 + 1, 0, none⟩) (.inl rfl) _).set (p := ⟨w.heap.size + 1 + 1, 1, none⟩) (.inl rfl) _).set (p := ⟨w.heap.size + 1 + 1, 2, none⟩) (.inl rfl) _).set (p := ⟨w.heap.size + 1 + 1, 3, none⟩) (.inl rfl) _).set (p := ⟨w.heap.size + 1 + 1, 4, none⟩) (.inl rfl) _)
    have hz' := hs.size
    have kk : ∀ (n : Nat) (u : Value), V.cell? ⟨g, n, none⟩ = some u → _ = some u := fun n u h => (hs.cell (p := ⟨g, n, none⟩) vl (by simp; omega)).trans h
    exact ⟨g, cap, rfl, kk 0 _ v0, kk 1 _ v1, kk 2 _ v2, kk 3 _ v3, kk 4 _ v4, kk 5 _ v5, by omega, hcap, by omega, ((HGG.out.any : Ch (fun k => w.heap.size ≤ k) w G).trans (hcV.mono (fun i _ h => by show w.heap.size ≤ i; omega)) (fun i _ h => h)).trans hs (fun i hi h => by omega) |>.mono (fun i hi h => by omega)⟩
  have HF := hide hfin
  clear hfin q hcV kV hV mkV v0 v1 v2 v3 v4 v5 f0 f1 f2 f3 f4 f5 ff fl
  go_wp2
  exact bodyPost_ret (v := .agg #[.int .i64 0, .slice (some ⟨g, 0, none⟩) 1 cap, .slice none 0 0, .slice bA bn bc, .int .i64 l]) (by simp [results, Try.results25, go_sem, z0, z1, z2, z3, z4]) rfl (HF.out _ _ _ _ _)

end Go.Proofs.Ythjficahhcjfgaa
