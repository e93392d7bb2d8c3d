/-
  crush.Bucket: the bucket of a number, copied.
-/
import Derived.Test.YthjficahhcjfgaaBucket
namespace Go.Proofs.Ythjficahhcjfgaa
open Go.RowKit

def BucketR2 (w : World) (id kind item weight : Int) (en : Ending) (w' : World) : Prop := ∃ v, en = .returned (.tuple #[v, .bool true]) ∧ BucketV w' id kind item weight v ∧ Gr w w'

theorem bucket_end2 {w w2 : World} {id kind item weight : Int} {g1 c1 g2 c2 : Nat} (a1 a2 a3 a4 a5 a6 : Value) (hg : Gr w w2) (n1 : w.heap.size + 3 ≤ g1) (n2 : w.heap.size + 3 ≤ g2) (l1 : g1 < w2.heap.size) (l2 : g2 < w2.heap.size)
    (h1 : w2.cell? ⟨g1, 0, none⟩ = some (.int .i64 item)) (h2 : w2.cell? ⟨g2, 0, none⟩ = some (.int .i64 weight)) (k1 : 1 ≤ c1) (k2 : 1 ≤ c2) :
    BucketR2 w id kind item weight (.returned (.tuple #[.agg #[.int .i64 id, .int .i64 kind, .slice (some ⟨g1, 0, none⟩) 1 c1, .slice (some ⟨g2, 0, none⟩) 1 c2], .bool true]))
      ((((((w2.setCell ⟨w.heap.size + 1 + 1, 2, none⟩ a1).setCell ⟨w.heap.size + 1 + 1, 3, none⟩ a2).setCell ⟨w.heap.size + 1, 0, none⟩ a3).setCell ⟨w.heap.size + 1, 1, none⟩ a4).setCell ⟨w.heap.size + 1, 2, none⟩ a5).setCell ⟨w.heap.size + 1, 3, none⟩ a6) := by
  have hs : Ch (fun k => k = w.heap.size + 1 + 1 ∨ k = w.heap.size + 1) w2 ((((((w2.setCell ⟨w.heap.size + 1 + 1, 2, none⟩ a1).setCell ⟨w.heap.size + 1 + 1, 3, none⟩ a2).setCell ⟨w.heap.size + 1, 0, none⟩ a3).setCell ⟨w.heap.size + 1, 1, none⟩ a4).setCell ⟨w.heap.size + 1, 2, none⟩ a5).setCell ⟨w.heap.size + 1, 3, none⟩ a6) :=
    (((((((Ch.refl _ _).set (p := ⟨w.heap.size + 1 + 1, 2, none⟩) (.inl (.inl rfl)) _).set (p := ⟨w.heap.size + 1 + 1, 3, none⟩) (.inl (.inl rfl)) _).set (p := ⟨w.heap.size + 1, 0, none⟩) (.inl (.inr rfl)) _).set (p := ⟨w.heap.size + 1, 1, none⟩) (.inl (.inr rfl)) _).set (p := ⟨w.heap.size + 1, 2, none⟩) (.inl (.inr rfl)) _).set (p := ⟨w.heap.size + 1, 3, none⟩) (.inl (.inr rfl)) _)
  refine ⟨_, rfl, ⟨g1, c1, g2, c2, rfl, (hs.cell (p := ⟨g1, 0, none⟩) l1 (by simp; omega)).trans h1, (hs.cell (p := ⟨g2, 0, none⟩) l2 (by simp; omega)).trans h2, Nat.lt_of_lt_of_le l1 hs.size, Nat.lt_of_lt_of_le l2 hs.size, k1, k2⟩, hg.trans hs (fun i hi e => by omega)⟩

set_option maxHeartbeats 1000000 in
set_option maxRecDepth 100000 in
theorem crushBucket_one {w : World} {o co p cp b cb i ci x cx : Nat} (h : M1 w o co p cp b cb i ci x cx) :
    Calls Try.prog 44 #[M1v o co p cp b cb, .int .i64 (-1)] w (BucketR2 w (-1) 3 0 65536) := by
  have lb := h.lb
  have b0 := h.b0
  have b1 := h.b1
  have b2 := h.b2
  have b3 := h.b3
  have li := h.li
  have lx := h.lx
  have hi := h.i0
  have hx := h.x0
  clear h
  have mk : ∀ a b d : Array Value, ∃ W : World, W = ((w.alloc (.cells a 72)).alloc (.cells b 93)).alloc (.cells d 93) ∧ Gr w W ∧ W.heap.size = w.heap.size + 3 ∧ Blk W (w.heap.size + 1) 93 b ∧ Blk W (w.heap.size + 1 + 1) 93 d :=
    fun a b d => ⟨_, rfl, (((Ch.refl _ _).alloc _).alloc _).alloc _, by simp, (Blk.new_ _ _ _ _ (by simp)).alloc _, Blk.new_ _ _ _ _ (by simp)⟩
  go_enter Try.func44, Try.ntmps44
  go_wp2
  refine wp_loop_rounds 1 ?_
  rw [rounds_succ]
  go_wp2
  obtain ⟨W, hW, hg, hz, k1, k0⟩ := mk _ _ _
  rw [← hW]
  clear hW mk b0 b1 b2 b3
  have H' : Hid (∀ W1, Gr W W1 → W1.cell? ⟨w.heap.size + 1 + 1, 0, none⟩ = some (.int .i64 (-1)) ∧ W1.cell? ⟨w.heap.size + 1 + 1, 1, none⟩ = some (.int .i64 3) ∧ W1.cell? ⟨w.heap.size + 1 + 1, 2, none⟩ = some (.slice (some ⟨i, 0, none⟩) 1 ci) ∧ W1.cell? ⟨w.heap.size + 1 + 1, 3, none⟩ = some (.slice (some ⟨x, 0, none⟩) 1 cx) ∧ W1.cell? ⟨i, 0, none⟩ = some (.int .i64 0) ∧ W1.cell? ⟨x, 0, none⟩ = some (.int .i64 65536) ∧ (∀ j, W1.frozen? ⟨w.heap.size + 1 + 1, j, none⟩ = false) ∧ W1.cell? ⟨w.heap.size + 1, 0, none⟩ = some (.int .i64 0) ∧ W1.cell? ⟨w.heap.size + 1, 1, none⟩ = some (.int .i64 0) ∧ W1.cell? ⟨w.heap.size + 1, 2, none⟩ = some (.slice none 0 0) ∧ W1.cell? ⟨w.heap.size + 1, 3, none⟩ = some (.slice none 0 0) ∧ (∀ j, W1.frozen? ⟨w.heap.size + 1, j, none⟩ = false) ∧ W.heap.size ≤ W1.heap.size) := by
    intro W1 h1
    have k := k0.gr h1
    have k' := k1.gr h1
    exact ⟨k.cell 0, k.cell 1, k.cell 2, k.cell 3, ((hg.gr h1).cell (p := ⟨i, 0, none⟩) li (fun f => f)).trans hi, ((hg.gr h1).cell (p := ⟨x, 0, none⟩) lx (fun f => f)).trans hx, k.frozen, k'.cell 0, k'.cell 1, k'.cell 2, k'.cell 3, k'.frozen, h1.size⟩
  obtain ⟨d0, d1, d2, d3, d4, d5, f0, e0, e1, e2, e3, f1, _⟩ := H'.out W (Ch.refl _ _)
  have Li : i < W.heap.size := by omega
  have Lx : x < W.heap.size := by omega
  have hg0 : Hid (Gr W W.drew) := (Ch.refl _ _).drew
  have HG := hide hg
  have HZ := hide hz
  clear k0 k1 hg hz hi hx li lx
  go_region_with (first
    | (have _t := hg1; go_at_call 40; refine (clone_one _ _ _ _ (by first | omega | (simp; omega)) (by assumption)).mono ?_; rintro e' w2 ⟨g2, c2, rfl, hcg2, hng2, hlg2, hcc2, hgr2⟩
       have hg2 : Hid (Gr W w2) := hg1.out.gr hgr2
       have hcg1' := (hgr2.cell (p := ⟨g1, 0, none⟩) hlg1 (fun f => f)).trans hcg1
       have hlg1' : g1 < w2.heap.size := Nat.lt_of_lt_of_le hlg1 hgr2.size
       obtain ⟨d0, d1, d2, d3, d4, d5, f0, e0, e1, e2, e3, f1, hz2⟩ := H'.out w2 hg2.out
       clear hgr2)
    | (go_at_call 40; refine (clone_one _ _ _ _ (by first | omega | (simp; omega)) (by assumption)).mono ?_; rintro e' w1 ⟨g1, c1, rfl, hcg1, hng1, hlg1, hcc1, hgr1⟩
       have hg1 : Hid (Gr W w1) := hg0.out.gr hgr1
       obtain ⟨d0, d1, d2, d3, d4, d5, f0, e0, e1, e2, e3, f1, hz1⟩ := H'.out w1 hg1.out
       clear hgr1))
  all_goals
    have hfin := fun a1 a2 a3 a4 a5 a6 => bucket_end2 (w := w) (w2 := w2) (id := -1) (kind := 3) (item := 0) (weight := 65536) a1 a2 a3 a4 a5 a6 (HG.out.gr hg2.out) (by have := HZ.out; have h : W.heap.size ≤ g1 := hng1; omega) (by have := HZ.out; have h1 := hz1; have h2 : w1.heap.size ≤ g2 := hng2; omega) hlg1' hlg2 (by assumption) (by assumption) hcc1 hcc2
    have HF := hide hfin
    clear hfin
    go_wp2
    exact bodyPost_ret (v := .tuple #[.agg #[.int .i64 (-1), .int .i64 3, .slice (some ⟨g1, 0, none⟩) 1 c1, .slice (some ⟨g2, 0, none⟩) 1 c2], .bool true]) (by simp [results, Try.results44, go_sem, d0, d1, d2, d3, e0, e1, e2, e3]) rfl (HF.out _ _ _ _ _ _)

set_option maxHeartbeats 1000000 in
set_option maxRecDepth 100000 in
theorem crushBucket_none (w : World) (e o p l : Value) (id : Int) :
    Calls Try.prog 44 #[.agg #[e, o, p, .slice none 0 0, l], .int .i64 id] w fun e w' => e = .returned (.tuple #[.agg #[.int .i64 0, .int .i64 0, .slice none 0 0, .slice none 0 0], .bool false]) ∧ Gr w w' := by
  go_enter Try.func44, Try.ntmps44
  go_wp2
  refine wp_loop_rounds 1 ?_
  rw [rounds_succ]
  go_wp2
  exact bodyPost_ret (v := .tuple #[.agg #[.int .i64 0, .int .i64 0, .slice none 0 0, .slice none 0 0], .bool false]) (by simp [results, Try.results44, go_sem]) rfl ⟨rfl, ((Ch.refl _ _).alloc _).alloc _⟩

end Go.Proofs.Ythjficahhcjfgaa
