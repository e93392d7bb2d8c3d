/-
  osdmap.bucket, crush.Bucket: a bucket of one item, copied.
-/
import Derived.Test.YthjficahhcjfgaaOwn
import Derived.Test.YthjficahhcjfgaaMap1
import Derived.Deep.RegionHeld3
import Derived.Deep.RegionWith
namespace Go.Proofs.Ythjficahhcjfgaa
open Go.RowKit

/-- A new list of one number; nothing that was there has turned. -/
def Fresh1 (w : World) (v : Int) (en : Ending) (w' : World) : Prop :=
  ∃ g c, en = .returned (.slice (some ⟨g, 0, none⟩) 1 c) ∧ w'.cell? ⟨g, 0, none⟩ = some (.int .i64 v) ∧ w.heap.size ≤ g ∧ g < w'.heap.size ∧ 1 ≤ c ∧ Gr w w'

theorem clone_one (i c : Nat) (v : Int) (w : World) (hi : i < w.heap.size) (hc : w.cell? ⟨i, 0, none⟩ = some (.int .i64 v)) :
    Calls Try.prog 40 #[.slice (some ⟨i, 0, none⟩) 1 c] w (Fresh1 w v) := by
  refine (clone_int i c (.int .i64 v) w (by simp [Value.oneCell']) hi hc).mono ?_
  rintro e w' ⟨g, c', rfl, ho, hg⟩
  exact ⟨g, c', rfl, by simpa using ho.cellAt 0 (by omega), (own_lt ho).1, (own_lt ho).2, own_cap ho, hg⟩

/-- A bucket's value: its number and kind, its one item and that one's weight. -/
def BucketV (w : World) (id kind item weight : Int) (v : Value) : Prop :=
  ∃ gi ci gx cx, v = .agg #[.int .i64 id, .int .i64 kind, .slice (some ⟨gi, 0, none⟩) 1 ci, .slice (some ⟨gx, 0, none⟩) 1 cx] ∧
    w.cell? ⟨gi, 0, none⟩ = some (.int .i64 item) ∧ w.cell? ⟨gx, 0, none⟩ = some (.int .i64 weight) ∧ gi < w.heap.size ∧ gx < w.heap.size ∧ 1 ≤ ci ∧ 1 ≤ cx

def BucketR (w : World) (id kind item weight : Int) (en : Ending) (w' : World) : Prop := ∃ v, en = .returned v ∧ BucketV w' id kind item weight v ∧ Gr w w'

theorem bucket_end {w w2 : World} {id kind item weight : Int} {g1 c1 g2 c2 : Nat} (a1 a2 a3 a4 a5 a6 : Value) (hg : Gr w w2) (n1 : w.heap.size + 2 ≤ g1) (n2 : w.heap.size + 2 ≤ g2) (l1 : g1 < w2.heap.size) (l2 : g2 < w2.heap.size)
    (h1 : w2.cell? ⟨g1, 0, none⟩ = some (.int .i64 item)) (h2 : w2.cell? ⟨g2, 0, none⟩ = some (.int .i64 weight)) (k1 : 1 ≤ c1) (k2 : 1 ≤ c2) :
    BucketR w id kind item weight (.returned (.agg #[.int .i64 id, .int .i64 kind, .slice (some ⟨g1, 0, none⟩) 1 c1, .slice (some ⟨g2, 0, none⟩) 1 c2]))
      ((((((w2.setCell ⟨w.heap.size, 2, none⟩ a1).setCell ⟨w.heap.size, 3, none⟩ a2).setCell ⟨w.heap.size + 1, 0, none⟩ a3).setCell ⟨w.heap.size + 1, 1, none⟩ a4).setCell ⟨w.heap.size + 1, 2, none⟩ a5).setCell ⟨w.heap.size + 1, 3, none⟩ a6) := by
  have hs : Ch (fun k => k = w.heap.size ∨ k = w.heap.size + 1) w2 ((((((w2.setCell ⟨w.heap.size, 2, none⟩ a1).setCell ⟨w.heap.size, 3, none⟩ a2).setCell ⟨w.heap.size + 1, 0, none⟩ a3).setCell ⟨w.heap.size + 1, 1, none⟩ a4).setCell ⟨w.heap.size + 1, 2, none⟩ a5).setCell ⟨w.heap.size + 1, 3, none⟩ a6) :=
    (((((((Ch.refl _ _).set (p := ⟨w.heap.size, 2, none⟩) (.inl (.inl rfl)) _).set (p := ⟨w.heap.size, 3, none⟩) (.inl (.inl rfl)) _).set (p := ⟨w.heap.size + 1, 0, none⟩) (.inl (.inr rfl)) _).set (p := ⟨w.heap.size + 1, 1, none⟩) (.inl (.inr rfl)) _).set (p := ⟨w.heap.size + 1, 2, none⟩) (.inl (.inr rfl)) _).set (p := ⟨w.heap.size + 1, 3, none⟩) (.inl (.inr rfl)) _)
  refine ⟨_, rfl, ⟨g1, c1, g2, c2, rfl, (hs.cell (p := ⟨g1, 0, none⟩) l1 (by simp; omega)).trans h1, (hs.cell (p := ⟨g2, 0, none⟩) l2 (by simp; omega)).trans h2, Nat.lt_of_lt_of_le l1 hs.size, Nat.lt_of_lt_of_le l2 hs.size, k1, k2⟩, hg.trans hs (fun i hi e => by omega)⟩

set_option maxHeartbeats 1000000 in
set_option maxRecDepth 100000 in
theorem bucket_one (id kind item weight : Int) (i ci x cx : Nat) (w : World) (li : i < w.heap.size) (lx : x < w.heap.size)
    (hi : w.cell? ⟨i, 0, none⟩ = some (.int .i64 item)) (hx : w.cell? ⟨x, 0, none⟩ = some (.int .i64 weight)) :
    Calls Try.prog 31 #[.agg #[.int .i64 id, .int .i64 kind, .slice (some ⟨i, 0, none⟩) 1 ci, .slice (some ⟨x, 0, none⟩) 1 cx]] w (BucketR w id kind item weight) := by
  have mk : ∀ a b : Array Value, ∃ W : World, W = (w.alloc (.cells a 93)).alloc (.cells b 93) ∧ Gr w W ∧ W.heap.size = w.heap.size + 2 ∧ Blk W w.heap.size 93 a ∧ Blk W (w.heap.size + 1) 93 b :=
    fun a b => ⟨_, rfl, ((Ch.refl _ _).alloc _).alloc _, by simp, (Blk.new _ _ _).alloc _, Blk.new_ _ _ _ _ (by simp)⟩
  go_enter Try.func31, Try.ntmps31
  go_wp2
  obtain ⟨W, hW, hg, hz, b0, b1⟩ := mk _ _
  rw [← hW]
  clear hW mk
  have H' : Hid (∀ W1, Gr W W1 → W1.cell? ⟨w.heap.size, 0, none⟩ = some (.int .i64 id) ∧ W1.cell? ⟨w.heap.size, 1, none⟩ = some (.int .i64 kind) ∧ W1.cell? ⟨w.heap.size, 2, none⟩ = some (.slice (some ⟨i, 0, none⟩) 1 ci) ∧
      W1.cell? ⟨w.heap.size, 3, none⟩ = some (.slice (some ⟨x, 0, none⟩) 1 cx) ∧ W1.cell? ⟨i, 0, none⟩ = some (.int .i64 item) ∧ W1.cell? ⟨x, 0, none⟩ = some (.int .i64 weight) ∧
      (∀ j, W1.frozen? ⟨w.heap.size, j, none⟩ = false) ∧ W1.cell? ⟨w.heap.size + 1, 0, none⟩ = some (.int .i64 0) ∧ W1.cell? ⟨w.heap.size + 1, 1, none⟩ = some (.int .i64 0) ∧
      W1.cell? ⟨w.heap.size + 1, 2, none⟩ = some (.slice none 0 0) ∧ W1.cell? ⟨w.heap.size + 1, 3, none⟩ = some (.slice none 0 0) ∧ (∀ j, W1.frozen? ⟨w.heap.size + 1, j, none⟩ = false) ∧ W.heap.size ≤ W1.heap.size) := by
    intro W1 h1
    have k := b0.gr h1
    have k' := b1.gr h1
    exact ⟨k.cell 0, k.cell 1, k.cell 2, k.cell 3, ((hg.gr h1).cell (p := ⟨i, 0, none⟩) li (fun f => f)).trans hi, ((hg.gr h1).cell (p := ⟨x, 0, none⟩) lx (fun f => f)).trans hx, k.frozen, k'.cell 0, k'.cell 1, k'.cell 2, k'.cell 3, k'.frozen, h1.size⟩
  obtain ⟨d0, d1, d2, d3, d4, d5, f0, e0, e1, e2, e3, f1, _⟩ := H'.out W (Ch.refl _ _)
  have Li : i < W.heap.size := by omega
  have Lx : x < W.heap.size := by omega
  have hg0 : Hid (Gr W W.drew) := (Ch.refl _ _).drew
  have HG := hide hg
  have HZ := hide hz
  clear b0 b1 hg hz hi hx li lx
  go_region_with (first
    | (have _t := hg1; go_at_call 40; refine (clone_one _ _ _ _ (by first | omega | (simp; omega)) (by assumption)).mono ?_; rintro e' w2 ⟨g2, c2, rfl, hcg2, hng2, hlg2, hcc2, hgr2⟩
       have hg2 : Hid (Gr W w2) := hg1.out.gr hgr2
       have hcg1' := (hgr2.cell (p := ⟨g1, 0, none⟩) hlg1 (fun f => f)).trans hcg1
       have hlg1' : g1 < w2.heap.size := Nat.lt_of_lt_of_le hlg1 hgr2.size
       obtain ⟨d0, d1, d2, d3, d4, d5, f0, e0, e1, e2, e3, f1, hz2⟩ := H'.out w2 hg2.out
       clear hgr2)
    | (go_at_call 40; refine (clone_one _ _ _ _ (by first | omega | (simp; omega)) (by assumption)).mono ?_; rintro e' w1 ⟨g1, c1, rfl, hcg1, hng1, hlg1, hcc1, hgr1⟩
       have hg1 : Hid (Gr W w1) := hg0.out.gr hgr1
       obtain ⟨d0, d1, d2, d3, d4, d5, f0, e0, e1, e2, e3, f1, hz1⟩ := H'.out w1 hg1.out
       clear hgr1))
  all_goals
    have hfin := fun a1 a2 a3 a4 a5 a6 => bucket_end (w := w) (w2 := w2) (id := id) (kind := kind) (item := item) (weight := weight) a1 a2 a3 a4 a5 a6 (HG.out.gr hg2.out) (by have := HZ.out; have h : W.heap.size ≤ g1 := hng1; omega) (by have := HZ.out; have h1 := hz1; have h2 : w1.heap.size ≤ g2 := hng2; omega) hlg1' hlg2 (by assumption) (by assumption) hcc1 hcc2
    have HF := hide hfin
    clear hfin
    go_wp2
    exact bodyPost_ret (v := .agg #[.int .i64 id, .int .i64 kind, .slice (some ⟨g1, 0, none⟩) 1 c1, .slice (some ⟨g2, 0, none⟩) 1 c2]) (by simp [results, Try.results31, go_sem, d0, d1, d2, d3, e0, e1, e2, e3]) rfl (HF.out _ _ _ _ _ _)

end Go.Proofs.Ythjficahhcjfgaa
