/-
  withBucket, of a map of no buckets.
-/
import Derived.Test.YthjficahhcjfgaaOsd2
namespace Go.Proofs.Ythjficahhcjfgaa
open Go.RowKit

theorem mk3 (w : World) (t u v : TypeId) (a b c : Array Value) : ∃ W, W = ((w.alloc (.cells a t)).alloc (.cells b u)).alloc (.cells c v) ∧ Gr w W ∧ W.heap.size = w.heap.size + 3 ∧ Blk W w.heap.size t a ∧ Blk W (w.heap.size + 1) u b ∧ Blk W (w.heap.size + 1 + 1) v c :=
  ⟨_, rfl, (((Ch.refl _ _).alloc _).alloc _).alloc _, by simp, ((Blk.new _ _ _).alloc _).alloc _, (Blk.new_ _ _ _ _ (by simp)).alloc _, Blk.new_ _ _ _ _ (by simp)⟩

set_option maxHeartbeats 1000000 in
set_option maxRecDepth 100000 in
theorem crushBucket_empty (w : World) (e o p l : Value) (bA : Option Addr) (bc : Nat) (id : Int) :
    Calls Try.prog 44 #[.agg #[e, o, p, .slice bA 0 bc, l], .int .i64 id] w fun e w' => e = .returned (.tuple #[.agg #[.int .i64 0, .int .i64 0, .slice none 0 0, .slice none 0 0], .bool false]) ∧ Gr w w' := by
  go_enter Try.func44, Try.ntmps44
  go_wp2
  refine wp_loop_rounds 1 ?_
  rw [rounds_succ]
  go_wp2
  exact bodyPost_ret (v := .tuple #[.agg #[.int .i64 0, .int .i64 0, .slice none 0 0, .slice none 0 0], .bool false]) (by simp [results, Try.results44, go_sem]) rfl ⟨rfl, ((Ch.refl _ _).alloc _).alloc _⟩

/-- A map with its first bucket. -/
def WithB (w : World) (e o p : Value) (en : Ending) (w' : World) : Prop :=
  ∃ b cb i ci x cx, en = .returned (.agg #[e, o, p, .slice (some ⟨b, 0, none⟩) 1 cb, .int .i64 0]) ∧ BK w' b i ci x cx ∧ 1 ≤ cb ∧ w.heap.size ≤ b ∧ w.heap.size ≤ i ∧ w.heap.size ≤ x ∧ Gr w w'

theorem info93 : (Try.prog.info? 93).map (fun i => (i.zero, i.size, i.bytes)) = some (some (.agg #[.int .i64 0, .int .i64 0, .slice none 0 0, .slice none 0 0]), 4, 64) := by kernel_rfl

set_option maxHeartbeats 1000000 in
set_option maxRecDepth 100000 in
theorem withBucket_new (e : Int) (oA pA bA : Option Addr) (on oc pn pc bc : Nat) (i ci x cx : Nat) (w : World) (li : i < w.heap.size) (lx : x < w.heap.size)
    (hi : w.cell? ⟨i, 0, none⟩ = some (.int .i64 0)) (hx : w.cell? ⟨x, 0, none⟩ = some (.int .i64 65536)) :
    Calls Try.prog 36 #[.agg #[.int .i64 e, .slice oA on oc, .slice pA pn pc, .slice bA 0 bc, .int .i64 0], .agg #[.int .i64 (-1), .int .i64 3, .slice (some ⟨i, 0, none⟩) 1 ci, .slice (some ⟨x, 0, none⟩) 1 cx]] w (WithB w (.int .i64 e) (.slice oA on oc) (.slice pA pn pc)) := by
  obtain ⟨i0_, hi0, hz0, hz1, hz2⟩ := info_parts info93
  go_enter Try.func36, Try.ntmps36
  go_wp2
  refine wp_loop_rounds 1 ?_
  rw [rounds_succ]
  go_wp2_with fail
  obtain ⟨W, hW, hg, hz, k1, k2, k3⟩ := mk3 w _ _ _ _ _ _
  rw [← hW]
  clear hW
  have hsz := hg.size
  refine (bucket_new (-1) 3 0 65536 i ci x cx W (by omega) (by omega) ((hg.cell (p := ⟨i, 0, none⟩) li (fun f => f)).trans hi) ((hg.cell (p := ⟨x, 0, none⟩) lx (fun f => f)).trans hx)).mono ?_
  rintro e' w1 ⟨gi, ci', gx, cx', rfl, hci, hcx, li1, lx1, ni, nx, hc1, hx1, hg1⟩
  have HG1 := hide (hg.gr hg1)
  have HK1 := hide (k1.gr hg1)
  have HK2 := hide (k2.gr hg1)
  have HK3 := hide (k3.gr hg1)
  have hs1 := hg1.size
  clear hg hg1 k1 k2 k3 hi hx
  go_wp2_with (first
    | (at_builtin
       refine wpList_append_lies _ rfl _ _ 70 rfl w1.heap.size 93 i0_ _ 4 64 Try.underlying70 hi0 hz0 hz1 hz2 rfl (by omega) (.slice none 0 0) 0 [] rfl (World.ownsRow_nil _ _ _ _) ⟨w1.heap.size, 0, none⟩ 1 1 [.int .i64 (-1), .int .i64 3, .slice (some ⟨gi, 0, none⟩) 1 ci', .slice (some ⟨gx, 0, none⟩) 1 cx'] rfl rfl (World.news_of_block (cs := #[.int .i64 (-1), .int .i64 3, .slice (some ⟨gi, 0, none⟩) 1 ci', .slice (some ⟨gx, 0, none⟩) 1 cx']) (t := 93) (fr := (0, 0)) (Blk.new_ _ _ _ _ (by simp))) (by simp [Value.oneCell']) (by omega) (by simp [maxLen]) (by omega) (by simp) (w1.heap.size + 1) (by simp) ?_
       intro g cap w2 hown hgrow hat hlt
       have hg2 : Gr w1 w2 := ((Ch.refl _ _).alloc _).grown hgrow (fun k hk => by simp [Value.ownBlock] at hk)
       have a0 := (HK1.out.gr hg2).cell 0
       have a1 := (HK1.out.gr hg2).cell 1
       have a2 := (HK1.out.gr hg2).cell 2
       have a3 := (HK1.out.gr hg2).cell 3
       have a4 := (HK1.out.gr hg2).cell 4
       have af := (HK1.out.gr hg2).frozen
       have z0 := (HK3.out.gr hg2).cell 0
       have z1 := (HK3.out.gr hg2).cell 1
       have z2 := (HK3.out.gr hg2).cell 2
       have z3 := (HK3.out.gr hg2).cell 3
       have z4 := (HK3.out.gr hg2).cell 4
       have zf := (HK3.out.gr hg2).frozen
       simp at a0 a1 a2 a3 a4 z0 z1 z2 z3 z4
       have HO := hide hown
       have HG2 := hide hg2
       have hlt' := hlt
       clear hown hgrow hat hg2 hlt)
    | fail)
  simp only [Nat.zero_add, List.nil_append] at HO
  have hO := HO.out
  have hgl := own_lt hO
  have hcap := own_cap hO
  have g0 := hO.cellAt 0 (by omega)
  have g1 := hO.cellAt 1 (by omega)
  have g2 := hO.cellAt 2 (by omega)
  have g3 := hO.cellAt 3 (by omega)
  simp at g0 g1 g2 g3
  have hci2 := (HG2.out.cell (p := ⟨gi, 0, none⟩) li1 (fun f => f)).trans hci
  have hcx2 := (HG2.out.cell (p := ⟨gx, 0, none⟩) lx1 (fun f => f)).trans hcx
  have hs2 := HG2.out.size
  have hfin : ∀ a1 a2 a3 a4 a5 a6, WithB w (.int .i64 e) (.slice oA on oc) (.slice pA pn pc) (.returned (.agg #[.int .i64 e, .slice oA on oc, .slice pA pn pc, .slice (some ⟨g, 0, none⟩) 1 cap, .int .i64 0]))
      ((((((w2.setCell ⟨w.heap.size, 3, none⟩ a1).setCell ⟨w.heap.size + 1 + 1, 0, none⟩ a2).setCell ⟨w.heap.size + 1 + 1, 1, none⟩ a3).setCell ⟨w.heap.size + 1 + 1, 2, none⟩ a4).setCell ⟨w.heap.size + 1 + 1, 3, none⟩ a5).setCell ⟨w.heap.size + 1 + 1, 4, none⟩ a6) := by
    intro a1 a2 a3 a4 a5 a6
    have hs : Ch (fun k => k = w.heap.size ∨ k = w.heap.size + 1 + 1) w2 ((((((w2.setCell ⟨w.heap.size, 3, none⟩ a1).setCell ⟨w.heap.size + 1 + 1, 0, none⟩ a2).setCell ⟨w.heap.size + 1 + 1, 1, none⟩ a3).setCell ⟨w.heap.size + 1 + 1, 2, none⟩ a4).setCell ⟨w.heap.size + 1 + 1, 3, none⟩ a5).setCell ⟨w.heap.size + 1 + 1, 4, none⟩ a6) :=
      (((((((Ch.refl _ _).set (p := ⟨w.heap.size, 3, none⟩) (.inl (.inl rfl)) _).set (p := ⟨w.heap.size + 1 + 1, 0, none⟩) (.inl (.inr rfl)) _).set (p := ⟨w.heap.size + 1 + 1, 1, none⟩) (.inl (.inr rfl)) _).set (p := ⟨w.heap.size + 1 + 1, 2, none⟩) (.inl (.inr rfl)) _).set (p := ⟨w.heap.size + 1 + 1, 3, none⟩) (.inl (.inr rfl)) _).set (p := ⟨w.heap.size + 1 + 1, 4, none⟩) (.inl (.inr rfl)) _)
    have hz' := hs.size
    have kk : ∀ (q n : Nat) (u : Value), q < w2.heap.size → w1.heap.size ≤ q ∨ W.heap.size ≤ q → w2.cell? ⟨q, n, none⟩ = some u → _ = some u := fun q n u hq hn h => (hs.cell (p := ⟨q, n, none⟩) hq (by simp; omega)).trans h
    exact ⟨g, cap, gi, ci', gx, cx', rfl, ⟨by omega, by omega, by omega, hc1, hx1, kk g 0 _ (by omega) (by omega) g0, kk g 1 _ (by omega) (by omega) g1, kk g 2 _ (by omega) (by omega) g2, kk g 3 _ (by omega) (by omega) g3, kk gi 0 _ (by omega) (by omega) hci2, kk gx 0 _ (by omega) (by omega) hcx2⟩, hcap, by omega, by omega, by omega,
      (HG1.out.gr HG2.out).trans hs (fun i hi h => by omega)⟩
  exact bodyPost_ret (v := .agg #[.int .i64 e, .slice oA on oc, .slice pA pn pc, .slice (some ⟨g, 0, none⟩) 1 cap, .int .i64 0]) (by simp [results, Try.results36, go_sem, z0, z1, z2, z3, z4]) rfl (hfin _ _ _ _ _ _)

end Go.Proofs.Ythjficahhcjfgaa
