/-
  The map's change 'a bucket', of a map of no buckets: it may be made; made.
-/
import Derived.Test.YthjficahhcjfgaaOsd3
namespace Go.Proofs.Ythjficahhcjfgaa
open Go.RowKit

/-- The change 'bucket -1, of osd 0'. -/
abbrev chBucket (i ci x cx : Nat) : Value := .agg #[.int .i64 6, .int .i64 0, .int .i64 0, .int .i64 0, .int .i64 0, .int .i64 0, .int .i64 0, .int .i64 (-1), .int .i64 3, .slice (some ⟨i, 0, none⟩) 1 ci, .slice (some ⟨x, 0, none⟩) 1 cx]

set_option maxHeartbeats 1000000 in
set_option maxRecDepth 100000 in
theorem mayBucket_new (e : Int) (oA pA bA : Option Addr) (on oc pn pc bc : Nat) (i ci x cx : Nat) (w : World) (li : i < w.heap.size) (lx : x < w.heap.size)
    (hi : w.cell? ⟨i, 0, none⟩ = some (.int .i64 0)) (hx : w.cell? ⟨x, 0, none⟩ = some (.int .i64 65536)) :
    Calls Try.prog 34 #[.agg #[.int .i64 e, .slice oA on oc, .slice pA pn pc, .slice bA 0 bc, .int .i64 0], .agg #[.int .i64 (-1), .int .i64 3, .slice (some ⟨i, 0, none⟩) 1 ci, .slice (some ⟨x, 0, none⟩) 1 cx]] w fun e w' => e = .returned (.int .i64 0) ∧ Gr w w' := by
  go_enter Try.func34, Try.ntmps34
  go_wp2_with fail
  obtain ⟨W, hW, hg, k1, k2⟩ := mk2 w _ _ _ _
  rw [← hW]
  clear hW
  refine (crushBucket_empty W _ _ _ _ bA bc (-1)).mono ?_
  rintro e' w1 ⟨rfl, hg1⟩
  have mkA : ∀ a : Array Value, ∃ W1, W1 = w1.alloc (.cells a 93) ∧ Gr W W1 := fun a => ⟨_, rfl, hg1.alloc _⟩
  have k20 := (k2.gr hg1).cell 0
  have k21 := (k2.gr hg1).cell 1
  have k22 := (k2.gr hg1).cell 2
  have k23 := (k2.gr hg1).cell 3
  have k2l := (k2.gr hg1).lt
  have k10 := (k1.gr hg1).cell 0
  have k11 := (k1.gr hg1).cell 1
  have k12 := (k1.gr hg1).cell 2
  have k13 := (k1.gr hg1).cell 3
  have k14 := (k1.gr hg1).cell 4
  have k1l := (k1.gr hg1).lt
  simp at k20 k21 k22 k23 k10 k11 k12 k13 k14
  have HG := hide hg
  have HK1 := hide k1
  have HK2 := hide k2
  clear hg1 hg k1 k2
  go_wp2_with fail
  obtain ⟨W1, hW1, hgW⟩ := mkA _
  rw [← hW1]
  clear hW1 mkA k20 k21 k22 k23 k2l k10 k11 k12 k13 k14 k1l
  have hsz := (HG.out.gr hgW).size
  refine (withBucket_new e oA pA bA on oc pn pc bc i ci x cx W1 (by omega) (by omega) (((HG.out.gr hgW).cell (p := ⟨i, 0, none⟩) li (fun f => f)).trans hi) (((HG.out.gr hgW).cell (p := ⟨x, 0, none⟩) lx (fun f => f)).trans hx)).mono ?_
  rintro e' w2 ⟨b, cb, i', ci', x', cx', rfl, hbk, _, _, _, _, hg2⟩
  have HG2 := hide ((HG.out.gr hgW).gr hg2)
  have HB := hide hbk
  clear hgW hg2 hbk hi hx
  go_wp2_with fail
  refine (check_one _ _ _ b cb i' ci' x' cx' w2 HB.out).mono ?_
  rintro e' w3 ⟨rfl, hg3⟩
  have HF := hide (HG2.out.gr hg3)
  clear hg3
  go_wp2
  go_ret
  exact ⟨rfl, HF.out⟩

set_option maxHeartbeats 1000000 in
set_option maxRecDepth 100000 in
theorem May_bucket (e : Int) (oA pA bA : Option Addr) (on oc pn pc bc : Nat) (i ci x cx : Nat) (w : World) (li : i < w.heap.size) (lx : x < w.heap.size)
    (hi : w.cell? ⟨i, 0, none⟩ = some (.int .i64 0)) (hx : w.cell? ⟨x, 0, none⟩ = some (.int .i64 65536)) :
    Calls Try.prog 24 #[.agg #[.int .i64 e, .slice oA on oc, .slice pA pn pc, .slice bA 0 bc, .int .i64 0], chBucket i ci x cx] w fun e w' => e = .returned (.int .i64 0) ∧ Gr w w' := by
  go_enter Try.func24, Try.ntmps24
  go_wp2_with fail
  obtain ⟨W, hW, hg, k1, k2⟩ := mk2 w _ _ _ _
  rw [← hW]
  clear hW k1 k2
  have hsz := hg.size
  refine (mayBucket_new e oA pA bA on oc pn pc bc i ci x cx W (by omega) (by omega) ((hg.cell (p := ⟨i, 0, none⟩) li (fun f => f)).trans hi) ((hg.cell (p := ⟨x, 0, none⟩) lx (fun f => f)).trans hx)).mono ?_
  rintro e' w1 ⟨rfl, hg1⟩
  have HF := hide (hg.gr hg1)
  clear hg1 hg hi hx
  go_wp2
  go_ret
  exact ⟨rfl, HF.out⟩

set_option maxHeartbeats 1000000 in
set_option maxRecDepth 100000 in
theorem made_bucket (e : Int) (oA pA bA : Option Addr) (on oc pn pc bc : Nat) (i ci x cx : Nat) (w : World) (li : i < w.heap.size) (lx : x < w.heap.size)
    (hi : w.cell? ⟨i, 0, none⟩ = some (.int .i64 0)) (hx : w.cell? ⟨x, 0, none⟩ = some (.int .i64 65536)) :
    Calls Try.prog 25 #[.agg #[.int .i64 e, .slice oA on oc, .slice pA pn pc, .slice bA 0 bc, .int .i64 0], chBucket i ci x cx] w (WithB w (.int .i64 e) (.slice oA on oc) (.slice pA pn pc)) := by
  go_enter Try.func25, Try.ntmps25
  go_wp2_with fail
  obtain ⟨W, hW, hg, hz, k1, k2, k3⟩ := mk3 w _ _ _ _ _ _
  rw [← hW]
  clear hW k1 k2
  have hsz := hg.size
  refine (withBucket_new e oA pA bA on oc pn pc bc i ci x cx W (by omega) (by omega) ((hg.cell (p := ⟨i, 0, none⟩) li (fun f => f)).trans hi) ((hg.cell (p := ⟨x, 0, none⟩) lx (fun f => f)).trans hx)).mono ?_
  rintro e' w1 ⟨b, cb, i', ci', x', cx', rfl, hbk, hcb, hb1, hi1, hx1, hg1⟩
  have z0 := (k3.gr hg1).cell 0
  have z1 := (k3.gr hg1).cell 1
  have z2 := (k3.gr hg1).cell 2
  have z3 := (k3.gr hg1).cell 3
  have z4 := (k3.gr hg1).cell 4
  have zf := (k3.gr hg1).frozen
  simp at z0 z1 z2 z3 z4
  have hfin : ∀ a2 a3 a4 a5 a6, WithB w (.int .i64 e) (.slice oA on oc) (.slice pA pn pc) (.returned (.agg #[.int .i64 e, .slice oA on oc, .slice pA pn pc, .slice (some ⟨b, 0, none⟩) 1 cb, .int .i64 0]))
      (((((w1.setCell ⟨w.heap.size + 1 + 1, 0, none⟩ a2).setCell ⟨w.heap.size + 1 + 1, 1, none⟩ a3).setCell ⟨w.heap.size + 1 + 1, 2, none⟩ a4).setCell ⟨w.heap.size + 1 + 1, 3, none⟩ a5).setCell ⟨w.heap.size + 1 + 1, 4, none⟩ a6) := by
    intro a2 a3 a4 a5 a6
    have hs : Ch (fun k => k = w.heap.size + 1 + 1) w1 (((((w1.setCell ⟨w.heap.size + 1 + 1, 0, none⟩ a2).setCell ⟨w.heap.size + 1 + 1, 1, none⟩ a3).setCell ⟨w.heap.size + 1 + 1, 2, none⟩ a4).setCell ⟨w.heap.size + 1 + 1, 3, none⟩ a5).setCell ⟨w.heap.size + 1 + 1, 4, none⟩ a6) :=
      ((((((Ch.refl (fun k => k = w.heap.size + 1 + 1) w1).set (p := ⟨w.heap.size + 1 + 1, 0, none⟩) (.inl rfl) _).set (p := ⟨w.heap.size + 1 + 1, 1, none⟩) (.inl rfl) _).set (p := ⟨w.heap.size + 1 + 1, 2, none⟩) (.inl rfl) _).set (p := ⟨w.heap.size + 1 + 1, 3, none⟩) (.inl rfl) _).set (p := ⟨w.heap.size + 1 + 1, 4, none⟩) (.inl rfl) _)
    exact ⟨b, cb, i', ci', x', cx', rfl, hbk.ch hs (by omega) (by omega) (by omega), hcb, by omega, by omega, by omega, (hg.gr hg1).trans hs (fun i hi h => by omega)⟩
  have HF := hide hfin
  clear hfin hbk hg1 hg k3 hi hx
  go_wp2
  exact bodyPost_ret (v := .agg #[.int .i64 e, .slice oA on oc, .slice pA pn pc, .slice (some ⟨b, 0, none⟩) 1 cb, .int .i64 0]) (by simp [results, Try.results25, go_sem, z0, z1, z2, z3, z4]) rfl (HF.out _ _ _ _ _)

set_option maxHeartbeats 1000000 in
set_option maxRecDepth 100000 in
theorem insert_nil (x0 x1 x2 x3 : Value) (j : Nat) (c : Nat) (w : World) (h : Blk w j 95 #[x0, x1, x2, x3]) (h1 : ∀ u ∈ [x0, x1, x2, x3], u.oneCell' = true) :
    Calls Try.prog 35 #[.slice none 0 0, .int .i64 0, .slice (some ⟨j, 0, none⟩) 1 1] w (Fresh w 95 4 1 [x0, x1, x2, x3]) := by
  obtain ⟨i0_, hi0, hz0, hz1, hz2⟩ := info_parts info95
  have HB := hide h
  clear h
  go_enter Try.func35, Try.ntmps35
  go_wp2_with (first
    | (at_builtin
       refine wpList_append_lies _ rfl _ _ 69 rfl w.heap.size 95 i0_ _ 4 32 Try.underlying69 hi0 hz0 hz1 hz2 rfl (by omega) (.slice none 0 0) 0 [] rfl (World.ownsRow_nil _ _ _ _) ⟨j, 0, none⟩ 1 1 [x0, x1, x2, x3] rfl rfl (World.news_of_block (cs := #[x0, x1, x2, x3]) (t := 95) (fr := (0, 0)) HB.out) h1 (by omega) (by simp [maxLen]) (by omega) (Nat.le_refl _) w.heap.size rfl ?_
       intro g cap w2 hown hgrow hat hlt
       have HF : Hid (Fresh w 95 4 1 [x0, x1, x2, x3] (.returned (.slice (some ⟨g, 0, none⟩) 1 cap)) w2) := ⟨g, cap, rfl, hown, (Ch.refl _ _).grown hgrow (fun k hk => by simp [Value.ownBlock] at hk)⟩
       clear hown hgrow hat hlt)
    | fail)
  go_ret
  exact HF.out

end Go.Proofs.Ythjficahhcjfgaa
