/-
  crush.good, crush.parent, crush.Roots over the one hierarchy.
-/
import Derived.Test.YthjficahhcjfgaaCheck
namespace Go.Proofs.Ythjficahhcjfgaa
open Go.RowKit

set_option maxHeartbeats 1000000 in
set_option maxRecDepth 100000 in
theorem good_one (e ob pb : Value) (b cb i ci x cx : Nat) (w : World) (h : BK w b i ci x cx) :
    Calls Try.prog 58 #[.agg #[e, ob, pb, .slice (some ⟨b, 0, none⟩) 1 cb, .int .i64 0]] w fun e w' => e = .returned (.bool true) ∧ Gr w w' := by
  go_enter Try.func58, Try.ntmps58
  go_wp2_with fail
  refine (check_one e ob pb b cb i ci x cx _ (h.gr ((Ch.refl _ _).alloc _))).mono ?_
  rintro e' w1 ⟨rfl, hg⟩
  have HG : Hid (Gr w w1) := ((Ch.refl _ _).alloc _).gr hg
  clear hg
  go_wp2
  go_ret
  exact ⟨rfl, HG.out⟩

set_option maxHeartbeats 1000000 in
set_option maxRecDepth 100000 in
theorem parent_no (e ob pb : Value) (b cb i ci x cx : Nat) (w : World) (h : BK w b i ci x cx) :
    Calls Try.prog 63 #[.agg #[e, ob, pb, .slice (some ⟨b, 0, none⟩) 1 cb, .int .i64 0], .int .i64 (-1)] w fun e w' => e = .returned (.tuple #[.agg #[.int .i64 0, .int .i64 0, .slice none 0 0, .slice none 0 0], .bool false]) ∧ Gr w w' := by
  obtain ⟨lb, li, lx, _, _, b0, b1, b2, b3, i0, x0⟩ := h
  have mk : ∀ a b d : Array Value, ∃ W : World, W = ((w.alloc (.cells a 72)).alloc (.cells b 93)).alloc (.cells d 93) ∧ Gr w W ∧ W.heap.size = w.heap.size + 3 ∧ Blk W (w.heap.size + 1) 93 b ∧ Blk W (w.heap.size + 1 + 1) 93 d :=
    fun a b d => ⟨_, rfl, (((Ch.refl _ _).alloc _).alloc _).alloc _, by simp, (Blk.new_ _ _ _ _ (by simp)).alloc _, Blk.new_ _ _ _ _ (by simp)⟩
  go_enter Try.func63, Try.ntmps63
  go_wp2
  refine wp_loop_rounds 2 ?_
  rw [rounds_succ]
  go_wp2_with fail
  obtain ⟨W, hW, hg, hz, k1, k2⟩ := mk _ _ _
  rw [← hW]
  clear hW mk b0 b1 b2 b3
  refine (contains_no i ci W ((hg.cell (p := ⟨i, 0, none⟩) li (fun f => f)).trans i0)).mono ?_
  rintro e' w1 ⟨rfl, rfl⟩
  have c0 := k1.cell 0
  have c1 := k1.cell 1
  have c2 := k1.cell 2
  have c3 := k1.cell 3
  have f1 := k1.frozen
  simp at c0 c1 c2 c3
  have HG := hide hg
  clear hg k1 k2 i0 x0 hz
  go_wp2
  rw [rounds_succ]
  go_wp2
  exact bodyPost_ret (v := .tuple #[.agg #[.int .i64 0, .int .i64 0, .slice none 0 0, .slice none 0 0], .bool false]) (by simp [results, Try.results63, go_sem, c0, c1, c2, c3]) rfl
    ⟨rfl, (((HG.out.set (p := ⟨w.heap.size + 1, 0, none⟩) (.inr (by simp)) _).set (p := ⟨w.heap.size + 1, 1, none⟩) (.inr (by simp)) _).set (p := ⟨w.heap.size + 1, 2, none⟩) (.inr (by simp)) _).set (p := ⟨w.heap.size + 1, 3, none⟩) (.inr (by simp)) _⟩

set_option maxHeartbeats 1000000 in
set_option maxRecDepth 100000 in
theorem roots_one (e ob pb : Value) (b cb i ci x cx : Nat) (w : World) (h : BK w b i ci x cx) :
    Calls Try.prog 59 #[.agg #[e, ob, pb, .slice (some ⟨b, 0, none⟩) 1 cb, .int .i64 0]] w (Fresh1 w (-1)) := by
  have hh := h
  obtain ⟨i0_, hi0, hz0, hz1, hz2⟩ := info_parts info3
  obtain ⟨lb, li, lx, _, _, b0, b1, b2, b3, i0, x0⟩ := hh
  have mk : ∀ a d : Array Value, ∃ W : World, W = (w.alloc (.cells a 72)).alloc (.cells d 93) ∧ Gr w W ∧ W.heap.size = w.heap.size + 2 ∧ Blk W w.heap.size 72 a ∧ Blk W (w.heap.size + 1) 93 d :=
    fun a d => ⟨_, rfl, ((Ch.refl _ _).alloc _).alloc _, by simp, (Blk.new _ _ _).alloc _, Blk.new_ _ _ _ _ (by simp)⟩
  go_enter Try.func59, Try.ntmps59
  go_wp2
  refine wp_loop_rounds 2 ?_
  rw [rounds_succ]
  go_wp2_with fail
  obtain ⟨W, hW, hg, hz, k0, k1⟩ := mk _ _
  rw [← hW]
  clear hW mk b0 b1 b2 b3
  refine (parent_no e ob pb b cb i ci x cx W (h.gr hg)).mono ?_
  rintro e' w1 ⟨rfl, hg1⟩
  have k1' := k1.gr hg1
  have c0 := k1'.cell 0
  simp at c0
  have lt1 : w.heap.size + 1 < w1.heap.size := k1'.lt
  have HG : Hid (Gr w w1) := hg.gr hg1
  have hsz : w.heap.size ≤ w1.heap.size := by omega
  clear hg hg1 k0 k1 k1' i0 x0 h hz
  go_wp2_with (first
    | (at_builtin; refine wpList_append_lies _ rfl _ _ 91 rfl w.heap.size 3 i0_ _ 1 8 Try.underlying91 hi0 hz0 hz1 hz2 rfl (by omega) (.slice none 0 0) 0 [] rfl (World.ownsRow_nil _ _ _ _) ⟨w1.heap.size + 1, 0, none⟩ 1 1 [.int .i64 (-1)] rfl rfl
        (World.news_of_block (cs := #[.int .i64 (-1)]) (t := 3) (fr := (0, 0)) (Blk.new_ _ _ _ _ (by simp))) (by simp [Value.oneCell']) (by omega) (by simp [maxLen]) (by omega) (by simp; omega) (w1.heap.size + 2) (by simp) ?_; intro g cap w2 hown hgrow hat hlt)
    | (go_at_call 64; refine (sort_one _ _ _).mono ?_; rintro e' w' ⟨rfl, rfl⟩)
    | (go_at_call 65; refine (reverse_one _ _ _).mono ?_; rintro e' w' ⟨rfl, rfl⟩)
    | (go_at_call 66; refine (compact_one _ _ _).mono ?_; rintro e' w' ⟨rfl, rfl⟩))
  rw [rounds_succ]
  have HF : Fresh1 w (-1) (.returned (.slice (some ⟨g, 0, none⟩) 1 cap)) w2 :=
    ⟨g, cap, rfl, by simpa using hown.cellAt 0 (by omega), (own_lt hown).1, hlt, own_cap hown, ((HG.out.alloc _).alloc _).grown hgrow (fun k hk => by simp [Value.ownBlock] at hk)⟩
  have HF' := hide HF
  clear HF
  go_wp2_with (first
    | (go_at_call 64; refine (sort_one _ _ _).mono ?_; rintro e' w' ⟨rfl, rfl⟩)
    | (go_at_call 65; refine (reverse_one _ _ _).mono ?_; rintro e' w' ⟨rfl, rfl⟩)
    | (go_at_call 66; refine (compact_one _ _ _).mono ?_; rintro e' w' ⟨rfl, rfl⟩))
  go_ret
  exact HF'.out

end Go.Proofs.Ythjficahhcjfgaa
