/-
  slices.Clone at the three kinds of lists that the law has, each of one element, or nil.
-/
import Derived.Test.YthjficahhcjfgaaBase
import Derived.Deep.AppendLies
namespace Go.Proofs.Ythjficahhcjfgaa
open Go.RowKit

theorem add0 (g j : Nat) : (⟨g, 0, none⟩ : Addr).add j = ⟨g, j, none⟩ := by unfold Addr.add; split <;> simp_all

/-- A value that is a new list of n elements, the cells xs; nothing that was there has turned. -/
def Fresh (w : World) (e : TypeId) (size n : Nat) (xs : List Value) (en : Ending) (w' : World) : Prop :=
  ∃ g c, en = .returned (.slice (some ⟨g, 0, none⟩) n c) ∧ w'.ownsRow w.heap.size e size (.slice (some ⟨g, 0, none⟩) n c) n xs ∧ Gr w w'

section
variable {w w' : World} {B : Nat} {e : TypeId} {size n g c : Nat} {xs : List Value} {S : Nat → Prop}
theorem own_lt (h : w.ownsRow B e size (.slice (some ⟨g, 0, none⟩) n c) n xs) : B ≤ g ∧ g < w.heap.size := h.lt g rfl
theorem own_cap (h : w.ownsRow B e size (.slice (some ⟨g, 0, none⟩) n c) n xs) : n ≤ c := by
  rcases h.2 with ⟨h', _⟩ | ⟨g', cap', cur, h', _, _, hc, _⟩
  · simp at h'
  · simp only [Value.slice.injEq, Option.some.injEq, Addr.mk.injEq, and_true, true_and] at h'
    obtain ⟨_, rfl⟩ := h'
    exact hc
theorem own_ch (h : w.ownsRow B e size (.slice (some ⟨g, 0, none⟩) n c) n xs) (hc : Ch S w w') (hn : ¬ S g) : w'.ownsRow B e size (.slice (some ⟨g, 0, none⟩) n c) n xs := by
  have hl := (own_lt h).2
  refine ⟨h.1, ?_⟩
  rcases h.2 with ⟨h', _⟩ | ⟨g', cap', cur, h', hb, hh, r⟩
  · simp at h'
  · have he : g' = g := by
      simp only [Value.slice.injEq, Option.some.injEq, Addr.mk.injEq, and_true, true_and] at h'
      exact h'.1.symm
    subst he
    exact .inr ⟨g', cap', cur, h', hb, (hc.block g' hl hn).trans hh, r⟩
theorem own_gr (h : w.ownsRow B e size (.slice (some ⟨g, 0, none⟩) n c) n xs) (hc : Gr w w') : w'.ownsRow B e size (.slice (some ⟨g, 0, none⟩) n c) n xs := own_ch h hc (fun f => f)
end

theorem info3 : (Try.prog.info? 3).map (fun i => (i.zero, i.size, i.bytes)) = some (some (.int .i64 0), 1, 8) := by kernel_rfl

set_option maxHeartbeats 400000 in
set_option maxRecDepth 100000 in
theorem clone_int_nil (w : World) : Calls Try.prog 40 #[.slice none 0 0] w fun e w' => e = .returned (.slice none 0 0) ∧ w = w' := by
  have hq := fun W => Lib.run_eql_slice_nil (P := Try.prog) W 91 _ none 0 0 0 0 Try.underlying91
  go_enter Try.func40, Try.ntmps40
  go_wp2
  go_ret
  exact ⟨rfl, rfl⟩

set_option maxHeartbeats 1000000 in
set_option maxRecDepth 100000 in
theorem clone_int (i c : Nat) (x0 : Value) (w : World) (h1 : ∀ u ∈ [x0], u.oneCell' = true) (hi : i < w.heap.size)
    (c0 : w.cell? ⟨i, 0, none⟩ = some x0) :
    Calls Try.prog 40 #[.slice (some ⟨i, 0, none⟩) 1 c] w (Fresh w 3 1 1 [x0]) := by
  obtain ⟨i0, hi0, hz0, hz1, hz2⟩ := info_parts info3
  have hsrc : ∀ (j : Nat) (u : Value), [x0][j]? = some u → (w.alloc (.cells #[] 3)).cell? ((⟨i, 0, none⟩ : Addr).add j) = some u := by
    intro j u hu
    rw [add0, World.cell?_alloc_lt w _ ⟨i, j, none⟩ hi]
    have hj : j < 1 := by
      have := List.getElem?_eq_some_iff.1 hu
      obtain ⟨h, _⟩ := this
      simpa using h
    obtain rfl : j = 0 := by omega
    simp at hu; subst hu; assumption
  have hown : (w.alloc (.cells #[] 3)).ownsRow w.heap.size 3 1 (.slice (some ⟨w.heap.size, 0, none⟩) 0 0) 0 [] := World.ownsRow_lit w #[] 0 (Nat.le_refl _) (by simp [maxLen]) (by simp)
  clear c0
  have hq := fun W => Lib.run_eql_slice_nil (P := Try.prog) W 91 _ (some ⟨i, 0, none⟩) 1 c 0 0 Try.underlying91
  go_enter Try.func40, Try.ntmps40
  go_wp2_with (at_builtin; refine wpList_append_lies _ rfl _ _ 91 rfl w.heap.size 3 i0 _ 1 8 Try.underlying91 hi0 hz0 hz1 hz2 rfl (by omega) (.slice (some ⟨w.heap.size, 0, none⟩) 0 0) 0 [] rfl hown _ 1 c [x0] rfl rfl hsrc h1 (by omega) (by simp [maxLen]) (by omega) (by simp) (w.heap.size + 1) (by simp) ?_; intro g cap w1 hown1 hgrow hat hlt)
  have HF : Fresh w 3 1 1 [x0] (.returned (.slice (some ⟨g, 0, none⟩) 1 cap)) w1 := ⟨g, cap, rfl, hown1, ((Ch.refl _ _).alloc _).grown hgrow (fun k hk => .inr (by simp [Value.ownBlock] at hk; omega))⟩
  go_ret
  exact HF

theorem info113 : (Try.prog.info? 113).map (fun i => (i.zero, i.size, i.bytes)) = some (some (.agg #[.bool false, .bool false, .int .i64 0, .int .i64 0, .int .i64 0, .int .i64 0]), 6, 40) := by kernel_rfl

set_option maxHeartbeats 400000 in
set_option maxRecDepth 100000 in
theorem clone_osd_nil (w : World) : Calls Try.prog 29 #[.slice none 0 0] w fun e w' => e = .returned (.slice none 0 0) ∧ w = w' := by
  have hq := fun W => Lib.run_eql_slice_nil (P := Try.prog) W 68 _ none 0 0 0 0 Try.underlying68
  go_enter Try.func29, Try.ntmps29
  go_wp2
  go_ret
  exact ⟨rfl, rfl⟩

set_option maxHeartbeats 1000000 in
set_option maxRecDepth 100000 in
theorem clone_osd (i c : Nat) (x0 x1 x2 x3 x4 x5 : Value) (w : World) (h1 : ∀ u ∈ [x0, x1, x2, x3, x4, x5], u.oneCell' = true) (hi : i < w.heap.size)
    (c0 : w.cell? ⟨i, 0, none⟩ = some x0) (c1 : w.cell? ⟨i, 1, none⟩ = some x1) (c2 : w.cell? ⟨i, 2, none⟩ = some x2) (c3 : w.cell? ⟨i, 3, none⟩ = some x3) (c4 : w.cell? ⟨i, 4, none⟩ = some x4) (c5 : w.cell? ⟨i, 5, none⟩ = some x5) :
    Calls Try.prog 29 #[.slice (some ⟨i, 0, none⟩) 1 c] w (Fresh w 113 6 1 [x0, x1, x2, x3, x4, x5]) := by
  obtain ⟨i0, hi0, hz0, hz1, hz2⟩ := info_parts info113
  have hsrc : ∀ (j : Nat) (u : Value), [x0, x1, x2, x3, x4, x5][j]? = some u → (w.alloc (.cells #[] 113)).cell? ((⟨i, 0, none⟩ : Addr).add j) = some u := by
    intro j u hu
    rw [add0, World.cell?_alloc_lt w _ ⟨i, j, none⟩ hi]
    have hj : j < 6 := by
      have := List.getElem?_eq_some_iff.1 hu
      obtain ⟨h, _⟩ := this
      simpa using h
    rcases (by omega : j = 0 ∨ j = 1 ∨ j = 2 ∨ j = 3 ∨ j = 4 ∨ j = 5) with rfl | rfl | rfl | rfl | rfl | rfl <;> (simp at hu; subst hu; assumption)
  have hown : (w.alloc (.cells #[] 113)).ownsRow w.heap.size 113 6 (.slice (some ⟨w.heap.size, 0, none⟩) 0 0) 0 [] := World.ownsRow_lit w #[] 0 (Nat.le_refl _) (by simp [maxLen]) (by simp)
  clear c0 c1 c2 c3 c4 c5
  have hq := fun W => Lib.run_eql_slice_nil (P := Try.prog) W 68 _ (some ⟨i, 0, none⟩) 1 c 0 0 Try.underlying68
  go_enter Try.func29, Try.ntmps29
  go_wp2_with (at_builtin; refine wpList_append_lies _ rfl _ _ 68 rfl w.heap.size 113 i0 _ 6 40 Try.underlying68 hi0 hz0 hz1 hz2 rfl (by omega) (.slice (some ⟨w.heap.size, 0, none⟩) 0 0) 0 [] rfl hown _ 1 c [x0, x1, x2, x3, x4, x5] rfl rfl hsrc h1 (by omega) (by simp [maxLen]) (by omega) (by simp) (w.heap.size + 1) (by simp) ?_; intro g cap w1 hown1 hgrow hat hlt)
  have HF : Fresh w 113 6 1 [x0, x1, x2, x3, x4, x5] (.returned (.slice (some ⟨g, 0, none⟩) 1 cap)) w1 := ⟨g, cap, rfl, hown1, ((Ch.refl _ _).alloc _).grown hgrow (fun k hk => .inr (by simp [Value.ownBlock] at hk; omega))⟩
  go_ret
  exact HF

theorem info95 : (Try.prog.info? 95).map (fun i => (i.zero, i.size, i.bytes)) = some (some (.agg #[.int .i64 0, .int .i64 0, .int .i64 0, .int .i64 0]), 4, 32) := by kernel_rfl

set_option maxHeartbeats 400000 in
set_option maxRecDepth 100000 in
theorem clone_pool_nil (w : World) : Calls Try.prog 30 #[.slice none 0 0] w fun e w' => e = .returned (.slice none 0 0) ∧ w = w' := by
  have hq := fun W => Lib.run_eql_slice_nil (P := Try.prog) W 69 _ none 0 0 0 0 Try.underlying69
  go_enter Try.func30, Try.ntmps30
  go_wp2
  go_ret
  exact ⟨rfl, rfl⟩

set_option maxHeartbeats 1000000 in
set_option maxRecDepth 100000 in
theorem clone_pool (i c : Nat) (x0 x1 x2 x3 : Value) (w : World) (h1 : ∀ u ∈ [x0, x1, x2, x3], u.oneCell' = true) (hi : i < w.heap.size)
    (c0 : w.cell? ⟨i, 0, none⟩ = some x0) (c1 : w.cell? ⟨i, 1, none⟩ = some x1) (c2 : w.cell? ⟨i, 2, none⟩ = some x2) (c3 : w.cell? ⟨i, 3, none⟩ = some x3) :
    Calls Try.prog 30 #[.slice (some ⟨i, 0, none⟩) 1 c] w (Fresh w 95 4 1 [x0, x1, x2, x3]) := by
  obtain ⟨i0, hi0, hz0, hz1, hz2⟩ := info_parts info95
  have hsrc : ∀ (j : Nat) (u : Value), [x0, x1, x2, x3][j]? = some u → (w.alloc (.cells #[] 95)).cell? ((⟨i, 0, none⟩ : Addr).add j) = some u := by
    intro j u hu
    rw [add0, World.cell?_alloc_lt w _ ⟨i, j, none⟩ hi]
    have hj : j < 4 := by
      have := List.getElem?_eq_some_iff.1 hu
      obtain ⟨h, _⟩ := this
      simpa using h
    rcases (by omega : j = 0 ∨ j = 1 ∨ j = 2 ∨ j = 3) with rfl | rfl | rfl | rfl <;> (simp at hu; subst hu; assumption)
  have hown : (w.alloc (.cells #[] 95)).ownsRow w.heap.size 95 4 (.slice (some ⟨w.heap.size, 0, none⟩) 0 0) 0 [] := World.ownsRow_lit w #[] 0 (Nat.le_refl _) (by simp [maxLen]) (by simp)
  clear c0 c1 c2 c3
  have hq := fun W => Lib.run_eql_slice_nil (P := Try.prog) W 69 _ (some ⟨i, 0, none⟩) 1 c 0 0 Try.underlying69
  go_enter Try.func30, Try.ntmps30
  go_wp2_with (at_builtin; refine wpList_append_lies _ rfl _ _ 69 rfl w.heap.size 95 i0 _ 4 32 Try.underlying69 hi0 hz0 hz1 hz2 rfl (by omega) (.slice (some ⟨w.heap.size, 0, none⟩) 0 0) 0 [] rfl hown _ 1 c [x0, x1, x2, x3] rfl rfl hsrc h1 (by omega) (by simp [maxLen]) (by omega) (by simp) (w.heap.size + 1) (by simp) ?_; intro g cap w1 hown1 hgrow hat hlt)
  have HF : Fresh w 95 4 1 [x0, x1, x2, x3] (.returned (.slice (some ⟨g, 0, none⟩) 1 cap)) w1 := ⟨g, cap, rfl, hown1, ((Ch.refl _ _).alloc _).grown hgrow (fun k hk => .inr (by simp [Value.ownBlock] at hk; omega))⟩
  go_ret
  exact HF

end Go.Proofs.Ythjficahhcjfgaa
