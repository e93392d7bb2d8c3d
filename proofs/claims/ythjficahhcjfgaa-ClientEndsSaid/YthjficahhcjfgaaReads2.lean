/-
  'append([]byte(nil), b...)' copies into a block of its own.
-/
import Derived.Test.YthjficahhcjfgaaReads
namespace Go.Proofs.Ythjficahhcjfgaa
open Go.RowKit

/-- What the copy comes to, and where it lies. -/
theorem run_copy_own (ty : TypeId) (A : Option Addr) (n c : Nat) (xs : List Value) (w : World) (hn : xs.length = n) (hr : Rd w A xs) (h1 : ∀ u ∈ xs, u.oneCell' = true) (hle : n ≤ 70368744177664) :
    ∃ A' c' w', (Builtin.append_ #[26, 26] ty #[.slice none 0 0, .slice A n c]).run Try.prog w = .ok (.slice A' n c') w' ∧ Gr w w' ∧ Rd w' A' xs ∧ (∀ ad, A' = some ad → w.heap.size ≤ ad.block ∧ ad.block < w'.heap.size) := by
  obtain ⟨i0, hi0, hz0, hz1, hz2⟩ := info_parts info5
  rcases Nat.eq_zero_or_pos n with h0 | h0
  · subst h0
    refine ⟨none, 0, w, ?_, Ch.refl _ _, fun h => absurd h (by omega), fun ad h => by cases h⟩
    rcases A with _ | ad
    · simp [Builtin.append_, run_underlying Try.underlying26, sizeOf, typeInfo, hi0, Builtin.lenOf, Builtin.firstCells]
    · simp [Builtin.append_, run_underlying Try.underlying26, sizeOf, typeInfo, hi0, Builtin.lenOf, Builtin.firstCells, loadCells, loadCellsFrom]
  · obtain ⟨ad, rfl, hb, hk⟩ := hr (by omega)
    obtain ⟨g, cap, w', hrun, hown, hgrow, _, hlt⟩ := run_append_lies (P := Try.prog) w 26 ty w.heap.size 5 i0 _ 1 1 Try.underlying26 hi0 hz0 hz1 hz2 rfl (by omega) (.slice none 0 0) 0 [] (World.ownsRow_nil _ _ _ _) ad n c xs (by omega) hk h1 h0
      (by simp [maxLen]; omega) (by omega) (Nat.le_refl _) _ rfl
    simp only [Nat.zero_add, List.nil_append] at hrun hown
    refine ⟨_, _, w', hrun, (Ch.refl _ _).grown hgrow (fun k hk => by simp [Value.ownBlock] at hk), fun _ => ⟨_, rfl, hlt, fun j u hu => ?_⟩, fun ad' h' => by cases h'; exact own_lt hown⟩
    have hj : j < n * 1 := by
      have := (List.getElem?_eq_some_iff.1 hu).1
      omega
    rw [add0, hown.cellAt j hj, hu]

/-- At the operation, in a plain region. -/
theorem wpList_copy_own {ops : Array Oper} {rest : List Oper} {o : Oper} {a : Act} {Q : Exit → Act → World → Prop} (w : World) (hgd : o.guard = none) (s x : Operand)
    (ho : o.op = .call { callee := .builtin .append, args := #[s, x], argTypes := #[26, 26] }) (hs : a.eval s = .slice none 0 0) (A : Option Addr) (n c : Nat) (xs : List Value) (hx : a.eval x = .slice A n c)
    (hn : xs.length = n) (hr : Rd w A xs) (h1 : ∀ u ∈ xs, u.oneCell' = true) (hle : n ≤ 70368744177664)
    (h : ∀ A' c' w', Gr w w' → Rd w' A' xs → (∀ ad, A' = some ad → w.heap.size ≤ ad.block ∧ ad.block < w'.heap.size) → wpList Try.prog ops Q rest (a.put o.dst (.slice A' n c')) w') : wpList Try.prog ops Q (o :: rest) a w :=
  wpList_plain hgd fun K hK => by
    obtain ⟨A', c', w', hrun, hg, hr', hf⟩ := run_copy_own o.type A n c xs w hn hr h1 hle
    unfold Oper.wp execOp
    simp only [ho, resolve, invoke, builtin, Sem.run_bind, Sem.run_pure, Result.andThen_ok, List.map_toArray, List.map_cons, List.map_nil, hs, hx, hrun]
    exact hK _ _ (h A' c' w' hg hr' hf)

end Go.Proofs.Ythjficahhcjfgaa
