/-
  ClientEnds: whatever its three arguments read as, the call returns true, and each argument reads behind it as it did ahead of it; no condition.
-/
import Derived.Test.YthjficahhcjfgaaRows
import Derived.Test.YthjficahhcjfgaaLaw
import Derived.Test.YthjficahhcjfgaaOpen
namespace Go.Proofs.Ythjficahhcjfgaa
open Go.ChangeShapes Go.WideShapes Go.ChangeAt Go.RowKit

theorem Try.own : ownKnob Try.prog.godebug = none := by kernel_rfl
theorem Try.laidOut : laidOutB Try.prog = true := by kernel_rfl

set_option maxRecDepth 100000 in
theorem ends_lifted (os : Os) (started : os.Started) (H : Type) (enc : TypeId × Value → H) :
    ReturnsInHanded {} Try.checked os 3 .any (Rows.clientEndsSpec.pre6 enc Try.prog Try.f3 Rows.clientEndsRow.domain false) (Rows.clientEndsSpec.post enc Try.prog Try.f3 false true false false) := by
  refine returnsInHanded_of_change_sized (C := Try.checked) Try.own started (by kernel_rfl) Try.func3
    (ChangeSpec.witness6 (enc := enc) (C := Try.checked) false ⟨#[], #[.agg #[.int .i64 0, .int .i64 0, .int .i64 0, .int .i64 0, .int .i64 0], .agg #[.int .i64 0, .string ⟨#[]⟩, .slice none 0 0, .int .i64 0, .int .i64 0], .slice none 0 0], []⟩ 8 (by kernel_rfl) (by kernel_rfl) (by kernel_rfl) (by kernel_rfl)) ?_
  intro W base args ds gs before hval0 hW hcnd hsz0 _
  have hval : ∀ (j : Nat) t v, Try.f3.params[j]? = some t → args[j]? = some v → Value.okWide Try.prog W .any base t v := hval0
  have hsz : (DataW.weightsEach Try.prog (Try.f3.params.toList ++ Rows.clientEndsSpec.plain.varTypes Try.prog) (ds ++ gs)).all (· ≤ reachBytes) = true := hsz0
  have hW' := hW
  obtain ⟨p, q, hA0, hV, rfl, hfz, hnd⟩ := hW
  have hA : DataW.TrodAll enc Try.prog W 0 (fun _ => true) true Try.f3.params.toList args.toList ds p := hA0
  rw [Try.params3] at hA hval hsz
  obtain ⟨v0, v1, v2, d0, d1, d2, p0, p1, p2, rfl, rfl, rfl, h0, h1, h2⟩ := trodAll_three hA
  obtain ⟨rfl, rfl⟩ := trodVars_none hV
  have hlt0 : ∀ x ∈ p0, x.block < W.heap.size := fun x hx => by simpa using hW'.lt x (by simp; exact .inl hx)
  have hlt1 : ∀ x ∈ p1, x.block < W.heap.size := fun x hx => by simpa using hW'.lt x (by simp; exact .inr (.inl hx))
  have hlt2 : ∀ x ∈ p2, x.block < W.heap.size := fun x hx => by simpa using hW'.lt x (by simp; exact .inr (.inr hx))
  have hs1 : ∀ k ∈ d1.weights Try.prog 30, k ≤ reachBytes := fun k hk => by
    have := List.all_eq_true.1 hsz k (DataW.weights_mem_each (j := 1) rfl rfl k hk)
    simpa using this
  have hs2 : ∀ k ∈ d2.weights Try.prog 31, k ≤ reachBytes := fun k hk => by
    have := List.all_eq_true.1 hsz k (DataW.weights_mem_each (j := 2) rfl rfl k hk)
    simpa using this
  have e0 := h0
  have e1 := h1
  have e2 := h2
  obtain ⟨sk, si, bo, mo, tr, rfl⟩ := open_start (hval 0 25 v0 rfl rfl) h0
  obtain ⟨kind, x1, x2, s, A, len, cap, xs, rfl, hs, hx, hl, hr, hone⟩ := open_op (hval 1 30 v1 rfl rfl) h1 hlt1 hs1
  obtain ⟨R, rn, rc, us, rfl, hu, hul, hru, hu1⟩ := open_uints (hval 2 31 v2 rfl rfl) h2 hlt2 hs2
  clear hA0 hval0 hsz0 hA
  refine (law_any sk si bo mo tr kind x1 x2 s A len cap xs R rn rc us W hs hx hl hr hone hu hul hru hu1).mono fun e W' ⟨he, hg⟩ => ?_
  subst he
  have hb := hg.to_below
  have q0 := Below.trod Try.laidOut (by kernel_rfl) (of_decide_eq_true (by kernel_rfl)) e0 hb hlt0
  have q1 := Below.trod Try.laidOut (by kernel_rfl) (of_decide_eq_true (by kernel_rfl)) e1 hb hlt1
  have q2 := Below.trod Try.laidOut (by kernel_rfl) (of_decide_eq_true (by kernel_rfl)) e2 hb hlt2
  refine ⟨_, rfl, _, _, _, [], p0 ++ (p1 ++ p2), [], hW', trodAll_mk1 (shut_bool Try.underlying4 true), trodAll_mk3 q0 q1 q2, rfl, World.keptBut_mono (fun x hx => ⟨hx, ?_⟩) (hb.frame (· ∈ p0 ++ p1 ++ p2 ++ [])), fun h => by cases h⟩
  have hx' : x ∈ p0 ++ (p1 ++ p2) := by simpa using hx
  exact .inr (.inl hx')

theorem ends_holds : Rows.ClientEndsSaid :=
  OpenClaim.holds_of_wide 3 Try.f3 rfl rfl rfl rfl rfl rfl rfl ⟨rfl, rfl, rfl, rfl, rfl⟩ rfl rfl rfl rfl rfl (by kernel_rfl) Try.func3 (by kernel_rfl)
    (of_decide_eq_true (by kernel_rfl)) (by unfold Func.isWrapper; first | (rw [if_pos (by decide +kernel)]; kernel_rfl) | (rw [if_neg (by decide +kernel)]; exact ⟨rfl, rfl⟩))
    (fun os started H enc _ => ends_lifted os started H enc)

#print axioms ends_holds

end Go.Proofs.Ythjficahhcjfgaa
