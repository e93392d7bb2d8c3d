/-
  The straws: Ln and Draw return some number.
-/
import Derived.Test.YthjficahhcjfgaaHash
import Derived.Test.YthjficahhcjfgaaBits
import Derived.Scope
import Derived.WalkMore
import Derived.ScopeJumps
namespace Go.Proofs.Ythjficahhcjfgaa
open Go.RowKit

/-- The frame of Ln at its label. -/
def LnAt (a : Act) : Prop := ∃ (y o k : Int) (v0 v1 v2 v3 v4 v8 v9 v10 v11 v12 v13 v14 v15 v16 v17 v18 v19 v20 v21 v22 v23 v24 v25 v26 v27 v28 v29 v30 v31 v32 v33 v34 v35 v36 v37 v38 : Value), 0 ≤ k ∧ k ≤ 43 ∧ a = { tmps := (v0 :: v1 :: v2 :: v3 :: v4 :: Value.int .u64 y :: Value.int .i64 o :: Value.int .i64 k :: v8 :: v9 :: v10 :: v11 :: v12 :: v13 :: v14 :: v15 :: v16 :: v17 :: v18 :: v19 :: v20 :: v21 :: v22 :: v23 :: v24 :: v25 :: v26 :: v27 :: v28 :: v29 :: v30 :: v31 :: v32 :: v33 :: v34 :: v35 :: v36 :: v37 :: v38 :: []).toArray, defers := [] }
theorem LnAt.mk (y o k : Int) (v0 v1 v2 v3 v4 v8 v9 v10 v11 v12 v13 v14 v15 v16 v17 v18 v19 v20 v21 v22 v23 v24 v25 v26 v27 v28 v29 v30 v31 v32 v33 v34 v35 v36 v37 v38 : Value) (h0 : 0 ≤ k) (h1 : k ≤ 43) : LnAt { tmps := (v0 :: v1 :: v2 :: v3 :: v4 :: Value.int .u64 y :: Value.int .i64 o :: Value.int .i64 k :: v8 :: v9 :: v10 :: v11 :: v12 :: v13 :: v14 :: v15 :: v16 :: v17 :: v18 :: v19 :: v20 :: v21 :: v22 :: v23 :: v24 :: v25 :: v26 :: v27 :: v28 :: v29 :: v30 :: v31 :: v32 :: v33 :: v34 :: v35 :: v36 :: v37 :: v38 :: []).toArray, defers := [] } := ⟨y, o, k, v0, v1, v2, v3, v4, v8, v9, v10, v11, v12, v13, v14, v15, v16, v17, v18, v19, v20, v21, v22, v23, v24, v25, v26, v27, v28, v29, v30, v31, v32, v33, v34, v35, v36, v37, v38, h0, h1, rfl⟩

set_option maxHeartbeats 1000000 in
set_option maxRecDepth 1000000 in
theorem ln_any (u : Int) (w : World) :
    Calls Try.prog 94 #[.int .i64 u] w fun e w' => (∃ r : Int, e = .returned (.int .i64 r)) ∧ w = w' := by
  go_enter Try.func94, Try.ntmps94
  go_wp2
  refine wp_scope_jumps 0 (fun a' w' => w' = w ∧ LnAt a') (fun a' _ => (intOf (a'.tmps.getD 7 undef)).toNat) rfl ?_ ?_
  · go_wp2_with fail
    refine (bits_Len64 _ _ (by omega) (by omega)).mono ?_
    rintro e w' ⟨rfl, rfl⟩
    have hb := bitLen_small (min (max u 0) 65535 + 1).toNat (by omega)
    generalize Lib.bitLen (min (max u 0) 65535 + 1).toNat = b at *
    go_wp2
    go_step3
    go_wp2
    all_goals
      go_step3
      exact ⟨rfl, rfl, by refine LnAt.mk _ _ _ _ _ _ _ _ _ _ _ _ _ _ _ _ _ _ _ _ _ _ _ _ _ _ _ _ _ _ _ _ _ _ _ _ _ _ _ ?_ ?_ <;> omega⟩
  · rintro a' w' ⟨rfl, y, o, k, v0, v1, v2, v3, v4, v8, v9, v10, v11, v12, v13, v14, v15, v16, v17, v18, v19, v20, v21, v22, v23, v24, v25, v26, v27, v28, v29, v30, v31, v32, v33, v34, v35, v36, v37, v38, hk0, hk1, rfl⟩
    go_wp2
    · go_step3
      exact ⟨rfl, ⟨rfl, by refine LnAt.mk _ _ _ _ _ _ _ _ _ _ _ _ _ _ _ _ _ _ _ _ _ _ _ _ _ _ _ _ _ _ _ _ _ _ _ _ _ _ _ ?_ ?_ <;> omega⟩, by simp [intOf]; omega⟩
    · simp only [Exit.jump]
      go_ret
      exact ⟨⟨_, rfl⟩, rfl⟩
    · go_step3
      exact ⟨rfl, ⟨rfl, by refine LnAt.mk _ _ _ _ _ _ _ _ _ _ _ _ _ _ _ _ _ _ _ _ _ _ _ _ _ _ _ _ _ _ _ _ _ _ _ _ _ _ _ ?_ ?_ <;> omega⟩, by simp [intOf]; omega⟩
    · simp only [Exit.jump]
      go_ret
      exact ⟨⟨_, rfl⟩, rfl⟩

set_option maxHeartbeats 1000000 in
set_option maxRecDepth 100000 in
theorem draw_any (h : Int) (w : World) :
    Calls Try.prog 86 #[.int .u32 h, .int .i64 65536] w fun e w' => (∃ r : Int, e = .returned (.int .i64 r)) ∧ w = w' := by
  go_enter Try.func86, Try.ntmps86
  go_wp2_with (go_at_call 94; refine (ln_any _ _).mono ?_; rintro e w' ⟨⟨r, rfl⟩, rfl⟩)
  go_ret
  exact ⟨⟨_, rfl⟩, rfl⟩

end Go.Proofs.Ythjficahhcjfgaa
