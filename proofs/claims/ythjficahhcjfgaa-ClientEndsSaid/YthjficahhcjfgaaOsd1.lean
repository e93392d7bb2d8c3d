/-
  The map's change 'an osd is up', of the empty map: it may be made.
-/
import Derived.Test.YthjficahhcjfgaaCheck
import Derived.BigQuiet
namespace Go.Proofs.Ythjficahhcjfgaa
open Go.RowKit

/-- A map of no osds and no pools. -/
abbrev mapE (ep : Int) (bA : Option Addr) (bn bc : Nat) (l : Int) : Value := .agg #[.int .i64 ep, .slice none 0 0, .slice none 0 0, .slice bA bn bc, .int .i64 l]

/-- The change 'osd 0 is up, of boot 3'. -/
abbrev chUp : Value := .agg #[.int .i64 1, .int .i64 0, .int .i64 3, .int .i64 0, .int .i64 0, .int .i64 0, .int .i64 0, .int .i64 0, .int .i64 0, .slice none 0 0, .slice none 0 0]

/-- The change 'pool 1'. -/
abbrev chPool : Value := .agg #[.int .i64 5, .int .i64 0, .int .i64 0, .int .i64 1, .int .i64 1, .int .i64 1, .int .i64 1, .int .i64 0, .int .i64 0, .slice none 0 0, .slice none 0 0]

theorem mk2 (w : World) (t u : TypeId) (a b : Array Value) : ∃ W, W = (w.alloc (.cells a t)).alloc (.cells b u) ∧ Gr w W ∧ Blk W w.heap.size t a ∧ Blk W (w.heap.size + 1) u b :=
  ⟨_, rfl, ((Ch.refl _ _).alloc _).alloc _, (Blk.new _ _ _).alloc _, Blk.new_ _ _ _ _ (by simp)⟩

theorem mk1 (w : World) (t : TypeId) (a : Array Value) : ∃ W, W = w.alloc (.cells a t) ∧ Gr w W ∧ Blk W w.heap.size t a :=
  ⟨_, rfl, (Ch.refl _ _).alloc _, Blk.new _ _ _⟩

set_option maxHeartbeats 1000000 in
set_option maxRecDepth 100000 in
theorem osd_none (ep l : Int) (bA : Option Addr) (bn bc : Nat) (w : World) :
    Calls Try.prog 41 #[mapE ep bA bn bc l, .int .i64 0] w fun e w' => e = .returned (.agg #[.bool false, .bool false, .int .i64 0, .int .i64 0, .int .i64 0, .int .i64 0]) ∧ Gr w w' := by
  go_enter Try.func41, Try.ntmps41
  go_wp2
  refine bodyPost_ret (v := .agg #[.bool false, .bool false, .int .i64 0, .int .i64 0, .int .i64 0, .int .i64 0]) (by simp [results, Try.results41, go_sem]) rfl ⟨rfl, ?_⟩
  exact ((Ch.refl _ _).alloc _).alloc _

set_option maxHeartbeats 1000000 in
set_option maxRecDepth 100000 in
theorem mayOsd_up (ep l : Int) (bA : Option Addr) (bn bc : Nat) (w : World) :
    Calls Try.prog 32 #[mapE ep bA bn bc l, chUp] w fun e w' => e = .returned (.int .i64 0) ∧ Gr w w' := by
  go_enter Try.func32, Try.ntmps32
  go_wp2_with fail
  obtain ⟨W, hW, hg, k1, k2⟩ := mk2 w _ _ _ _
  rw [← hW]
  clear hW
  refine (osd_none ep l bA bn bc W).mono ?_
  rintro e w1 ⟨rfl, hg1⟩
  have b0 := (k2.gr hg1).cell 0
  have b2 := (k2.gr hg1).cell 2
  have bl := (k2.gr hg1).lt
  simp at b0 b2
  have HF := hide (hg.gr hg1)
  clear hg1 hg k1 k2
  go_wp2
  go_ret
  exact ⟨rfl, HF.out.alloc _⟩

set_option maxHeartbeats 1000000 in
set_option maxRecDepth 100000 in
theorem May_up (ep l : Int) (bA : Option Addr) (bn bc : Nat) (w : World) :
    Calls Try.prog 24 #[mapE ep bA bn bc l, chUp] w fun e w' => e = .returned (.int .i64 0) ∧ Gr w w' := by
  go_enter Try.func24, Try.ntmps24
  go_wp2_with fail
  obtain ⟨W, hW, hg, k1, k2⟩ := mk2 w _ _ _ _
  rw [← hW]
  clear hW k1 k2
  refine (mayOsd_up ep l bA bn bc W).mono ?_
  rintro e w1 ⟨rfl, hg1⟩
  have HF := hide (hg.gr hg1)
  clear hg1 hg
  go_wp2
  go_ret
  exact ⟨rfl, HF.out⟩

set_option maxHeartbeats 1000000 in
set_option maxRecDepth 100000 in
theorem indexFunc_nil (f : Value) (w : World) : Calls Try.prog 42 #[.slice none 0 0, f] w fun e w' => e = .returned (.int .i64 (-1)) ∧ w' = w := by
  go_enter Try.func42, Try.ntmps42
  go_wp2
  refine wp_loop_rounds 1 ?_
  rw [rounds_succ]
  go_wp2
  go_ret
  exact ⟨rfl, rfl⟩

set_option maxHeartbeats 1000000 in
set_option maxRecDepth 100000 in
theorem mayPool_new (ep l : Int) (oA bA : Option Addr) (on oc bn bc : Nat) (w : World) :
    Calls Try.prog 33 #[.agg #[.int .i64 ep, .slice oA on oc, .slice none 0 0, .slice bA bn bc, .int .i64 l], .agg #[.int .i64 1, .int .i64 1, .int .i64 1, .int .i64 1]] w fun e w' => e = .returned (.int .i64 0) ∧ Gr w w' := by
  go_enter Try.func33, Try.ntmps33
  go_wp2_with (go_at_call 42; refine (indexFunc_nil _ _).mono ?_; rintro e w1 ⟨rfl, rfl⟩)
  obtain ⟨W, hW, hg, k1, k2⟩ := mk2 w _ _ _ _
  rw [← hW]
  have HF := hide hg
  have hd : decide ((0 : Int) ≤ -1) = false := by decide
  clear hg hW k1 k2
  go_quiet (fail)
  go_wp2
  go_ret
  exact ⟨rfl, HF.out.drewN _⟩

set_option maxHeartbeats 1000000 in
set_option maxRecDepth 100000 in
theorem May_pool (ep l : Int) (oA bA : Option Addr) (on oc bn bc : Nat) (w : World) :
    Calls Try.prog 24 #[.agg #[.int .i64 ep, .slice oA on oc, .slice none 0 0, .slice bA bn bc, .int .i64 l], chPool] w fun e w' => e = .returned (.int .i64 0) ∧ Gr w w' := by
  go_enter Try.func24, Try.ntmps24
  go_wp2_with fail
  obtain ⟨W, hW, hg, k1, k2⟩ := mk2 w _ _ _ _
  rw [← hW]
  clear hW k1 k2
  refine (mayPool_new ep l oA bA on oc bn bc W).mono ?_
  rintro e w1 ⟨rfl, hg1⟩
  have HF := hide (hg.gr hg1)
  clear hg1 hg
  go_wp2
  go_ret
  exact ⟨rfl, HF.out⟩

end Go.Proofs.Ythjficahhcjfgaa
