/-
  Hash2, Hash3: they return some number, and turn nothing that was there.
-/
import Derived.Test.YthjficahhcjfgaaDig
namespace Go.Proofs.Ythjficahhcjfgaa
open Go.RowKit

theorem Cell32.ch {S : Nat → Prop} {w w' : World} {g : Nat} (h : Cell32 w g) (hc : Ch S w w') (hn : ¬ S g) : Cell32 w' g := let ⟨a, ha⟩ := h; ⟨a, ha.ch hc hn⟩
theorem Cell32.new (w : World) (a : Int) : Cell32 (w.alloc (.cells #[.int .u32 a] 137)) w.heap.size := ⟨a, Blk.new _ _ _⟩
theorem Cell32.new_ (w : World) (a : Int) (n : Nat) (h : n = w.heap.size) : Cell32 (w.alloc (.cells #[.int .u32 a] 137)) n := h ▸ Cell32.new w a
theorem Cell32.alloc {w : World} {g : Nat} (h : Cell32 w g) (o : Obj) : Cell32 (w.alloc o) g := let ⟨a, ha⟩ := h; ⟨a, ha.alloc o⟩

set_option maxHeartbeats 1000000 in
set_option maxRecDepth 100000 in
theorem hash2_any (g : Addr) (a b : Int) (w : World) :
    Calls Try.prog 52 #[.pointer (some g), .int .u32 a, .int .u32 b] w fun e w' => (∃ h : Int, e = .returned (.int .u32 h)) ∧ Gr w w' := by
  have mk : ∀ (v0 v1 v2 v3 v4 : Int), ∃ W : World, W = (((((w.alloc (.cells #[.int .u32 v0] 137)).alloc (.cells #[.int .u32 v1] 137)).alloc (.cells #[.int .u32 v2] 137)).alloc (.cells #[.int .u32 v3] 137)).alloc (.cells #[.int .u32 v4] 137)) ∧ Gr w W ∧ Cell32 W (w.heap.size) ∧ Cell32 W (w.heap.size + 1) ∧ Cell32 W (w.heap.size + 1 + 1) ∧ Cell32 W (w.heap.size + 1 + 1 + 1) ∧ Cell32 W (w.heap.size + 1 + 1 + 1 + 1) := by
    intro v0 v1 v2 v3 v4
    refine ⟨_, rfl, ((((((Ch.refl _ _).alloc _).alloc _).alloc _).alloc _).alloc _), (((((Cell32.new_ _ _ _ (by simp)).alloc _).alloc _).alloc _).alloc _), ((((Cell32.new_ _ _ _ (by simp)).alloc _).alloc _).alloc _), (((Cell32.new_ _ _ _ (by simp)).alloc _).alloc _), ((Cell32.new_ _ _ _ (by simp)).alloc _), (Cell32.new_ _ _ _ (by simp))⟩
  go_enter Try.func52, Try.ntmps52
  go_wp2_with fail
  obtain ⟨w0, hW, g0, k0_0, k0_1, k0_2, k0_3, k0_4⟩ := mk _ _ _ _ _
  rw [← hW]
  clear hW mk
  refine (mix_any _ _ _ _ (by omega) (by omega) (by omega) k0_0 k0_1 k0_2).mono ?_
  rintro e w1 ⟨rfl, k1_0, k1_1, k1_2, ch⟩
  have k1_3 := k0_3.ch ch (by omega)
  have k1_4 := k0_4.ch ch (by omega)
  have g1 : Gr w w1 := g0.trans ch (fun i hi e => by omega)
  clear k0_0 k0_1 k0_2 k0_3 k0_4 ch g0
  go_wp2_with fail
  refine (mix_any _ _ _ _ (by omega) (by omega) (by omega) k1_3 k1_0 k1_2).mono ?_
  rintro e w2 ⟨rfl, k2_3, k2_0, k2_2, ch⟩
  have k2_1 := k1_1.ch ch (by omega)
  have k2_4 := k1_4.ch ch (by omega)
  have g2 : Gr w w2 := g1.trans ch (fun i hi e => by omega)
  clear k1_0 k1_1 k1_2 k1_3 k1_4 ch g1
  go_wp2_with fail
  refine (mix_any _ _ _ _ (by omega) (by omega) (by omega) k2_1 k2_4 k2_2).mono ?_
  rintro e w3 ⟨rfl, k3_1, k3_4, k3_2, ch⟩
  have k3_0 := k2_0.ch ch (by omega)
  have k3_3 := k2_3.ch ch (by omega)
  have g3 : Gr w w3 := g2.trans ch (fun i hi e => by omega)
  clear k2_0 k2_1 k2_2 k2_3 k2_4 ch g2
  obtain ⟨r, hr⟩ := k3_2
  have c0 := hr.cell 0
  simp at c0
  go_wp2
  go_ret
  exact ⟨⟨r, rfl⟩, g3⟩

set_option maxHeartbeats 1000000 in
set_option maxRecDepth 100000 in
theorem hash3_any (g : Addr) (a b c : Int) (w : World) :
    Calls Try.prog 87 #[.pointer (some g), .int .u32 a, .int .u32 b, .int .u32 c] w fun e w' => (∃ h : Int, e = .returned (.int .u32 h)) ∧ Gr w w' := by
  have mk : ∀ (v0 v1 v2 v3 v4 v5 : Int), ∃ W : World, W = ((((((w.alloc (.cells #[.int .u32 v0] 137)).alloc (.cells #[.int .u32 v1] 137)).alloc (.cells #[.int .u32 v2] 137)).alloc (.cells #[.int .u32 v3] 137)).alloc (.cells #[.int .u32 v4] 137)).alloc (.cells #[.int .u32 v5] 137)) ∧ Gr w W ∧ Cell32 W (w.heap.size) ∧ Cell32 W (w.heap.size + 1) ∧ Cell32 W (w.heap.size + 1 + 1) ∧ Cell32 W (w.heap.size + 1 + 1 + 1) ∧ Cell32 W (w.heap.size + 1 + 1 + 1 + 1) ∧ Cell32 W (w.heap.size + 1 + 1 + 1 + 1 + 1) := by
    intro v0 v1 v2 v3 v4 v5
    refine ⟨_, rfl, (((((((Ch.refl _ _).alloc _).alloc _).alloc _).alloc _).alloc _).alloc _), ((((((Cell32.new_ _ _ _ (by simp)).alloc _).alloc _).alloc _).alloc _).alloc _), (((((Cell32.new_ _ _ _ (by simp)).alloc _).alloc _).alloc _).alloc _), ((((Cell32.new_ _ _ _ (by simp)).alloc _).alloc _).alloc _), (((Cell32.new_ _ _ _ (by simp)).alloc _).alloc _), ((Cell32.new_ _ _ _ (by simp)).alloc _), (Cell32.new_ _ _ _ (by simp))⟩
  go_enter Try.func87, Try.ntmps87
  go_wp2_with fail
  obtain ⟨w0, hW, g0, k0_0, k0_1, k0_2, k0_3, k0_4, k0_5⟩ := mk _ _ _ _ _ _
  rw [← hW]
  clear hW mk
  refine (mix_any _ _ _ _ (by omega) (by omega) (by omega) k0_0 k0_1 k0_3).mono ?_
  rintro e w1 ⟨rfl, k1_0, k1_1, k1_3, ch⟩
  have k1_2 := k0_2.ch ch (by omega)
  have k1_4 := k0_4.ch ch (by omega)
  have k1_5 := k0_5.ch ch (by omega)
  have g1 : Gr w w1 := g0.trans ch (fun i hi e => by omega)
  clear k0_0 k0_1 k0_2 k0_3 k0_4 k0_5 ch g0
  go_wp2_with fail
  refine (mix_any _ _ _ _ (by omega) (by omega) (by omega) k1_2 k1_4 k1_3).mono ?_
  rintro e w2 ⟨rfl, k2_2, k2_4, k2_3, ch⟩
  have k2_0 := k1_0.ch ch (by omega)
  have k2_1 := k1_1.ch ch (by omega)
  have k2_5 := k1_5.ch ch (by omega)
  have g2 : Gr w w2 := g1.trans ch (fun i hi e => by omega)
  clear k1_0 k1_1 k1_2 k1_3 k1_4 k1_5 ch g1
  go_wp2_with fail
  refine (mix_any _ _ _ _ (by omega) (by omega) (by omega) k2_5 k2_0 k2_3).mono ?_
  rintro e w3 ⟨rfl, k3_5, k3_0, k3_3, ch⟩
  have k3_1 := k2_1.ch ch (by omega)
  have k3_2 := k2_2.ch ch (by omega)
  have k3_4 := k2_4.ch ch (by omega)
  have g3 : Gr w w3 := g2.trans ch (fun i hi e => by omega)
  clear k2_0 k2_1 k2_2 k2_3 k2_4 k2_5 ch g2
  go_wp2_with fail
  refine (mix_any _ _ _ _ (by omega) (by omega) (by omega) k3_1 k3_4 k3_3).mono ?_
  rintro e w4 ⟨rfl, k4_1, k4_4, k4_3, ch⟩
  have k4_0 := k3_0.ch ch (by omega)
  have k4_2 := k3_2.ch ch (by omega)
  have k4_5 := k3_5.ch ch (by omega)
  have g4 : Gr w w4 := g3.trans ch (fun i hi e => by omega)
  clear k3_0 k3_1 k3_2 k3_3 k3_4 k3_5 ch g3
  go_wp2_with fail
  refine (mix_any _ _ _ _ (by omega) (by omega) (by omega) k4_5 k4_2 k4_3).mono ?_
  rintro e w5 ⟨rfl, k5_5, k5_2, k5_3, ch⟩
  have k5_0 := k4_0.ch ch (by omega)
  have k5_1 := k4_1.ch ch (by omega)
  have k5_4 := k4_4.ch ch (by omega)
  have g5 : Gr w w5 := g4.trans ch (fun i hi e => by omega)
  clear k4_0 k4_1 k4_2 k4_3 k4_4 k4_5 ch g4
  obtain ⟨r, hr⟩ := k5_3
  have c0 := hr.cell 0
  simp at c0
  go_wp2
  go_ret
  exact ⟨⟨r, rfl⟩, g5⟩

end Go.Proofs.Ythjficahhcjfgaa
