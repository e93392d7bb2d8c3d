/-
  The digest functions that the law reaches: that they return some number, and what they do to memory.
-/
import Derived.Test.YthjficahhcjfgaaBase
namespace Go.Proofs.Ythjficahhcjfgaa
open Go.RowKit

set_option maxHeartbeats 400000 in
theorem new_any (w : World) :
    Calls Try.prog 49 #[] w fun e w' => e = .returned (.pointer (some ⟨w.heap.size, 0, none⟩)) ∧ w' = w.alloc (.cells Try.zeroCells157 157) := by
  go_enter Try.func49, Try.ntmps49
  go_wp2
  go_ret
  exact ⟨rfl, rfl⟩

/-- Three numbers of 32 bits lie in a block. -/
def Trio (w : World) (g : Nat) : Prop := ∃ a b c : Int, Blk w g 159 #[.int .u32 a, .int .u32 b, .int .u32 c]

set_option maxHeartbeats 1000000 in
set_option maxRecDepth 100000 in
theorem trioMix_any (g : Nat) (a b c : Int) (w : World) (h : Blk w g 159 #[.int .u32 a, .int .u32 b, .int .u32 c]) :
    Calls Try.prog 57 #[.pointer (some ⟨g, 0, none⟩)] w fun e w' => e = .returned (.tuple #[]) ∧ Trio w' g ∧ Ch (· = g) w w' := by
  have c0 := h.cell 0
  have c1 := h.cell 1
  have c2 := h.cell 2
  have f0 := h.frozen
  simp at c0 c1 c2
  have i0 : ∀ w, (Instr.index 171 (.agg #[.int .i64 13, .int .i64 8, .int .i64 13, .int .i64 12, .int .i64 16, .int .i64 5, .int .i64 3, .int .i64 10, .int .i64 15]) (.int .i64 0)).run Try.prog w = .ok (.agg #[.int .i64 13, .int .i64 8, .int .i64 13]) w := fun _ => by kernel_rfl
  have i1 : ∀ w, (Instr.index 171 (.agg #[.int .i64 13, .int .i64 8, .int .i64 13, .int .i64 12, .int .i64 16, .int .i64 5, .int .i64 3, .int .i64 10, .int .i64 15]) (.int .i64 1)).run Try.prog w = .ok (.agg #[.int .i64 12, .int .i64 16, .int .i64 5]) w := fun _ => by kernel_rfl
  have i2 : ∀ w, (Instr.index 171 (.agg #[.int .i64 13, .int .i64 8, .int .i64 13, .int .i64 12, .int .i64 16, .int .i64 5, .int .i64 3, .int .i64 10, .int .i64 15]) (.int .i64 2)).run Try.prog w = .ok (.agg #[.int .i64 3, .int .i64 10, .int .i64 15]) w := fun _ => by kernel_rfl
  go_enter Try.func57, Try.ntmps57
  go_wp2
  go_region
  go_wp2
  have hB0 : Gr w w.drew := (Ch.refl _ _).drew
  have hblk0 : Hid (Blk w.drew g 159 #[.int .u32 a, .int .u32 b, .int .u32 c]) := h.drew
  have hlt := h.lt
  clear c0 c1 c2 f0 h
  go_loopw [2, 3, 4, 23] (fun x y z i wr => ∃ (k a' b' c' : Int), 0 ≤ k ∧ k ≤ 3 ∧ x = .int .u32 a' ∧ y = .int .u32 b' ∧ z = .int .u32 c' ∧ i = .int .i64 k ∧ Hid (Blk wr g 159 #[.int .u32 a, .int .u32 b, .int .u32 c]) ∧ Hid (Gr w wr))
    (fun _ _ _ i _ => (3 - intOf i).toNat)
  case atStart => exact ⟨0, _, _, _, by omega, by omega, rfl, rfl, rfl, rfl, hblk0, hB0⟩
  case round =>
    obtain ⟨k, a', b', c', hk0, hk, rfl, rfl, rfl, rfl, hb, hB⟩ := hrel
    clear hB0 hblk0
    have hk' : k = 0 ∨ k = 1 ∨ k = 2 ∨ k = 3 := by omega
    rcases hk' with rfl | rfl | rfl | rfl
    iterate 3
      · go_wp2
        go_roundw
        case rel => exact ⟨_, _, _, _, by omega, by omega, rfl, rfl, rfl, rfl, hb.out.alloc _, hB.out.alloc _⟩
        case measure => simp [intOf]
    · have c0 := hb.out.cell 0
      have c1 := hb.out.cell 1
      have c2 := hb.out.cell 2
      have f0 := hb.out.frozen
      simp at c0 c1 c2
      go_wp2
      go_end0
      refine ⟨rfl, ⟨a', b', c', ?_⟩, ?_⟩
      · simpa using ((hb.out.set_ 0 (.int .u32 a')).set_ 1 (.int .u32 b')).set_ 2 (.int .u32 c')
      · exact (((hB.out.any (S := (· = g))).set (p := ⟨g, 0, none⟩) (.inl rfl) _).set (p := ⟨g, 1, none⟩) (.inl rfl) _).set (p := ⟨g, 2, none⟩) (.inl rfl) _

/-- A number of 32 bits lies in a block. -/
def Cell32 (w : World) (g : Nat) : Prop := ∃ a : Int, Blk w g 137 #[.int .u32 a]

set_option maxHeartbeats 1000000 in
set_option maxRecDepth 100000 in
theorem mix_any (x y z : Nat) (w : World) (hxy : x ≠ y) (hxz : x ≠ z) (hyz : y ≠ z) (hx : Cell32 w x) (hy : Cell32 w y) (hz : Cell32 w z) :
    Calls Try.prog 61 #[.pointer (some ⟨x, 0, none⟩), .pointer (some ⟨y, 0, none⟩), .pointer (some ⟨z, 0, none⟩)] w fun e w' =>
      e = .returned (.tuple #[]) ∧ Cell32 w' x ∧ Cell32 w' y ∧ Cell32 w' z ∧ Ch (fun i => i = x ∨ i = y ∨ i = z) w w' := by
  obtain ⟨a, hx⟩ := hx
  obtain ⟨b, hy⟩ := hy
  obtain ⟨c, hz⟩ := hz
  have cx := hx.cell 0
  have cy := hy.cell 0
  have cz := hz.cell 0
  simp at cx cy cz
  have ax : ∀ o, (w.alloc o).cell? ⟨x, 0, none⟩ = some (.int .u32 a) := fun o => by simpa using (hx.alloc o).cell 0
  have ay : ∀ o, (w.alloc o).cell? ⟨y, 0, none⟩ = some (.int .u32 b) := fun o => by simpa using (hy.alloc o).cell 0
  have az : ∀ o, (w.alloc o).cell? ⟨z, 0, none⟩ = some (.int .u32 c) := fun o => by simpa using (hz.alloc o).cell 0
  go_enter Try.func61, Try.ntmps61
  go_wp2
  go_region
  go_wp2_with fail
  refine (trioMix_any _ a b c _ (Blk.new w _ _).drew).mono ?_
  rintro e w1 ⟨rfl, ⟨a', b', c', ht⟩, hch⟩
  have lx := hx.lt
  have ly := hy.lt
  have lz := hz.lt
  have kx := ((hx.alloc (.cells #[.int .u32 a, .int .u32 b, .int .u32 c] 159)).drew).ch hch (by omega)
  have ky := ((hy.alloc (.cells #[.int .u32 a, .int .u32 b, .int .u32 c] 159)).drew).ch hch (by omega)
  have kz := ((hz.alloc (.cells #[.int .u32 a, .int .u32 b, .int .u32 c] 159)).drew).ch hch (by omega)
  have t0 := ht.cell 0
  have t1 := ht.cell 1
  have t2 := ht.cell 2
  have cx' := kx.cell 0
  have cy' := ky.cell 0
  have cz' := kz.cell 0
  have fx := kx.frozen 0
  have fy := ky.frozen 0
  have fz := kz.frozen 0
  simp at cx' cy' cz' t0 t1 t2
  have KX := hide kx
  have KY := hide ky
  have KZ := hide kz
  have HC := hide hch
  clear cx cy cz ax ay az hch kx ky kz hx hy hz
  go_wp2
  go_end0
  refine ⟨rfl, ⟨a', ?_⟩, ⟨b', ?_⟩, ⟨c', ?_⟩, ?_⟩
  · simpa using ((KX.out.set_ 0 (.int .u32 a')).far (p := ⟨y, 0, none⟩) hxy (.int .u32 b')).far (p := ⟨z, 0, none⟩) hxz (.int .u32 c')
  · simpa using ((KY.out.far (p := ⟨x, 0, none⟩) hxy.symm (.int .u32 a')).set_ 0 (.int .u32 b')).far (p := ⟨z, 0, none⟩) hyz (.int .u32 c')
  · simpa using ((KZ.out.far (p := ⟨x, 0, none⟩) hxz.symm (.int .u32 a')).far (p := ⟨y, 0, none⟩) hyz.symm (.int .u32 b')).set_ 0 (.int .u32 c')
  · have h0 : Ch (fun i => i = x ∨ i = y ∨ i = z) w w1 := (((Ch.refl _ _).alloc _).drew).trans HC.out (fun i hi e => by omega)
    exact ((h0.set (p := ⟨x, 0, none⟩) (.inl (.inl rfl)) _).set (p := ⟨y, 0, none⟩) (.inl (.inr (.inl rfl))) _).set (p := ⟨z, 0, none⟩) (.inl (.inr (.inr rfl))) _

end Go.Proofs.Ythjficahhcjfgaa
