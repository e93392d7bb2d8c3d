/-
  Engine.Name: it returns some number.
-/
import Derived.Test.YthjficahhcjfgaaDig
import Derived.Deep.RegionHeld3
namespace Go.Proofs.Ythjficahhcjfgaa
open Go.RowKit

/-- What word answers, byte by byte. -/
noncomputable def wordTo (s : ByteArray) : Nat → Int
  | 0 => 0
  | k + 1 => if h : k < s.size then bits .or .u32 (wordTo s k) ((s[k].toNat : Int) % 4294967296 * 2 ^ (8 * k) % 4294967296) else wordTo s k
theorem wordTo_succ {s : ByteArray} {k : Nat} (h : k < s.size) : bits .or .u32 (wordTo s k) ((s[k].toNat : Int) % 4294967296 * 2 ^ (8 * k) % 4294967296) = wordTo s (k + 1) := by
  rw [wordTo, dif_pos h]
noncomputable def wordV (s : ByteArray) : Int := if s.size < 4 then wordTo s s.size else wordTo s 4
theorem ret_u32 {a b : Int} (h : a = b) : Ending.returned (.int .u32 a) = .returned (.int .u32 b) := by rw [h]

set_option maxHeartbeats 1000000 in
set_option maxRecDepth 100000 in
theorem word_any (s : ByteArray) (w : World) (hs : s.size ≤ 140737488351232) :
    Calls Try.prog 56 #[.string s] w fun e w' => e = .returned (.int .u32 (wordV s)) ∧ w' = w := by
  have hv : Hid (wordV s = if s.size < 4 then wordTo s s.size else wordTo s 4) := rfl
  go_enter Try.func56, Try.ntmps56
  go_wp2
  all_goals
    go_loop [3, 8] (fun n i => ∃ (k : Nat), k ≤ s.size ∧ k ≤ 4 ∧ i = .int .i64 k ∧ n = .int .u32 (wordTo s k)) (fun _ i => 4 - (intOf i).toNat)
    case atStart => exact ⟨0, Nat.zero_le _, by omega, rfl, rfl⟩
    case round =>
      obtain ⟨k, hk, hk4, rfl, rfl⟩ := hrel
      by_cases hlt : k < s.size ∧ k < 4
      · obtain ⟨h1, h2⟩ := hlt
        have HW := hide (wordTo_succ h1)
        go_wp2
        go_roundw
        case rel => exact ⟨k + 1, by omega, by omega, by go_num, by rw [HW.out]⟩
        case measure => simp [intOf]; omega
      · have hk' : Hid (k = if s.size < 4 then s.size else 4) := by show _ = _; split <;> omega
        go_wp2
        go_ret
        exact ⟨ret_u32 (by rw [hv.out, hk'.out]; split <;> rfl), rfl⟩

theorem Trio.set {w : World} {g : Nat} (h : Trio w g) (i : Nat) (v : Int) : Trio (w.setCell ⟨g, i, none⟩ (.int .u32 v)) g := by
  obtain ⟨a, b, c, h⟩ := h
  have h' := h.set_ i (.int .u32 v)
  rcases (by omega : i = 0 ∨ i = 1 ∨ i = 2 ∨ 3 ≤ i) with rfl | rfl | rfl | hi
  · exact ⟨v, b, c, by simpa using h'⟩
  · exact ⟨a, v, c, by simpa using h'⟩
  · exact ⟨a, b, v, by simpa using h'⟩
  · rw [Array.setIfInBounds_eq_of_size_le (by simpa using hi)] at h'
    exact ⟨a, b, c, h'⟩

/-- How long a text in a slot is. -/
def strLen : Value → Nat | .string s => s.size | _ => 0

set_option maxHeartbeats 1000000 in
set_option maxRecDepth 100000 in
theorem name_any (g : Addr) (s : ByteArray) (w : World) (hs : s.size ≤ 140737488351232) :
    Calls Try.prog 50 #[.pointer (some g), .string s] w fun e w' => (∃ h : Int, e = .returned (.int .u32 h)) ∧ Gr w w' := by
  go_enter Try.func50, Try.ntmps50
  go_wp2
  have hT : Hid (Trio (w.alloc (.cells #[.int .u32 2654435769, .int .u32 2654435769, .int .u32 0] 159)) w.heap.size) := ⟨_, _, _, Blk.new _ _ _⟩
  have hG : Hid (Gr w (w.alloc (.cells #[.int .u32 2654435769, .int .u32 2654435769, .int .u32 0] 159))) := (Ch.refl _ _).alloc _
  go_loopw [1] (fun v wr => ∃ t : ByteArray, v = .string t ∧ t.size ≤ 140737488351232 ∧ Hid (Trio wr w.heap.size) ∧ Hid (Gr w wr)) (fun v _ => strLen v)
  case atStart => exact ⟨s, rfl, hs, hT, hG⟩
  case round =>
    clear hT hG hs
    obtain ⟨t, rfl, ht, hT, hG⟩ := hrel
    by_cases hl : 12 ≤ t.size
    · have l4 : (4 : Int) ≤ (t.size : Int) := by omega
      have l8 : (8 : Int) ≤ (t.size : Int) := by omega
      have l12 : (12 : Int) ≤ (t.size : Int) := by omega
      go_wp2
      go_loopw [19] (fun i wr' => ∃ k : Int, 0 ≤ k ∧ k ≤ 3 ∧ i = .int .i64 k ∧ Hid (Trio wr' w.heap.size) ∧ Hid (Gr w wr')) (fun i _ => (3 - intOf i).toNat)
      case atStart => exact ⟨0, by omega, by omega, rfl, hT, hG⟩
      case round =>
        clear hT hG
        rename_i wr'
        obtain ⟨k, hk0, hk3, rfl, hT, hG⟩ := hrel
        obtain ⟨a, b, c, hb⟩ := hT.out
        have c0 := hb.cell 0
        have c1 := hb.cell 1
        have c2 := hb.cell 2
        have f0 := hb.frozen
        simp at c0 c1 c2
        have HB := hide hb
        clear hb
        have w0 : IntKind.i64.wrap 0 = 0 := by decide
        have w4 : IntKind.i64.wrap 4 = 4 := by decide
        have w8 : IntKind.i64.wrap 8 = 8 := by decide
        have w12 : IntKind.i64.wrap 12 = 12 := by decide
        have hk' : k = 0 ∨ k = 1 ∨ k = 2 ∨ k = 3 := by omega
        rcases hk' with rfl | rfl | rfl | rfl
        iterate 3
          · go_wp2
            go_region_with (go_at_call 56; refine (word_any _ _ (by simp; omega)).mono ?_; rintro e w' ⟨rfl, rfl⟩)
            all_goals
              go_wp2
              go_roundw
              case rel =>
                refine ⟨_, ?_, ?_, rfl, ?_, ?_⟩
                · omega
                · omega
                · exact hT.out.set _ _
                · exact hG.out.drew.set (p := ⟨w.heap.size, _, none⟩) (.inr (Nat.le_refl _)) _
              case measure => simp [intOf]
        · go_wp2_with fail
          refine (trioMix_any _ _ _ _ _ HB.out).mono ?_
          rintro e w1 ⟨rfl, ht1, hc1⟩
          have HT1 := hide ht1
          have HC1 : Hid (Gr w w1) := hG.out.trans hc1 (fun i hi e => by omega)
          clear ht1 hc1 c0 c1 c2 f0
          go_wp2
          go_roundw
          case rel => exact ⟨_, rfl, by simp; omega, HT1, HC1⟩
          case measure => simp [strLen]; omega
    · obtain ⟨a, b, c, hb⟩ := hT.out
      have c0 := hb.cell 0
      have c1 := hb.cell 1
      have c2 := hb.cell 2
      have f0 := hb.frozen
      simp at c0 c1 c2
      clear hb
      have hd : decide ((12 : Int) ≤ (t.size : Int)) = false := decide_eq_false (by omega)
      go_wp2
      clear hd
      clear c0 c1 c2 f0
      generalize (c + (s.size : Int) % 4294967296) % 4294967296 = q
      have hN : w.heap.size ≤ w.heap.size := Nat.le_refl _
      go_loopw [44] (fun i wr' => ∃ k : Int, 0 ≤ k ∧ k ≤ 3 ∧ i = .int .i64 k ∧ Hid (Trio wr' w.heap.size) ∧ Hid (Gr w wr')) (fun i _ => (3 - intOf i).toNat)
      case atStart => exact ⟨0, by omega, by omega, rfl, hT.out.set _ _, hG.out.set (p := ⟨w.heap.size, _, none⟩) (.inr hN) _⟩
      case round =>
        clear hT hG
        rename_i wr'
        obtain ⟨k, hk0, hk3, rfl, hT, hG⟩ := hrel
        obtain ⟨a, b, c, hb⟩ := hT.out
        have c0 := hb.cell 0
        have c1 := hb.cell 1
        have c2 := hb.cell 2
        have f0 := hb.frozen
        simp at c0 c1 c2
        have HB := hide hb
        clear hb
        have hk' : k = 0 ∨ k = 1 ∨ k = 2 ∨ k = 3 := by omega
        rcases hk' with rfl | rfl | rfl | rfl
        iterate 3
          · go_wp2_with (go_at_call 56; refine (word_any _ _ (by first | omega | (simp; omega))).mono ?_; rintro e w' ⟨rfl, rfl⟩)
            all_goals
              go_roundw
              case rel =>
                refine ⟨_, ?_, ?_, rfl, ?_, ?_⟩
                · omega
                · omega
                · first | exact hT.out.set _ _ | exact hT
                · first | exact hG.out.set (p := ⟨w.heap.size, _, none⟩) (.inr hN) _ | exact hG
              case measure => simp [intOf]
        · go_wp2_with fail
          refine (trioMix_any _ _ _ _ _ HB.out).mono ?_
          rintro e w1 ⟨rfl, ⟨a', b', c', ht1⟩, hc1⟩
          have d2 := ht1.cell 2
          simp at d2
          have HC1 : Hid (Gr w w1) := hG.out.trans hc1 (fun i hi e => by omega)
          clear ht1 hc1 c0 c1 c2 f0
          go_wp2
          go_ret
          exact ⟨⟨_, rfl⟩, HC1⟩

end Go.Proofs.Ythjficahhcjfgaa
