/-
  The client's Begin, of no map: no such pool. And Tick.
-/
import Derived.Test.YthjficahhcjfgaaCl4
import Derived.Test.YthjficahhcjfgaaCl2
namespace Go.Proofs.Ythjficahhcjfgaa
open Go.RowKit

set_option maxHeartbeats 4000000 in
set_option maxRecDepth 100000 in
theorem Begin_none (sk si boot mons tries num : Int) (s : ByteArray) (c : Nat) (w : World) (hbt : 0 < boot) (hgb : goodB s = true) (hs : s.size ≤ 140737488351232)
    (hc : Blk w c 82 (clientCells sk si boot mons tries (.int .i64 0) (.slice none 0 0) (.slice none 0 0) (.slice none 0 0) (.int .i64 0) num (.pointer none) (.pointer none))) :
    Calls Try.prog 8 #[.pointer (some ⟨c, 0, none⟩), .int .i64 1, .agg #[.int .i64 1, .string s, .slice none 0 0, .int .i64 0, .int .i64 0]] w fun e w' => e = .returned (.tuple #[.slice none 0 0, .int .i64 2]) ∧ Gr w w' := by
  have mk : ∀ a : Array Value, ∃ W : World, W = w.alloc (.cells a 30) ∧ Gr w W ∧ Blk W w.heap.size 30 a := fun a => ⟨_, rfl, (Ch.refl _ _).alloc _, Blk.new _ _ _⟩
  have HC := hide hc
  clear hc
  go_enter Try.func8, Try.ntmps8
  go_wp2_with fail
  obtain ⟨W, hW, hg, k⟩ := mk _
  rw [← hW]
  clear hW mk
  have c2 := (HC.out.gr hg).cell 2
  have c5 := (HC.out.gr hg).cell 5
  have c6 := (HC.out.gr hg).cell 6
  have c7 := (HC.out.gr hg).cell 7
  have c8 := (HC.out.gr hg).cell 8
  have c9 := (HC.out.gr hg).cell 9
  have c11 := (HC.out.gr hg).cell 11
  have c12 := (HC.out.gr hg).cell 12
  simp at c2 c5 c6 c7 c8 c9 c11 c12
  have k0 := k.cell 0
  have kl := k.lt
  simp at k0
  have HK := hide k
  have HG := hide hg
  clear k hg
  refine (free_yes boot hbt c2 c11 c12).mono ?_
  rintro e w' ⟨rfl, rfl⟩
  go_wp2_with fail
  refine (pool_none W _ _ 1).mono ?_
  rintro e w1 ⟨rfl, hg1⟩
  have mk1 : ∀ a : Array Value, ∃ W1 : World, W1 = w1.alloc (.cells a 95) ∧ Gr W W1 := fun a => ⟨_, rfl, hg1.alloc _⟩
  have k1 := (HK.out.gr hg1).cell 1
  have k1l := (HK.out.gr hg1).lt
  simp at k1
  clear hg1 c2 c5 c6 c7 c8 c9 c11 c12 k0
  go_wp2_with fail
  obtain ⟨W1, hW1, hgW⟩ := mk1 _
  rw [← hW1]
  clear hW1 mk1 k1 k1l
  have k2 := (HK.out.gr hgW).cell 2
  have k2l := (HK.out.gr hgW).lt
  simp at k2
  refine (good_any s W1 hs).mono ?_
  rintro e w2 ⟨rfl, rfl⟩
  rw [hgb]
  have HF := hide (HG.out.gr hgW)
  clear hgW
  go_wp2
  go_ret2
  exact ⟨rfl, HF.out⟩

end Go.Proofs.Ythjficahhcjfgaa
