/-
  The client's target and what it sends.
-/
import Derived.Test.YthjficahhcjfgaaCl1
namespace Go.Proofs.Ythjficahhcjfgaa
open Go.RowKit

/-- An op's block: of pool 1, by name. -/
abbrev opCells (g1 g2 kind : Int) (s : ByteArray) (data : Value) (x1 x2 number tries : Int) : Array Value :=
  #[.int .i64 1, .int .i64 g1, .int .i64 g2, .bool false, .int .i64 kind, .string s, data, .int .i64 x1, .int .i64 x2, .int .i64 number, .int .i64 tries]

set_option maxHeartbeats 4000000 in
set_option maxRecDepth 100000 in
theorem target_one (sk si boot mons tries g1 g2 kind x1 x2 number tr num : Int) (s : ByteArray) (data ans : Value) (c n o co p cp b cb i ci x cx : Nat) (w : World) (h : M1 w o co p cp b cb i ci x cx)
    (hc : Blk w c 82 (clientCells sk si boot mons tries (.int .i64 1) (.slice (some ⟨o, 0, none⟩) 1 co) (.slice (some ⟨p, 0, none⟩) 1 cp) (.slice (some ⟨b, 0, none⟩) 1 cb) (.int .i64 0) num (.pointer (some ⟨n, 0, none⟩)) ans))
    (hn : Blk w n 89 (opCells g1 g2 kind s data x1 x2 number tr)) (hs : s.size ≤ 140737488351232) (hb : Hid (goodB s = true)) :
    Calls Try.prog 26 #[.pointer (some ⟨c, 0, none⟩)] w fun e w' => e = .returned (.tuple #[.agg #[.int .i64 1, .int .i64 0], .bool true]) ∧ Gr w w' := by
  have mk : ∀ a : Array Value, ∃ W : World, W = w.alloc (.cells a 42) ∧ Gr w W ∧ Blk W w.heap.size 42 a := fun a => ⟨_, rfl, (Ch.refl _ _).alloc _, Blk.new _ _ _⟩
  have c11 := hc.cell 11
  have n3 := hn.cell 3
  simp at c11 n3
  have lc := hc.lt
  have ln := hn.lt
  go_enter Try.func26, Try.ntmps26
  go_wp2
  obtain ⟨W, hW, hg, k⟩ := mk _
  rw [← hW]
  clear hW mk c11 n3
  have H' : Hid (∀ w', Gr W w' → w'.cell? ⟨c, 5, none⟩ = some (.int .i64 1) ∧ w'.cell? ⟨c, 6, none⟩ = some (.slice (some ⟨o, 0, none⟩) 1 co) ∧ w'.cell? ⟨c, 7, none⟩ = some (.slice (some ⟨p, 0, none⟩) 1 cp) ∧ w'.cell? ⟨c, 8, none⟩ = some (.slice (some ⟨b, 0, none⟩) 1 cb) ∧ w'.cell? ⟨c, 9, none⟩ = some (.int .i64 0) ∧ w'.cell? ⟨c, 11, none⟩ = some (.pointer (some ⟨n, 0, none⟩)) ∧ w'.cell? ⟨n, 0, none⟩ = some (.int .i64 1) ∧ w'.cell? ⟨n, 3, none⟩ = some (.bool false) ∧ w'.cell? ⟨n, 5, none⟩ = some (.string s)) := fun w' h1 => ⟨(hc.gr (hg.gr h1)).cell 5, (hc.gr (hg.gr h1)).cell 6, (hc.gr (hg.gr h1)).cell 7, (hc.gr (hg.gr h1)).cell 8, (hc.gr (hg.gr h1)).cell 9, (hc.gr (hg.gr h1)).cell 11, (hn.gr (hg.gr h1)).cell 0, (hn.gr (hg.gr h1)).cell 3, (hn.gr (hg.gr h1)).cell 5⟩
  obtain ⟨q0, q1, q2, q3, q4, q5, q6, q7, q8⟩ := H'.out W (Ch.refl _ _)
  have hg0 : Hid (Gr W W.drew) := (Ch.refl _ _).drew
  have HG := hide hg
  have HM := hide h
  have HK := hide k
  have hlW := k.lt
  have hneW : w.heap.size ≠ W.heap.size := by omega
  have hneW' : W.heap.size ≠ w.heap.size := hneW.symm
  have lc' : c < W.heap.size := by have := HG.out.size; omega
  have ln' : n < W.heap.size := by have := HG.out.size; omega
  clear hc hn hg h k lc ln
  go_region_held3 (fun w' => w'.cell? ⟨c, 5, none⟩ = some (.int .i64 1) ∧ w'.cell? ⟨c, 6, none⟩ = some (.slice (some ⟨o, 0, none⟩) 1 co) ∧ w'.cell? ⟨c, 7, none⟩ = some (.slice (some ⟨p, 0, none⟩) 1 cp) ∧ w'.cell? ⟨c, 8, none⟩ = some (.slice (some ⟨b, 0, none⟩) 1 cb) ∧ w'.cell? ⟨c, 9, none⟩ = some (.int .i64 0) ∧ w'.cell? ⟨c, 11, none⟩ = some (.pointer (some ⟨n, 0, none⟩)) ∧ w'.cell? ⟨n, 0, none⟩ = some (.int .i64 1) ∧ w'.cell? ⟨n, 3, none⟩ = some (.bool false) ∧ w'.cell? ⟨n, 5, none⟩ = some (.string s)) (first | go_keep | exact H'.out _ hg1.out | exact H'.out _ (hg1.out.alloc _))
    (first
      | (go_at_call 37
         refine (pg_one s o co p cp b cb i ci x cx _ (HM.out.gr (by first | exact HG.out.gr hg0.out | exact (HG.out.alloc _).drew)) hs hb).mono ?_
         rintro e' w1 ⟨rfl, hgr⟩
         first
           | (have hbn : Blk w1 W.heap.size 42 #[.int .i64 0, .int .i64 0] := ((Blk.new W 42 #[.int .i64 0, .int .i64 0]).drew).gr hgr
              have hg1 : Hid (Gr W w1) := (((Ch.refl _ W).alloc (.cells #[.int .i64 0, .int .i64 0] 42)).drew).gr hgr
              have z0 := hbn.cell 0
              have z1 := hbn.cell 1
              have zf := hbn.frozen
              have zl := hbn.lt
              have zne0 : W.heap.size ≠ c := by omega
              have zne1 : W.heap.size ≠ n := by omega
              simp at z0 z1
              clear hgr hbn)
           | (have hg1 : Hid (Gr W w1) := hg0.out.gr hgr; clear hgr)))
  all_goals
    have t0 := (HK.out.gr hg1.out).cell 0
    have t1 := (HK.out.gr hg1.out).cell 1
    have tf := (HK.out.gr hg1.out).frozen
    have tl := (HK.out.gr hg1.out).lt
    simp at t0 t1
    have HGG : Hid (Gr w w1) := HG.out.gr hg1.out
    go_wp2
    refine bodyPost_ret (v := .tuple #[.agg #[.int .i64 1, .int .i64 0], .bool true]) (by simp [results, Try.results26, go_sem, t0, t1, tl, hneW, hneW', World.cell?_alloc_some]) rfl ⟨rfl, ?_⟩
    first
      | exact ((HGG.out.set (p := ⟨w.heap.size, 0, none⟩) (.inr (Nat.le_refl _)) _).set (p := ⟨w.heap.size, 1, none⟩) (.inr (Nat.le_refl _)) _).alloc _
      | exact (((HGG.out.set (p := ⟨W.heap.size, 0, none⟩) (.inr (Nat.le_of_lt hlW)) _).set (p := ⟨W.heap.size, 1, none⟩) (.inr (Nat.le_of_lt hlW)) _).set (p := ⟨w.heap.size, 0, none⟩) (.inr (Nat.le_refl _)) _).set (p := ⟨w.heap.size, 1, none⟩) (.inr (Nat.le_refl _)) _

end Go.Proofs.Ythjficahhcjfgaa
