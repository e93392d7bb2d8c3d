/-
  crush: down the hierarchy of one bucket.
-/
import Derived.Test.YthjficahhcjfgaaTakes
import Derived.Deep.DeepMust
namespace Go.Proofs.Ythjficahhcjfgaa
open Go.RowKit

set_option maxHeartbeats 1000000 in
set_option maxRecDepth 100000 in
theorem try_one (g : Nat) (xv r : Int) (o co p cp b cb i ci x cx : Nat) (w : World) (h : M1 w o co p cp b cb i ci x cx) (hb : Blk w g 164 (chooserCells o co p cp b cb xv)) :
    Calls Try.prog 67 #[.pointer (some ⟨g, 0, none⟩), .int .i64 (-1), .int .i64 r] w fun e w' => e = .returned (.tuple #[.int .i64 0, .int .i64 0, .bool true]) ∧ Gr w w' := by
  have c0 := hb.cell 0
  have c1 := hb.cell 1
  have c2 := hb.cell 2
  have c3 := hb.cell 3
  have c4 := hb.cell 4
  simp at c0 c1 c2 c3 c4
  go_enter Try.func67, Try.ntmps67
  go_wp2
  refine wp_loop_rounds 2 ?_
  rw [rounds_succ]
  go_wp2_with fail
  refine (crushBucket_one h).mono ?_
  rintro e' w1 ⟨v, rfl, ⟨gi, ci', gx, cx', rfl, hi, hx, li, lx, ki, kx⟩, hg⟩
  have mk : ∀ a : Array Value, ∃ W : World, W = w1.alloc (.cells a 93) ∧ Gr w1 W ∧ Blk W w1.heap.size 93 a := fun a => ⟨_, rfl, (Ch.refl _ _).alloc _, Blk.new _ _ _⟩
  have lg := (hb.gr hg).lt
  have HB := hide hb
  have HM := hide h
  have HI := hide hi
  have HX := hide hx
  have HG := hide hg
  clear c0 c1 c2 c3 c4 h hb hg hi hx
  go_wp2
  obtain ⟨W, hW, hgW, k⟩ := mk _
  rw [← hW]
  clear hW mk
  have HGW : Hid (Gr w W) := HG.out.gr hgW
  have d4 := (HB.out.gr HGW.out).cell 4
  have d5 := (HB.out.gr HGW.out).cell 5
  have e0 := k.cell 0
  have e1 := k.cell 1
  have e2 := k.cell 2
  have e3 := k.cell 3
  simp at d4 d5 e0 e1 e2 e3
  have K := hide k
  have hI : W.cell? ⟨gi, 0, none⟩ = some (.int .i64 0) := (hgW.cell (p := ⟨gi, 0, none⟩) li (fun f => f)).trans HI.out
  have hX : W.cell? ⟨gx, 0, none⟩ = some (.int .i64 65536) := (hgW.cell (p := ⟨gx, 0, none⟩) lx (fun f => f)).trans HX.out
  have lI : gi < W.heap.size := Nat.lt_of_lt_of_le li hgW.size
  have lX : gx < W.heap.size := Nat.lt_of_lt_of_le lx hgW.size
  clear k hgW
  go_quiet (fail)
  go_wp2
  have H' : Hid (∀ w', Gr W w' → w'.cell? ⟨w1.heap.size, 2, none⟩ = some (.slice (some ⟨gi, 0, none⟩) 1 ci') ∧ w'.cell? ⟨w1.heap.size, 3, none⟩ = some (.slice (some ⟨gx, 0, none⟩) 1 cx') ∧ w'.cell? ⟨g, 5, none⟩ = some (.int .u32 xv)) := fun w' h1 => ⟨(K.out.gr h1).cell 2, (K.out.gr h1).cell 3, ((HB.out.gr HGW.out).gr h1).cell 5⟩
  go_region_held3 (fun w' => w'.cell? ⟨w1.heap.size, 2, none⟩ = some (.slice (some ⟨gi, 0, none⟩) 1 ci') ∧ w'.cell? ⟨w1.heap.size, 3, none⟩ = some (.slice (some ⟨gx, 0, none⟩) 1 cx') ∧ w'.cell? ⟨g, 5, none⟩ = some (.int .u32 xv)) (first | go_keep | exact H'.out _ HG2.out)
    (first | (go_at_call 71; go_must (refine (choose_one _ _ _ _ _ _ _ (by exact lI) (by exact lX) (by exact hI) (by exact hX)).mono ?_; rintro e' w2 ⟨rfl, hg2⟩; have HG2 : Hid (Gr W w2) := ((Ch.refl _ W).drewN _).gr hg2; clear hg2)))
  have f0 := (K.out.gr HG2.out).cell 2
  have fI : w2.cell? ⟨gi, 0, none⟩ = some (.int .i64 0) := (HG2.out.cell (p := ⟨gi, 0, none⟩) lI (fun f => f)).trans hI
  simp at f0
  have HGG : Hid (Gr w w2) := HGW.out.gr HG2.out
  clear d4 d5 e0 e1 e2 e3 hI hX lI lX
  go_wp2
  rw [rounds_succ]
  go_wp2_with (go_at_call 72; refine (takes_one _ _ _ _ _ _ _ _ _ _ _ _ _ (HM.out.gr HGG.out) (HB.out.gr HGG.out)).mono ?_; rintro e' w3 ⟨rfl, hg3⟩)
  go_ret3
  exact ⟨rfl, HGG.out.gr hg3⟩

end Go.Proofs.Ythjficahhcjfgaa
