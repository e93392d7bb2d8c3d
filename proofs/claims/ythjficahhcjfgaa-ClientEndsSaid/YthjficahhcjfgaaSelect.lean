/-
  crush.Select: the one osd.
-/
import Derived.Test.YthjficahhcjfgaaTry1
namespace Go.Proofs.Ythjficahhcjfgaa
open Go.RowKit

/-- A chooser that has chosen osd 0. -/
def Chose (w : World) (g : Nat) (w' : World) : Prop :=
  (∃ c0 c1 c2 c3 c4 c5 c7 gi ci, Blk w' g 164 #[c0, c1, c2, c3, c4, c5, .slice (some ⟨gi, 0, none⟩) 1 ci, c7] ∧ w'.cell? ⟨gi, 0, none⟩ = some (.int .i64 0) ∧ gi < w'.heap.size ∧ 1 ≤ ci ∧ w.heap.size ≤ gi) ∧ Ch (· = g) w w'

set_option maxHeartbeats 1000000 in
set_option maxRecDepth 100000 in
theorem copy_one (g : Nat) (xv : Int) (o co p cp b cb i ci x cx : Nat) (w : World) (h : M1 w o co p cp b cb i ci x cx) (hb : Blk w g 164 (chooserCells o co p cp b cb xv)) :
    Calls Try.prog 60 #[.pointer (some ⟨g, 0, none⟩), .int .i64 (-1), .int .i64 0] w fun e w' => e = .returned (.tuple #[]) ∧ Chose w g w' := by
  obtain ⟨i0_, hi0, hz0, hz1, hz2⟩ := info_parts info3
  go_enter Try.func60, Try.ntmps60
  go_wp2
  refine wp_loop_rounds 1 ?_
  rw [rounds_succ]
  go_wp2_with fail
  refine (try_one g xv 0 o co p cp b cb i ci x cx w h hb).mono ?_
  rintro e' w1 ⟨rfl, hg⟩
  have hb1 := hb.gr hg
  have c6 := hb1.cell 6
  have c7 := hb1.cell 7
  have f0 := hb1.frozen
  have lg := hb1.lt
  simp at c6 c7
  have HB := hide hb1
  have HG := hide hg
  clear hb1 hg h hb
  go_wp2_with (first
    | (at_builtin
       refine wpList_append_lies _ rfl (.tmp 28) (.tmp 30) 91 rfl w1.heap.size 3 i0_ _ 1 8 Try.underlying91 hi0 hz0 hz1 hz2 rfl (by omega) (.slice none 0 0) 0 [] rfl (World.ownsRow_nil _ _ _ _) ⟨w1.heap.size, 0, none⟩ 1 1 [.int .i64 0] rfl rfl
         (World.news_of_block (cs := #[.int .i64 0]) (t := 3) (fr := (0, 0)) (Blk.new_ _ _ _ _ (by simp))) (by simp [Value.oneCell']) (by omega) (by simp [maxLen]) (by omega) (by simp) (w1.heap.size + 1) (by simp) ?_
       intro g2 cap2 w2 hown2 hgrow2 hat2 hlt2
       have hg2 : Gr w1 w2 := ((Ch.refl _ _).alloc _).grown hgrow2 (fun k hk => by simp [Value.ownBlock] at hk)
       have hb2 := HB.out.gr hg2
       have d6 := hb2.cell 6
       have d7 := hb2.cell 7
       have k0 := hb2.frozen
       have lg2 := hb2.lt
       simp at d6 d7
       have HG2 := hide hg2
       have HB2 := hide hb2
       have HO2 := hide hown2
       clear hg2 hb2 hown2 hgrow2 hat2)
    | (at_builtin
       refine wpList_append_lies _ rfl (.tmp 38) (.tmp 40) 91 rfl w2.heap.size 3 i0_ _ 1 8 Try.underlying91 hi0 hz0 hz1 hz2 rfl (by omega) (.slice none 0 0) 0 [] rfl (World.ownsRow_nil _ _ _ _) ⟨w2.heap.size, 0, none⟩ 1 1 [.int .i64 0] rfl rfl
         (World.news_of_block (cs := #[.int .i64 0]) (t := 3) (fr := (0, 0)) (Blk.new_ _ _ _ _ (by simp))) (by simp [Value.oneCell']) (by omega) (by simp [maxLen]) (by omega) (by simp) (w2.heap.size + 1) (by simp) ?_
       intro g3 cap3 w3 hown3 hgrow3 hat3 hlt3
       have hg3 : Gr (w2.setCell ⟨g, 6, none⟩ (.slice (some ⟨g2, 0, none⟩) 1 cap2)) w3 := ((Ch.refl _ _).alloc _).grown hgrow3 (fun k hk => by simp [Value.ownBlock] at hk)
       have hb3 := (HB2.out.set_ 6 (.slice (some ⟨g2, 0, none⟩) 1 cap2)).gr hg3
       have p7 := hb3.cell 7
       have m0 := hb3.frozen
       have lg3 := hb3.lt
       simp at p7
       have HG3 := hide hg3
       have HB3 := hide hb3
       clear hg3 hb3 hown3 hgrow3 hat3 hlt3))
  first | go_end0 | refine bodyPost_ret (results_none rfl _ _ _) rfl ?_
  have hne : g2 ≠ g := by have := (own_lt HO2.out).1; omega
  have hc23 : Ch (· = g) w2 w3 := ((Ch.refl (· = g) _).set (p := ⟨g, 6, none⟩) (.inl rfl) _).gr HG3.out
  have hc3 : Ch (· = g) w2 (w3.setCell ⟨g, 7, none⟩ (.slice (some ⟨g3, 0, none⟩) 1 cap3)) := hc23.set (p := ⟨g, 7, none⟩) (.inl rfl) _
  have hblk := HB3.out.set_ 7 (.slice (some ⟨g3, 0, none⟩) 1 cap3)
  refine ⟨rfl, ⟨_, _, _, _, _, _, _, g2, cap2, by simpa using hblk, (hc3.cell (p := ⟨g2, 0, none⟩) hlt2 hne).trans (by simpa using HO2.out.cellAt 0 (by omega)), Nat.lt_of_lt_of_le hlt2 hc3.size, own_cap HO2.out, ?_⟩, ?_⟩
  · have := (own_lt HO2.out).1; have := HG.out.size; omega
  · exact (HG.out.any.gr HG2.out).trans hc3 (fun i hi e => e)

set_option maxHeartbeats 1000000 in
set_option maxRecDepth 100000 in
theorem select_one (xv : Int) (o co p cp b cb i ci x cx : Nat) (w : World) (h : M1 w o co p cp b cb i ci x cx) :
    Calls Try.prog 51 #[M1v o co p cp b cb, .int .u32 xv, .int .i64 1] w (Fresh1 w 0) := by
  have mk : ∀ a : Array Value, ∃ W : World, W = w.alloc (.cells a 72) ∧ Gr w W ∧ Blk W w.heap.size 72 a := fun a => ⟨_, rfl, (Ch.refl _ _).alloc _, Blk.new _ _ _⟩
  go_enter Try.func51, Try.ntmps51
  go_wp2_with fail
  obtain ⟨W, hW, hg, k⟩ := mk _
  rw [← hW]
  clear hW mk
  have H' : Hid (∀ w', Gr W w' → w'.cell? ⟨w.heap.size, 0, none⟩ = some (.int .i64 1) ∧ w'.cell? ⟨w.heap.size, 1, none⟩ = some (.slice (some ⟨o, 0, none⟩) 1 co) ∧ w'.cell? ⟨w.heap.size, 2, none⟩ = some (.slice (some ⟨p, 0, none⟩) 1 cp) ∧
      w'.cell? ⟨w.heap.size, 3, none⟩ = some (.slice (some ⟨b, 0, none⟩) 1 cb) ∧ w'.cell? ⟨w.heap.size, 4, none⟩ = some (.int .i64 0) ∧ w.heap.size < w'.heap.size) :=
    fun w' h1 => ⟨(k.gr h1).cell 0, (k.gr h1).cell 1, (k.gr h1).cell 2, (k.gr h1).cell 3, (k.gr h1).cell 4, (k.gr h1).lt⟩
  have HM := hide h
  have HG := hide hg
  refine (good_one _ _ _ b cb i ci x cx W (h.bk.gr hg)).mono ?_
  rintro e' w1 ⟨rfl, hg1⟩
  have HG1 := hide hg1
  obtain ⟨q0, q1, q2, q3, q4, q5⟩ := H'.out w1 hg1
  clear h hg hg1 k
  go_wp2_with fail
  refine (roots_one _ _ _ b cb i ci x cx w1 (HM.out.bk.gr (HG.out.gr HG1.out))).mono ?_
  rintro e' w2 ⟨gr, cr, rfl, hcr, hnr, hlr, hkr, hg2⟩
  have HG2 : Hid (Gr w w2) := (HG.out.gr HG1.out).gr hg2
  obtain ⟨q0, q1, q2, q3, q4, q5⟩ := H'.out w2 (HG1.out.gr hg2)
  clear hg2
  have hmin : min (max (1 : Int) 0) 8 = 1 := by decide
  have hz2 : gr < (w2.alloc (.cells (chooserCells o co p cp b cb xv) 164)).heap.size := by simp; omega
  go_wp2
  refine wp_loop_rounds 2 ?_
  rw [rounds_succ]
  go_wp2_with fail
  refine (copy_one _ xv o co p cp b cb i ci x cx _ (HM.out.gr (HG2.out.alloc _)) (Blk.new _ _ _)).mono ?_
  rintro e' w3 ⟨rfl, ⟨c0, c1, c2, c3, c4, c5, c7, gi, ci', hb3, hgi, hli, hki, hni⟩, hc3⟩
  have d6 := hb3.cell 6
  have lg3 := hb3.lt
  simp at d6
  have HF : Fresh1 w 0 (.returned (.slice (some ⟨gi, 0, none⟩) 1 ci')) w3 :=
    ⟨gi, ci', rfl, hgi, by have := HG2.out.size; simp at hni; omega, hli, hki, (HG2.out.alloc _).trans hc3 (fun i hi e => by have := HG2.out.size; omega)⟩
  have HF' := hide HF
  clear HF hb3 hc3 hgi hni hcr q0 q1 q2 q3 q4 q5
  go_wp2
  rw [rounds_succ]
  go_wp2
  go_ret
  exact HF'.out

end Go.Proofs.Ythjficahhcjfgaa
