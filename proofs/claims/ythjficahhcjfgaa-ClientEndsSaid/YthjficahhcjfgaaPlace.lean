/-
  place.Acting, place.Primary, place.Pg over the one map.
-/
import Derived.Test.YthjficahhcjfgaaSelect
import Derived.Test.YthjficahhcjfgaaGood
import Derived.Test.YthjficahhcjfgaaName
namespace Go.Proofs.Ythjficahhcjfgaa
open Go.RowKit

set_option maxHeartbeats 1000000 in
set_option maxRecDepth 100000 in
theorem acting_one (o co p cp b cb i ci x cx : Nat) (w : World) (h : M1 w o co p cp b cb i ci x cx) :
    Calls Try.prog 38 #[M1v o co p cp b cb, .agg #[.int .i64 1, .int .i64 0]] w (Fresh1 w 0) := by
  obtain ⟨i0_, hi0, hz0, hz1, hz2⟩ := info_parts info3
  have mk : ∀ a d : Array Value, ∃ W : World, W = (w.alloc (.cells a 72)).alloc (.cells d 42) ∧ Gr w W ∧ W.heap.size = w.heap.size + 2 ∧ Blk W w.heap.size 72 a ∧ Blk W (w.heap.size + 1) 42 d :=
    fun a d => ⟨_, rfl, ((Ch.refl _ _).alloc _).alloc _, by simp, (Blk.new _ _ _).alloc _, Blk.new_ _ _ _ _ (by simp)⟩
  go_enter Try.func38, Try.ntmps38
  go_wp2_with fail
  obtain ⟨W, hW, hg, hz, k0, k1⟩ := mk _ _
  rw [← hW]
  clear hW mk
  refine (pool_one (h.gr hg)).mono ?_
  rintro e' w1 ⟨rfl, hg1⟩
  have mk2 : ∀ a : Array Value, ∃ W2 : World, W2 = w1.alloc (.cells a 95) ∧ Gr w1 W2 ∧ Blk W2 w1.heap.size 95 a := fun a => ⟨_, rfl, (Ch.refl _ _).alloc _, Blk.new _ _ _⟩
  have e0 := (k0.gr hg1).cell 0
  have d0 := (k1.gr hg1).cell 0
  have d1 := (k1.gr hg1).cell 1
  simp at e0 d0 d1
  have lg := (k0.gr hg1).lt
  have lg1 := (k1.gr hg1).lt
  have K0 := hide (k0.gr hg1)
  have K1 := hide (k1.gr hg1)
  have HM := hide h
  have HG1 : Hid (Gr w w1) := hg.gr hg1
  clear h hg hg1 k0 k1 hz
  go_wp2
  obtain ⟨W2, hW2, hgW2, k5⟩ := mk2 _
  rw [← hW2]
  clear hW2 mk2
  have H' : Hid (∀ w', Gr W2 w' → w'.cell? ⟨w.heap.size, 0, none⟩ = some (.int .i64 1) ∧ w'.cell? ⟨w.heap.size, 1, none⟩ = some (.slice (some ⟨o, 0, none⟩) 1 co) ∧ w'.cell? ⟨w.heap.size, 2, none⟩ = some (.slice (some ⟨p, 0, none⟩) 1 cp) ∧
      w'.cell? ⟨w.heap.size, 3, none⟩ = some (.slice (some ⟨b, 0, none⟩) 1 cb) ∧ w'.cell? ⟨w.heap.size, 4, none⟩ = some (.int .i64 0) ∧ w'.cell? ⟨w.heap.size + 1, 0, none⟩ = some (.int .i64 1) ∧ w'.cell? ⟨w.heap.size + 1, 1, none⟩ = some (.int .i64 0) ∧
      w'.cell? ⟨w1.heap.size, 1, none⟩ = some (.int .i64 1)) :=
    fun w' h1 => ⟨(K0.out.gr (hgW2.gr h1)).cell 0, (K0.out.gr (hgW2.gr h1)).cell 1, (K0.out.gr (hgW2.gr h1)).cell 2, (K0.out.gr (hgW2.gr h1)).cell 3, (K0.out.gr (hgW2.gr h1)).cell 4, (K1.out.gr (hgW2.gr h1)).cell 0, (K1.out.gr (hgW2.gr h1)).cell 1, (k5.gr h1).cell 1⟩
  obtain ⟨q0, q1, q2, q3, q4, q5, q6, q7⟩ := H'.out W2 (Ch.refl _ _)
  have hg0 : Hid (Gr W2 W2.drew) := (Ch.refl _ _).drew
  have HG := hide (HG1.out.gr hgW2)
  clear hgW2 k5 e0 d0 d1
  go_region_held3 (fun w' => w'.cell? ⟨w.heap.size, 0, none⟩ = some (.int .i64 1) ∧ w'.cell? ⟨w.heap.size, 1, none⟩ = some (.slice (some ⟨o, 0, none⟩) 1 co) ∧ w'.cell? ⟨w.heap.size, 2, none⟩ = some (.slice (some ⟨p, 0, none⟩) 1 cp) ∧
      w'.cell? ⟨w.heap.size, 3, none⟩ = some (.slice (some ⟨b, 0, none⟩) 1 cb) ∧ w'.cell? ⟨w.heap.size, 4, none⟩ = some (.int .i64 0) ∧ w'.cell? ⟨w.heap.size + 1, 0, none⟩ = some (.int .i64 1) ∧ w'.cell? ⟨w.heap.size + 1, 1, none⟩ = some (.int .i64 0) ∧
      w'.cell? ⟨w1.heap.size, 1, none⟩ = some (.int .i64 1))
    (first | go_keep | exact H'.out _ hg5.out | exact H'.out _ hg4.out | exact H'.out _ hg3.out)
    (first
      | (go_at_call 49; refine (new_any _).mono ?_; rintro e' w3 ⟨rfl, hw3⟩; have hg3 : Hid (Gr W2 w3) := hw3 ▸ hg0.out.alloc _; clear hw3)
      | (go_at_call 52; refine (hash2_any _ _ _ _).mono ?_; rintro e' w4 ⟨⟨hv, rfl⟩, hgr⟩; have hg4 : Hid (Gr W2 w4) := hg3.out.gr hgr; clear hgr)
      | (go_at_call 51; go_must (refine (select_one _ o co p cp b cb i ci x cx _ (HM.out.gr (HG.out.gr hg4.out))).mono ?_; rintro e' w5 ⟨gi, ci', rfl, hgi, hni, hli, hki, hgr⟩; have hg5 : Hid (Gr W2 w5) := hg4.out.gr hgr; clear hgr)))
  obtain ⟨q0, q1, q2, q3, q4, q5, q6, q7⟩ := H'.out w5 hg5.out
  have HG5 : Hid (Gr w w5) := HG.out.gr hg5.out
  go_wp2
  refine wp_loop_rounds 2 ?_
  rw [rounds_succ]
  go_wp2_with fail
  refine (able_one (HM.out.gr HG5.out)).mono ?_
  rintro e' w6 ⟨rfl, hg6⟩
  have HG6 : Hid (Gr w w6) := HG5.out.gr hg6
  have hz6 : w.heap.size ≤ w6.heap.size := HG6.out.size
  clear hg6 hgi hni hli hki q0 q1 q2 q3 q4 q5 q6 q7
  go_wp2_with (first
    | (at_builtin
       refine wpList_append_lies _ rfl (.tmp 52) (.tmp 54) 91 rfl w.heap.size 3 i0_ _ 1 8 Try.underlying91 hi0 hz0 hz1 hz2 rfl (by omega) (.slice none 0 0) 0 [] rfl (World.ownsRow_nil _ _ _ _) ⟨w6.heap.size, 0, none⟩ 1 1 [.int .i64 0] rfl rfl
         (World.news_of_block (cs := #[.int .i64 0]) (t := 3) (fr := (0, 0)) (Blk.new_ _ _ _ _ (by simp))) (by simp [Value.oneCell']) (by omega) (by simp [maxLen]) (by omega) (by simp; omega) (w6.heap.size + 1) (by simp) ?_
       intro g7 cap7 w7 hown7 hgrow7 hat7 hlt7))
  have HF : Fresh1 w 0 (.returned (.slice (some ⟨g7, 0, none⟩) 1 cap7)) w7 :=
    ⟨g7, cap7, rfl, by simpa using hown7.cellAt 0 (by omega), (own_lt hown7).1, hlt7, own_cap hown7, (HG6.out.alloc _).grown hgrow7 (fun k hk => by simp [Value.ownBlock] at hk)⟩
  have HF' := hide HF
  clear HF hown7 hgrow7 hat7 hlt7
  rw [rounds_succ]
  go_wp2
  go_ret
  exact HF'.out

set_option maxHeartbeats 1000000 in
set_option maxRecDepth 100000 in
theorem primary_one (o co p cp b cb i ci x cx : Nat) (w : World) (h : M1 w o co p cp b cb i ci x cx) :
    Calls Try.prog 27 #[M1v o co p cp b cb, .agg #[.int .i64 1, .int .i64 0]] w fun e w' => e = .returned (.tuple #[.int .i64 0, .bool true]) ∧ Gr w w' := by
  go_enter Try.func27, Try.ntmps27
  go_wp2_with fail
  refine (acting_one o co p cp b cb i ci x cx _ (h.gr (((Ch.refl _ _).alloc _).alloc _))).mono ?_
  rintro e' w1 ⟨gi, ci', rfl, hgi, hni, hli, hki, hg⟩
  have HG : Hid (Gr w w1) := (((Ch.refl _ _).alloc _).alloc _).gr hg
  clear hg hni
  go_wp2
  go_ret2
  exact ⟨rfl, HG.out⟩

theorem good_yes (s : ByteArray) (w : World) (hs : s.size ≤ 140737488351232) (hb : goodB s = true) :
    Calls Try.prog 21 #[.string s] w fun e w' => e = .returned (.bool true) ∧ w = w' :=
  (good_any s w hs).mono fun _ _ ⟨he, hw⟩ => ⟨by rw [he, hb], hw⟩

set_option maxHeartbeats 1000000 in
set_option maxRecDepth 100000 in
theorem pg_one (s : ByteArray) (o co p cp b cb i ci x cx : Nat) (w : World) (h : M1 w o co p cp b cb i ci x cx) (hs : s.size ≤ 140737488351232) (hb : Hid (goodB s = true)) :
    Calls Try.prog 37 #[M1v o co p cp b cb, .int .i64 1, .string s] w fun e w' => e = .returned (.tuple #[.agg #[.int .i64 1, .int .i64 0], .int .i64 0]) ∧ Gr w w' := by
  have mk : ∀ a d : Array Value, ∃ W : World, W = (w.alloc (.cells a 72)).alloc (.cells d 42) ∧ Gr w W ∧ W.heap.size = w.heap.size + 2 ∧ Blk W (w.heap.size + 1) 42 d :=
    fun a d => ⟨_, rfl, ((Ch.refl _ _).alloc _).alloc _, by simp, Blk.new_ _ _ _ _ (by simp)⟩
  go_enter Try.func37, Try.ntmps37
  go_wp2_with fail
  obtain ⟨W, hW, hg, hz, k1⟩ := mk _ _
  rw [← hW]
  clear hW mk
  refine (pool_one (h.gr hg)).mono ?_
  rintro e' w1 ⟨rfl, hg1⟩
  have mk2 : ∀ a : Array Value, ∃ W2 : World, W2 = w1.alloc (.cells a 95) ∧ Gr w1 W2 ∧ Blk W2 w1.heap.size 95 a := fun a => ⟨_, rfl, (Ch.refl _ _).alloc _, Blk.new _ _ _⟩
  have K1 := hide (k1.gr hg1)
  have hne : w1.heap.size ≠ w.heap.size + 1 := by have := (k1.gr hg1).lt; omega
  have hne' : w.heap.size + 1 ≠ w1.heap.size := hne.symm
  have HG1 : Hid (Gr w w1) := hg.gr hg1
  clear h hg hg1 k1 hz
  go_wp2_with (go_at_call 21; refine (good_yes s _ hs hb.out).mono ?_; rintro e' w' ⟨rfl, rfl⟩)
  obtain ⟨W2, hW2, hgW2, k5⟩ := mk2 _
  rw [← hW2]
  clear hW2 mk2
  have H' : Hid (∀ w', Gr W2 w' → w'.cell? ⟨w1.heap.size, 0, none⟩ = some (.int .i64 1) ∧ w'.cell? ⟨w1.heap.size, 3, none⟩ = some (.int .i64 1) ∧ w'.cell? ⟨w.heap.size + 1, 0, none⟩ = some (.int .i64 0) ∧ w'.cell? ⟨w.heap.size + 1, 1, none⟩ = some (.int .i64 0) ∧ w'.frozen? ⟨w.heap.size + 1, 0, none⟩ = false ∧ w'.frozen? ⟨w.heap.size + 1, 1, none⟩ = false) :=
    fun w' h1 => ⟨(k5.gr h1).cell 0, (k5.gr h1).cell 3, (K1.out.gr (hgW2.gr h1)).cell 0, (K1.out.gr (hgW2.gr h1)).cell 1, (K1.out.gr (hgW2.gr h1)).frozen 0, (K1.out.gr (hgW2.gr h1)).frozen 1⟩
  obtain ⟨q0, q1, q2, q3, q4, q5⟩ := H'.out W2 (Ch.refl _ _)
  have hg0 : Hid (Gr W2 W2.drew) := (Ch.refl _ _).drew
  have HG := hide (HG1.out.gr hgW2)
  clear hgW2 k5
  go_region_held3 (fun w' => w'.cell? ⟨w1.heap.size, 0, none⟩ = some (.int .i64 1) ∧ w'.cell? ⟨w1.heap.size, 3, none⟩ = some (.int .i64 1))
    (first | go_keep | exact ⟨(H'.out _ hg4.out).1, (H'.out _ hg4.out).2.1⟩ | exact ⟨(H'.out _ hg3.out).1, (H'.out _ hg3.out).2.1⟩)
    (first
      | (go_at_call 49; refine (new_any _).mono ?_; rintro e' w3 ⟨rfl, hw3⟩; have hg3 : Hid (Gr W2 w3) := hw3 ▸ hg0.out.alloc _; clear hw3)
      | (go_at_call 50; refine (name_any _ _ _ hs).mono ?_; rintro e' w4 ⟨⟨hv, rfl⟩, hgr⟩; have hg4 : Hid (Gr W2 w4) := hg3.out.gr hgr; clear hgr; obtain ⟨_, _, t2, t3, t4, t5⟩ := H'.out w4 hg4.out)
      | (go_at_call 48; refine (stableMod_one _ _).mono ?_; rintro e' w' ⟨rfl, rfl⟩))
  go_wp2
  exact bodyPost_ret (v := .tuple #[.agg #[.int .i64 1, .int .i64 0], .int .i64 0]) (by simp [results, Try.results37, go_sem, t2, t3]) rfl
    ⟨rfl, ((HG.out.gr hg4.out).set (p := ⟨w.heap.size + 1, 0, none⟩) (.inr (by simp)) _).set (p := ⟨w.heap.size + 1, 1, none⟩) (.inr (by simp)) _⟩

end Go.Proofs.Ythjficahhcjfgaa
