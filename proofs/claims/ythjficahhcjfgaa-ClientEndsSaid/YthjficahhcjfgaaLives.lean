/-
  The law's 'lives': an op is asked, and answered.
-/
import Derived.Test.YthjficahhcjfgaaStep2
namespace Go.Proofs.Ythjficahhcjfgaa
open Go.RowKit

theorem good_a : goodB ⟨#[97]⟩ = true := by
  refine goodB_true ⟨?_, by decide, by decide⟩
  intro j hj
  have h1 : (⟨#[97]⟩ : ByteArray).size = 1 := rfl
  have : j = 0 := by omega
  subst this
  decide +revert

set_option maxHeartbeats 4000000 in
set_option maxRecDepth 100000 in
theorem lives_any (w : World) : Calls Try.prog 5 #[] w fun e w' => e = .returned (.bool true) ∧ Gr w w' := by
  go_enter Try.func5, Try.ntmps5
  go_wp2_with fail
  obtain ⟨W, hW, hg, kS⟩ := mk1 w 23 _
  rw [← hW]
  clear hW
  refine (cnew_ok 3 2 7 3 5 W (by omega) (by omega) (by omega) (by omega)).mono ?_
  rintro e' w1 ⟨c, rfl, hcl, hcn, hg1⟩
  have HG1 := hide (hg.gr hg1)
  have HS1 := hide (kS.gr hg1)
  have HC1 := hide hcl
  have hszW := hg.size
  have hlS := kS.lt
  have hs1 := hg1.size
  clear hg hg1 kS hcl
  go_wp2_with fail
  refine (Begin_none 3 2 7 3 5 0 ⟨#[97]⟩ c w1 (by omega) good_a (by decide) HC1.out).mono ?_
  rintro e' w2 ⟨rfl, hg2⟩
  have HG2 := hide (HG1.out.gr hg2)
  have HS2 := hide (HS1.out.gr hg2)
  have HC2 := hide (HC1.out.gr hg2)
  have hs2 := hg2.size
  clear hg2
  go_wp2_with fail
  have nS : ¬ (w.heap.size = c) := by omega
  have S' : Hid (∀ w', Ch (· = c) w2 w' → w'.cell? ⟨w.heap.size, 0, none⟩ = some (.int .i64 3) ∧ w'.cell? ⟨w.heap.size, 1, none⟩ = some (.int .i64 2)) := fun w' h1 => ⟨(HS2.out.ch h1 nS).cell 0, (HS2.out.ch h1 nS).cell 1⟩
  obtain ⟨s0, s1⟩ := S'.out w2 (Ch.refl _ _)
  go_region_held3 (fun w' => w'.cell? ⟨w.heap.size, 0, none⟩ = some (.int .i64 3) ∧ w'.cell? ⟨w.heap.size, 1, none⟩ = some (.int .i64 2)) (first | go_keep | exact S'.out _ hg4.out | exact S'.out _ (Gr.any hg3.out))
    (first
      | (go_at_call 7
         refine (up_any _).mono ?_
         rintro e' w3 ⟨q, h, hc, i, ci, x, cx, rfl, hq, hinc, hgr⟩
         have hg3 : Hid (Gr w2 w3) := ((Ch.refl (fun _ => False) w2).drew).gr hgr
         have HQ := hide hq
         have HINC := hide hinc
         clear hq hinc hgr)
      | (go_at_call 6
         refine (step_maps 3 2 7 3 5 0 (.pointer none) c q h hc i ci x cx _ (by omega) (HC2.out.gr hg3.out) HQ.out HINC.out).mono ?_
         rintro e' w4 ⟨o, co, p, cp, b, cb, i4, ci4, x4, cx4, rfl, hcl4, hM4, no, np, nb, ni, nx, hch⟩
         have hg4 : Hid (Ch (· = c) w2 w4) := (Gr.any hg3.out : Ch (· = c) w2 w3).trans hch (fun i _ h => h)
         have HC4 := hide hcl4
         have HM4 := hide hM4
         clear hcl4 hM4 hch))
  have hs4 := hg4.out.size
  clear s0 s1
  go_wp2_with fail
  refine (Begin_one 3 2 7 3 5 1 0 0 ⟨#[97]⟩ none 0 0 [] c o co p cp b cb i4 ci4 x4 cx4 w4 (by omega) HM4.out HC4.out (by decide) rfl (by omega) (fun h => absurd h (by simp)) (fun u hu => by cases hu) no np nb ni nx).mono ?_
  rintro e' w5 (⟨er, _, _, _, hno⟩ | ⟨g, A, k5, m5, n, A', k', rfl, _, _, hreq, hgn, hcl5, hop5, _, _, hnn, hch5⟩)
  · exact absurd ⟨by decide, by decide, good_a, by decide⟩ hno
  have HC5 := hide hcl5
  have HRQ := hide hreq
  have HOP := hide hop5
  have HCH5 := hide hch5
  have hs5 := hch5.size
  clear hreq hcl5 hop5 hch5
  go_wp2_with fail
  have b0 := HC5.out.cell 0
  have b1 := HC5.out.cell 1
  have b2 := HC5.out.cell 2
  have b3 := HC5.out.cell 3
  have b5 := HC5.out.cell 5
  simp at b0 b1 b2 b3 b5
  refine (boot_any 3 2 7 1 3 c w5 (by omega) (by omega) (by omega) HC5.out.lt b0 b1 b2 b3 b5).mono ?_
  rintro e' w6 ⟨g6, cap6, ys, rfl, _, _, hg6⟩
  clear b0 b1 b2 b3 b5
  have HC6 := hide (HC5.out.gr hg6)
  have HRQ6 := hide (HRQ.out.gr hg6)
  have HOP6 := hide (HOP.out.gr hg6)
  have HS6 := hide ((HS2.out.ch (hg4.out.trans HCH5.out (fun i _ h => h)) nS).gr hg6)
  have HW6 : Hid (Ch (· = c) w w6) := (((Gr.any HG2.out : Ch (· = c) w w2).trans hg4.out (fun i _ h => h)).trans HCH5.out (fun i _ h => h)).gr hg6
  have hs6 := hg6.size
  have r0 := HRQ6.out.cell 0
  have r3 := HRQ6.out.cell 3
  have r4 := HRQ6.out.cell 4
  have r9 := HRQ6.out.cell 9
  have r10 := HRQ6.out.cell 10
  have rl := HRQ6.out.lt
  have s0 := HS6.out.cell 0
  have s1 := HS6.out.cell 1
  have sl := HS6.out.lt
  simp at r0 r3 r4 r9 r10 s0 s1
  clear hg6
  go_wp2_with fail
  have lc1 := HC1.out.lt
  have nG : ¬ (g = c) := by omega
  have S6 : Hid (∀ w', Ch (· = c) w6 w' → w'.cell? ⟨w.heap.size, 0, none⟩ = some (.int .i64 3) ∧ w'.cell? ⟨w.heap.size, 1, none⟩ = some (.int .i64 2) ∧ w'.cell? ⟨g, 3, none⟩ = some (.int .i64 2) ∧ w'.cell? ⟨g, 4, none⟩ = some (.int .i64 0)) := fun w' h1 =>
    ⟨(HS6.out.ch h1 nS).cell 0, (HS6.out.ch h1 nS).cell 1, (HRQ6.out.ch h1 nG).cell 3, (HRQ6.out.ch h1 nG).cell 4⟩
  clear r0 r9 r10
  go_region_held3 (fun w' => w'.cell? ⟨w.heap.size, 0, none⟩ = some (.int .i64 3) ∧ w'.cell? ⟨w.heap.size, 1, none⟩ = some (.int .i64 2) ∧ w'.cell? ⟨g, 3, none⟩ = some (.int .i64 2) ∧ w'.cell? ⟨g, 4, none⟩ = some (.int .i64 0)) (first | go_keep | exact S6.out _ hg7.out)
    (first
      | (go_at_call 6
         refine (step_reply 3 2 7 3 5 1 2 0 0 0 1 0 0 0 ⟨#[97]⟩ _ _ _ _ _ _ _ c n _ (by omega) (by decide) (HC6.out.drew) (HOP6.out.drew)).mono ?_
         rintro e' w7 ⟨a, rfl, hcl7, han, hal, hch⟩
         have hg7 : Hid (Ch (· = c) w6 w7) := ((Ch.refl (· = c) w6).drew).trans hch (fun i _ h => h)
         have HC7 := hide hcl7
         have HA7 := hide han
         clear hcl7 han hal hch))
  have hs7 := hg7.out.size
  clear s0 s1 r3 r4
  go_wp2_with fail
  refine (answer_some 3 2 7 3 5 1 _ _ _ _ _ _ 2 ⟨#[]⟩ 0 0 none 0 0 none 0 0 c a w7 (by omega) HC7.out HA7.out).mono ?_
  rintro e' w8 ⟨rfl, hcl8, hch8⟩
  have HC8 := hide hcl8
  have HW8 : Hid (Ch (· = c) w w8) := ((HW6.out.trans hg7.out (fun i _ h => h))).trans hch8 (fun i _ h => h)
  have mk8 : ∀ x : Array Value, ∃ V, V = w8.alloc (.cells x 63) ∧ Gr w8 V := fun x => ⟨_, rfl, (Ch.refl _ _).alloc _⟩
  clear hcl8 hch8
  go_wp2_with fail
  obtain ⟨V, hV, hgV⟩ := mk8 _
  rw [← hV]
  have v0 : V.cell? ⟨w8.heap.size, 0, none⟩ = some (.int .i64 2) := by rw [hV]; simp
  have vl : w8.heap.size < V.heap.size := by rw [hV]; simp
  have d2 := (HC8.out.gr hgV).cell 2
  have d5 := (HC8.out.gr hgV).cell 5
  have d11 := (HC8.out.gr hgV).cell 11
  simp at d2 d5 d11
  have HF : Hid (Gr w V) := (HW8.out.gr hgV).mono (fun i hi h => by have h' : i = c := h; omega)
  clear hV mk8 hgV
  go_wp2_with (first
    | (go_at_call 9; refine (busy_no 7 (by omega) d2 d11).mono ?_; rintro e' w9 ⟨rfl, rfl⟩)
    | (go_at_call 14; refine (epoch_any 7 1 (by omega) d2 d5).mono ?_; rintro e' w9 ⟨rfl, rfl⟩))
  go_ret
  exact ⟨rfl, HF.out⟩

end Go.Proofs.Ythjficahhcjfgaa
