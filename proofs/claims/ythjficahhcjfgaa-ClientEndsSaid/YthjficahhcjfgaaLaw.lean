/-
  The law: whatever its arguments read, true.
-/
import Derived.Test.YthjficahhcjfgaaLaw0
import Derived.BigQuiet
import Derived.Deep.Cut
namespace Go.Proofs.Ythjficahhcjfgaa
open Go.RowKit

theorem tick_grow {sk si boot : Int} {N T : Nat} {kind x1 x2 : Int} {s : ByteArray} {o co p cp b cb i ci x cx c n g : Nat} {A' : Option Addr} {len k' : Nat} {xs : List Value} {A : Option Addr} {kk m : Nat} {R : Option Addr} {us : List Value} {w wr w' : World} {k : Nat} {me mo mp mb ml : Value} {num : Int}
    (h : (k ≤ T ∧ LRun sk si boot N T kind x1 x2 s o co p cp b cb i ci x cx c n g A' len k' xs A kk m R us w k wr) ∨ (k = T + 1 ∧ ∃ a, LEnd sk si boot N T me mo mp mb ml num c a w wr)) (hg : Gr wr w') :
    (k ≤ T ∧ LRun sk si boot N T kind x1 x2 s o co p cp b cb i ci x cx c n g A' len k' xs A kk m R us w k w') ∨ (k = T + 1 ∧ ∃ a, LEnd sk si boot N T me mo mp mb ml num c a w w') := by
  rcases h with ⟨h1, hL⟩ | ⟨h1, a, hL⟩
  · exact .inl ⟨h1, hL.grow hg⟩
  · exact .inr ⟨h1, a, hL.grow hg⟩

set_option maxHeartbeats 16000000 in
set_option maxRecDepth 100000 in
theorem law_any (sk si boot mons tries kind x1 x2 : Int) (s : ByteArray) (A : Option Addr) (len cap : Nat) (xs : List Value) (R : Option Addr) (rn rc : Nat) (us : List Value) (w : World)
    (hs : s.size ≤ 140737488351232) (hx : xs.length = len) (hl : len ≤ 140737488351232) (hr : Rd w A xs) (h1 : ∀ u ∈ xs, u.oneCell' = true)
    (hu : us.length = rn) (hul : rn ≤ 140737488351232) (hru : Rd w R us) (hu1 : ∀ u ∈ us, ∃ z : Int, u = .int .u64 z ∧ 0 ≤ z) :
    Calls Try.prog 3 #[.agg #[.int .i64 sk, .int .i64 si, .int .i64 boot, .int .i64 mons, .int .i64 tries], .agg #[.int .i64 kind, .string s, .slice A len cap, .int .i64 x1, .int .i64 x2], .slice R rn rc] w fun e w' => e = .returned (.bool true) ∧ Gr w w' := by
  have HR := hide hr
  have HX := hide hx
  have H1 := hide h1
  have HU := hide hu
  have HRU := hide hru
  have HU1 := hide hu1
  clear hr hx h1 hu hru hu1
  go_enter Try.func3, Try.ntmps3
  go_wp2_with fail
  obtain ⟨W, hW, hg, kS, kO⟩ := mk2 w _ _ _ _
  rw [← hW]
  clear hW
  have HS := hide kS
  have HO := hide kO
  have HG := hide hg
  have hsW := hg.size
  have hlO := kO.lt
  clear hg kS kO
  by_cases hbad : boot < 1 ∨ tries < 1 ∨ mons < 1 ∨ 5 < mons
  · refine (cnew_bad sk si boot mons tries W hbad).mono ?_
    rintro e' w1 ⟨rfl, hg1⟩
    have HG1 := hide (HG.out.gr hg1)
    clear hg1
    go_wp2_with (first
      | (go_at_call 5; refine (lives_any _).mono ?_; rintro e' w2 ⟨rfl, hg2⟩; have HF := hide (HG1.out.gr hg2); clear hg2)
      | fail)
    go_ret
    exact ⟨rfl, HF.out⟩
  have hb1 : 1 ≤ boot := by omega
  have ht1 : 1 ≤ tries := by omega
  have hm1 : 1 ≤ mons := by omega
  have hm5 : mons ≤ 5 := by omega
  obtain ⟨N, rfl⟩ : ∃ N : Nat, mons = N := ⟨mons.toNat, by omega⟩
  obtain ⟨T, rfl⟩ : ∃ T : Nat, tries = T := ⟨tries.toNat, by omega⟩
  refine (cnew_ok sk si boot N T W hb1 ht1 hm1 hm5).mono ?_
  rintro e' w1 ⟨c, rfl, hcl, hcn, hg1⟩
  have HG1 := hide (HG.out.gr hg1)
  have HS1 := hide (HS.out.gr hg1)
  have HO1 := hide (HO.out.gr hg1)
  have HC1 := hide hcl
  have hs1 := hg1.size
  have s0 := HS1.out.cell 0
  have s1 := HS1.out.cell 1
  have s2 := HS1.out.cell 2
  have s4 := HS1.out.cell 4
  have sl := HS1.out.lt
  simp at s0 s1 s2 s4
  clear hg1 hcl
  by_cases hskip : 200 < (T : Int) ∨ sk = 1 ∨ sk = 2
  · by_cases h200 : 200 < (T : Int)
    · have hd : decide (200 < (T : Int)) = true := by simp [h200]
      go_wp2_with (first
        | (go_at_call 5; refine (lives_any _).mono ?_; rintro e' w2 ⟨rfl, hg2⟩; have HF := hide (HG1.out.gr hg2); clear hg2)
        | fail)
      go_ret
      exact ⟨rfl, HF.out⟩
    · have hd : decide (200 < (T : Int)) = false := by simp; omega
      by_cases hk1 : sk = 1
      · have he : (sk == 1) = true := by simp [hk1]
        go_wp2_with (first
          | (go_at_call 5; refine (lives_any _).mono ?_; rintro e' w2 ⟨rfl, hg2⟩; have HF := hide (HG1.out.gr hg2); clear hg2)
          | fail)
        go_ret
        exact ⟨rfl, HF.out⟩
      · have he : (sk == 1) = false := by simp [hk1]
        have he2 : (sk == 2) = true := by simp; omega
        go_wp2_with (first
          | (go_at_call 5; refine (lives_any _).mono ?_; rintro e' w2 ⟨rfl, hg2⟩; have HF := hide (HG1.out.gr hg2); clear hg2)
          | fail)
        go_ret
        exact ⟨rfl, HF.out⟩
  have hd : decide (200 < (T : Int)) = false := by simp; omega
  have he : (sk == 1) = false := by simp; omega
  have he2 : (sk == 2) = false := by simp; omega
  go_wp2_with fail
  have hT : T ≤ 200 := by omega
  clear hd he he2 hbad hskip
  have lcw := HC1.out.lt
  have nS : ¬ (w.heap.size = c) := by omega
  have S' : Hid (∀ w', Ch (· = c) w1 w' → w'.cell? ⟨w.heap.size, 0, none⟩ = some (.int .i64 sk) ∧ w'.cell? ⟨w.heap.size, 1, none⟩ = some (.int .i64 si)) := fun w' h1 => ⟨(HS1.out.ch h1 nS).cell 0, (HS1.out.ch h1 nS).cell 1⟩
  clear s2 s4
  go_region_held3 (fun w' => w'.cell? ⟨w.heap.size, 0, none⟩ = some (.int .i64 sk) ∧ w'.cell? ⟨w.heap.size, 1, none⟩ = some (.int .i64 si)) (first | go_keep | exact S'.out _ hg4.out | exact S'.out _ (Gr.any hg3.out))
    (first
      | (go_at_call 7
         refine (up_any _).mono ?_
         rintro e' w3 ⟨q, h, hc, i, ci, x, cx, rfl, hq, hinc, hgr⟩
         have hg3 : Hid (Gr w1 w3) := ((Ch.refl (fun _ => False) w1).drew).gr hgr
         have HQ := hide hq
         have HINC := hide hinc
         clear hq hinc hgr)
      | (go_at_call 6
         refine (step_maps sk si boot N T 0 (.pointer none) c q h hc i ci x cx _ (by omega) (HC1.out.gr hg3.out) HQ.out HINC.out).mono ?_
         rintro e' w4 ⟨o, co, p, cp, b, cb, i4, ci4, x4, cx4, rfl, hcl4, hM4, no, np, nb, ni, nx, hch⟩
         have hg4 : Hid (Ch (· = c) w1 w4) := (Gr.any hg3.out : Ch (· = c) w1 w3).trans hch (fun i _ h => h)
         have HC4 := hide hcl4
         have HM4 := hide hM4
         clear hcl4 hM4 hch))
  have hs4 := hg4.out.size
  have nO : ¬ (w.heap.size + 1 = c) := by omega
  have HO4 := hide (HO1.out.ch hg4.out nO)
  have HS4 := hide (HS1.out.ch hg4.out nS)
  have HW4 : Hid (Gr w w4) := (Gr.any HG1.out : Ch (fun i => w.heap.size ≤ i) w w1).trans (hg4.out.mono (fun i _ h => by have h' : i = c := h; show w.heap.size ≤ i; omega)) (fun i _ h => h) |>.mono (fun i hi h => by have h' : w.heap.size ≤ i := h; omega)
  have o0 := HO4.out.cell 0
  have o1 := HO4.out.cell 1
  have o2 := HO4.out.cell 2
  have o3 := HO4.out.cell 3
  have o4 := HO4.out.cell 4
  have ol := HO4.out.lt
  simp at o0 o1 o2 o3 o4
  clear s0 s1 sl
  go_wp2_with fail
  refine (Begin_one sk si boot N T kind x1 x2 s A len cap xs c o co p cp b cb i4 ci4 x4 cx4 w4 (by omega) HM4.out HC4.out hs HX.out hl (HR.out.gr HW4.out) H1.out no np nb ni nx).mono ?_
  rintro e' w5 (⟨er, her, rfl, hg5, _⟩ | ⟨g, A5, k5, m5, n, A', k', rfl, hgb, hle, hreq, hgn, hcl5, hop5, hrd5, hrf5, hnn, hch5⟩)
  · have hC5 := HC4.out.gr hg5
    have d2 := hC5.cell 2
    have d11 := hC5.cell 11
    simp at d2 d11
    have HW5 := hide (HW4.out.gr hg5)
    have he : (er == 0) = false := by simp [her]
    have he' : decide (er = 0) = false := by simp [her]
    clear hC5 hg5 o0 o1 o2 o3 o4 ol
    go_wp2_with (first
      | (go_at_call 9; refine (busy_no boot (by omega) d2 d11).mono ?_; rintro e' w9 ⟨rfl, rfl⟩)
      | (go_at_call 5; refine (lives_any _).mono ?_; rintro e' w9 ⟨rfl, hg9⟩; have HF := hide (HW5.out.gr hg9); clear hg9)
      | fail)
    go_ret
    exact ⟨rfl, HF.out⟩
  have lcw5 := hch5.size
  have HW5 : Hid (Gr w w5) := ((Gr.any HW4.out : Ch (fun i => w.heap.size ≤ i) w w4).trans (hch5.mono (fun i _ h => by have h' : i = c := h; show w.heap.size ≤ i; omega)) (fun i _ h => h) |>.mono (fun i hi h => by have h' : w.heap.size ≤ i := h; omega))
  have hM4 := HM4.out
  have lo4 := hM4.lo
  have lp4 := hM4.lp
  have lb4 := hM4.lb
  have li4 := hM4.li
  have lx4 := hM4.lx
  have HL0 : Hid (LRun sk si boot N T kind x1 x2 s o co p cp b cb i4 ci4 x4 cx4 c n g A' len k' xs A5 k5 m5 R us w 0 w5) :=
    ⟨hcl5, hop5, hM4.ch hch5 no np nb ni nx, hrd5, hreq, HS4.out.ch hch5 nS, HRU.out.gr HW5.out, HW5.out⟩
  have hrdb := hide hrf5
  have r9 := hreq.cell 9
  have r10 := hreq.cell 10
  have rl := hreq.lt
  have s2 := HL0.out.st.cell 2
  have sl := HL0.out.st.lt
  simp at r9 r10 s2
  clear hreq hcl5 hop5 hch5 hM4 o0 o1 o2 o3 o4 ol
  go_wp2_with fail
  go_quiet (fail)
  have HGn : Hid (Gr w5 (w5.drewN nq)) := (Ch.refl _ _).drewN _
  have hsn : w5.heap.size ≤ (w5.drewN nq).heap.size := HGn.out.size
  have HL1 : Hid (LRun sk si boot N T kind x1 x2 s o co p cp b cb i4 ci4 x4 cx4 c n g A' len k' xs A5 k5 m5 R us w 0 (w5.drewN nq)) := ⟨HL0.out.cl.gr HGn.out, HL0.out.op.gr HGn.out, HL0.out.m1.gr HGn.out, HL0.out.rd.gr HGn.out, HL0.out.rq.gr HGn.out, HL0.out.st.gr HGn.out, HL0.out.rp.gr HGn.out, HL0.out.gr.gr HGn.out⟩
  generalize w5.drewN nq = w6 at *
  clear r9 r10 rl s2 sl
  have hgw : w4.heap.size ≤ g := hgn
  have hnw : w4.heap.size ≤ n := hnn
  go_wp2_with fail
  go_loopw [10] (fun v wr => ∃ k : Nat, v = .int .i64 k ∧ Hid ((k ≤ T ∧ LRun sk si boot N T kind x1 x2 s o co p cp b cb i4 ci4 x4 cx4 c n g A' len k' xs A5 k5 m5 R us w k wr) ∨ (k = T + 1 ∧ ∃ a, LEnd sk si boot N T (.int .i64 1) (.slice (some ⟨o, 0, none⟩) 1 co) (.slice (some ⟨p, 0, none⟩) 1 cp) (.slice (some ⟨b, 0, none⟩) 1 cb) (.int .i64 0) 1 c a w wr))) (fun v _ => T + 1 - (intOf v).toNat)
  case atStart => exact ⟨0, rfl, .inl ⟨Nat.zero_le _, HL1.out⟩⟩
  case round =>
    obtain ⟨k, rfl, HL⟩ := hrel
    rcases HL.out with ⟨hk, hrun⟩ | ⟨rfl, a, hend⟩
    rotate_left
    · have HE := hide hend
      have e4 := hend.st.cell 4
      have el := hend.st.lt
      simp at e4
      have hdE : decide ((T : Int) + 1 ≤ (T : Int)) = false := by simp; omega
      clear hend
      go_wp2_with fail
      refine (answer_some sk si boot N T 1 _ _ _ _ _ _ 110 ⟨#[]⟩ 0 0 none 0 0 none 0 0 c a wr (by omega) HE.out.cl HE.out.an).mono ?_
      rintro e' w8 ⟨rfl, hcl8, hch8⟩
      have HC8 := hide hcl8
      have HW8 : Hid (Ch (fun i => w.heap.size ≤ i) w w8) := (Gr.any HE.out.gr : Ch (fun i => w.heap.size ≤ i) w wr).trans (hch8.mono (fun i _ h => by have h' : i = c := h; show w.heap.size ≤ i; omega)) (fun i _ h => h)
      have mk8 : ∀ x : Array Value, ∃ V, V = w8.alloc (.cells x 63) ∧ Gr w8 V := fun x => ⟨_, rfl, (Ch.refl _ _).alloc _⟩
      clear hcl8 hch8
      go_wp2_with fail
      obtain ⟨V, hV, hgV⟩ := mk8 _
      rw [← hV]
      have v0 : V.cell? ⟨w8.heap.size, 0, none⟩ = some (.int .i64 110) := by rw [hV]; simp
      have vl : w8.heap.size < V.heap.size := by rw [hV]; simp
      have d2 := (HC8.out.gr hgV).cell 2
      have d11 := (HC8.out.gr hgV).cell 11
      simp at d2 d11
      have HV : Hid (Gr w V) := (HW8.out.gr hgV).mono (fun i hi h => by have h' : w.heap.size ≤ i := h; omega)
      clear hV mk8 hgV
      go_wp2_with (first
        | (go_at_call 9; refine (busy_no boot (by omega) d2 d11).mono ?_; rintro e' w9 ⟨rfl, rfl⟩)
        | (go_at_call 5; refine (lives_any _).mono ?_; rintro e' w9 ⟨rfl, hg9⟩; have HF := hide (HV.out.gr hg9); clear hg9)
        | fail)
      go_ret
      exact ⟨rfl, HF.out⟩
    have HU' := hide hrun
    have e2 := hrun.st.cell 2
    have e4 := hrun.st.cell 4
    have el := hrun.st.lt
    have d2 := hrun.cl.cell 2
    have d11 := hrun.cl.cell 11
    simp at e2 e4 d2 d11
    clear hrun
    have hdR : decide ((k : Int) ≤ (T : Int)) = true := by simp; omega
    have hcases : (∃ ad z, R = some ad ∧ k < rn ∧ wr.cell? (ad.add k) = some (.int .u64 z) ∧ 0 ≤ z ∧ z % 3 = 0) ∨ ((∃ ad z, R = some ad ∧ k < rn ∧ wr.cell? (ad.add k) = some (.int .u64 z) ∧ 0 ≤ z ∧ ¬ z % 3 = 0) ∨ ¬ k < rn) := by
      by_cases hkl : k < rn
      · have hul' := HU.out
        obtain ⟨ad, hRa, _, hcell⟩ := HU'.out.rp (by omega)
        have hk' : k < us.length := by omega
        obtain ⟨z, hz, hz0⟩ := HU1.out us[k] (List.getElem_mem hk')
        have hcz := hcell k us[k] (List.getElem?_eq_getElem hk')
        rw [hz] at hcz
        by_cases h3 : z % 3 = 0
        · exact .inl ⟨ad, z, hRa, hkl, hcz, hz0, h3⟩
        · exact .inr (.inl ⟨ad, z, hRa, hkl, hcz, hz0, h3⟩)
      · exact .inr (.inr hkl)
    rcases hcases with ⟨ad, z, rfl, hkl, hz, hz0, hz3⟩ | hrest
    · have hdk : decide ((k : Int) < (rn : Int)) = true := by simp; omega
      have hz4 : (z % 3 == 0) = true := by simp [hz3]
      go_wp2_with (first
        | (go_at_call 9; refine (busy_yes boot n (by omega) d2 d11).mono ?_; rintro e' w9 ⟨rfl, rfl⟩)
        | fail)
      have nG : ¬ (g = c) := by omega
      have HSr := hide HU'.out.st
      have HQr := hide HU'.out.rq
      have S6 : Hid (∀ w', Ch (· = c) wr w' → w'.cell? ⟨w.heap.size, 0, none⟩ = some (.int .i64 sk) ∧ w'.cell? ⟨w.heap.size, 1, none⟩ = some (.int .i64 si) ∧ w'.cell? ⟨w.heap.size, 2, none⟩ = some (.int .i64 boot) ∧ w'.cell? ⟨g, 3, none⟩ = some (.int .i64 2) ∧ w'.cell? ⟨g, 4, none⟩ = some (.int .i64 0)) := fun w' h1 =>
        ⟨(HSr.out.ch h1 nS).cell 0, (HSr.out.ch h1 nS).cell 1, (HSr.out.ch h1 nS).cell 2, (HQr.out.ch h1 nG).cell 3, (HQr.out.ch h1 nG).cell 4⟩
      obtain ⟨y0, y1, y2, y3, y4⟩ := S6.out wr (Ch.refl _ _)
      have gl := HQr.out.lt
      clear e2 e4 d2 d11 hz
      go_region_held3 (fun w' => w'.cell? ⟨w.heap.size, 0, none⟩ = some (.int .i64 sk) ∧ w'.cell? ⟨w.heap.size, 1, none⟩ = some (.int .i64 si) ∧ w'.cell? ⟨w.heap.size, 2, none⟩ = some (.int .i64 boot) ∧ w'.cell? ⟨g, 3, none⟩ = some (.int .i64 2) ∧ w'.cell? ⟨g, 4, none⟩ = some (.int .i64 0)) (first | go_keep | exact S6.out _ hg7.out)
        (first
          | (go_at_call 6
             refine (step_reply sk si boot N T 1 17 0 0 0 kind x1 x2 k s _ _ _ _ _ _ _ c n _ (by omega) (by decide) (HU'.out.cl.drew) (HU'.out.op.drew)).mono ?_
             rintro e' w7 ⟨a, rfl, hcl7, han, hal, hch⟩
             have hg7 : Hid (Ch (· = c) wr w7) := ((Ch.refl (· = c) wr).drew).trans hch (fun i _ h => h)
             have HC7 := hide hcl7
             have HA7 := hide han
             clear hcl7 han hal hch))
      have hs7 := hg7.out.size
      have HW7 : Hid (Ch (fun i => w.heap.size ≤ i) w w7) := (Gr.any HU'.out.gr : Ch (fun i => w.heap.size ≤ i) w wr).trans (hg7.out.mono (fun i _ h => by have h' : i = c := h; show w.heap.size ≤ i; omega)) (fun i _ h => h)
      clear y0 y1 y2 y3 y4 gl
      go_wp2_with fail
      refine (answer_some sk si boot N T 1 _ _ _ _ _ _ 17 ⟨#[]⟩ 0 0 none 0 0 none 0 0 c a w7 (by omega) HC7.out HA7.out).mono ?_
      rintro e' w8 ⟨rfl, hcl8, hch8⟩
      have HC8 := hide hcl8
      have HW8 : Hid (Ch (fun i => w.heap.size ≤ i) w w8) := HW7.out.trans (hch8.mono (fun i _ h => by have h' : i = c := h; show w.heap.size ≤ i; omega)) (fun i _ h => h)
      have mk8 : ∀ x : Array Value, ∃ V, V = w8.alloc (.cells x 63) ∧ Gr w8 V ∧ Blk V w8.heap.size 63 x := fun x => ⟨_, rfl, (Ch.refl _ _).alloc _, Blk.new _ _ _⟩
      clear hcl8 hch8
      go_wp2_with fail
      obtain ⟨V, hV, hgV, kV⟩ := mk8 _
      rw [← hV]
      clear hV mk8
      have d2 := (HC8.out.gr hgV).cell 2
      have d12 := (HC8.out.gr hgV).cell 12
      simp at d2 d12
      refine (answer_none boot c V (by omega) (HC8.out.gr hgV).lt d2 d12).mono ?_
      rintro e' w10 ⟨rfl, hg10⟩
      have HCa := hide ((HC8.out.gr hgV).gr hg10)
      have Ka := hide (kV.gr hg10)
      have HWa := hide ((HW8.out.gr hgV).gr hg10)
      have mkb : ∀ x : Array Value, ∃ X, X = w10.alloc (.cells x 63) ∧ Gr w10 X := fun x => ⟨_, rfl, (Ch.refl _ _).alloc _⟩
      have ka0 := Ka.out.cell 0
      have kal := Ka.out.lt
      simp at ka0
      clear hgV kV hg10 d2 d12
      go_wp2_with fail
      obtain ⟨X, hX, hgX⟩ := mkb _
      rw [← hX]
      clear hX mkb
      have v0 := (Ka.out.gr hgX).cell 0
      have vl := (Ka.out.gr hgX).lt
      have d2 := (HCa.out.gr hgX).cell 2
      have d11 := (HCa.out.gr hgX).cell 11
      simp at v0 d2 d11
      have HV : Hid (Gr w X) := (HWa.out.gr hgX).mono (fun i hi h => by have h' : w.heap.size ≤ i := h; omega)
      clear hgX
      go_wp2_with (first
        | (go_at_call 9; refine (busy_no boot (by omega) d2 d11).mono ?_; rintro e' w11 ⟨rfl, rfl⟩)
        | (go_at_call 5; refine (lives_any _).mono ?_; rintro e' w11 ⟨rfl, hg11⟩; have HF := hide (HV.out.gr hg11); clear hg11)
        | fail)
      go_ret
      exact ⟨rfl, HF.out⟩
    rcases hrest with ⟨ad, z, rfl, hkl, hz, hz0, hz3⟩ | hkl
    all_goals
      first
        | (have hdk : decide ((k : Int) < (rn : Int)) = true := by simp; omega
           have hz4 : (z % 3 == 0) = false := by simp [hz3]
           have hz5 : decide (z % 3 = 0) = false := by simp [hz3])
        | (have hdk : decide ((k : Int) < (rn : Int)) = false := by simp; omega)
      go_wp2_with (first
        | (go_at_call 9; refine (busy_yes boot n (by omega) d2 d11).mono ?_; rintro e' w9 ⟨rfl, rfl⟩)
        | fail)
      refine (tick_law sk si boot N T kind x1 x2 s o co p cp b cb i4 ci4 x4 cx4 c n g A' len k' xs A5 k5 m5 _ us w wr k HU'.out hk hT (by omega) (by omega) (by omega) hs (hide hgb) HX.out H1.out hle HRU.out hrdb.out (by omega) (by omega) (by omega) (by omega) (by omega) (by omega) (by omega)).mono ?_
      rintro e' w7 ⟨g7, cap7, M, ys, rfl, hown, hM1, hM6, hask, hs7, hst⟩
      have HOW := hide hown
      have HAS := hide hask
      have HST := hide hst
      clear hown hask hst e2 e4 d2 d11
      try clear hz
      go_wp2_with fail
      go_loopw [165] (fun v w8 => ∃ j : Nat, j ≤ M ∧ v = .int .i64 j ∧ Hid (Gr w7 w8)) (fun v _ => M - (intOf v).toNat)
      case atStart => exact ⟨0, Nat.zero_le _, rfl, Ch.refl _ _⟩
      case round =>
        obtain ⟨j, hj, rfl, HGJ⟩ := hrel
        by_cases hjM : j < M
        · have hdj : decide ((j : Int) < (M : Int)) = true := by simp; omega
          have hO8 := own_gr HOW.out HGJ.out
          have hrange := range_part hO8 hjM
          have hlen := partOf_len hO8.1 hjM
          have hinf : (Try.prog.info? 58).map (·.size) = some (partOf ys j).length := by rw [hlen]; kernel_rfl
          have HRg := hide hrange
          have HI := hide hinf
          have hone := part_one HAS.out (j := j)
          have hkind := part_kind HAS.out hjM
          have H1c := hide (all_oneCell_toArray hone)
          have HTh : Hid (∀ a : Array Value, a.size = 46 → (wr.alloc (.cells a 58)).there wr.heap.size 0 (partOf ys j).toArray.size) := fun a ha => part_there wr a (partOf ys j) (by omega)
          have HI2 : Hid ((Try.prog.info? 58).map (·.size) = some (partOf ys j).toArray.size) := hinf
          have mkV : Hid (∀ (a : Array Value) (V : World), (wr.alloc (.cells a 58)).setCells wr.heap.size 0 (partOf ys j).toArray.toList = V → a.size = 46 → Gr wr V ∧ ∀ i v, (partOf ys j)[i]? = some v → V.cell? ⟨wr.heap.size, i, none⟩ = some v) := fun a V hV ha => by
            obtain ⟨V', hV', h1, h2⟩ := part_new wr a (partOf ys j) (by omega)
            have e : V = V' := by rw [← hV, hV']
            rw [e]
            exact ⟨h1, h2⟩
          have HK := hide hkind
          clear hO8 hrange hinf hone hkind
          have HST8 : Hid (∀ w', Gr wr w' → w'.cell? ⟨w.heap.size, 2, none⟩ = some (.int .i64 boot)) := fun w' hg' => by
            rcases HST.out with ⟨_, hL⟩ | ⟨_, a, hL⟩
            · exact (hL.st.gr (HGJ.out.gr hg')).cell 2
            · exact (hL.st.gr (HGJ.out.gr hg')).cell 2
          clear hlen hdj
          have hdj : decide ((j : Int) < (M : Int)) = true := by simp; omega
          rcases HK.out with h14 | ⟨h30, h9, h10⟩
          all_goals
            go_upto_region 23 with (first
              | (refine wpList_load_mid rfl 58 (.tmp 167) rfl g7 (j * 46) rfl (partOf ys j) _ HRg.out Try.underlying58 rfl HI.out ?_)
              | (refine wpList_store_mid rfl 58 (.tmp 16) (.tmp 168) rfl wr.heap.size 0 (partOf ys j).toArray rfl rfl (HTh.out _ rfl) HI2.out H1c.out ?_
                 generalize hV : World.setCells _ _ _ _ = V
                 obtain ⟨hgV, hcV⟩ := mkV.out _ _ hV (by rfl)
                 first
                   | (have q0 := hcV 0 _ h14)
                   | (have q0 := hcV 0 _ h30
                      have q9 := hcV 9 _ h9
                      have q10 := hcV 10 _ h10)
                 have e2 := HST8.out V hgV
                 have HGV := hide (HGJ.out.gr hgV)
                 clear hV hgV hcV HK HTh mkV HI2 HI H1c HRg HST8 hdj
                 first
                   | clear h14
                   | clear h30 h9 h10)
              | fail)
            go_upto_region 25 with (fail)
            iterate 9 (first | go_values | go_skip | go_guarded | go_step | go_upon)
            simp only [Exit.then]
            go_big_round
            refine ⟨?rel, ?measure⟩
            case rel => exact ⟨j + 1, hjM, by go_num, HGV.out⟩
            case measure => simp [intOf]; omega
        · have hdj : decide ((j : Int) < (M : Int)) = false := by simp; omega
          have HST8 := hide (tick_grow HST.out HGJ.out)
          have hdn : decide (j < M) = false := by simp; omega
          have hge : M ≤ j := by omega
          clear hjM
          go_upto_region 12 with (fail)
          iterate 12 (first | go_values | go_skip | go_guarded | go_step | go_upon)
          simp only [Exit.then]
          go_big_round
          refine ⟨?rel, ?measure⟩
          case rel => exact ⟨k + 1, by go_num, HST8.out⟩
          case measure => simp [intOf]; omega

end Go.Proofs.Ythjficahhcjfgaa
