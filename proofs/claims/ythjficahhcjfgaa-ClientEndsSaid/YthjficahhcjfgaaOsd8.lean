/-
  osdmap.Apply, of the empty map and the Inc of this law: the map of one osd, one pool and one bucket.
-/
import Derived.Test.YthjficahhcjfgaaOsd7
namespace Go.Proofs.Ythjficahhcjfgaa
open Go.RowKit

theorem sets5 {w : World} {T t : Nat} {c0 c1 c2 c3 c4 : Value} (h : Blk w T t #[c0, c1, c2, c3, c4]) (v0 v1 v2 v3 v4 : Value) :
    ∃ V, V = ((((w.setCell ⟨T, 0, none⟩ v0).setCell ⟨T, 1, none⟩ v1).setCell ⟨T, 2, none⟩ v2).setCell ⟨T, 3, none⟩ v3).setCell ⟨T, 4, none⟩ v4 ∧ Ch (· = T) w V ∧ Blk V T t #[v0, v1, v2, v3, v4] :=
  ⟨_, rfl, (((((Ch.refl (· = T) w).set (p := ⟨T, 0, none⟩) (.inl rfl) _).set (p := ⟨T, 1, none⟩) (.inl rfl) _).set (p := ⟨T, 2, none⟩) (.inl rfl) _).set (p := ⟨T, 3, none⟩) (.inl rfl) _).set (p := ⟨T, 4, none⟩) (.inl rfl) _,
    by simpa using ((((h.set_ 0 v0).set_ 1 v1).set_ 2 v2).set_ 3 v3).set_ 4 v4⟩

/-- The changes of the Inc. -/
structure IncC (w : World) (h i ci x cx : Nat) : Prop where
  lh : h < w.heap.size
  li : i < w.heap.size
  lx : x < w.heap.size
  c0 : w.cell? ⟨h, 0, none⟩ = some (.int .i64 1)
  c1 : w.cell? ⟨h, 1, none⟩ = some (.int .i64 0)
  c2 : w.cell? ⟨h, 2, none⟩ = some (.int .i64 3)
  c3 : w.cell? ⟨h, 3, none⟩ = some (.int .i64 0)
  c4 : w.cell? ⟨h, 4, none⟩ = some (.int .i64 0)
  c5 : w.cell? ⟨h, 5, none⟩ = some (.int .i64 0)
  c6 : w.cell? ⟨h, 6, none⟩ = some (.int .i64 0)
  c7 : w.cell? ⟨h, 7, none⟩ = some (.int .i64 0)
  c8 : w.cell? ⟨h, 8, none⟩ = some (.int .i64 0)
  c9 : w.cell? ⟨h, 9, none⟩ = some (.slice none 0 0)
  c10 : w.cell? ⟨h, 10, none⟩ = some (.slice none 0 0)
  c11 : w.cell? ⟨h, 11, none⟩ = some (.int .i64 6)
  c12 : w.cell? ⟨h, 12, none⟩ = some (.int .i64 0)
  c13 : w.cell? ⟨h, 13, none⟩ = some (.int .i64 0)
  c14 : w.cell? ⟨h, 14, none⟩ = some (.int .i64 0)
  c15 : w.cell? ⟨h, 15, none⟩ = some (.int .i64 0)
  c16 : w.cell? ⟨h, 16, none⟩ = some (.int .i64 0)
  c17 : w.cell? ⟨h, 17, none⟩ = some (.int .i64 0)
  c18 : w.cell? ⟨h, 18, none⟩ = some (.int .i64 (-1))
  c19 : w.cell? ⟨h, 19, none⟩ = some (.int .i64 3)
  c20 : w.cell? ⟨h, 20, none⟩ = some (.slice (some ⟨i, 0, none⟩) 1 ci)
  c21 : w.cell? ⟨h, 21, none⟩ = some (.slice (some ⟨x, 0, none⟩) 1 cx)
  c22 : w.cell? ⟨h, 22, none⟩ = some (.int .i64 5)
  c23 : w.cell? ⟨h, 23, none⟩ = some (.int .i64 0)
  c24 : w.cell? ⟨h, 24, none⟩ = some (.int .i64 0)
  c25 : w.cell? ⟨h, 25, none⟩ = some (.int .i64 1)
  c26 : w.cell? ⟨h, 26, none⟩ = some (.int .i64 1)
  c27 : w.cell? ⟨h, 27, none⟩ = some (.int .i64 1)
  c28 : w.cell? ⟨h, 28, none⟩ = some (.int .i64 1)
  c29 : w.cell? ⟨h, 29, none⟩ = some (.int .i64 0)
  c30 : w.cell? ⟨h, 30, none⟩ = some (.int .i64 0)
  c31 : w.cell? ⟨h, 31, none⟩ = some (.slice none 0 0)
  c32 : w.cell? ⟨h, 32, none⟩ = some (.slice none 0 0)
  i0 : w.cell? ⟨i, 0, none⟩ = some (.int .i64 0)
  x0 : w.cell? ⟨x, 0, none⟩ = some (.int .i64 65536)

theorem IncC.gr {w w' : World} {h i ci x cx : Nat} (k : IncC w h i ci x cx) (hc : Gr w w') : IncC w' h i ci x cx := by
  have hz := hc.size
  have q : ∀ (g n : Nat), g < w.heap.size → w'.cell? ⟨g, n, none⟩ = w.cell? ⟨g, n, none⟩ := fun g n hg => hc.cell (p := ⟨g, n, none⟩) hg (fun f => f)
  have lh := k.lh
  have li := k.li
  have lx := k.lx
  exact ⟨by omega, by omega, by omega, (q _ _ lh).trans k.c0, (q _ _ lh).trans k.c1, (q _ _ lh).trans k.c2, (q _ _ lh).trans k.c3, (q _ _ lh).trans k.c4, (q _ _ lh).trans k.c5, (q _ _ lh).trans k.c6, (q _ _ lh).trans k.c7, (q _ _ lh).trans k.c8, (q _ _ lh).trans k.c9, (q _ _ lh).trans k.c10,
    (q _ _ lh).trans k.c11, (q _ _ lh).trans k.c12, (q _ _ lh).trans k.c13, (q _ _ lh).trans k.c14, (q _ _ lh).trans k.c15, (q _ _ lh).trans k.c16, (q _ _ lh).trans k.c17, (q _ _ lh).trans k.c18, (q _ _ lh).trans k.c19, (q _ _ lh).trans k.c20, (q _ _ lh).trans k.c21,
    (q _ _ lh).trans k.c22, (q _ _ lh).trans k.c23, (q _ _ lh).trans k.c24, (q _ _ lh).trans k.c25, (q _ _ lh).trans k.c26, (q _ _ lh).trans k.c27, (q _ _ lh).trans k.c28, (q _ _ lh).trans k.c29, (q _ _ lh).trans k.c30, (q _ _ lh).trans k.c31, (q _ _ lh).trans k.c32, (q _ _ li).trans k.i0, (q _ _ lx).trans k.x0⟩

/-- The map that comes of it. -/
def Applied (w : World) (en : Ending) (w' : World) : Prop :=
  ∃ o co p cp b cb i ci x cx, en = .returned (.tuple #[.agg #[.int .i64 1, .slice (some ⟨o, 0, none⟩) 1 co, .slice (some ⟨p, 0, none⟩) 1 cp, .slice (some ⟨b, 0, none⟩) 1 cb, .int .i64 0], .int .i64 0]) ∧
    M1 w' o co p cp b cb i ci x cx ∧ w.heap.size ≤ o ∧ w.heap.size ≤ p ∧ w.heap.size ≤ b ∧ w.heap.size ≤ i ∧ w.heap.size ≤ x ∧ Gr w w'

set_option maxHeartbeats 4000000 in
set_option maxRecDepth 100000 in
theorem apply_one (h hc i ci x cx : Nat) (w : World) (hi : IncC w h i ci x cx) :
    Calls Try.prog 16 #[.agg #[.int .i64 0, .slice none 0 0, .slice none 0 0, .slice none 0 0, .int .i64 0], .agg #[.int .i64 1, .slice (some ⟨h, 0, none⟩) 3 hc]] w (Applied w) := by
  have HI := hide hi
  clear hi
  go_enter Try.func16, Try.ntmps16
  go_wp2_with fail
  obtain ⟨W, hW, hg, hz, k1, k2, k3⟩ := mk3 w _ _ _ _ _ _
  rw [← hW]
  clear hW
  refine (copy_empty W).mono ?_
  rintro e' w1 ⟨bA, bc, rfl, hg1⟩
  have mkT : ∀ a : Array Value, ∃ T, T = w1.alloc (.cells a 72) ∧ Gr W T ∧ Blk T w1.heap.size 72 a := fun a => ⟨_, rfl, hg1.alloc _, Blk.new _ _ _⟩
  have d0 := (k2.gr hg1).cell 0
  have d1 := (k2.gr hg1).cell 1
  have dl := (k2.gr hg1).lt
  simp at d0 d1
  have HG := hide hg
  have HK1 := hide k1
  have HK2 := hide k2
  have HK3 := hide k3
  have hsz1 := hg1.size
  clear hg hg1 k1 k2 k3
  go_wp2_with fail
  refine wp_loop_rounds 4 ?_
  rw [rounds_succ]
  obtain ⟨T, hT, hgT, kT⟩ := mkT _
  rw [← hT]
  clear hT mkT d0 d1 dl
  have HI1 := HI.out.gr (HG.out.gr hgT)
  obtain ⟨lh, li, lx, c0, c1, c2, c3, c4, c5, c6, c7, c8, c9, c10, _, _, _, _, _, _, _, _, _, _, _, _, _, _, _, _, _, _, _, _, _, _, _, _⟩ := HI1
  have t0 := kT.cell 0
  have t1 := kT.cell 1
  have t2 := kT.cell 2
  have t3 := kT.cell 3
  have t4 := kT.cell 4
  have tl := kT.lt
  simp at t0 t1 t2 t3 t4
  have HT := hide kT
  have HGT := hide (HG.out.gr hgT)
  have HWT := hide hgT
  have hN6 := tl
  have hszT := hgT.size
  clear kT hgT
  -- ROUNDS
  go_wp2_with fail
  obtain ⟨E, hE, hgE, kE⟩ := mk1 T 97 _
  rw [← hE]
  clear hE t0 t1 t2 t3 t4 tl c0 c1 c2 c3 c4 c5 c6 c7 c8 c9 c10
  have hsE := hgE.size
  refine (May_up 0 0 bA 0 bc E).mono ?_
  rintro e' E1 ⟨rfl, hge⟩
  have hsE1 := hge.size
  have t0 := (HT.out.gr (hgE.gr hge)).cell 0
  have t1 := (HT.out.gr (hgE.gr hge)).cell 1
  have t2 := (HT.out.gr (hgE.gr hge)).cell 2
  have t3 := (HT.out.gr (hgE.gr hge)).cell 3
  have t4 := (HT.out.gr (hgE.gr hge)).cell 4
  have c0 := (kE.gr hge).cell 0
  have c1 := (kE.gr hge).cell 1
  have c2 := (kE.gr hge).cell 2
  have c3 := (kE.gr hge).cell 3
  have c4 := (kE.gr hge).cell 4
  have c5 := (kE.gr hge).cell 5
  have c6 := (kE.gr hge).cell 6
  have c7 := (kE.gr hge).cell 7
  have c8 := (kE.gr hge).cell 8
  have c9 := (kE.gr hge).cell 9
  have c10 := (kE.gr hge).cell 10
  have tl := (HT.out.gr (hgE.gr hge)).lt
  have cl := (kE.gr hge).lt
  simp at t0 t1 t2 t3 t4 c0 c1 c2 c3 c4 c5 c6 c7 c8 c9 c10
  have HE := hide (hgE.gr hge)
  clear hgE kE hge
  go_wp2_with fail
  refine (made_up 0 bA 0 bc E1).mono ?_
  rintro e' F ⟨o, co, rfl, o0, o1, o2, o3, o4, o5, ol, hco, on, hgf⟩
  clear t0 t1 t2 t3 t4 tl c0 c1 c2 c3 c4 c5 c6 c7 c8 c9 c10 cl
  have hsF := hgf.size
  have OA := hide (show _ ∧ _ ∧ _ ∧ _ ∧ _ ∧ _ from ⟨o0, o1, o2, o3, o4, o5⟩)
  clear o0 o1 o2 o3 o4 o5
  have HTF := hide (HT.out.gr (HE.out.gr hgf))
  have t0 := HTF.out.cell 0
  have t1 := HTF.out.cell 1
  have t2 := HTF.out.cell 2
  have t3 := HTF.out.cell 3
  have t4 := HTF.out.cell 4
  have tf := HTF.out.frozen
  have tl := HTF.out.lt
  simp at t0 t1 t2 t3 t4
  have HF := hide (HE.out.gr hgf)
  clear hgf
  go_wp2_with fail
  rw [rounds_succ]
  obtain ⟨V0, hV, hcV, kV⟩ := sets5 HTF.out (.int .i64 0) (.slice (some ⟨o, 0, none⟩) 1 co) (.slice none 0 0) (.slice bA 0 bc) (.int .i64 0)
  rw [← hV]
  clear hV t0 t1 t2 t3 t4 tf tl
  have hsV0 := hcV.size
  have HG0 : Hid (Gr w V0) := (HGT.out.gr HF.out).trans hcV (fun i hi e => by omega)
  have HS0 : Hid (Ch (· = w1.heap.size) T V0) := (Gr.any HF.out : Ch (· = w1.heap.size) T F).trans hcV (fun i _ h => h)
  have hon : ¬ (o = w1.heap.size) := by omega
  have ol0 : o < V0.heap.size := by omega
  have OV0 : Hid (V0.cell? ⟨o, 0, none⟩ = some (.bool true) ∧ V0.cell? ⟨o, 1, none⟩ = some (.bool true) ∧ V0.cell? ⟨o, 2, none⟩ = some (.int .i64 65536) ∧ V0.cell? ⟨o, 3, none⟩ = some (.int .i64 3) ∧ V0.cell? ⟨o, 4, none⟩ = some (.int .i64 1) ∧ V0.cell? ⟨o, 5, none⟩ = some (.int .i64 0)) := by
    obtain ⟨a0, a1, a2, a3, a4, a5⟩ := OA.out
    have q : ∀ n, V0.cell? ⟨o, n, none⟩ = F.cell? ⟨o, n, none⟩ := fun n => hcV.cell (p := ⟨o, n, none⟩) ol hon
    exact ⟨(q 0).trans a0, (q 1).trans a1, (q 2).trans a2, (q 3).trans a3, (q 4).trans a4, (q 5).trans a5⟩
  have HIw := hide (HI.out.gr HG0.out)
  have c0 := HIw.out.c11
  have c1 := HIw.out.c12
  have c2 := HIw.out.c13
  have c3 := HIw.out.c14
  have c4 := HIw.out.c15
  have c5 := HIw.out.c16
  have c6 := HIw.out.c17
  have c7 := HIw.out.c18
  have c8 := HIw.out.c19
  have c9 := HIw.out.c20
  have c10 := HIw.out.c21
  have lh := HIw.out.lh
  have li := HIw.out.li
  have lx := HIw.out.lx
  have t0 := kV.cell 0
  have t1 := kV.cell 1
  have t2 := kV.cell 2
  have t3 := kV.cell 3
  have t4 := kV.cell 4
  have tl := kV.lt
  have tf := kV.frozen
  simp at t0 t1 t2 t3 t4
  clear tf
  clear HT HE HF HTF
  have HT := hide kV
  clear hcV kV
  go_wp2_with fail
  obtain ⟨E, hE, hgE, kE⟩ := mk1 V0 97 _
  rw [← hE]
  clear hE t0 t1 t2 t3 t4 tl c0 c1 c2 c3 c4 c5 c6 c7 c8 c9 c10
  have hsE := hgE.size
  have cI := (HIw.out.gr hgE).i0
  have cX := (HIw.out.gr hgE).x0
  refine (May_bucket 0 _ _ bA _ _ _ _ bc i ci x cx E (by omega) (by omega) cI cX).mono ?_
  rintro e' E1 ⟨rfl, hge⟩
  have hsE1 := hge.size
  have t0 := (HT.out.gr (hgE.gr hge)).cell 0
  have t1 := (HT.out.gr (hgE.gr hge)).cell 1
  have t2 := (HT.out.gr (hgE.gr hge)).cell 2
  have t3 := (HT.out.gr (hgE.gr hge)).cell 3
  have t4 := (HT.out.gr (hgE.gr hge)).cell 4
  have c0 := (kE.gr hge).cell 0
  have c1 := (kE.gr hge).cell 1
  have c2 := (kE.gr hge).cell 2
  have c3 := (kE.gr hge).cell 3
  have c4 := (kE.gr hge).cell 4
  have c5 := (kE.gr hge).cell 5
  have c6 := (kE.gr hge).cell 6
  have c7 := (kE.gr hge).cell 7
  have c8 := (kE.gr hge).cell 8
  have c9 := (kE.gr hge).cell 9
  have c10 := (kE.gr hge).cell 10
  have tl := (HT.out.gr (hgE.gr hge)).lt
  have cl := (kE.gr hge).lt
  simp at t0 t1 t2 t3 t4 c0 c1 c2 c3 c4 c5 c6 c7 c8 c9 c10
  have HE := hide (hgE.gr hge)
  clear hgE kE hge
  clear cI cX
  go_wp2_with fail
  have cI := (HIw.out.gr HE.out).i0
  have cX := (HIw.out.gr HE.out).x0
  refine (made_bucket 0 _ _ bA _ _ _ _ bc i ci x cx E1 (by omega) (by omega) cI cX).mono ?_
  rintro e' F ⟨b, cb, i', ci', x', cx', rfl, hbk, hcb, hbn, hin, hxn, hgf⟩
  clear t0 t1 t2 t3 t4 tl c0 c1 c2 c3 c4 c5 c6 c7 c8 c9 c10 cl
  clear cI cX
  have hsF := hgf.size
  have BA := hide hbk
  clear hbk
  have HTF := hide (HT.out.gr (HE.out.gr hgf))
  have t0 := HTF.out.cell 0
  have t1 := HTF.out.cell 1
  have t2 := HTF.out.cell 2
  have t3 := HTF.out.cell 3
  have t4 := HTF.out.cell 4
  have tf := HTF.out.frozen
  have tl := HTF.out.lt
  simp at t0 t1 t2 t3 t4
  have HF := hide (HE.out.gr hgf)
  clear hgf
  go_wp2_with fail
  rw [rounds_succ]
  obtain ⟨V1, hV, hcV, kV⟩ := sets5 HTF.out (.int .i64 0) (.slice (some ⟨o, 0, none⟩) 1 co) (.slice none 0 0) (.slice (some ⟨b, 0, none⟩) 1 cb) (.int .i64 0)
  rw [← hV]
  clear hV t0 t1 t2 t3 t4 tf tl
  have hsV1 := hcV.size
  have HG1 : Hid (Gr w V1) := (HG0.out.gr HF.out).trans hcV (fun i hi e => by omega)
  have HS1 : Hid (Ch (· = w1.heap.size) V0 V1) := (Gr.any HF.out : Ch (· = w1.heap.size) V0 F).trans hcV (fun i _ h => h)
  have hbn' : ¬ (b = w1.heap.size) := by omega
  have hin' : ¬ (i' = w1.heap.size) := by omega
  have hxn' : ¬ (x' = w1.heap.size) := by omega
  have BV1 := hide (BA.out.ch hcV hbn' hin' hxn')
  clear HIw
  have HIw := hide (HI.out.gr HG1.out)
  have c0 := HIw.out.c22
  have c1 := HIw.out.c23
  have c2 := HIw.out.c24
  have c3 := HIw.out.c25
  have c4 := HIw.out.c26
  have c5 := HIw.out.c27
  have c6 := HIw.out.c28
  have c7 := HIw.out.c29
  have c8 := HIw.out.c30
  have c9 := HIw.out.c31
  have c10 := HIw.out.c32
  have lh := HIw.out.lh
  have li := HIw.out.li
  have lx := HIw.out.lx
  have t0 := kV.cell 0
  have t1 := kV.cell 1
  have t2 := kV.cell 2
  have t3 := kV.cell 3
  have t4 := kV.cell 4
  have tl := kV.lt
  have tf := kV.frozen
  simp at t0 t1 t2 t3 t4
  clear tf
  clear HT HE HF HTF
  have HT := hide kV
  clear hcV kV
  go_wp2_with fail
  obtain ⟨E, hE, hgE, kE⟩ := mk1 V1 97 _
  rw [← hE]
  clear hE t0 t1 t2 t3 t4 tl c0 c1 c2 c3 c4 c5 c6 c7 c8 c9 c10
  have hsE := hgE.size
  refine (May_pool 0 0 _ _ _ _ _ _ E).mono ?_
  rintro e' E1 ⟨rfl, hge⟩
  have hsE1 := hge.size
  have t0 := (HT.out.gr (hgE.gr hge)).cell 0
  have t1 := (HT.out.gr (hgE.gr hge)).cell 1
  have t2 := (HT.out.gr (hgE.gr hge)).cell 2
  have t3 := (HT.out.gr (hgE.gr hge)).cell 3
  have t4 := (HT.out.gr (hgE.gr hge)).cell 4
  have c0 := (kE.gr hge).cell 0
  have c1 := (kE.gr hge).cell 1
  have c2 := (kE.gr hge).cell 2
  have c3 := (kE.gr hge).cell 3
  have c4 := (kE.gr hge).cell 4
  have c5 := (kE.gr hge).cell 5
  have c6 := (kE.gr hge).cell 6
  have c7 := (kE.gr hge).cell 7
  have c8 := (kE.gr hge).cell 8
  have c9 := (kE.gr hge).cell 9
  have c10 := (kE.gr hge).cell 10
  have tl := (HT.out.gr (hgE.gr hge)).lt
  have cl := (kE.gr hge).lt
  simp at t0 t1 t2 t3 t4 c0 c1 c2 c3 c4 c5 c6 c7 c8 c9 c10
  have HE := hide (hgE.gr hge)
  clear hgE kE hge
  go_wp2_with fail
  refine (made_pool 0 0 _ _ _ _ _ _ E1).mono ?_
  rintro e' F ⟨p, cp, rfl, p0, p1, p2, p3, pl, hcp, pn, hgf⟩
  clear t0 t1 t2 t3 t4 tl c0 c1 c2 c3 c4 c5 c6 c7 c8 c9 c10 cl
  have hsF := hgf.size
  have PA := hide (show _ ∧ _ ∧ _ ∧ _ from ⟨p0, p1, p2, p3⟩)
  clear p0 p1 p2 p3
  have HTF := hide (HT.out.gr (HE.out.gr hgf))
  have t0 := HTF.out.cell 0
  have t1 := HTF.out.cell 1
  have t2 := HTF.out.cell 2
  have t3 := HTF.out.cell 3
  have t4 := HTF.out.cell 4
  have tf := HTF.out.frozen
  have tl := HTF.out.lt
  simp at t0 t1 t2 t3 t4
  have HF := hide (HE.out.gr hgf)
  clear hgf
  go_wp2_with fail
  rw [rounds_succ]
  obtain ⟨V2, hV, hcV, kV⟩ := sets5 HTF.out (.int .i64 0) (.slice (some ⟨o, 0, none⟩) 1 co) (.slice (some ⟨p, 0, none⟩) 1 cp) (.slice (some ⟨b, 0, none⟩) 1 cb) (.int .i64 0)
  rw [← hV]
  clear hV t0 t1 t2 t3 t4 tf tl
  have hsV2 := hcV.size
  have HG2 : Hid (Gr w V2) := (HG1.out.gr HF.out).trans hcV (fun i hi e => by omega)
  have HS2 : Hid (Ch (· = w1.heap.size) V1 V2) := (Gr.any HF.out : Ch (· = w1.heap.size) V1 F).trans hcV (fun i _ h => h)
  have hpn : ¬ (p = w1.heap.size) := by omega
  have pl2 : p < V2.heap.size := by omega
  have PV2 : Hid (V2.cell? ⟨p, 0, none⟩ = some (.int .i64 1) ∧ V2.cell? ⟨p, 1, none⟩ = some (.int .i64 1) ∧ V2.cell? ⟨p, 2, none⟩ = some (.int .i64 1) ∧ V2.cell? ⟨p, 3, none⟩ = some (.int .i64 1)) := by
    obtain ⟨a0, a1, a2, a3⟩ := PA.out
    have q : ∀ n, V2.cell? ⟨p, n, none⟩ = F.cell? ⟨p, n, none⟩ := fun n => hcV.cell (p := ⟨p, n, none⟩) pl hpn
    exact ⟨(q 0).trans a0, (q 1).trans a1, (q 2).trans a2, (q 3).trans a3⟩
  have t0 := kV.cell 0
  have t1 := kV.cell 1
  have t2 := kV.cell 2
  have t3 := kV.cell 3
  have t4 := kV.cell 4
  have tl := kV.lt
  have tf := kV.frozen
  simp at t0 t1 t2 t3 t4
  clear HT HE HF HTF
  have HT := hide kV
  clear hcV kV
  have HSW : Hid (Ch (· = w1.heap.size) W V2) := (((Gr.any HWT.out : Ch (· = w1.heap.size) W T).trans HS0.out (fun i _ h => h)).trans HS1.out (fun i _ h => h)).trans HS2.out (fun i _ h => h)
  have k3 := HK3.out.ch HSW.out (by omega)
  have z0 := k3.cell 0
  have z1 := k3.cell 1
  have z2 := k3.cell 2
  have z3 := k3.cell 3
  have z4 := k3.cell 4
  have zl := k3.lt
  have zf := k3.frozen
  simp at z0 z1 z2 z3 z4
  have OV1 : Hid (∀ (n : Nat) (u : Value), V0.cell? ⟨o, n, none⟩ = some u → V2.cell? ⟨o, n, none⟩ = some u) := fun n u h => (HS2.out.cell (p := ⟨o, n, none⟩) (by show o < _; omega) hon).trans ((HS1.out.cell (p := ⟨o, n, none⟩) (by show o < _; omega) hon).trans h)
  have hM : M1 V2 o co p cp b cb i' ci' x' cx' := by
    obtain ⟨a0, a1, a2, a3, a4, a5⟩ := OV0.out
    obtain ⟨e0, e1, e2, e3⟩ := PV2.out
    obtain ⟨lb', li', lx', hi', hx', d0, d1, d2, d3, d4, d5⟩ := BV1.out.ch HS2.out hbn' hin' hxn'
    exact ⟨by omega, by omega, lb', li', lx', hco, hcp, hcb, hi', hx', OV1.out _ _ a0, OV1.out _ _ a1, OV1.out _ _ a2, OV1.out _ _ a3, OV1.out _ _ a4, OV1.out _ _ a5, e0, e1, e2, e3, d0, d1, d2, d3, d4, d5⟩
  have hne1 : ¬ (w1.heap.size = w.heap.size + 1 + 1) := by omega
  have hne2 : ¬ (w.heap.size + 1 + 1 = w1.heap.size) := by omega
  have hfin : ∀ a1 a2 a3 a4 a5 a6, Applied w (.returned (.tuple #[.agg #[.int .i64 1, .slice (some ⟨o, 0, none⟩) 1 co, .slice (some ⟨p, 0, none⟩) 1 cp, .slice (some ⟨b, 0, none⟩) 1 cb, .int .i64 0], .int .i64 0]))
      ((((((V2.setCell ⟨w1.heap.size, 0, none⟩ a1).setCell ⟨w.heap.size + 1 + 1, 0, none⟩ a2).setCell ⟨w.heap.size + 1 + 1, 1, none⟩ a3).setCell ⟨w.heap.size + 1 + 1, 2, none⟩ a4).setCell ⟨w.heap.size + 1 + 1, 3, none⟩ a5).setCell ⟨w.heap.size + 1 + 1, 4, none⟩ a6) := by
    intro a1 a2 a3 a4 a5 a6
    have hs : Ch (fun k => k = w1.heap.size ∨ k = w.heap.size + 1 + 1) V2 ((((((V2.setCell ⟨w1.heap.size, 0, none⟩ a1).setCell ⟨w.heap.size + 1 + 1, 0, none⟩ a2).setCell ⟨w.heap.size + 1 + 1, 1, none⟩ a3).setCell ⟨w.heap.size + 1 + 1, 2, none⟩ a4).setCell ⟨w.heap.size + 1 + 1, 3, none⟩ a5).setCell ⟨w.heap.size + 1 + 1, 4, none⟩ a6) :=
      (((((((Ch.refl _ _).set (p := ⟨w1.heap.size, 0, none⟩) (.inl (.inl rfl)) _).set (p := ⟨w.heap.size + 1 + 1, 0, none⟩) (.inl (.inr rfl)) _).set (p := ⟨w.heap.size + 1 + 1, 1, none⟩) (.inl (.inr rfl)) _).set (p := ⟨w.heap.size + 1 + 1, 2, none⟩) (.inl (.inr rfl)) _).set (p := ⟨w.heap.size + 1 + 1, 3, none⟩) (.inl (.inr rfl)) _).set (p := ⟨w.heap.size + 1 + 1, 4, none⟩) (.inl (.inr rfl)) _)
    exact ⟨o, co, p, cp, b, cb, i', ci', x', cx', rfl, hM.ch hs (by omega) (by omega) (by omega) (by omega) (by omega), by omega, by omega, by omega, by omega, by omega, HG2.out.trans hs (fun i hi h => by omega)⟩
  have HFin := hide hfin
  clear hfin hM k3
  go_wp2_with fail
  exact bodyPost_ret (v := .tuple #[.agg #[.int .i64 1, .slice (some ⟨o, 0, none⟩) 1 co, .slice (some ⟨p, 0, none⟩) 1 cp, .slice (some ⟨b, 0, none⟩) 1 cb, .int .i64 0], .int .i64 0]) (by simp [results, Try.results16, go_sem, z0, z1, z2, z3, z4, t0, t1, t2, t3, t4, hne1, hne2]) rfl (HFin.out _ _ _ _ _ _)

end Go.Proofs.Ythjficahhcjfgaa
