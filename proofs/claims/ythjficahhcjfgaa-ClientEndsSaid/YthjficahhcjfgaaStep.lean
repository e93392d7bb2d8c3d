/-
  The client's Step: maps come.
-/
import Derived.Test.YthjficahhcjfgaaUp
import Derived.Test.YthjficahhcjfgaaTick2
namespace Go.Proofs.Ythjficahhcjfgaa
open Go.RowKit

/-- The message of the maps. -/
abbrev mapsArr (sk si : Int) (q : Nat) : Array Value := ((.int .i64 15 : Value) :: (.int .i64 1 : Value) :: (.int .i64 0 : Value) :: (.int .i64 sk : Value) :: (.int .i64 si : Value) :: (.int .i64 0 : Value) :: (.int .i64 1 : Value) :: (.int .i64 0 : Value) :: (.int .i64 0 : Value) :: (.int .i64 0 : Value) :: (.int .i64 0 : Value) :: (.int .i64 0 : Value) :: (.slice none 0 0 : Value) :: (.slice (some ⟨q, 0, none⟩) 1 1 : Value) :: (.slice none 0 0 : Value) :: (.int .i64 0 : Value) :: (.int .i64 0 : Value) :: (.int .i64 0 : Value) :: (.int .i64 0 : Value) :: (.int .i64 0 : Value) :: (.int .i64 0 : Value) :: (.int .i64 0 : Value) :: (.int .i64 0 : Value) :: (.int .i64 0 : Value) :: (.slice none 0 0 : Value) :: (.slice none 0 0 : Value) :: (.slice none 0 0 : Value) :: (.int .i64 0 : Value) :: (.int .i64 0 : Value) :: (.bool false : Value) :: (.int .i64 0 : Value) :: (.string ⟨#[]⟩ : Value) :: (.int .i64 0 : Value) :: (.int .i64 0 : Value) :: (.string ⟨#[]⟩ : Value) :: (.int .i64 0 : Value) :: (.int .i64 0 : Value) :: (.slice none 0 0 : Value) :: (.int .i64 0 : Value) :: (.string ⟨#[]⟩ : Value) :: (.slice none 0 0 : Value) :: (.int .i64 0 : Value) :: (.int .i64 0 : Value) :: (.slice none 0 0 : Value) :: (.slice none 0 0 : Value) :: (.int .i64 0 : Value) :: []).toArray

/-- The message of a reply. -/
abbrev replyArr (fk fi sk si boot er : Int) : Array Value := ((.int .i64 31 : Value) :: (.int .i64 fk : Value) :: (.int .i64 fi : Value) :: (.int .i64 sk : Value) :: (.int .i64 si : Value) :: (.int .i64 0 : Value) :: (.int .i64 0 : Value) :: (.int .i64 0 : Value) :: (.int .i64 0 : Value) :: (.int .i64 boot : Value) :: (.int .i64 1 : Value) :: (.int .i64 0 : Value) :: (.slice none 0 0 : Value) :: (.slice none 0 0 : Value) :: (.slice none 0 0 : Value) :: (.int .i64 0 : Value) :: (.int .i64 0 : Value) :: (.int .i64 0 : Value) :: (.int .i64 0 : Value) :: (.int .i64 0 : Value) :: (.int .i64 0 : Value) :: (.int .i64 0 : Value) :: (.int .i64 0 : Value) :: (.int .i64 0 : Value) :: (.slice none 0 0 : Value) :: (.slice none 0 0 : Value) :: (.slice none 0 0 : Value) :: (.int .i64 0 : Value) :: (.int .i64 0 : Value) :: (.bool false : Value) :: (.int .i64 0 : Value) :: (.string ⟨#[]⟩ : Value) :: (.int .i64 0 : Value) :: (.int .i64 0 : Value) :: (.string ⟨#[]⟩ : Value) :: (.int .i64 0 : Value) :: (.int .i64 0 : Value) :: (.slice none 0 0 : Value) :: (.int .i64 0 : Value) :: (.string ⟨#[]⟩ : Value) :: (.slice none 0 0 : Value) :: (.int .i64 0 : Value) :: (.int .i64 0 : Value) :: (.slice none 0 0 : Value) :: (.slice none 0 0 : Value) :: (.int .i64 er : Value) :: []).toArray

theorem drew_alloc_size (w : World) (o : Obj) : (w.alloc o).drew.heap.size = w.heap.size + 1 := by
  show (w.alloc o).heap.size = _
  simp

/-- The client has the map. -/
def Stepped (sk si boot mons tries num : Int) (ans : Value) (c : Nat) (w : World) (en : Ending) (w' : World) : Prop :=
  ∃ o co p cp b cb i ci x cx, en = .returned (.slice none 0 0) ∧
    Blk w' c 82 (clientCells sk si boot mons tries (.int .i64 1) (.slice (some ⟨o, 0, none⟩) 1 co) (.slice (some ⟨p, 0, none⟩) 1 cp) (.slice (some ⟨b, 0, none⟩) 1 cb) (.int .i64 0) num (.pointer none) ans) ∧
    M1 w' o co p cp b cb i ci x cx ∧ o ≠ c ∧ p ≠ c ∧ b ≠ c ∧ i ≠ c ∧ x ≠ c ∧ Ch (· = c) w w'

set_option maxHeartbeats 4000000 in
set_option maxRecDepth 100000 in
theorem step_maps (sk si boot mons tries num : Int) (ans : Value) (c q h hc i ci x cx : Nat) (w : World) (hbt : 0 < boot)
    (hcl : Blk w c 82 (clientCells sk si boot mons tries (.int .i64 0) (.slice none 0 0) (.slice none 0 0) (.slice none 0 0) (.int .i64 0) num (.pointer none) ans))
    (hq : Blk w q 85 #[.int .i64 1, .slice (some ⟨h, 0, none⟩) 3 hc]) (hi : IncC w h i ci x cx) :
    Calls Try.prog 6 #[.pointer (some ⟨c, 0, none⟩), .agg (mapsArr sk si q)] w (Stepped sk si boot mons tries num ans c w) := by
  have HC := hide hcl
  have HQ := hide hq
  have HI := hide hi
  have lc := hcl.lt
  clear hcl hq hi
  go_enter Try.func6, Try.ntmps6
  go_wp2_with fail
  obtain ⟨W, hW, hg, k⟩ := mk1 w 58 _
  rw [← hW]
  clear hW
  have HK := hide k
  have HG := hide hg
  have H' : Hid (∀ w', Gr W w' → w'.cell? ⟨c, 0, none⟩ = some (.int .i64 sk) ∧ w'.cell? ⟨c, 1, none⟩ = some (.int .i64 si) ∧ w'.cell? ⟨c, 2, none⟩ = some (.int .i64 boot) ∧ w'.cell? ⟨w.heap.size, 3, none⟩ = some (.int .i64 sk) ∧ w'.cell? ⟨w.heap.size, 4, none⟩ = some (.int .i64 si)) := fun w' h1 =>
    ⟨(HC.out.gr (hg.gr h1)).cell 0, (HC.out.gr (hg.gr h1)).cell 1, (HC.out.gr (hg.gr h1)).cell 2, (k.gr h1).cell 3, (k.gr h1).cell 4⟩
  obtain ⟨d0, d1, d2, d3, d4⟩ := H'.out W (Ch.refl _ _)
  have kl := k.lt
  clear k hg
  go_region_held3 (fun w' => w'.cell? ⟨c, 0, none⟩ = some (.int .i64 sk) ∧ w'.cell? ⟨c, 1, none⟩ = some (.int .i64 si) ∧ w'.cell? ⟨c, 2, none⟩ = some (.int .i64 boot) ∧ w'.cell? ⟨w.heap.size, 3, none⟩ = some (.int .i64 sk) ∧ w'.cell? ⟨w.heap.size, 4, none⟩ = some (.int .i64 si)) (first | go_keep)
    (first | (go_at_call 15; refine (made_any boot hbt (by assumption)).mono ?_; rintro e' w1 ⟨rfl, rfl⟩))
  have HGd : Hid (Gr W W.drew) := (Ch.refl _ _).drew
  generalize W.drew = W1 at *
  have K1 := HK.out.gr HGd.out
  have C1 := HC.out.gr (HG.out.gr HGd.out)
  have Q1 := HQ.out.gr (HG.out.gr HGd.out)
  have m0 := K1.cell 0
  have m1 := K1.cell 1
  have m13 := K1.cell 13
  have ml := K1.lt
  have c5 := C1.cell 5
  have cl := C1.lt
  have q0 := Q1.cell 0
  have q1 := Q1.cell 1
  have ql := Q1.lt
  simp at m0 m1 m13 c5 q0 q1
  clear K1 C1 Q1
  go_wp2_with fail
  refine wp_loop_rounds 2 ?_
  rw [rounds_succ]
  go_wp2_with fail
  obtain ⟨E, hE, hgE, kE⟩ := mk1 W1 85 _
  rw [← hE]
  clear hE d0 d1 d2 d3 d4 m0 m1 m13 ml c5 cl q0 q1 ql
  have HGE := hide (HGd.out.gr hgE)
  have hsE := hgE.size
  have hsW1 := HGd.out.size
  have hsW := HG.out.size
  have kEl := kE.lt
  have HCE := hide (HC.out.gr (HG.out.gr HGE.out))
  have c5 := HCE.out.cell 5
  have cl := HCE.out.lt
  have e0 := kE.cell 0
  simp at c5 e0
  have HE := hide kE
  have hd : decide ((1 : Int) ≤ 0) = false := by decide
  clear hgE kE
  go_region_held3 (fun w' => w'.cell? ⟨c, 5, none⟩ = some (.int .i64 0) ∧ w'.cell? ⟨W1.heap.size, 0, none⟩ = some (.int .i64 1)) (first | go_keep) (fail)
  have HEd : Hid (Gr E E.drew) := (Ch.refl _ _).drew
  have hsEd : E.heap.size ≤ E.drew.heap.size := Nat.le_refl _
  generalize E.drew = E1 at *
  clear c5 e0 hd
  go_wp2_with fail
  have S' : Hid (∀ w', Gr E1 w' → w'.cell? ⟨c, 5, none⟩ = some (.int .i64 0) ∧ w'.cell? ⟨c, 6, none⟩ = some (.slice none 0 0) ∧ w'.cell? ⟨c, 7, none⟩ = some (.slice none 0 0) ∧ w'.cell? ⟨c, 8, none⟩ = some (.slice none 0 0) ∧ w'.cell? ⟨c, 9, none⟩ = some (.int .i64 0) ∧ w'.cell? ⟨W1.heap.size, 0, none⟩ = some (.int .i64 1) ∧ w'.cell? ⟨W1.heap.size, 1, none⟩ = some (.slice (some ⟨h, 0, none⟩) 3 hc)) := fun w' h1 =>
    ⟨(HCE.out.gr (HEd.out.gr h1)).cell 5, (HCE.out.gr (HEd.out.gr h1)).cell 6, (HCE.out.gr (HEd.out.gr h1)).cell 7, (HCE.out.gr (HEd.out.gr h1)).cell 8, (HCE.out.gr (HEd.out.gr h1)).cell 9, (HE.out.gr (HEd.out.gr h1)).cell 0, (HE.out.gr (HEd.out.gr h1)).cell 1⟩
  obtain ⟨c5, c6, c7, c8, c9, e0, e1⟩ := S'.out E1 (Ch.refl _ _)
  have hg0 : Hid (Gr E1 E1.drew) := (Ch.refl _ _).drew
  have hneC : E1.heap.size ≠ c := by omega
  have hneC' : c ≠ E1.heap.size := by omega
  have hneE : E1.heap.size ≠ W1.heap.size := by omega
  have hneE' : W1.heap.size ≠ E1.heap.size := by omega
  go_region_held3 (fun w' => w'.cell? ⟨c, 5, none⟩ = some (.int .i64 0) ∧ w'.cell? ⟨c, 6, none⟩ = some (.slice none 0 0) ∧ w'.cell? ⟨c, 7, none⟩ = some (.slice none 0 0) ∧ w'.cell? ⟨c, 8, none⟩ = some (.slice none 0 0) ∧ w'.cell? ⟨c, 9, none⟩ = some (.int .i64 0) ∧ w'.cell? ⟨W1.heap.size, 0, none⟩ = some (.int .i64 1) ∧ w'.cell? ⟨W1.heap.size, 1, none⟩ = some (.slice (some ⟨h, 0, none⟩) 3 hc)) (first | go_keep | exact S'.out _ hg1.out | exact S'.out _ (hg1.out.alloc _))
    (first
      | (go_at_call 16
         refine (apply_one h hc i ci x cx _ (HI.out.gr (HG.out.gr (HGE.out.gr (HEd.out.gr (by first | exact hg0.out | exact ((Ch.refl _ E1).alloc _).drew)))))).mono ?_
         rintro e' w2 ⟨o, co, p, cp, b, cb, i', ci', x', cx', rfl, hM, on, pn, bn, hin, xn, hgr⟩
         first
           | (have hbn : Blk w2 E1.heap.size 72 #[.int .i64 0, .slice none 0 0, .slice none 0 0, .slice none 0 0, .int .i64 0] := ((Blk.new E1 72 #[.int .i64 0, .slice none 0 0, .slice none 0 0, .slice none 0 0, .int .i64 0]).drew).gr hgr
              have hg1 : Hid (Gr E1 w2) := (((Ch.refl _ E1).alloc (.cells #[.int .i64 0, .slice none 0 0, .slice none 0 0, .slice none 0 0, .int .i64 0] 72)).drew).gr hgr
              have hl3 : E1.heap.size ≤ w2.heap.size := hg1.out.size
              have hl1 : c < w2.heap.size := by omega
              have hl2 : W1.heap.size < w2.heap.size := by omega
              have z0 := hbn.cell 0
              have z1 := hbn.cell 1
              have z2 := hbn.cell 2
              have z3 := hbn.cell 3
              have z4 := hbn.cell 4
              have zf := hbn.frozen
              have zl := hbn.lt
              simp at z0 z1 z2 z3 z4
              have HM := hide hM
              have HB := hide hbn
              rw [drew_alloc_size] at on pn bn hin xn
              clear hgr hbn hM)
           | (have hg1 : Hid (Gr E1 w2) := hg0.out.gr hgr
              have hl3 : E1.heap.size ≤ w2.heap.size := hg1.out.size
              have hl1 : c < w2.heap.size := by omega
              have hl2 : W1.heap.size < w2.heap.size := by omega
              have HM := hide hM
              have on : E1.heap.size ≤ o := on
              have pn : E1.heap.size ≤ p := pn
              have bn : E1.heap.size ≤ b := bn
              have hin : E1.heap.size ≤ i' := hin
              have xn : E1.heap.size ≤ x' := xn
              clear hgr hM)))
  all_goals
    first
      | (obtain ⟨X, hX, hcX, kX⟩ := sets5 HB.out (.int .i64 1) (.slice (some ⟨o, 0, none⟩) 1 co) (.slice (some ⟨p, 0, none⟩) 1 cp) (.slice (some ⟨b, 0, none⟩) 1 cb) (.int .i64 0)
         rw [← hX]
         have HGX : Hid (Gr E1 X) := hg1.out.trans hcX (fun i hi h => by omega)
         have HMX : Hid (M1 X o co p cp b cb i' ci' x' cx') := HM.out.ch hcX (by omega) (by omega) (by omega) (by omega) (by omega)
         clear hcX)
      | (obtain ⟨X, hX, hgX, kX⟩ := mk1 w2 72 #[.int .i64 1, .slice (some ⟨o, 0, none⟩) 1 co, .slice (some ⟨p, 0, none⟩) 1 cp, .slice (some ⟨b, 0, none⟩) 1 cb, .int .i64 0]
         rw [← hX]
         have HGX : Hid (Gr E1 X) := hg1.out.gr hgX
         have HMX : Hid (M1 X o co p cp b cb i' ci' x' cx') := HM.out.gr hgX
         clear hgX)
    clear hX
    have hsX := HGX.out.size
    have HCX := hide (HCE.out.gr (HEd.out.gr HGX.out))
    have k0 := kX.cell 0
    have k1 := kX.cell 1
    have k2 := kX.cell 2
    have k3 := kX.cell 3
    have k4 := kX.cell 4
    have kl := kX.lt
    have d2 := HCX.out.cell 2
    have d5 := HCX.out.cell 5
    have d6 := HCX.out.cell 6
    have d7 := HCX.out.cell 7
    have d8 := HCX.out.cell 8
    have d9 := HCX.out.cell 9
    have d11 := HCX.out.cell 11
    have dl := HCX.out.lt
    have df := HCX.out.frozen
    simp at k0 k1 k2 k3 k4 d2 d5 d6 d7 d8 d9 d11
    clear kX
    go_wp2_with fail
    rw [rounds_succ]
    have mkY : ∃ Y, Y = ((((X.setCell ⟨c, 5, none⟩ (.int .i64 1)).setCell ⟨c, 6, none⟩ (.slice (some ⟨o, 0, none⟩) 1 co)).setCell ⟨c, 7, none⟩ (.slice (some ⟨p, 0, none⟩) 1 cp)).setCell ⟨c, 8, none⟩ (.slice (some ⟨b, 0, none⟩) 1 cb)).setCell ⟨c, 9, none⟩ (.int .i64 0) ∧ Ch (· = c) X Y ∧
        Blk Y c 82 (clientCells sk si boot mons tries (.int .i64 1) (.slice (some ⟨o, 0, none⟩) 1 co) (.slice (some ⟨p, 0, none⟩) 1 cp) (.slice (some ⟨b, 0, none⟩) 1 cb) (.int .i64 0) num (.pointer none) ans) :=
      ⟨_, rfl, (((((Ch.refl (· = c) X).set (p := ⟨c, 5, none⟩) (.inl rfl) _).set (p := ⟨c, 6, none⟩) (.inl rfl) _).set (p := ⟨c, 7, none⟩) (.inl rfl) _).set (p := ⟨c, 8, none⟩) (.inl rfl) _).set (p := ⟨c, 9, none⟩) (.inl rfl) _,
        by simpa using ((((HCX.out.set_ 5 (.int .i64 1)).set_ 6 (.slice (some ⟨o, 0, none⟩) 1 co)).set_ 7 (.slice (some ⟨p, 0, none⟩) 1 cp)).set_ 8 (.slice (some ⟨b, 0, none⟩) 1 cb)).set_ 9 (.int .i64 0)⟩
    obtain ⟨Y, hY, hcY, kY⟩ := mkY
    rw [← hY]
    have g5 := kY.cell 5
    have g11 := kY.cell 11
    have gl := kY.lt
    simp at g5 g11
    have HF : Hid (Stepped sk si boot mons tries num ans c w (.returned (.slice none 0 0)) Y) :=
      ⟨o, co, p, cp, b, cb, i', ci', x', cx', rfl, kY, HMX.out.ch hcY (by omega) (by omega) (by omega) (by omega) (by omega), by omega, by omega, by omega, by omega, by omega,
        (Gr.any (HG.out.gr (HGE.out.gr (HEd.out.gr HGX.out))) : Ch (· = c) w X).trans hcY (fun i _ h => h)⟩
    clear hY kY hcY d2 d5 d6 d7 d8 d9 d11 dl df k0 k1 k2 k3 k4 kl
    go_wp2
    go_ret
    exact HF.out

end Go.Proofs.Ythjficahhcjfgaa
