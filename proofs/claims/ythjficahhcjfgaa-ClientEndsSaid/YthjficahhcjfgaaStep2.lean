/-
  The client's Step: the reply comes.
-/
import Derived.Test.YthjficahhcjfgaaStep
namespace Go.Proofs.Ythjficahhcjfgaa
open Go.RowKit

theorem run_append_none (ty : TypeId) (w : World) : (Builtin.append_ #[26, 26] ty #[.slice none 0 0, .slice none 0 0]).run Try.prog w = .ok (.slice none 0 0) w := by
  obtain ⟨i0, hi0, hz0, hz1, hz2⟩ := info_parts info5
  simp [Builtin.append_, run_underlying Try.underlying26, sizeOf, typeInfo, hi0, Builtin.lenOf, Builtin.firstCells]

theorem info9 : (Try.prog.info? 9).map (fun i => (i.zero, i.size, i.bytes)) = some (some (.string ⟨#[]⟩), 1, 16) := by kernel_rfl

theorem run_append_none9 (ty : TypeId) (w : World) : (Builtin.append_ #[56, 56] ty #[.slice none 0 0, .slice none 0 0]).run Try.prog w = .ok (.slice none 0 0) w := by
  obtain ⟨i0, hi0, hz0, hz1, hz2⟩ := info_parts info9
  simp [Builtin.append_, run_underlying Try.underlying56, sizeOf, typeInfo, hi0, Builtin.lenOf, Builtin.firstCells]

/-- The reply is the answer. -/
def Replied (sk si boot mons tries : Int) (me mo mp mb ml : Value) (num er : Int) (c : Nat) (w : World) (e : Ending) (w' : World) : Prop :=
  ∃ a, e = .returned (.slice none 0 0) ∧ Blk w' c 82 (clientCells sk si boot mons tries me mo mp mb ml num (.pointer none) (.pointer (some ⟨a, 0, none⟩))) ∧ Blk w' a 63 #[.int .i64 er, .string ⟨#[]⟩, .int .i64 0, .int .i64 0, .slice none 0 0, .slice none 0 0] ∧ w.heap.size ≤ a ∧ Ch (· = c) w w'

set_option maxHeartbeats 4000000 in
set_option maxRecDepth 100000 in
theorem step_reply (sk si boot mons tries num er fi g1 g2 kind x1 x2 tr : Int) (s : ByteArray) (data : Value) (me mo mp mb ml ans : Value) (c n : Nat) (w : World) (hbt : 0 < boot) (her : ¬ er = 11)
    (hcl : Blk w c 82 (clientCells sk si boot mons tries me mo mp mb ml num (.pointer (some ⟨n, 0, none⟩)) ans)) (hn : Blk w n 89 (opCells g1 g2 kind s data x1 x2 1 tr)) :
    Calls Try.prog 6 #[.pointer (some ⟨c, 0, none⟩), .agg (replyArr 2 fi sk si boot er)] w (Replied sk si boot mons tries me mo mp mb ml num er c w) := by
  have HC := hide hcl
  have HN := hide hn
  have lc := hcl.lt
  have ha5 := run_append_none
  have ha9 := run_append_none9
  clear hcl hn
  go_enter Try.func6, Try.ntmps6
  go_wp2_with fail
  obtain ⟨W, hW, hg, k⟩ := mk1 w 58 _
  rw [← hW]
  clear hW
  have HK := hide k
  have HG := hide hg
  have H' : Hid (∀ w', Gr W w' → w'.cell? ⟨c, 0, none⟩ = some (.int .i64 sk) ∧ w'.cell? ⟨c, 1, none⟩ = some (.int .i64 si) ∧ w'.cell? ⟨c, 2, none⟩ = some (.int .i64 boot) ∧ w'.cell? ⟨w.heap.size, 3, none⟩ = some (.int .i64 sk) ∧ w'.cell? ⟨w.heap.size, 4, none⟩ = some (.int .i64 si)) := fun w' h1 =>
    ⟨(HC.out.gr (hg.gr h1)).cell 0, (HC.out.gr (hg.gr h1)).cell 1, (HC.out.gr (hg.gr h1)).cell 2, (k.gr h1).cell 3, (k.gr h1).cell 4⟩
  obtain ⟨d0, d1, d2, d3, d4⟩ := H'.out W (Ch.refl _ _)
  have kl := k.lt
  clear k hg
  go_region_held3 (fun w' => w'.cell? ⟨c, 0, none⟩ = some (.int .i64 sk) ∧ w'.cell? ⟨c, 1, none⟩ = some (.int .i64 si) ∧ w'.cell? ⟨c, 2, none⟩ = some (.int .i64 boot) ∧ w'.cell? ⟨w.heap.size, 3, none⟩ = some (.int .i64 sk) ∧ w'.cell? ⟨w.heap.size, 4, none⟩ = some (.int .i64 si)) (first | go_keep)
    (first | (go_at_call 15; refine (made_any boot hbt (by assumption)).mono ?_; rintro e' w1 ⟨rfl, rfl⟩))
  have HGd : Hid (Gr W W.drew) := (Ch.refl _ _).drew
  generalize W.drew = W1 at *
  have HCd := hide (HC.out.gr (HG.out.gr HGd.out))
  have K1 := HK.out.gr HGd.out
  have C1 := HCd.out
  have N1 := HN.out.gr (HG.out.gr HGd.out)
  have m0 := K1.cell 0
  have m1 := K1.cell 1
  have m9 := K1.cell 9
  have m10 := K1.cell 10
  have m45 := K1.cell 45
  have mlt := K1.lt
  have c2 := C1.cell 2
  have c11 := C1.cell 11
  have cl := C1.lt
  have n9 := N1.cell 9
  have nl := N1.lt
  simp at m0 m1 m9 m10 m45 c2 c11 n9
  have e1 : decide (er = 11) = false := by simp [her]
  have e2 : decide (boot = boot) = true := by simp
  clear K1 C1 N1 d0 d1 d2 d3 d4
  go_wp2_with fail
  go_quiet (fail)
  have HGn : Hid (Gr W1 (W1.drewN nq)) := (Ch.refl _ _).drewN _
  generalize W1.drewN nq = W2 at *
  have K2 := hide (HK.out.gr (HGd.out.gr HGn.out))
  have HC2 := hide (HCd.out.gr HGn.out)
  have m34 := K2.out.cell 34
  have m35 := K2.out.cell 35
  have m36 := K2.out.cell 36
  have m37 := K2.out.cell 37
  have m45' := K2.out.cell 45
  have m44 := K2.out.cell 44
  have mlt' := K2.out.lt
  simp at m34 m35 m36 m37 m45' m44
  clear m0 m1 m9 m10 m45 mlt c2 c11 cl n9 nl e1 e2
  go_wp2_with fail
  obtain ⟨E, hE, hgE, kE⟩ := mk1 W2 55 _
  rw [← hE]
  clear hE m34 m35 m36 m37 m45' m44 mlt'
  have hsE := hgE.size
  have hs1 := HG.out.size
  have hs2 := HGd.out.size
  have hs3 := HGn.out.size
  have kEl := kE.lt
  have HCE := hide (HC2.out.gr hgE)
  have KE := hide kE
  have HWE : Hid (Gr w E) := HG.out.gr (HGd.out.gr (HGn.out.gr hgE))
  have n1 : ¬ (w.heap.size = c) := by omega
  have n2 : ¬ (W2.heap.size = c) := by omega
  have S' : Hid (∀ w', Ch (· = c) E w' → w'.cell? ⟨w.heap.size, 45, none⟩ = some (.int .i64 er) ∧ w'.cell? ⟨w.heap.size, 44, none⟩ = some (.slice none 0 0) ∧ w'.cell? ⟨W2.heap.size, 0, none⟩ = some (.string ⟨#[]⟩) ∧ w'.cell? ⟨W2.heap.size, 1, none⟩ = some (.int .i64 0) ∧ w'.cell? ⟨W2.heap.size, 2, none⟩ = some (.int .i64 0) ∧ w'.cell? ⟨W2.heap.size, 3, none⟩ = some (.slice none 0 0)) := fun w' h1 =>
    ⟨((K2.out.gr hgE).ch h1 n1).cell 45, ((K2.out.gr hgE).ch h1 n1).cell 44, (kE.ch h1 n2).cell 0, (kE.ch h1 n2).cell 1, (kE.ch h1 n2).cell 2, (kE.ch h1 n2).cell 3⟩
  obtain ⟨q0, q1, q2, q3, q4, q5⟩ := S'.out E (Ch.refl _ _)
  clear hgE kE
  go_region_held3 (fun w' => w'.cell? ⟨w.heap.size, 45, none⟩ = some (.int .i64 er) ∧ w'.cell? ⟨w.heap.size, 44, none⟩ = some (.slice none 0 0) ∧ w'.cell? ⟨W2.heap.size, 0, none⟩ = some (.string ⟨#[]⟩) ∧ w'.cell? ⟨W2.heap.size, 1, none⟩ = some (.int .i64 0) ∧ w'.cell? ⟨W2.heap.size, 2, none⟩ = some (.int .i64 0) ∧ w'.cell? ⟨W2.heap.size, 3, none⟩ = some (.slice none 0 0))
    (first | go_keep | exact S'.out _ hg1.out)
    (first
      | (go_at_call 18
         refine (ended_any sk si boot mons tries num me mo mp mb ml _ ans _ _ _ _ _ _ c _ (HCE.out.drew)).mono ?_
         rintro e' w3 ⟨a, rfl, hcl, han, hal, hch⟩
         have hg1 : Hid (Ch (· = c) E w3) := ((Ch.refl (· = c) E).drew).trans hch (fun i _ h => h)
         have HFa := hide (show _ ∧ _ ∧ _ from ⟨hcl, han, hal⟩)
         clear hcl han hal hch))
  have HF : Hid (Replied sk si boot mons tries me mo mp mb ml num er c w (.returned (.slice none 0 0)) w3) :=
    ⟨a, rfl, HFa.out.1, HFa.out.2.1, by have := HFa.out.2.2; have h : E.heap.size ≤ a := this; omega, (Gr.any HWE.out : Ch (· = c) w E).trans hg1.out (fun i _ h => h)⟩
  clear q0 q1 q2 q3 q4 q5
  go_wp2
  go_ret
  exact HF.out

end Go.Proofs.Ythjficahhcjfgaa
