/-
  The client's ended, Answer, begin.
-/
import Derived.Test.YthjficahhcjfgaaBoot
namespace Go.Proofs.Ythjficahhcjfgaa
open Go.RowKit

/-- What is under way has its answer. -/
def Ended (sk si boot mons tries : Int) (me mo mp mb ml : Value) (num : Int) (acs : Array Value) (c : Nat) (w : World) (e : Ending) (w' : World) : Prop :=
  ∃ a, e = .returned (.tuple #[]) ∧ Blk w' c 82 (clientCells sk si boot mons tries me mo mp mb ml num (.pointer none) (.pointer (some ⟨a, 0, none⟩))) ∧ Blk w' a 63 acs ∧ w.heap.size ≤ a ∧ Ch (· = c) w w'

set_option maxHeartbeats 1000000 in
set_option maxRecDepth 100000 in
theorem ended_any (sk si boot mons tries num : Int) (me mo mp mb ml now ans : Value) (a0 a1 a2 a3 a4 a5 : Value) (c : Nat) (w : World) (hc : Blk w c 82 (clientCells sk si boot mons tries me mo mp mb ml num now ans)) :
    Calls Try.prog 18 #[.pointer (some ⟨c, 0, none⟩), .agg #[a0, a1, a2, a3, a4, a5]] w (Ended sk si boot mons tries me mo mp mb ml num #[a0, a1, a2, a3, a4, a5] c w) := by
  have c11 := hc.cell 11
  have c12 := hc.cell 12
  have f0 := hc.frozen
  have lc := hc.lt
  simp at c11 c12
  have hfin : ∀ a : Array Value, Ended sk si boot mons tries me mo mp mb ml num a c w (.returned (.tuple #[])) (((w.setCell ⟨c, 11, none⟩ (.pointer none)).setCell ⟨c, 12, none⟩ (.pointer (some ⟨w.heap.size, 0, none⟩))).alloc (.cells a 63)) := fun a =>
    ⟨w.heap.size, rfl, by simpa using ((hc.set_ 11 (.pointer none)).set_ 12 (.pointer (some ⟨w.heap.size, 0, none⟩))).alloc (.cells a 63),
      Blk.new_ ((w.setCell ⟨c, 11, none⟩ (.pointer none)).setCell ⟨c, 12, none⟩ (.pointer (some ⟨w.heap.size, 0, none⟩))) 63 a w.heap.size (by simp), Nat.le_refl _,
      (((Ch.refl (· = c) w).set (p := ⟨c, 11, none⟩) (.inl rfl) _).set (p := ⟨c, 12, none⟩) (.inl rfl) _).alloc _⟩
  have HF := hide hfin
  clear hfin hc
  go_enter Try.func18, Try.ntmps18
  go_wp2
  go_end0
  exact HF.out _

set_option maxHeartbeats 1000000 in
set_option maxRecDepth 100000 in
theorem answer_none (boot : Int) (c : Nat) (w : World) (hb : 0 < boot) (lc : c < w.heap.size) (h2 : w.cell? ⟨c, 2, none⟩ = some (.int .i64 boot)) (h12 : w.cell? ⟨c, 12, none⟩ = some (.pointer none)) :
    Calls Try.prog 10 #[.pointer (some ⟨c, 0, none⟩)] w fun e w' => e = .returned (.tuple #[.agg #[.int .i64 0, .string ⟨#[]⟩, .int .i64 0, .int .i64 0, .slice none 0 0, .slice none 0 0], .bool false]) ∧ Gr w w' := by
  have mk : ∀ a : Array Value, ∃ W, W = w.alloc (.cells a 63) ∧ Gr w W ∧ W.cell? ⟨c, 2, none⟩ = some (.int .i64 boot) ∧ W.cell? ⟨c, 12, none⟩ = some (.pointer none) ∧ Blk W w.heap.size 63 a := fun a =>
    have g : Gr w (w.alloc (.cells a 63)) := (Ch.refl _ w).alloc _
    ⟨_, rfl, g, (g.cell (p := ⟨c, 2, none⟩) lc (fun f => f)).trans h2, (g.cell (p := ⟨c, 12, none⟩) lc (fun f => f)).trans h12, Blk.new _ _ _⟩
  go_enter Try.func10, Try.ntmps10
  go_wp2_with fail
  obtain ⟨W, hW, hg, q2, q12, k⟩ := mk _
  rw [← hW]
  clear hW mk h2 h12
  refine (made_any boot hb q2).mono ?_
  rintro e w' ⟨rfl, rfl⟩
  have k0 := k.cell 0
  have k1 := k.cell 1
  have k2 := k.cell 2
  have k3 := k.cell 3
  have k4 := k.cell 4
  have k5 := k.cell 5
  have kl := k.lt
  have kf := k.frozen
  simp at k0 k1 k2 k3 k4 k5
  clear k
  go_wp2
  have hs : ∀ (u : Nat) (v : Value) (W' : World), Gr w W' → Gr w (W'.setCell ⟨w.heap.size, u, none⟩ v) := fun u v W' h => h.set (p := ⟨w.heap.size, u, none⟩) (.inr (Nat.le_refl _)) v
  refine bodyPost_ret (v := .tuple #[.agg #[.int .i64 0, .string ⟨#[]⟩, .int .i64 0, .int .i64 0, .slice none 0 0, .slice none 0 0], .bool false]) (by simp [results, Try.results10, go_sem, k0, k1, k2, k3, k4, k5, kl]) rfl ⟨rfl, ?_⟩
  exact hs _ _ _ (hs _ _ _ (hs _ _ _ (hs _ _ _ (hs _ _ _ (hs _ _ _ hg)))))

/-- The answer was fetched. -/
def Fetched (sk si boot mons tries : Int) (me mo mp mb ml now : Value) (num : Int) (acs : Array Value) (c : Nat) (w : World) (e : Ending) (w' : World) : Prop :=
  e = .returned (.tuple #[.agg acs, .bool true]) ∧ Blk w' c 82 (clientCells sk si boot mons tries me mo mp mb ml num now (.pointer none)) ∧ Ch (· = c) w w'

set_option maxHeartbeats 1000000 in
set_option maxRecDepth 100000 in
theorem answer_some (sk si boot mons tries num : Int) (me mo mp mb ml now : Value) (er : Int) (nm : ByteArray) (v1 v2 : Int) (dA : Option Addr) (dn dc : Nat) (nA : Option Addr) (nn nc : Nat) (c a : Nat) (w : World) (hb : 0 < boot)
    (hc : Blk w c 82 (clientCells sk si boot mons tries me mo mp mb ml num now (.pointer (some ⟨a, 0, none⟩)))) (ha : Blk w a 63 #[.int .i64 er, .string nm, .int .i64 v1, .int .i64 v2, .slice dA dn dc, .slice nA nn nc]) :
    Calls Try.prog 10 #[.pointer (some ⟨c, 0, none⟩)] w (Fetched sk si boot mons tries me mo mp mb ml now num #[.int .i64 er, .string nm, .int .i64 v1, .int .i64 v2, .slice dA dn dc, .slice nA nn nc] c w) := by
  have c2 := hc.cell 2
  have c12 := hc.cell 12
  have f0 := hc.frozen
  have lc := hc.lt
  have la := ha.lt
  have e0 := ha.cell 0
  have e1 := ha.cell 1
  have e2 := ha.cell 2
  have e3 := ha.cell 3
  have e4 := ha.cell 4
  have e5 := ha.cell 5
  simp at c2 c12 e0 e1 e2 e3 e4 e5
  have HC := hide hc
  clear hc ha
  have mk : ∀ a : Array Value, ∃ W, W = w.alloc (.cells a 63) ∧ Gr w W ∧ Blk W w.heap.size 63 a := fun a => ⟨_, rfl, (Ch.refl _ w).alloc _, Blk.new _ _ _⟩
  go_enter Try.func10, Try.ntmps10
  go_wp2_with fail
  obtain ⟨W, hW, hg, k⟩ := mk _
  rw [← hW]
  clear hW mk
  have q2 : W.cell? ⟨c, 2, none⟩ = some (.int .i64 boot) := (hg.cell (p := ⟨c, 2, none⟩) lc (fun f => f)).trans c2
  have q12 : W.cell? ⟨c, 12, none⟩ = some (.pointer (some ⟨a, 0, none⟩)) := (hg.cell (p := ⟨c, 12, none⟩) lc (fun f => f)).trans c12
  have a0 : W.cell? ⟨a, 0, none⟩ = _ := (hg.cell (p := ⟨a, 0, none⟩) la (fun f => f)).trans e0
  have a1 : W.cell? ⟨a, 1, none⟩ = _ := (hg.cell (p := ⟨a, 1, none⟩) la (fun f => f)).trans e1
  have a2 : W.cell? ⟨a, 2, none⟩ = _ := (hg.cell (p := ⟨a, 2, none⟩) la (fun f => f)).trans e2
  have a3 : W.cell? ⟨a, 3, none⟩ = _ := (hg.cell (p := ⟨a, 3, none⟩) la (fun f => f)).trans e3
  have a4 : W.cell? ⟨a, 4, none⟩ = _ := (hg.cell (p := ⟨a, 4, none⟩) la (fun f => f)).trans e4
  have a5 : W.cell? ⟨a, 5, none⟩ = _ := (hg.cell (p := ⟨a, 5, none⟩) la (fun f => f)).trans e5
  clear e0 e1 e2 e3 e4 e5 c2 c12
  refine (made_any boot hb q2).mono ?_
  rintro e w' ⟨rfl, rfl⟩
  have HK := hide k
  have HG := hide hg
  have kl := k.lt
  have kf := k.frozen
  have fW := (HC.out.gr hg).frozen
  have lW := (HC.out.gr hg).lt
  have k0 := k.cell 0
  have k1 := k.cell 1
  have k2 := k.cell 2
  have k3 := k.cell 3
  have k4 := k.cell 4
  have k5 := k.cell 5
  simp at k0 k1 k2 k3 k4 k5
  clear k hg
  have n1 : w.heap.size ≠ W.heap.size := by omega
  have n2 : c ≠ W.heap.size := by omega
  have n3 : W.heap.size ≠ c := by omega
  have n4 : w.heap.size ≠ c := by omega
  have n5 : c ≠ w.heap.size := by omega
  have n6 : W.heap.size ≠ w.heap.size := by omega
  go_wp2
  have hs : ∀ (u : Nat) (v : Value) (W' : World), Ch (· = c) w W' ∧ Blk W' c 82 (clientCells sk si boot mons tries me mo mp mb ml num now (.pointer none)) → Ch (· = c) w (W'.setCell ⟨w.heap.size, u, none⟩ v) ∧ Blk (W'.setCell ⟨w.heap.size, u, none⟩ v) c 82 (clientCells sk si boot mons tries me mo mp mb ml num now (.pointer none)) :=
    fun u v W' h => ⟨h.1.set (p := ⟨w.heap.size, u, none⟩) (.inr (Nat.le_refl _)) v, h.2.far (p := ⟨w.heap.size, u, none⟩) n5 v⟩
  have h0 : Ch (· = c) w (W.setCell ⟨c, 12, none⟩ (.pointer none)) ∧ Blk (W.setCell ⟨c, 12, none⟩ (.pointer none)) c 82 (clientCells sk si boot mons tries me mo mp mb ml num now (.pointer none)) :=
    ⟨(HG.out.any : Ch (· = c) w W).set (p := ⟨c, 12, none⟩) (.inl rfl) _, by simpa using (HC.out.gr HG.out).set_ 12 (.pointer none)⟩
  refine bodyPost_ret (v := .tuple #[.agg #[.int .i64 er, .string nm, .int .i64 v1, .int .i64 v2, .slice dA dn dc, .slice nA nn nc], .bool true]) (by simp [results, Try.results10, go_sem, k0, k1, k2, k3, k4, k5, kl, n1, n6, World.cell?_alloc_some]) rfl ⟨rfl, ?_⟩
  have hz := hs 5 (.slice nA nn nc) _ (hs 4 (.slice dA dn dc) _ (hs 3 (.int .i64 v2) _ (hs 2 (.int .i64 v1) _ (hs 1 (.string nm) _ (hs 0 (.int .i64 er) _ h0)))))
  exact ⟨hz.2.alloc _, hz.1.alloc _⟩

end Go.Proofs.Ythjficahhcjfgaa
