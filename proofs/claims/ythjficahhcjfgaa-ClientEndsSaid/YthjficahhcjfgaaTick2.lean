/-
  The client's last Tick: the answer is 'unknown'.
-/
import Derived.Test.YthjficahhcjfgaaTick
namespace Go.Proofs.Ythjficahhcjfgaa
open Go.RowKit

/-- The last tick: it has its answer. -/
def TickEnd (sk si boot tries : Int) (N : Nat) (me mo mp mb ml : Value) (num : Int) (c n : Nat) (w : World) (e : Ending) (w' : World) : Prop :=
  Ticked boot w e w' ∧ ∃ a, Blk w' c 82 (clientCells sk si boot N tries me mo mp mb ml num (.pointer none) (.pointer (some ⟨a, 0, none⟩))) ∧ Blk w' a 63 #[.int .i64 110, .string ⟨#[]⟩, .int .i64 0, .int .i64 0, .slice none 0 0, .slice none 0 0] ∧ w.heap.size ≤ a ∧ Ch (fun i => i = c ∨ i = n) w w'

set_option maxHeartbeats 4000000 in
set_option maxRecDepth 100000 in
theorem tick_last (sk si boot tries kind x1 x2 tr : Int) (N : Nat) (s : ByteArray) (data : Value) (mo mp mb ml ans : Value) (num : Int) (c n : Nat) (w : World) (hbt : 0 < boot) (hN : 1 ≤ N) (hN5 : N ≤ 5)
    (hc : Blk w c 82 (clientCells sk si boot N tries (.int .i64 1) mo mp mb ml num (.pointer (some ⟨n, 0, none⟩)) ans))
    (hn : Blk w n 89 (opCells 0 0 kind s data x1 x2 1 tr)) (h0 : 0 ≤ tr) (ht : tries < tr + 1) (ht2 : tr ≤ 200) :
    Calls Try.prog 11 #[.pointer (some ⟨c, 0, none⟩)] w (TickEnd sk si boot tries N (.int .i64 1) mo mp mb ml num c n w) := by
  have c0 := hc.cell 0
  have c1 := hc.cell 1
  have c2 := hc.cell 2
  have c3 := hc.cell 3
  have c5 := hc.cell 5
  simp at c0 c1 c2 c3 c5
  have lc := hc.lt
  have HC := hide hc
  have HN := hide hn
  clear hc hn
  go_enter Try.func11, Try.ntmps11
  go_wp2_with (first
    | (go_at_call 15; refine (made_any boot hbt c2).mono ?_; rintro e w' ⟨rfl, rfl⟩)
    | fail)
  refine (boot_any sk si boot 1 N c w hN hN5 hbt lc c0 c1 c2 c3 c5).mono ?_
  rintro e w1 ⟨g1, cap1, ys, rfl, hown, hys, hg1⟩
  have cne : c ≠ n := HC.out.ne_ HN.out (by decide)
  have d3 := (HC.out.gr hg1).cell 4
  have d11 := (HC.out.gr hg1).cell 11
  have dl := (HC.out.gr hg1).lt
  have n10 := (HN.out.gr hg1).cell 10
  have nl := (HN.out.gr hg1).lt
  have nf := (HN.out.gr hg1).frozen
  simp at d3 d11 n10
  have HO := hide hown
  have HY := hide hys
  have HG1 := hide hg1
  have mk2 : ∀ v : Value, ∃ W2 : World, W2 = w1.setCell ⟨n, 10, none⟩ v ∧ Ch (· = n) w1 W2 := fun v => ⟨_, rfl, (Ch.refl (· = n) w1).set (p := ⟨n, 10, none⟩) (.inl rfl) v⟩
  clear hown hys hg1 c0 c1 c2 c3 c5
  have hw : IntKind.i64.wrap (tr + 1) = tr + 1 := by
    rw [IntKind.wrap_i64]; omega
  have hd : decide (tries < tr + 1) = true := by simp; omega
  go_wp2_with fail
  obtain ⟨W2, hW2, hc2⟩ := mk2 (.int .i64 (tr + 1))
  have hB2 : Blk W2 n 89 (opCells 0 0 kind s data x1 x2 1 (tr + 1)) := by rw [hW2]; simpa using (HN.out.gr HG1.out).set_ 10 (.int .i64 (tr + 1))
  rw [← hW2]
  clear hW2 mk2 d3 d11 n10 dl nl nf
  have HC2 := hide ((HC.out.gr HG1.out).ch hc2 cne)
  have d4 := HC2.out.cell 4
  have d11 := HC2.out.cell 11
  have n10 := hB2.cell 10
  simp at d4 d11 n10
  have HB2 := hide hB2
  have HG2 : Hid (Ch (· = n) w W2) := (HG1.out.any : Ch (· = n) w w1).trans hc2 (fun i _ h => h)
  have hg2s := hc2.size
  have HO2 : Hid (W2.ownsRow w.heap.size 58 46 (.slice (some ⟨g1, 0, none⟩) N cap1) N ys) := own_ch HO.out hc2 (by have := (own_lt HO.out).1; have := HN.out.lt; show ¬ (g1 = n); omega)
  clear hB2 hc2
  go_region_held3 (fun w' => w'.cell? ⟨c, 4, none⟩ = some (.int .i64 tries) ∧ w'.cell? ⟨c, 11, none⟩ = some (.pointer (some ⟨n, 0, none⟩)) ∧ w'.cell? ⟨n, 10, none⟩ = some (.int .i64 (tr + 1))) (first | go_keep) (fail)
  have HC3 : Hid (Blk W2.drew c 82 (clientCells sk si boot N tries (.int .i64 1) mo mp mb ml num (.pointer (some ⟨n, 0, none⟩)) ans)) := HC2.out.drew
  go_wp2_with fail
  refine (ended_any sk si boot N tries num _ mo mp mb ml _ ans _ _ _ _ _ _ c W2.drew HC3.out).mono ?_
  rintro e w3 ⟨a, rfl, hcl, han, hal, hch⟩
  have hs2 := HG2.out.size
  have hal' : W2.heap.size ≤ a := hal
  have hg1l := own_lt HO.out
  have HF : Hid (TickEnd sk si boot tries N (.int .i64 1) mo mp mb ml num c n w (.returned (.slice (some ⟨g1, 0, none⟩) N cap1)) w3) :=
    ⟨⟨g1, cap1, N, ys, rfl, own_ch HO2.out (Ch.trans ((Ch.refl (· = c) W2).drew) hch (fun i _ h => h) : Ch (· = c) W2 w3) (by show ¬ (g1 = c); omega), hN, by omega, asks_boot HY.out⟩, a, hcl, han, by omega,
      (HG2.out.mono (fun i _ h => .inr h) : Ch (fun i => i = c ∨ i = n) w W2).trans ((Ch.refl (· = c) W2).drew.trans hch (fun i _ h => h)) (fun i _ h => .inl h)⟩
  clear hcl han hal hch
  go_wp2
  go_ret
  exact HF.out

end Go.Proofs.Ythjficahhcjfgaa
