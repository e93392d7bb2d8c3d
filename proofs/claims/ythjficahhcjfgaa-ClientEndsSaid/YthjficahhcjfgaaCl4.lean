/-
  The client's Begin, of a map of one pool.
-/
import Derived.Test.YthjficahhcjfgaaCl3
import Derived.Test.YthjficahhcjfgaaReads2
namespace Go.Proofs.Ythjficahhcjfgaa
open Go.RowKit

/-- What Begin comes to: an error and nothing turned, or a request on its way. -/
def Begun (sk si boot mons tries kind : Int) (o co p cp b cb : Nat) (s : ByteArray) (xs : List Value) (len : Nat) (x1 x2 : Int) (c : Nat) (w : World) (e : Ending) (w' : World) : Prop :=
  (∃ er : Int, er ≠ 0 ∧ e = .returned (.tuple #[.slice none 0 0, .int .i64 er]) ∧ Gr w w' ∧ ¬ (1 ≤ kind ∧ kind ≤ 4 ∧ goodB s = true ∧ len ≤ 4096)) ∨
  (∃ g A k m n A' k', e = .returned (.tuple #[.slice (some ⟨g, 0, none⟩) 1 1, .int .i64 0]) ∧ goodB s = true ∧ len ≤ 4096 ∧ Blk w' g 58 (reqCells sk si boot 1 kind s (.slice A k m) x1 x2) ∧ w.heap.size ≤ g ∧
    Blk w' c 82 (clientCells sk si boot mons tries (.int .i64 1) (.slice (some ⟨o, 0, none⟩) 1 co) (.slice (some ⟨p, 0, none⟩) 1 cp) (.slice (some ⟨b, 0, none⟩) 1 cb) (.int .i64 0) 1 (.pointer (some ⟨n, 0, none⟩)) (.pointer none)) ∧
    Blk w' n 89 (opCells 0 0 kind s (.slice A' len k') x1 x2 1 0) ∧ Rd w' A' xs ∧ (∀ ad, A' = some ad → ad.block ≠ n ∧ ad.block ≠ c) ∧ w.heap.size ≤ n ∧ Ch (· = c) w w')

set_option maxHeartbeats 4000000 in
set_option maxRecDepth 100000 in
theorem Begin_one (sk si boot mons tries kind x1 x2 : Int) (s : ByteArray) (A : Option Addr) (len cap : Nat) (xs : List Value) (c o co p cp b cb i ci x cx : Nat) (w : World) (hbt : 0 < boot) (h : M1 w o co p cp b cb i ci x cx)
    (hc : Blk w c 82 (clientCells sk si boot mons tries (.int .i64 1) (.slice (some ⟨o, 0, none⟩) 1 co) (.slice (some ⟨p, 0, none⟩) 1 cp) (.slice (some ⟨b, 0, none⟩) 1 cb) (.int .i64 0) 0 (.pointer none) (.pointer none)))
    (hs : s.size ≤ 140737488351232) (hx : xs.length = len) (hl : len ≤ 140737488351232) (hr : Rd w A xs) (h1 : ∀ u ∈ xs, u.oneCell' = true)
    (ho : o ≠ c) (hp : p ≠ c) (hbb : b ≠ c) (hi : i ≠ c) (hxx : x ≠ c) :
    Calls Try.prog 8 #[.pointer (some ⟨c, 0, none⟩), .int .i64 1, .agg #[.int .i64 kind, .string s, .slice A len cap, .int .i64 x1, .int .i64 x2]] w (Begun sk si boot mons tries kind o co p cp b cb s xs len x1 x2 c w) := by
  have mk : ∀ a : Array Value, ∃ W : World, W = w.alloc (.cells a 30) ∧ Gr w W ∧ Blk W w.heap.size 30 a := fun a => ⟨_, rfl, (Ch.refl _ _).alloc _, Blk.new _ _ _⟩
  have lc := hc.lt
  have HM := hide h
  have HC := hide hc
  have HR := hide hr
  have HX := hide hx
  have H1 := hide h1
  clear h hc hr hx h1
  go_enter Try.func8, Try.ntmps8
  go_wp2_with fail
  obtain ⟨W, hW, hg, k⟩ := mk _
  rw [← hW]
  clear hW mk
  have c2 := (HC.out.gr hg).cell 2
  have c5 := (HC.out.gr hg).cell 5
  have c6 := (HC.out.gr hg).cell 6
  have c7 := (HC.out.gr hg).cell 7
  have c8 := (HC.out.gr hg).cell 8
  have c9 := (HC.out.gr hg).cell 9
  have c11 := (HC.out.gr hg).cell 11
  have c12 := (HC.out.gr hg).cell 12
  simp at c2 c5 c6 c7 c8 c9 c11 c12
  have k0 := k.cell 0
  have k1 := k.cell 1
  have k2 := k.cell 2
  have k3 := k.cell 3
  have k4 := k.cell 4
  have kf := k.frozen
  have kl := k.lt
  simp at k0 k1 k2 k3 k4
  have HK := hide k
  have HG := hide hg
  clear k hg
  refine (free_yes boot hbt c2 c11 c12).mono ?_
  rintro e w' ⟨rfl, rfl⟩
  have hE : Hid (∀ (er : Int) (w' : World), er ≠ 0 → Gr W w' → ¬ (1 ≤ kind ∧ kind ≤ 4 ∧ goodB s = true ∧ len ≤ 4096) → Begun sk si boot mons tries kind o co p cp b cb s xs len x1 x2 c w (.returned (.tuple #[.slice none 0 0, .int .i64 er])) w') := fun er w' he hg' hno =>
    .inl ⟨er, he, rfl, HG.out.gr hg', hno⟩
  by_cases hk : kind = 1 ∨ kind = 2 ∨ kind = 3 ∨ kind = 4
  rotate_left
  · have e1 : ¬ kind = 1 := fun h => hk (.inl h)
    have e2 : ¬ kind = 2 := fun h => hk (.inr (.inl h))
    have e3 : ¬ kind = 3 := fun h => hk (.inr (.inr (.inl h)))
    have e4 : ¬ kind = 4 := fun h => hk (.inr (.inr (.inr h)))
    go_wp2
    go_ret2
    exact hE.out 22 _ (by decide) (Ch.refl _ _) (fun h => by omega)
  go_wp2_with fail
  all_goals
    clear k0 k1 k2 k3 k4 kf kl c2 c5 c6 c7 c8 c9 c11 c12
    refine (pool_one (HM.out.gr HG.out)).mono ?_
    rintro e w1 ⟨rfl, hg1⟩
    have mk1 : ∀ a : Array Value, ∃ W1 : World, W1 = w1.alloc (.cells a 95) ∧ Gr W W1 := fun a => ⟨_, rfl, hg1.alloc _⟩
    have k1 := (HK.out.gr hg1).cell 1
    have k2 := (HK.out.gr hg1).cell 2
    have kl := (HK.out.gr hg1).lt
    simp at k1 k2
    clear hg1
    go_wp2_with fail
    obtain ⟨W1, hW1, hgW⟩ := mk1 _
    rw [← hW1]
    clear hW1 mk1 k1 k2 kl
    have k0 := (HK.out.gr hgW).cell 0
    have k1 := (HK.out.gr hgW).cell 1
    have k2 := (HK.out.gr hgW).cell 2
    have k3 := (HK.out.gr hgW).cell 3
    have k4 := (HK.out.gr hgW).cell 4
    have kf := (HK.out.gr hgW).frozen
    have kl := (HK.out.gr hgW).lt
    simp at k0 k1 k2 k3 k4
    have HGW := hide hgW
    clear hgW
    refine (good_any s W1 hs).mono ?_
    rintro e w2 ⟨rfl, rfl⟩
    cases hgb : goodB s
    · go_wp2
      go_ret2
      exact hE.out 36 _ (by decide) HGW.out (fun h => by rw [hgb] at h; exact absurd h.2.2.1 (by decide))
    by_cases hle : len ≤ 4096
    rotate_left
    · have hd : decide ((4096 : Int) < (len : Int)) = true := by simp; omega
      go_wp2
      go_ret2
      exact hE.out 27 _ (by decide) HGW.out (fun h => hle h.2.2.2)
    have hd : decide ((4096 : Int) < (len : Int)) = false := by simp; omega
    have HGB := hide hgb
    clear k0 k1 k3 k4
    go_wp2_with (first
      | (at_builtin
         refine wpList_copy_own _ rfl _ _ rfl rfl A len cap xs rfl HX.out (HR.out.gr (HG.out.gr HGW.out)) H1.out (by omega) ?_
         intro A' c' w3 hg3 hr3 hf3
         have mk4 : ∀ (a : Array Value) (v : Value), ∃ W4 : World, W4 = (w3.setCell ⟨w.heap.size, 2, none⟩ v).alloc (.cells a 89) ∧ Gr w W4 ∧ Ch (· = w.heap.size) w3 W4 ∧ Blk W4 w3.heap.size 89 a := fun a v =>
           ⟨_, rfl, (((HG.out.gr HGW.out).gr hg3).set (p := ⟨w.heap.size, 2, none⟩) (.inr (Nat.le_refl _)) v).alloc _, ((Ch.refl (· = w.heap.size) w3).set (p := ⟨w.heap.size, 2, none⟩) (.inl rfl) v).alloc _, Blk.new_ (w3.setCell ⟨w.heap.size, 2, none⟩ v) 89 a w3.heap.size (by simp)⟩
         have k0 := ((HK.out.gr HGW.out).gr hg3).cell 0
         have k1 := ((HK.out.gr HGW.out).gr hg3).cell 1
         have k2' := ((HK.out.gr HGW.out).gr hg3).cell 2
         have k3 := ((HK.out.gr HGW.out).gr hg3).cell 3
         have k4 := ((HK.out.gr HGW.out).gr hg3).cell 4
         have kf' := ((HK.out.gr HGW.out).gr hg3).frozen
         have kl' := ((HK.out.gr HGW.out).gr hg3).lt
         simp at k0 k1 k2' k3 k4
         have HG3 := hide ((HG.out.gr HGW.out).gr hg3)
         have HR3 := hide hr3
         have HF3 := hide hf3
         clear hg3 hr3 hf3)
      | fail)
    obtain ⟨W4, hW4, hgw4, hg34, hn4⟩ := mk4 _ _
    rw [← hW4]
    clear hW4 mk4 k0 k1 k2' k3 k4 kf'
    have hsz := hgw4.size
    have hn4l := hn4.lt
    have hlc3 : w.heap.size ≤ w3.heap.size := HG3.out.size
    have hs34 := hg34.size
    have hM := HM.out
    have lo : o < w.heap.size := hM.lo
    have lp : p < w.heap.size := hM.lp
    have lb : b < w.heap.size := hM.lb
    have li : i < w.heap.size := hM.li
    have lx : x < w.heap.size := hM.lx
    refine (begin_one sk si boot mons tries kind x1 x2 0 s A' len c' xs (.pointer none) (.pointer none) c w3.heap.size o co p cp b cb i ci x cx W4 (HM.out.gr hgw4) (HC.out.gr hgw4) hn4 hs HGB.out HX.out
      (HR3.out.ch hg34 (fun ad ha hl hS => by have := HF3.out ad ha; omega)) H1.out hle (fun ad ha hl => by have := HF3.out ad ha; omega) ⟨ho, by omega⟩ ⟨hp, by omega⟩ ⟨hbb, by omega⟩ ⟨hi, by omega⟩ ⟨hxx, by omega⟩).mono ?_
    rintro e w' ⟨g, A5, k5, m5, rfl, hreq, hgs, hcl, hop, hch⟩
    have HF : Hid (Begun sk si boot mons tries kind o co p cp b cb s xs len x1 x2 c w (.returned (.tuple #[.slice (some ⟨g, 0, none⟩) 1 1, .int .i64 0])) w') :=
      .inr ⟨g, A5, k5, m5, w3.heap.size, A', c', rfl, HGB.out, hle, hreq, by omega, hcl, hop, (HR3.out.ch hg34 (fun ad ha hl hS => by have := HF3.out ad ha; omega)).ch hch (fun ad ha hl hS => by
        have := HF3.out ad ha
        rcases hS with h | h <;> omega), (fun ad ha => by have := HF3.out ad ha; constructor <;> omega), by omega, (hgw4.any : Ch (· = c) w W4).trans hch (fun i hi' h => by
          rcases h with h | h
          · exact h
          · exact absurd h (by omega))⟩
    clear hreq hgs hcl hop hch hn4 hgw4 hg34
    go_wp2
    go_ret2
    exact HF.out

end Go.Proofs.Ythjficahhcjfgaa
