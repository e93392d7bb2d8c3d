/-
  The client's begin: an op is under way.
-/
import Derived.Test.YthjficahhcjfgaaSend
namespace Go.Proofs.Ythjficahhcjfgaa
open Go.RowKit

theorem nor_of {a c n : Nat} (h : a ≠ c ∧ a ≠ n) : ¬ (a = c ∨ a = n) := fun e => e.elim h.1 h.2

/-- The client's number grows from 0 to 1. -/
theorem add_one (w : World) (p : Addr) (hp : w.cell? p = some (.int .i64 0)) (hz : w.frozen? p = false) (hs : p.spot = none) :
    Calls Try.prog 28 #[.pointer (some p), .int .i64 1] w fun e w' => e = .returned (.int .i64 1) ∧ w' = w.setCell p (.int .i64 1) := by
  have hadd := run_call_add (P := Try.prog) Try.func39 (by kernel_rfl) (by kernel_rfl) (by kernel_rfl) .i64 (by kernel_rfl) (y := 1) (s := 1) hp hz (by simp [go_sem]; rfl)
  obtain ⟨b, o, sp⟩ := p
  cases hs
  go_enter Try.func28, Try.ntmps28
  go_wp2
  go_ret
  exact ⟨rfl, rfl⟩

/-- An op is under way: it is sent. -/
def Began (sk si boot mons tries kind : Int) (o co p cp b cb : Nat) (ans : Value) (s : ByteArray) (data : Value) (x1 x2 tr : Int) (c n : Nat) (w : World) (e : Ending) (w' : World) : Prop :=
  ∃ g A k m, e = .returned (.slice (some ⟨g, 0, none⟩) 1 1) ∧ Blk w' g 58 (reqCells sk si boot 1 kind s (.slice A k m) x1 x2) ∧ w.heap.size ≤ g ∧
    Blk w' c 82 (clientCells sk si boot mons tries (.int .i64 1) (.slice (some ⟨o, 0, none⟩) 1 co) (.slice (some ⟨p, 0, none⟩) 1 cp) (.slice (some ⟨b, 0, none⟩) 1 cb) (.int .i64 0) 1 (.pointer (some ⟨n, 0, none⟩)) ans) ∧
    Blk w' n 89 (opCells 0 0 kind s data x1 x2 1 tr) ∧ Ch (fun i => i = c ∨ i = n) w w'

set_option maxHeartbeats 1000000 in
set_option maxRecDepth 100000 in
theorem begin_one (sk si boot mons tries kind x1 x2 tr : Int) (s : ByteArray) (A : Option Addr) (len cap : Nat) (xs : List Value) (now ans : Value) (c n o co p cp b cb i ci x cx : Nat) (w : World) (h : M1 w o co p cp b cb i ci x cx)
    (hc : Blk w c 82 (clientCells sk si boot mons tries (.int .i64 1) (.slice (some ⟨o, 0, none⟩) 1 co) (.slice (some ⟨p, 0, none⟩) 1 cp) (.slice (some ⟨b, 0, none⟩) 1 cb) (.int .i64 0) 0 now ans))
    (hn : Blk w n 89 (opCells 0 0 kind s (.slice A len cap) x1 x2 0 tr)) (hs : s.size ≤ 140737488351232) (hb : Hid (goodB s = true))
    (hx : xs.length = len) (hr : Rd w A xs) (h1 : ∀ u ∈ xs, u.oneCell' = true) (hle : len ≤ 4096) (hrb : ∀ ad, A = some ad → ad.block < w.heap.size → ad.block ≠ c ∧ ad.block ≠ n)
    (ho : o ≠ c ∧ o ≠ n) (hp : p ≠ c ∧ p ≠ n) (hbb : b ≠ c ∧ b ≠ n) (hi : i ≠ c ∧ i ≠ n) (hxx : x ≠ c ∧ x ≠ n) :
    Calls Try.prog 22 #[.pointer (some ⟨c, 0, none⟩), .pointer (some ⟨n, 0, none⟩)] w (Began sk si boot mons tries kind o co p cp b cb ans s (.slice A len cap) x1 x2 tr c n w) := by
  have c10 := hc.cell 10
  have c11 := hc.cell 11
  have n9 := hn.cell 9
  have fc := hc.frozen
  have fn := hn.frozen
  have lc := hc.lt
  have ln := hn.lt
  have ne1 : c ≠ n := hc.ne_ hn (by decide)
  have ne2 : n ≠ c := ne1.symm
  simp at c10 c11 n9
  have mk : ∃ W, W = ((w.setCell ⟨c, 10, none⟩ (.int .i64 1)).setCell ⟨n, 9, none⟩ (.int .i64 1)).setCell ⟨c, 11, none⟩ (.pointer (some ⟨n, 0, none⟩)) ∧ Ch (fun i => i = c ∨ i = n) w W ∧
      Blk W c 82 (clientCells sk si boot mons tries (.int .i64 1) (.slice (some ⟨o, 0, none⟩) 1 co) (.slice (some ⟨p, 0, none⟩) 1 cp) (.slice (some ⟨b, 0, none⟩) 1 cb) (.int .i64 0) 1 (.pointer (some ⟨n, 0, none⟩)) ans) ∧
      Blk W n 89 (opCells 0 0 kind s (.slice A len cap) x1 x2 1 tr) :=
    ⟨_, rfl, (((Ch.refl (fun i => i = c ∨ i = n) w).set (p := ⟨c, 10, none⟩) (.inl (.inl rfl)) _).set (p := ⟨n, 9, none⟩) (.inl (.inr rfl)) _).set (p := ⟨c, 11, none⟩) (.inl (.inl rfl)) _,
      by simpa using ((hc.set_ 10 (.int .i64 1)).far (p := ⟨n, 9, none⟩) ne1 (.int .i64 1)).set_ 11 (.pointer (some ⟨n, 0, none⟩)),
      by simpa using ((hn.far (p := ⟨c, 10, none⟩) ne2 (.int .i64 1)).set_ 9 (.int .i64 1)).far (p := ⟨c, 11, none⟩) ne2 (.pointer (some ⟨n, 0, none⟩))⟩
  have HM := hide h
  have HR := hide hr
  have HX := hide hx
  have H1 := hide h1
  have HRB := hide hrb
  clear h hc hn hr hx h1 hrb
  go_enter Try.func22, Try.ntmps22
  go_wp2_with (first
    | (go_at_call 28; refine (add_one w ⟨c, 10, none⟩ c10 (fc 10) rfl).mono ?_; rintro e w' ⟨rfl, rfl⟩)
    | fail)
  obtain ⟨W, hW, hg, kc, kn⟩ := mk
  rw [← hW]
  clear hW
  refine (send_one sk si boot mons tries 0 0 kind x1 x2 1 tr 1 s A len cap xs ans c n o co p cp b cb i ci x cx W (HM.out.ch hg (nor_of ho) (nor_of hp) (nor_of hbb) (nor_of hi) (nor_of hxx)) kc kn hs hb HX.out (HR.out.ch hg (fun ad ha hl hS => by
      have := HRB.out ad ha hl
      rcases hS with h | h
      · exact this.1 h
      · exact this.2 h)) H1.out hle).mono ?_
  rintro e w' ⟨g, A', k, m, rfl, hreq, hgs, hgr⟩
  have HF : Hid (Began sk si boot mons tries kind o co p cp b cb ans s (.slice A len cap) x1 x2 tr c n w (.returned (.slice (some ⟨g, 0, none⟩) 1 1)) w') :=
    ⟨g, A', k, m, rfl, hreq, by have := hg.size; omega, kc.gr hgr, kn.gr hgr, hg.gr hgr⟩
  clear hreq hgs hgr kc kn hg
  go_wp2
  go_ret
  exact HF.out

end Go.Proofs.Ythjficahhcjfgaa
