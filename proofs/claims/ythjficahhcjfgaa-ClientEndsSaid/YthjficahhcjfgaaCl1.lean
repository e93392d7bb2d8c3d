/-
  The client's small calls.
-/
import Derived.Test.YthjficahhcjfgaaPlace
namespace Go.Proofs.Ythjficahhcjfgaa
open Go.RowKit

/-- A client's block: its node, boot, mons, tries, its map, the last request's number, what is under way, what is answered. -/
abbrev clientCells (sk si boot mons tries : Int) (me mo mp mb ml : Value) (num : Int) (now ans : Value) : Array Value :=
  #[.int .i64 sk, .int .i64 si, .int .i64 boot, .int .i64 mons, .int .i64 tries, me, mo, mp, mb, ml, .int .i64 num, now, ans]

section
variable {w : World} {c : Nat}

set_option maxHeartbeats 400000 in
set_option maxRecDepth 100000 in
theorem made_any (boot : Int) (hb : 0 < boot) (h2 : w.cell? ⟨c, 2, none⟩ = some (.int .i64 boot)) :
    Calls Try.prog 15 #[.pointer (some ⟨c, 0, none⟩)] w fun e w' => e = .returned (.bool true) ∧ w = w' := by
  go_enter Try.func15, Try.ntmps15
  go_wp2
  go_ret
  exact ⟨rfl, rfl⟩

set_option maxHeartbeats 400000 in
set_option maxRecDepth 100000 in
theorem epoch_any (boot ep : Int) (hb : 0 < boot) (h2 : w.cell? ⟨c, 2, none⟩ = some (.int .i64 boot)) (h5 : w.cell? ⟨c, 5, none⟩ = some (.int .i64 ep)) :
    Calls Try.prog 14 #[.pointer (some ⟨c, 0, none⟩)] w fun e w' => e = .returned (.int .i64 ep) ∧ w = w' := by
  go_enter Try.func14, Try.ntmps14
  go_wp2_with (go_at_call 15; refine (made_any boot hb h2).mono ?_; rintro e w' ⟨rfl, rfl⟩)
  go_ret
  exact ⟨rfl, rfl⟩

set_option maxHeartbeats 400000 in
set_option maxRecDepth 100000 in
theorem busy_no (boot : Int) (hb : 0 < boot) (h2 : w.cell? ⟨c, 2, none⟩ = some (.int .i64 boot)) (h11 : w.cell? ⟨c, 11, none⟩ = some (.pointer none)) :
    Calls Try.prog 9 #[.pointer (some ⟨c, 0, none⟩)] w fun e w' => e = .returned (.bool false) ∧ w = w' := by
  go_enter Try.func9, Try.ntmps9
  go_wp2_with (go_at_call 15; refine (made_any boot hb h2).mono ?_; rintro e w' ⟨rfl, rfl⟩)
  go_ret
  exact ⟨rfl, rfl⟩

set_option maxHeartbeats 400000 in
set_option maxRecDepth 100000 in
theorem busy_yes (boot : Int) (n : Nat) (hb : 0 < boot) (h2 : w.cell? ⟨c, 2, none⟩ = some (.int .i64 boot)) (h11 : w.cell? ⟨c, 11, none⟩ = some (.pointer (some ⟨n, 0, none⟩))) :
    Calls Try.prog 9 #[.pointer (some ⟨c, 0, none⟩)] w fun e w' => e = .returned (.bool true) ∧ w = w' := by
  go_enter Try.func9, Try.ntmps9
  go_wp2_with (go_at_call 15; refine (made_any boot hb h2).mono ?_; rintro e w' ⟨rfl, rfl⟩)
  go_ret
  exact ⟨rfl, rfl⟩

set_option maxHeartbeats 400000 in
set_option maxRecDepth 100000 in
theorem free_yes (boot : Int) (hb : 0 < boot) (h2 : w.cell? ⟨c, 2, none⟩ = some (.int .i64 boot)) (h11 : w.cell? ⟨c, 11, none⟩ = some (.pointer none)) (h12 : w.cell? ⟨c, 12, none⟩ = some (.pointer none)) :
    Calls Try.prog 19 #[.pointer (some ⟨c, 0, none⟩)] w fun e w' => e = .returned (.int .i64 0) ∧ w = w' := by
  go_enter Try.func19, Try.ntmps19
  go_wp2_with (go_at_call 15; refine (made_any boot hb h2).mono ?_; rintro e w' ⟨rfl, rfl⟩)
  go_ret
  exact ⟨rfl, rfl⟩

end

set_option maxHeartbeats 400000 in
set_option maxRecDepth 100000 in
theorem empty_any (w : World) : Calls Try.prog 12 #[] w fun e w' => e = .returned (.agg #[.int .i64 0, .slice none 0 0, .slice none 0 0, .slice none 0 0, .int .i64 0]) ∧ Gr w w' := by
  go_enter Try.func12, Try.ntmps12
  go_wp2
  exact bodyPost_ret (v := .agg #[.int .i64 0, .slice none 0 0, .slice none 0 0, .slice none 0 0, .int .i64 0]) (by simp [results, Try.results12, go_sem]) rfl ⟨rfl, (Ch.refl _ _).alloc _⟩

set_option maxHeartbeats 400000 in
set_option maxRecDepth 100000 in
theorem cnew_bad (sk si boot mons tries : Int) (w : World) (h : boot < 1 ∨ tries < 1 ∨ mons < 1 ∨ 5 < mons) :
    Calls Try.prog 4 #[.agg #[.int .i64 sk, .int .i64 si], .int .i64 boot, .int .i64 mons, .int .i64 tries] w fun e w' => e = .returned (.tuple #[.pointer none, .int .i64 22]) ∧ Gr w w' := by
  by_cases a : boot < 1
  · go_enter Try.func4, Try.ntmps4
    go_wp2
    go_ret2
    exact ⟨rfl, (Ch.refl _ _).alloc _⟩
  · by_cases b : tries < 1
    · go_enter Try.func4, Try.ntmps4
      go_wp2
      go_ret2
      exact ⟨rfl, (Ch.refl _ _).alloc _⟩
    · by_cases d : mons < 1
      · go_enter Try.func4, Try.ntmps4
        go_wp2
        go_ret2
        exact ⟨rfl, (Ch.refl _ _).alloc _⟩
      · have d' : 5 < mons := by omega
        go_enter Try.func4, Try.ntmps4
        go_wp2
        go_ret2
        exact ⟨rfl, (Ch.refl _ _).alloc _⟩

/-- A new client. -/
def NewC (sk si boot mons tries : Int) (w : World) (e : Ending) (w' : World) : Prop :=
  ∃ c, e = .returned (.tuple #[.pointer (some ⟨c, 0, none⟩), .int .i64 0]) ∧ Blk w' c 82 (clientCells sk si boot mons tries (.int .i64 0) (.slice none 0 0) (.slice none 0 0) (.slice none 0 0) (.int .i64 0) 0 (.pointer none) (.pointer none)) ∧ w.heap.size ≤ c ∧ Gr w w'

set_option maxHeartbeats 1000000 in
set_option maxRecDepth 100000 in
theorem cnew_ok (sk si boot mons tries : Int) (w : World) (hb : 1 ≤ boot) (ht : 1 ≤ tries) (hm : 1 ≤ mons) (hm5 : mons ≤ 5) :
    Calls Try.prog 4 #[.agg #[.int .i64 sk, .int .i64 si], .int .i64 boot, .int .i64 mons, .int .i64 tries] w (NewC sk si boot mons tries w) := by
  have mk : ∀ a : Array Value, ∃ W : World, W = w.alloc (.cells a 23) ∧ Gr w W ∧ Blk W w.heap.size 23 a := fun a => ⟨_, rfl, (Ch.refl _ _).alloc _, Blk.new _ _ _⟩
  go_enter Try.func4, Try.ntmps4
  go_wp2
  obtain ⟨W, hW, hg, k⟩ := mk _
  rw [← hW]
  clear hW mk
  have H' : Hid (∀ w', Gr W w' → w'.cell? ⟨w.heap.size, 0, none⟩ = some (.int .i64 sk) ∧ w'.cell? ⟨w.heap.size, 1, none⟩ = some (.int .i64 si)) := fun w' h1 => ⟨(k.gr h1).cell 0, (k.gr h1).cell 1⟩
  obtain ⟨q0, q1⟩ := H'.out W (Ch.refl _ _)
  have hg0 : Hid (Gr W W.drew) := (Ch.refl _ _).drew
  have HG := hide hg
  clear hg k
  go_region_held3 (fun w' => w'.cell? ⟨w.heap.size, 0, none⟩ = some (.int .i64 sk) ∧ w'.cell? ⟨w.heap.size, 1, none⟩ = some (.int .i64 si)) (first | go_keep | exact H'.out _ hg1.out)
    (first | (go_at_call 12; refine (empty_any _).mono ?_; rintro e' w1 ⟨rfl, hgr⟩; have hg1 : Hid (Gr W w1) := hg0.out.gr hgr; clear hgr))
  have hfin : ∀ a : Array Value, Blk (w1.alloc (.cells a 82)) w1.heap.size 82 a ∧ w.heap.size ≤ w1.heap.size ∧ Gr w (w1.alloc (.cells a 82)) := fun a => ⟨Blk.new _ _ _, (HG.out.gr hg1.out).size, (HG.out.gr hg1.out).alloc _⟩
  have HF := hide hfin
  clear hfin
  go_wp2
  go_ret2
  exact ⟨w1.heap.size, rfl, (HF.out _).1, (HF.out #[]).2.1, (HF.out _).2.2⟩

end Go.Proofs.Ythjficahhcjfgaa
