/-
  The client's Boot: one Subscribe to each monitor.
-/
import Derived.Test.YthjficahhcjfgaaSend
namespace Go.Proofs.Ythjficahhcjfgaa
open Go.RowKit

/-- N messages of kind 14, each part one cell. -/
def K14 (N : Nat) (xs : List Value) : Prop := (∀ j, j < N → xs[46 * j]? = some (.int .i64 14)) ∧ ∀ u ∈ xs, u.oneCell' = true

/-- N messages, each of kind 14, in a new list. -/
def Boots (N : Nat) (w : World) (e : Ending) (w' : World) : Prop :=
  ∃ g cap xs, e = .returned (.slice (some ⟨g, 0, none⟩) N cap) ∧ w'.ownsRow w.heap.size 58 46 (.slice (some ⟨g, 0, none⟩) N cap) N xs ∧ K14 N xs ∧ Gr w w'

/-- What the loop keeps. -/
def BootAt (w : World) (k : Nat) (v : Value) (wr : World) : Prop := ∃ xs, wr.ownsRow w.heap.size 58 46 v k xs ∧ K14 k xs ∧ Gr w wr

theorem BootAt.next {w w1 : World} {k : Nat} {xs news : List Value} {g cap : Nat} (hx : K14 k xs) (hn : ∀ u ∈ news, u.oneCell' = true) (hl : xs.length = k * 46)
    (ho : w1.ownsRow w.heap.size 58 46 (.slice (some ⟨g, 0, none⟩) (k + 1) cap) (k + 1) (xs ++ news)) (h0 : news[0]? = some (.int .i64 14)) (hg : Gr w w1) : BootAt w (k + 1) (.slice (some ⟨g, 0, none⟩) (k + 1) cap) w1 := by
  refine ⟨_, ho, ⟨fun j hj => ?_, fun u hu => (List.mem_append.1 hu).elim (hx.2 u) (hn u)⟩, hg⟩
  by_cases e : j = k
  · subst e
    rw [List.getElem?_append_right (by omega)]
    have : 46 * j - xs.length = 0 := by omega
    rw [this]; exact h0
  · rw [List.getElem?_append_left (by omega)]
    exact hx.1 j (by omega)

/-- A Subscribe's cells. -/
abbrev subMsg (sk si boot ep k : Int) : List Value := [.int .i64 14, .int .i64 sk, .int .i64 si, .int .i64 1, .int .i64 k, .int .i64 boot, .int .i64 ep, .int .i64 0, .int .i64 0, .int .i64 0, .int .i64 0, .int .i64 0, .slice none 0 0, .slice none 0 0, .slice none 0 0, .int .i64 0, .int .i64 0, .int .i64 0, .int .i64 0, .int .i64 0, .int .i64 0, .int .i64 0, .int .i64 0, .int .i64 0, .slice none 0 0, .slice none 0 0, .slice none 0 0, .int .i64 0, .int .i64 0, .bool false, .int .i64 0, .string ⟨#[]⟩, .int .i64 0, .int .i64 0, .string ⟨#[]⟩, .int .i64 0, .int .i64 0, .slice none 0 0, .int .i64 0, .string ⟨#[]⟩, .slice none 0 0, .int .i64 0, .int .i64 0, .slice none 0 0, .slice none 0 0, .int .i64 0]

set_option maxHeartbeats 4000000 in
set_option maxRecDepth 100000 in
theorem boot_any (sk si boot ep : Int) (N c : Nat) (w : World) (hN : 1 ≤ N) (hN5 : N ≤ 5) (hb : 0 < boot) (lc : c < w.heap.size)
    (h0 : w.cell? ⟨c, 0, none⟩ = some (.int .i64 sk)) (h1 : w.cell? ⟨c, 1, none⟩ = some (.int .i64 si)) (h2 : w.cell? ⟨c, 2, none⟩ = some (.int .i64 boot)) (h3 : w.cell? ⟨c, 3, none⟩ = some (.int .i64 N)) (h5 : w.cell? ⟨c, 5, none⟩ = some (.int .i64 ep)) :
    Calls Try.prog 13 #[.pointer (some ⟨c, 0, none⟩)] w (Boots N w) := by
  obtain ⟨i0_, hi0, hz0, hz1, hz2⟩ := info_parts info58
  have H' : Hid (∀ w', Gr w w' → w'.cell? ⟨c, 0, none⟩ = some (.int .i64 sk) ∧ w'.cell? ⟨c, 1, none⟩ = some (.int .i64 si) ∧ w'.cell? ⟨c, 2, none⟩ = some (.int .i64 boot) ∧ w'.cell? ⟨c, 5, none⟩ = some (.int .i64 ep)) := fun w' hg =>
    ⟨(hg.cell (p := ⟨c, 0, none⟩) lc (fun f => f)).trans h0, (hg.cell (p := ⟨c, 1, none⟩) lc (fun f => f)).trans h1, (hg.cell (p := ⟨c, 2, none⟩) lc (fun f => f)).trans h2, (hg.cell (p := ⟨c, 5, none⟩) lc (fun f => f)).trans h5⟩
  have hst : Hid (BootAt w 0 (.slice none 0 0) w) := ⟨[], World.ownsRow_nil _ _ _ _, ⟨fun j hj => absurd hj (by omega), fun u hu => by cases hu⟩, Ch.refl _ _⟩
  go_enter Try.func13, Try.ntmps13
  go_wp2_with (go_at_call 15; refine (made_any boot hb h2).mono ?_; rintro e w' ⟨rfl, rfl⟩)
  go_loopw [3, 12] (fun v i wr => ∃ k : Nat, k ≤ N ∧ i = .int .i64 k ∧ Hid (BootAt w k v wr)) (fun _ i _ => N - (intOf i).toNat)
  case atStart => exact ⟨0, Nat.zero_le _, rfl, hst⟩
  case round =>
    clear h0 h1 h2 h3 h5 hst
    obtain ⟨k, hk, rfl, HB⟩ := hrel
    by_cases hlt : k < N
    · obtain ⟨xs, hown, hxs, hg⟩ := HB.out
      obtain ⟨q0, q1, q2, q5⟩ := H'.out wr hg
      have HO := hide hown
      have HXS := hide hxs
      have HG := hide hg
      have lcr : c < wr.heap.size := Nat.lt_of_lt_of_le lc hg.size
      have hsz := hg.size
      clear hown hxs hg HB
      go_wp2
      go_region_held3 (fun w' => w'.cell? ⟨c, 0, none⟩ = some (.int .i64 sk) ∧ w'.cell? ⟨c, 1, none⟩ = some (.int .i64 si) ∧ w'.cell? ⟨c, 2, none⟩ = some (.int .i64 boot) ∧ w'.cell? ⟨c, 5, none⟩ = some (.int .i64 ep)) (first | go_keep | exact H'.out _ hg1.out)
        ((refine step_append_lies _ (by rfl) _ _ _ (by rfl) w.heap.size 58 i0_ _ 46 552 Try.underlying37 hi0 hz0 hz1 hz2 rfl (by omega) u3 k xs (by rfl) ((HO.out.alloc _).drew) ⟨wr.heap.size, 0, none⟩ 1 1 (subMsg sk si boot ep k) (by rfl) (by rfl)
            (World.news_of_block (cs := #[.int .i64 14, .int .i64 sk, .int .i64 si, .int .i64 1, .int .i64 k, .int .i64 boot, .int .i64 ep, .int .i64 0, .int .i64 0, .int .i64 0, .int .i64 0, .int .i64 0, .slice none 0 0, .slice none 0 0, .slice none 0 0, .int .i64 0, .int .i64 0, .int .i64 0, .int .i64 0, .int .i64 0, .int .i64 0, .int .i64 0, .int .i64 0, .int .i64 0, .slice none 0 0, .slice none 0 0, .slice none 0 0, .int .i64 0, .int .i64 0, .bool false, .int .i64 0, .string ⟨#[]⟩, .int .i64 0, .int .i64 0, .string ⟨#[]⟩, .int .i64 0, .int .i64 0, .slice none 0 0, .int .i64 0, .string ⟨#[]⟩, .slice none 0 0, .int .i64 0, .int .i64 0, .slice none 0 0, .slice none 0 0, .int .i64 0]) (t := 58) (fr := (0, 0)) (heap_alloc_new wr _)) (by simp [subMsg, Value.oneCell']) (by omega) (by simp [maxLen]; omega) (by omega) (by simp; omega) (wr.heap.size + 1) (by simp) ?_; intro gg cap w1 hown1 hgrow hat hlt
          have hg1 : Hid (Gr w w1) := ((HG.out.alloc _).drew).grown hgrow (fun j hj => .inr (HO.out.lt j hj).1)))
      have HN : Hid (BootAt w (k + 1) (.slice (some ⟨gg, 0, none⟩) (k + 1) cap) w1) := BootAt.next HXS.out (by simp [subMsg, Value.oneCell']) HO.out.1 hown1 rfl hg1.out
      clear hown1 hgrow hat hlt
      go_wp2
      go_roundw
      case rel => exact ⟨k + 1, by omega, by go_num, HN⟩
      case measure => simp [intOf]; omega
    · have hk' : k = N := by omega
      subst hk'
      obtain ⟨xs, hown, hxs, hg⟩ := HB.out
      obtain ⟨g, cap, hv, _, _⟩ := hown.form (by omega)
      subst hv
      have HF : Hid (Boots k w (.returned (.slice (some ⟨g, 0, none⟩) k cap)) wr) := ⟨g, cap, xs, rfl, hown, hxs, hg⟩
      clear hown hxs hg HB
      go_wp2
      go_ret
      exact HF.out

end Go.Proofs.Ythjficahhcjfgaa
