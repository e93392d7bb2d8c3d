/-
  place.Good: which texts are names.
-/
import Derived.Test.YthjficahhcjfgaaBase
namespace Go.Proofs.Ythjficahhcjfgaa
open Go.RowKit

def Fine (s : ByteArray) : Prop := (∀ j (h : j < s.size), 33 ≤ (s[j].toNat : Int) ∧ (s[j].toNat : Int) ≤ 126) ∧ 0 < s.size ∧ s.size ≤ 64
open Classical in
noncomputable def goodB (s : ByteArray) : Bool := decide (Fine s)
theorem goodB_false {s : ByteArray} (h : ¬ Fine s) : goodB s = false := by unfold goodB; simp [h]
theorem goodB_true {s : ByteArray} (h : Fine s) : goodB s = true := by unfold goodB; simp [h]
theorem fine_of {s : ByteArray} (h : goodB s = true) : Fine s := by unfold goodB at h; simpa using h

theorem toList_size (s : ByteArray) : s.toList.isEmpty = decide (s.size = 0) := by
  have h : s.toList.length = s.size := by rw [ByteArray.toList_eq, Array.length_toList]; rfl
  cases hl : s.toList with
  | nil => rw [hl] at h; simp only [List.length_nil] at h; rw [decide_eq_true h.symm]; rfl
  | cons a l => rw [hl] at h; simp only [List.length_cons] at h; rw [decide_eq_false (by omega)]; rfl
theorem good_eq {s : ByteArray} (h : ∀ j (h : j < s.size), j < s.size → 33 ≤ (s[j].toNat : Int) ∧ (s[j].toNat : Int) ≤ 126) : (!s.toList.isEmpty && decide ((s.size : Int) ≤ 64)) = goodB s := by
  rw [toList_size]
  by_cases h0 : 0 < s.size ∧ s.size ≤ 64
  · rw [goodB_true ⟨fun j hj => h j hj hj, h0⟩]
    have h1 : ¬ s.size = 0 := by omega
    have h2 : (s.size : Int) ≤ 64 := by omega
    rw [decide_eq_false h1, decide_eq_true h2]; rfl
  · rw [goodB_false (fun hf => h0 hf.2)]
    by_cases h1 : s.size = 0
    · rw [decide_eq_true h1]; rfl
    · have h2 : ¬ (s.size : Int) ≤ 64 := by omega
      rw [decide_eq_false h2, Bool.and_false]
theorem ret_bool {a b : Bool} (h : a = b) : Ending.returned (.bool a) = .returned (.bool b) := by rw [h]

set_option maxHeartbeats 1000000 in
theorem good_any (s : ByteArray) (w : World) (hs : s.size ≤ 140737488351232) :
    Calls Try.prog 21 #[.string s] w fun e w' => e = .returned (.bool (goodB s)) ∧ w = w' := by
  go_enter Try.func21, Try.ntmps21
  go_wp2
  go_loop [7] (fun i => ∃ k : Nat, k ≤ s.size ∧ i = .int .i64 k ∧ Hid (∀ j (h : j < s.size), j < k → 33 ≤ (s[j].toNat : Int) ∧ (s[j].toNat : Int) ≤ 126)) (fun i => s.size - (intOf i).toNat)
  case atStart => exact ⟨0, Nat.zero_le _, rfl, fun j _ h => absurd h (by omega)⟩
  case round =>
    obtain ⟨k, hk, rfl, H⟩ := hrel
    by_cases hlt : k < s.size
    · go_wp2
      · have h1 : (s[k].toNat : Int) < 33 := by assumption
        go_ret
        exact ⟨ret_bool (goodB_false (fun hf => by have := hf.1 k hlt; omega)).symm, rfl⟩
      · have h1 : (126 : Int) < s[k].toNat := by assumption
        go_ret
        exact ⟨ret_bool (goodB_false (fun hf => by have := hf.1 k hlt; omega)).symm, rfl⟩
      · have h1 : (33 : Int) ≤ s[k].toNat := by omega
        have h2 : (s[k].toNat : Int) ≤ 126 := by omega
        go_round
        case rel =>
          refine ⟨k + 1, by omega, by go_num, ?_⟩
          intro j hj hjk
          by_cases e : j = k
          · subst e; omega
          · exact H.out j hj (by omega)
        case measure => simp [intOf]; omega
    · have hk' : k = s.size := by omega
      have HG : Hid ((!s.toList.isEmpty && decide ((s.size : Int) ≤ 64)) = goodB s) := good_eq (fun j hj _ => H.out j hj (by omega))
      clear hk'
      by_cases h0 : s.size = 0
      · have h1 : s.toList.isEmpty = true := by rw [toList_size]; simp [h0]
        clear h0
        go_wp2
        go_ret
        exact ⟨ret_bool (by rw [← HG.out, h1]; rfl), rfl⟩
      · have h1 : s.toList.isEmpty = false := by rw [toList_size]; simp [h0]
        go_wp2
        go_ret
        exact ⟨ret_bool (by rw [← HG.out, h1]; rfl), rfl⟩

end Go.Proofs.Ythjficahhcjfgaa
