/-
  The client's Tick, of an op that is under way.
-/
import Derived.Test.YthjficahhcjfgaaCl5
import Derived.BigQuiet
namespace Go.Proofs.Ythjficahhcjfgaa
open Go.RowKit

/-- What a tick sends: asks for maps, and at most requests of number 1. -/
def Asks (boot : Int) (M : Nat) (xs : List Value) : Prop :=
  (∀ j, j < M → xs[46 * j]? = some (.int .i64 14) ∨ (xs[46 * j]? = some (.int .i64 30) ∧ xs[46 * j + 9]? = some (.int .i64 boot) ∧ xs[46 * j + 10]? = some (.int .i64 1))) ∧ ∀ u ∈ xs, u.oneCell' = true

def Ticked (boot : Int) (w : World) (e : Ending) (w' : World) : Prop :=
  ∃ g cap M xs, e = .returned (.slice (some ⟨g, 0, none⟩) M cap) ∧ w'.ownsRow w.heap.size 58 46 (.slice (some ⟨g, 0, none⟩) M cap) M xs ∧ 1 ≤ M ∧ M ≤ 6 ∧ Asks boot M xs

theorem asks_boot {boot : Int} {M : Nat} {xs : List Value} (h : K14 M xs) : Asks boot M xs := ⟨fun j hj => .inl (h.1 j hj), h.2⟩

theorem asks_next {sk si boot kind x1 x2 : Int} {s : ByteArray} {dA : Option Addr} {dk dm : Nat} {N : Nat} {xs : List Value} (h : K14 N xs) (hl : xs.length = N * 46) :
    Asks boot (N + 1) (xs ++ (reqCells sk si boot 1 kind s (.slice dA dk dm) x1 x2).toList) := by
  refine ⟨fun j hj => ?_, fun u hu => (List.mem_append.1 hu).elim (h.2 u) ?_⟩
  rotate_left
  · clear hu
    revert u
    simp [Value.oneCell']
  rcases Nat.lt_or_ge j N with hlt | hge
  · left
    rw [List.getElem?_append_left (by omega)]
    exact h.1 j hlt
  · right
    have : j = N := by omega
    subst this
    have e0 : 46 * j - xs.length = 0 := by omega
    have e9 : 46 * j + 9 - xs.length = 9 := by omega
    have e10 : 46 * j + 10 - xs.length = 10 := by omega
    refine ⟨?_, ?_, ?_⟩
    · rw [List.getElem?_append_right (by omega), e0]; rfl
    · rw [List.getElem?_append_right (by omega), e9]; rfl
    · rw [List.getElem?_append_right (by omega), e10]; rfl

/-- A tick: more are to come. -/
def Tick1 (sk si boot tries kind : Int) (N : Nat) (o co p cp b cb : Nat) (s : ByteArray) (data : Value) (x1 x2 tr : Int) (c n : Nat) (w : World) (e : Ending) (w' : World) : Prop :=
  Ticked boot w e w' ∧ Blk w' n 89 (opCells 0 0 kind s data x1 x2 1 (tr + 1)) ∧ Ch (· = n) w w'

set_option maxHeartbeats 4000000 in
set_option maxRecDepth 100000 in
theorem tick_more (sk si boot tries kind x1 x2 tr : Int) (N : Nat) (s : ByteArray) (A : Option Addr) (len cap : Nat) (xs : List Value) (ans : Value) (c n o co p cp b cb i ci x cx : Nat) (w : World) (hbt : 0 < boot) (hN : 1 ≤ N) (hN5 : N ≤ 5) (h : M1 w o co p cp b cb i ci x cx)
    (hc : Blk w c 82 (clientCells sk si boot N tries (.int .i64 1) (.slice (some ⟨o, 0, none⟩) 1 co) (.slice (some ⟨p, 0, none⟩) 1 cp) (.slice (some ⟨b, 0, none⟩) 1 cb) (.int .i64 0) 1 (.pointer (some ⟨n, 0, none⟩)) ans))
    (hn : Blk w n 89 (opCells 0 0 kind s (.slice A len cap) x1 x2 1 tr)) (hs : s.size ≤ 140737488351232) (hb : Hid (goodB s = true))
    (hx : xs.length = len) (hr : Rd w A xs) (h1 : ∀ u ∈ xs, u.oneCell' = true) (hle : len ≤ 4096) (hrb : ∀ ad, A = some ad → ad.block < w.heap.size → ad.block ≠ n)
    (ho : o ≠ n) (hp : p ≠ n) (hbb : b ≠ n) (hi : i ≠ n) (hxx : x ≠ n) (h0 : 0 ≤ tr) (ht : tr + 1 ≤ tries) (ht2 : tries ≤ 200) :
    Calls Try.prog 11 #[.pointer (some ⟨c, 0, none⟩)] w (Tick1 sk si boot tries kind N o co p cp b cb s (.slice A len cap) x1 x2 tr c n w) := by
  obtain ⟨i0_, hi0, hz0, hz1, hz2⟩ := info_parts info58
  have c0 := hc.cell 0
  have c1 := hc.cell 1
  have c2 := hc.cell 2
  have c3 := hc.cell 3
  have c5 := hc.cell 5
  simp at c0 c1 c2 c3 c5
  have lc := hc.lt
  have HM := hide h
  have HC := hide hc
  have HN := hide hn
  have HR := hide hr
  have HX := hide hx
  have H1 := hide h1
  have HRB := hide hrb
  clear h hc hn hr hx h1 hrb
  go_enter Try.func11, Try.ntmps11
  go_wp2_with (first
    | (go_at_call 15; refine (made_any boot hbt c2).mono ?_; rintro e w' ⟨rfl, rfl⟩)
    | fail)
  refine (boot_any sk si boot 1 N c w hN hN5 hbt lc c0 c1 c2 c3 c5).mono ?_
  rintro e w1 ⟨g1, cap1, ys, rfl, hown, hys, hg1⟩
  have cne : c ≠ n := HC.out.ne_ HN.out (by decide)
  have d3 := (HC.out.gr hg1).cell 4
  have d11 := (HC.out.gr hg1).cell 11
  have dl := (HC.out.gr hg1).lt
  have n10 := (HN.out.gr hg1).cell 10
  have nl := (HN.out.gr hg1).lt
  have nf := (HN.out.gr hg1).frozen
  simp at d3 d11 n10
  have HO := hide hown
  have HY := hide hys
  have HG1 := hide hg1
  have mk2 : ∀ v : Value, ∃ W2 : World, W2 = w1.setCell ⟨n, 10, none⟩ v ∧ Ch (· = n) w1 W2 := fun v => ⟨_, rfl, (Ch.refl (· = n) w1).set (p := ⟨n, 10, none⟩) (.inl rfl) v⟩
  clear hown hys hg1 c0 c1 c2 c3 c5
  have hw : IntKind.i64.wrap (tr + 1) = tr + 1 := by
    rw [IntKind.wrap_i64]; omega
  have hd : decide (tries < tr + 1) = false := by simp; omega
  go_wp2_with fail
  obtain ⟨W2, hW2, hc2⟩ := mk2 (.int .i64 (tr + 1))
  have hB2 : Blk W2 n 89 (opCells 0 0 kind s (.slice A len cap) x1 x2 1 (tr + 1)) := by rw [hW2]; simpa using (HN.out.gr HG1.out).set_ 10 (.int .i64 (tr + 1))
  rw [← hW2]
  clear hW2 mk2 d3 d11 n10 dl nl nf
  have HC2 := hide ((HC.out.gr HG1.out).ch hc2 cne)
  have d4 := HC2.out.cell 4
  have d11 := HC2.out.cell 11
  have n10 := hB2.cell 10
  simp at d4 d11 n10
  have HB2 := hide hB2
  have HG2 : Hid (Ch (· = n) w W2) := (HG1.out.any : Ch (· = n) w w1).trans hc2 (fun i _ h => h)
  have hg2s := hc2.size
  have HO2 : Hid (W2.ownsRow w.heap.size 58 46 (.slice (some ⟨g1, 0, none⟩) N cap1) N ys) := own_ch HO.out hc2 (by have := (own_lt HO.out).1; have := HN.out.lt; show ¬ (g1 = n); omega)
  clear hB2 hc2
  go_region_held3 (fun w' => w'.cell? ⟨c, 4, none⟩ = some (.int .i64 tries) ∧ w'.cell? ⟨c, 11, none⟩ = some (.pointer (some ⟨n, 0, none⟩)) ∧ w'.cell? ⟨n, 10, none⟩ = some (.int .i64 (tr + 1))) (first | go_keep) (fail)
  have hgd : Gr W2 W2.drew := (Ch.refl _ _).drew
  go_wp2_with fail
  have hM := HM.out
  have lo : o < w.heap.size := hM.lo
  have lp : p < w.heap.size := hM.lp
  have lb : b < w.heap.size := hM.lb
  have li : i < w.heap.size := hM.li
  have lx : x < w.heap.size := hM.lx
  have lnw := HN.out.lt
  have hg1l := own_lt HO.out
  refine (send_one sk si boot N tries 0 0 kind x1 x2 1 (tr + 1) 1 s A len cap xs ans c n o co p cp b cb i ci x cx W2.drew ((HM.out.ch HG2.out ho hp hbb hi hxx).gr hgd) (HC2.out.gr hgd) (HB2.out.gr hgd) hs hb HX.out
    ((HR.out.ch HG2.out (fun ad ha hl => HRB.out ad ha hl)).gr hgd) H1.out hle).mono ?_
  rintro e w3 ⟨g, A5, k5, m5, rfl, hreq, hgs, hg3⟩
  have HW3 : Hid (Gr W2 w3) := hgd.gr hg3
  have HRq := hide hreq
  have hgsz : W2.heap.size ≤ g := hgs
  have hsz3 := HW3.out.size
  have HO3 : Hid (w3.ownsRow w.heap.size 58 46 (.slice (some ⟨g1, 0, none⟩) N cap1) N ys) := own_gr HO2.out HW3.out
  clear hreq hgs hg3 hgd
  have hsz2 := HG2.out.size
  go_wp2_with (first
    | (at_builtin
       go_loud (refine wpList_append_lies _ rfl _ _ 37 rfl w.heap.size 58 i0_ _ 46 552 Try.underlying37 hi0 hz0 hz1 hz2 rfl (by omega) (.slice (some ⟨g1, 0, none⟩) N cap1) N ys rfl HO3.out ⟨g, 0, none⟩ 1 1 (reqCells sk si boot 1 kind s (.slice A5 k5 m5) x1 x2).toList rfl rfl (World.news_of_block (t := 58) (fr := (0, 0)) HRq.out) (by simp [Value.oneCell']) (by omega) (by simp [maxLen]; omega) (by omega) (by omega) w3.heap.size rfl ?_)
       intro g4 cap4 w4 hown4 hgrow hat hlt
       have HF : Hid (Tick1 sk si boot tries kind N o co p cp b cb s (.slice A len cap) x1 x2 tr c n w (.returned (.slice (some ⟨g4, 0, none⟩) (N + 1) cap4)) w4) :=
        ⟨⟨g4, cap4, N + 1, _, rfl, hown4, by omega, by omega, asks_next HY.out HO.out.1⟩, (HB2.out.gr HW3.out).grown hgrow (by simp [Value.ownBlock]; omega), (HG2.out.gr HW3.out).grown hgrow (fun k hk => .inr (by simp [Value.ownBlock] at hk; omega))⟩
       clear hown4 hgrow hat hlt)
    | fail)
  go_ret
  exact HF.out

end Go.Proofs.Ythjficahhcjfgaa
