/-
  What the client sends: one request, to the primary.
-/
import Derived.Test.YthjficahhcjfgaaTarget
import Derived.Test.YthjficahhcjfgaaReads
namespace Go.Proofs.Ythjficahhcjfgaa
open Go.RowKit

/-- A request's cells. -/
abbrev reqCells (sk si boot number kind : Int) (s : ByteArray) (data : Value) (x1 x2 : Int) : Array Value :=
  #[.int .i64 30, .int .i64 sk, .int .i64 si, .int .i64 2, .int .i64 0, .int .i64 boot, .int .i64 1, .int .i64 1, .int .i64 0, .int .i64 boot, .int .i64 number, .int .i64 0,
    .slice none 0 0, .slice none 0 0, .slice none 0 0, .int .i64 0, .int .i64 0, .int .i64 0, .int .i64 0, .int .i64 0, .int .i64 0, .int .i64 0, .int .i64 0, .int .i64 0,
    .slice none 0 0, .slice none 0 0, .slice none 0 0, .int .i64 0, .int .i64 0, .bool false, .int .i64 0, .string ⟨#[]⟩, .int .i64 0, .int .i64 0, .string ⟨#[]⟩, .int .i64 0, .int .i64 0, .slice none 0 0,
    .int .i64 kind, .string s, data, .int .i64 x1, .int .i64 x2, .slice none 0 0, .slice none 0 0, .int .i64 0]

/-- One request is sent. -/
def Sent (sk si boot number kind : Int) (s : ByteArray) (x1 x2 : Int) (w : World) (e : Ending) (w' : World) : Prop :=
  ∃ g A k m, e = .returned (.slice (some ⟨g, 0, none⟩) 1 1) ∧ Blk w' g 58 (reqCells sk si boot number kind s (.slice A k m) x1 x2) ∧ w.heap.size ≤ g ∧ Gr w w'

set_option maxHeartbeats 4000000 in
set_option maxRecDepth 100000 in
theorem send_one (sk si boot mons tries g1 g2 kind x1 x2 number tr num : Int) (s : ByteArray) (A : Option Addr) (len cap : Nat) (xs : List Value) (ans : Value) (c n o co p cp b cb i ci x cx : Nat) (w : World) (h : M1 w o co p cp b cb i ci x cx)
    (hc : Blk w c 82 (clientCells sk si boot mons tries (.int .i64 1) (.slice (some ⟨o, 0, none⟩) 1 co) (.slice (some ⟨p, 0, none⟩) 1 cp) (.slice (some ⟨b, 0, none⟩) 1 cb) (.int .i64 0) num (.pointer (some ⟨n, 0, none⟩)) ans))
    (hn : Blk w n 89 (opCells g1 g2 kind s (.slice A len cap) x1 x2 number tr)) (hs : s.size ≤ 140737488351232) (hb : Hid (goodB s = true))
    (hx : xs.length = len) (hr : Rd w A xs) (h1 : ∀ u ∈ xs, u.oneCell' = true) (hle : len ≤ 4096) :
    Calls Try.prog 17 #[.pointer (some ⟨c, 0, none⟩)] w (Sent sk si boot number kind s x1 x2 w) := by
  have H' : Hid (∀ w', Gr w w' → w'.cell? ⟨c, 0, none⟩ = some (.int .i64 sk) ∧ w'.cell? ⟨c, 1, none⟩ = some (.int .i64 si) ∧ w'.cell? ⟨c, 2, none⟩ = some (.int .i64 boot) ∧ w'.cell? ⟨c, 5, none⟩ = some (.int .i64 1) ∧ w'.cell? ⟨c, 6, none⟩ = some (.slice (some ⟨o, 0, none⟩) 1 co) ∧ w'.cell? ⟨c, 7, none⟩ = some (.slice (some ⟨p, 0, none⟩) 1 cp) ∧ w'.cell? ⟨c, 8, none⟩ = some (.slice (some ⟨b, 0, none⟩) 1 cb) ∧ w'.cell? ⟨c, 9, none⟩ = some (.int .i64 0) ∧ w'.cell? ⟨c, 11, none⟩ = some (.pointer (some ⟨n, 0, none⟩)) ∧ w'.cell? ⟨n, 4, none⟩ = some (.int .i64 kind) ∧ w'.cell? ⟨n, 5, none⟩ = some (.string s) ∧ w'.cell? ⟨n, 6, none⟩ = some (.slice A len cap) ∧ w'.cell? ⟨n, 7, none⟩ = some (.int .i64 x1) ∧ w'.cell? ⟨n, 8, none⟩ = some (.int .i64 x2) ∧ w'.cell? ⟨n, 9, none⟩ = some (.int .i64 number) ∧ c < w'.heap.size ∧ n < w'.heap.size) :=
    fun w' h1 => ⟨(hc.gr h1).cell 0, (hc.gr h1).cell 1, (hc.gr h1).cell 2, (hc.gr h1).cell 5, (hc.gr h1).cell 6, (hc.gr h1).cell 7, (hc.gr h1).cell 8, (hc.gr h1).cell 9, (hc.gr h1).cell 11, (hn.gr h1).cell 4, (hn.gr h1).cell 5, (hn.gr h1).cell 6, (hn.gr h1).cell 7, (hn.gr h1).cell 8, (hn.gr h1).cell 9, (hc.gr h1).lt, (hn.gr h1).lt⟩
  have HM := hide h
  have HR := hide hr
  have HX := hide hx
  have H1 := hide h1
  go_enter Try.func17, Try.ntmps17
  go_wp2_with fail
  refine (target_one sk si boot mons tries g1 g2 kind x1 x2 number tr num s _ ans c n o co p cp b cb i ci x cx w h hc hn hs hb).mono ?_
  rintro e' w1 ⟨rfl, hg⟩
  have mk1 : ∀ a : Array Value, ∃ W : World, W = w1.alloc (.cells a 42) ∧ Gr w1 W ∧ Blk W w1.heap.size 42 a := fun a => ⟨_, rfl, (Ch.refl _ _).alloc _, Blk.new _ _ _⟩
  have HG1 := hide hg
  clear h hc hn hr hx h1 hg
  go_wp2
  obtain ⟨W1, hW1, hgW, k1⟩ := mk1 _
  rw [← hW1]
  clear hW1 mk1
  have HGW : Hid (Gr w W1) := HG1.out.gr hgW
  have H1' : Hid (∀ w', Gr W1 w' → w'.cell? ⟨c, 5, none⟩ = some (.int .i64 1) ∧ w'.cell? ⟨c, 6, none⟩ = some (.slice (some ⟨o, 0, none⟩) 1 co) ∧ w'.cell? ⟨c, 7, none⟩ = some (.slice (some ⟨p, 0, none⟩) 1 cp) ∧ w'.cell? ⟨c, 8, none⟩ = some (.slice (some ⟨b, 0, none⟩) 1 cb) ∧ w'.cell? ⟨c, 9, none⟩ = some (.int .i64 0) ∧ w'.cell? ⟨w1.heap.size, 0, none⟩ = some (.int .i64 1) ∧ w'.cell? ⟨w1.heap.size, 1, none⟩ = some (.int .i64 0)) := fun w' h2 => by
    obtain ⟨_, _, _, a5, a6, a7, a8, a9, _, _, _, _, _, _, _, _, _⟩ := H'.out w' (HGW.out.gr h2)
    exact ⟨a5, a6, a7, a8, a9, (k1.gr h2).cell 0, (k1.gr h2).cell 1⟩
  obtain ⟨q5, q6, q7, q8, q9, r0, r1⟩ := H1'.out W1 (Ch.refl _ _)
  have hg0 : Hid (Gr W1 W1.drew) := (Ch.refl _ _).drew
  have K1 := hide k1
  clear k1 hgW
  go_region_held3 (fun w' => w'.cell? ⟨c, 5, none⟩ = some (.int .i64 1) ∧ w'.cell? ⟨c, 6, none⟩ = some (.slice (some ⟨o, 0, none⟩) 1 co) ∧ w'.cell? ⟨c, 7, none⟩ = some (.slice (some ⟨p, 0, none⟩) 1 cp) ∧ w'.cell? ⟨c, 8, none⟩ = some (.slice (some ⟨b, 0, none⟩) 1 cb) ∧ w'.cell? ⟨c, 9, none⟩ = some (.int .i64 0) ∧ w'.cell? ⟨w1.heap.size, 0, none⟩ = some (.int .i64 1) ∧ w'.cell? ⟨w1.heap.size, 1, none⟩ = some (.int .i64 0)) (first | go_keep | exact H1'.out _ hg2.out)
    (first | (go_at_call 27; go_must (refine (primary_one o co p cp b cb i ci x cx _ (HM.out.gr (HGW.out.gr hg0.out))).mono ?_; rintro e' w2 ⟨rfl, hgr⟩; have hg2 : Hid (Gr W1 w2) := hg0.out.gr hgr; clear hgr)))
  have HG2 : Hid (Gr w w2) := HGW.out.gr hg2.out
  obtain ⟨a0, a1, a2, a5, a6, a7, a8, a9, a11, b4, b5, b6, b7, b8, b9, lc, ln⟩ := H'.out w2 HG2.out
  have hlen : len ≤ 4096 := hle
  have mk3 : ∀ a : Array Value, Gr w2 (w2.alloc (.cells a 30)) ∧ Blk (w2.alloc (.cells a 30)) w2.heap.size 30 a := fun a => ⟨(Ch.refl _ _).alloc _, Blk.new _ _ _⟩
  have P2 : Hid (Blk w2 w1.heap.size 42 #[.int .i64 1, .int .i64 0]) := K1.out.gr hg2.out
  go_wp2_with (first
    | (at_builtin
       refine wpList_copy_bytes _ rfl _ _ rfl rfl A len cap xs rfl HX.out (HR.out.gr (HG2.out.alloc _)) H1.out (by omega) ?_
       intro A' c' w3 hg3 hr3
       have L3 := (mk3 _).2.gr hg3
       have HL3 := hide L3
       have e2 := L3.cell 2
       have f2 := L3.frozen
       have ll3 := L3.lt
       simp at e2
       have HG23 : Hid (Gr w2 w3) := ((Ch.refl _ _).alloc _).gr hg3
       clear hg3 hr3 L3 mk3))
  have mk4 : ∀ v : Value, ∃ W4 : World, W4 = w3.setCell ⟨w2.heap.size, 2, none⟩ v ∧ Ch (· = w2.heap.size) w3 W4 ∧ Blk W4 w2.heap.size 30 #[.int .i64 kind, .string s, v, .int .i64 x1, .int .i64 x2] := fun v =>
    ⟨_, rfl, (Ch.refl (· = w2.heap.size) _).set (p := ⟨w2.heap.size, 2, none⟩) (.inl rfl) _, by simpa using HL3.out.set_ 2 v⟩
  obtain ⟨W4, hW4, hc4, k4⟩ := mk4 _
  rw [← hW4]
  clear hW4 mk4 e2 f2 ll3 HL3 a0 a1 a2 a5 a6 a7 a8 a9 a11 b4 b5 b6 b7 b8 b9
  have HG4 : Hid (Gr w W4) := (HG2.out.gr HG23.out).trans hc4 (fun i hi e => by have := HG2.out.size; omega)
  have H4 : Hid (∀ w', Gr W4 w' → w'.cell? ⟨c, 0, none⟩ = some (.int .i64 sk) ∧ w'.cell? ⟨c, 1, none⟩ = some (.int .i64 si) ∧ w'.cell? ⟨c, 2, none⟩ = some (.int .i64 boot) ∧ w'.cell? ⟨c, 5, none⟩ = some (.int .i64 1) ∧ w'.cell? ⟨c, 11, none⟩ = some (.pointer (some ⟨n, 0, none⟩)) ∧ w'.cell? ⟨n, 9, none⟩ = some (.int .i64 number) ∧ w'.cell? ⟨w1.heap.size, 0, none⟩ = some (.int .i64 1) ∧ w'.cell? ⟨w1.heap.size, 1, none⟩ = some (.int .i64 0) ∧ w'.cell? ⟨w2.heap.size, 0, none⟩ = some (.int .i64 kind) ∧ w'.cell? ⟨w2.heap.size, 1, none⟩ = some (.string s) ∧ w'.cell? ⟨w2.heap.size, 2, none⟩ = some (.slice A' len c') ∧ w'.cell? ⟨w2.heap.size, 3, none⟩ = some (.int .i64 x1) ∧ w'.cell? ⟨w2.heap.size, 4, none⟩ = some (.int .i64 x2)) := fun w' h2 => by
    obtain ⟨a0, a1, a2, a5, _, _, _, _, a11, _, _, _, _, _, b9, _, _⟩ := H'.out w' (HG4.out.gr h2)
    have p4 := ((P2.out.gr HG23.out).ch hc4 (by have := P2.out.lt; omega)).gr h2
    have k4' := k4.gr h2
    exact ⟨a0, a1, a2, a5, a11, b9, p4.cell 0, p4.cell 1, k4'.cell 0, k4'.cell 1, k4'.cell 2, k4'.cell 3, k4'.cell 4⟩
  obtain ⟨z0, z1, z2, z3, z4, z5, z6, z7, z8, z9, z10, z11, z12⟩ := H4.out W4 (Ch.refl _ _)
  have hg40 : Hid (Gr W4 W4.drew) := (Ch.refl _ _).drew
  clear hc4 k4
  go_region_held3 (fun w' => w'.cell? ⟨c, 0, none⟩ = some (.int .i64 sk) ∧ w'.cell? ⟨c, 1, none⟩ = some (.int .i64 si) ∧ w'.cell? ⟨c, 2, none⟩ = some (.int .i64 boot) ∧ w'.cell? ⟨c, 5, none⟩ = some (.int .i64 1) ∧ w'.cell? ⟨c, 11, none⟩ = some (.pointer (some ⟨n, 0, none⟩)) ∧ w'.cell? ⟨n, 9, none⟩ = some (.int .i64 number) ∧ w'.cell? ⟨w1.heap.size, 0, none⟩ = some (.int .i64 1) ∧ w'.cell? ⟨w1.heap.size, 1, none⟩ = some (.int .i64 0) ∧ w'.cell? ⟨w2.heap.size, 0, none⟩ = some (.int .i64 kind) ∧ w'.cell? ⟨w2.heap.size, 1, none⟩ = some (.string s) ∧ w'.cell? ⟨w2.heap.size, 2, none⟩ = some (.slice A' len c') ∧ w'.cell? ⟨w2.heap.size, 3, none⟩ = some (.int .i64 x1) ∧ w'.cell? ⟨w2.heap.size, 4, none⟩ = some (.int .i64 x2)) (first | go_keep | exact H4.out _ (hg40.out.alloc _)) (fail)
  have HF : ∀ a : Array Value, Blk (W4.alloc (.cells a 58)) W4.heap.size 58 a ∧ w.heap.size ≤ W4.heap.size ∧ Gr w (W4.alloc (.cells a 58)) := fun a => ⟨Blk.new _ _ _, HG4.out.size, HG4.out.alloc _⟩
  have HF' := hide HF
  clear HF
  go_wp2
  go_ret
  exact ⟨W4.heap.size, A', len, c', rfl, (HF'.out _).1, (HF'.out #[]).2.1, (HF'.out _).2.2.drew⟩

end Go.Proofs.Ythjficahhcjfgaa
