/-
  The law's arguments, opened: whatever reads as a Start, an Op, a list of uint has this shape.
-/
import Derived.Test.YthjficahhcjfgaaReads
import Derived.ProofKit
import Derived.SizedLaws
import Derived.Deep.Slices
namespace Go.Proofs.Ythjficahhcjfgaa
open Go.ChangeShapes Go.WideShapes Go.RowKit Go.Deep

theorem cells25 : Try.prog.cellsOf 25 = 5 := by kernel_rfl
theorem cells30 : Try.prog.cellsOf 30 = 5 := by kernel_rfl
theorem cells23 : Try.prog.cellsOf 23 = 2 := by kernel_rfl
theorem cells28 : Try.prog.cellsOf 28 = 2 := by kernel_rfl
theorem cells3 : Try.prog.cellsOf 3 = 1 := by kernel_rfl
theorem cells9 : Try.prog.cellsOf 9 = 1 := by kernel_rfl
theorem cells26 : Try.prog.cellsOf 26 = 1 := by kernel_rfl
theorem cells5 : Try.prog.cellsOf 5 = 1 := by kernel_rfl
theorem cells61 : Try.prog.cellsOf 61 = 1 := by kernel_rfl
theorem bytes5 : Try.prog.bytesOf 5 = 1 := by kernel_rfl
theorem bytes61 : Try.prog.bytesOf 61 = 8 := by kernel_rfl

theorem list4 {α : Type} {l : List α} (h : l.length = 4) : ∃ a b c d, l = [a, b, c, d] := by
  match l, h with
  | [a, b, c, d], _ => exact ⟨a, b, c, d, rfl⟩
theorem list5 {α : Type} {l : List α} (h : l.length = 5) : ∃ a b c d e, l = [a, b, c, d, e] := by
  match l, h with
  | [a, b, c, d, e], _ => exact ⟨a, b, c, d, e, rfl⟩
theorem list2 {α : Type} {l : List α} (h : l.length = 2) : ∃ a b, l = [a, b] := by
  match l, h with
  | [a, b], _ => exact ⟨a, b, rfl⟩

section
variable {H : Type} {enc : TypeId × Value → H} {w : World} {sp : Nat → Bool} {hd : Bool}

theorem open_pair {n : Nat} {t : TypeId} {a b : Value} {y : DataW H × List MemPlace} (f0 f1 : Field) (hu : Try.prog.underlying t = some (.struct #[f0, f1])) (t0 : f0.type = 3) (t1 : f1.type = 3) (o0 : f0.offset = 0) (o1 : f1.offset = 1)
    (h : DataW.trod enc Try.prog w 0 sp hd n t [a, b] = some y) : ∃ x z : Int, a = .int .i64 x ∧ b = .int .i64 z := by
  obtain ⟨xs, m, _, _, _, hlen, hg⟩ := DataW.trod_struct hu h
  obtain ⟨y0, y1, rfl⟩ := list2 hlen
  have g0 := hg 0 f0 rfl
  have g1 := hg 1 f1 rfl
  rw [t0, o0, cells3] at g0
  rw [t1, o1, cells3] at g1
  obtain ⟨x, hx, _⟩ := DataW.trod_int Try.underlying3 g0
  obtain ⟨z, hz, _⟩ := DataW.trod_int Try.underlying3 g1
  exact ⟨x, z, by simpa using hx, by simpa using hz⟩

set_option maxRecDepth 100000 in
theorem open_start {v : Value} {d : DataW H} {p : List MemPlace} {b0 : Nat} (hv : Value.okWide Try.prog w .any b0 25 v) (h : DataW.Trod enc Try.prog w 0 sp hd 25 v d p) :
    ∃ sk si bo mo tr : Int, v = .agg #[.int .i64 sk, .int .i64 si, .int .i64 bo, .int .i64 mo, .int .i64 tr] := by
  obtain ⟨cs, rfl, hsz⟩ := okWide_struct Try.underlying25 hv
  obtain ⟨l⟩ := cs
  rw [cells25] at hsz
  obtain ⟨c0, c1, c2, c3, c4, rfl⟩ := list5 hsz
  obtain ⟨fuel, hf⟩ := h
  obtain ⟨xs, n, _, _, _, hlen, hg⟩ := DataW.trod_struct Try.underlying25 hf
  obtain ⟨y0, y1, y2, y3, rfl⟩ := list4 hlen
  have g0 := hg 0 _ rfl
  have g1 := hg 1 _ rfl
  have g2 := hg 2 _ rfl
  have g3 := hg 3 _ rfl
  simp [Value.cells, cells23, cells3] at g0 g1 g2 g3
  obtain ⟨sk, si, rfl, rfl⟩ := open_pair _ _ Try.underlying23 rfl rfl rfl rfl g0
  obtain ⟨b, hb, _⟩ := DataW.trod_int Try.underlying3 g1
  obtain ⟨m, hm, _⟩ := DataW.trod_int Try.underlying3 g2
  obtain ⟨t, ht, _⟩ := DataW.trod_int Try.underlying3 g3
  simp only [List.cons.injEq, and_true] at hb hm ht
  subst hb hm ht
  exact ⟨sk, si, b, m, t, rfl⟩

/-- What an argument that is a list of one-cell elements reads as. -/
theorem open_list {n : Nat} {t e : TypeId} {c : Value} {y : DataW H × List MemPlace} (ht : Try.prog.underlying t = some (.slice e)) (he : Try.prog.cellsOf e = 1) (h : DataW.trod enc Try.prog w 0 sp hd n t [c] = some y)
    (hlt : ∀ x ∈ y.2, x.block < w.heap.size) :
    ∃ A len cap, c = .slice A len cap ∧ (len = 0 ∨ ∃ elems spare, y.1 = .slice elems spare ∧ elems.length = len) ∧
      ∃ xs : List Value, xs.length = len ∧ Rd w A xs ∧ ∀ u ∈ xs, ∃ k y', DataW.trod enc Try.prog w 0 sp hd k e [u] = some y' := by
  rcases open_slice1 ht he h with ⟨hc, hx⟩ | ⟨a, len, cap, m, k, V, D, Pl, hc, _, hl, _, hm, hx, hi⟩
  · simp only [List.cons.injEq, and_true] at hc
    subst hc
    exact ⟨none, 0, 0, rfl, .inl rfl, [], rfl, fun h => absurd h (by simp), fun u hu => absurd hu (by simp)⟩
  · simp only [List.cons.injEq, and_true] at hc
    subst hc
    have hlm : len ≤ m := by rw [hm]; split <;> omega
    refine ⟨some a, len, cap, rfl, .inr ⟨_, _, by rw [hx], by simp⟩, (List.range len).map V, by simp, fun h0 => ⟨a, rfl, ?_, ?_⟩, ?_⟩
    · have hin : MemPlace.cell a.block a.off ∈ y.2 := by
        rw [hx]
        refine List.mem_append.2 (.inl (List.mem_map.2 ⟨0, List.mem_range.2 (by simp at h0; omega), by simp⟩))
      exact hlt _ hin
    · intro j u hu
      obtain ⟨hj, hv⟩ := List.getElem?_eq_some_iff.1 hu
      simp only [List.length_map, List.length_range] at hj
      rw [(hi j (by omega)).1, ← hv]
      simp
    · intro u hu
      obtain ⟨i, hin, rfl⟩ := List.mem_map.1 hu
      exact ⟨_, _, (hi i (by have := List.mem_range.1 hin; omega)).2⟩

set_option maxRecDepth 100000 in
theorem open_op {v : Value} {d : DataW H} {p : List MemPlace} {b0 : Nat} (hv : Value.okWide Try.prog w .any b0 30 v) (h : DataW.Trod enc Try.prog w 0 sp hd 30 v d p) (hlt : ∀ x ∈ p, x.block < w.heap.size)
    (hsz : ∀ k ∈ d.weights Try.prog 30, k ≤ reachBytes) :
    ∃ (kind x1 x2 : Int) (s : ByteArray) (A : Option Addr) (len cap : Nat) (xs : List Value), v = .agg #[.int .i64 kind, .string s, .slice A len cap, .int .i64 x1, .int .i64 x2] ∧
      s.size ≤ 140737488351232 ∧ xs.length = len ∧ len ≤ 140737488351232 ∧ Rd w A xs ∧ ∀ u ∈ xs, u.oneCell' = true := by
  obtain ⟨cs, rfl, hcs⟩ := okWide_struct Try.underlying30 hv
  obtain ⟨l⟩ := cs
  rw [cells30] at hcs
  obtain ⟨c0, c1, c2, c3, c4, rfl⟩ := list5 hcs
  obtain ⟨fuel, hf⟩ := h
  obtain ⟨xs, n, _, hx, _, hlen, hg⟩ := DataW.trod_struct Try.underlying30 hf
  obtain ⟨y0, y1, y2, y3, rfl⟩ := list4 hlen
  have g0 := hg 0 _ rfl
  have g1 := hg 1 _ rfl
  have g2 := hg 2 _ rfl
  have g3 := hg 3 _ rfl
  simp [Value.cells, cells28, cells3, cells9, cells26] at g0 g1 g2 g3
  obtain ⟨x1, x2, rfl, rfl⟩ := open_pair _ _ Try.underlying28 rfl rfl rfl rfl g3
  obtain ⟨kind, hk, _⟩ := DataW.trod_int Try.underlying3 g0
  obtain ⟨s, hs, hsd, _⟩ := DataW.trod_string Try.underlying9 g1
  simp only [List.cons.injEq, and_true] at hk hs
  subst hk hs
  simp only [Prod.mk.injEq] at hx
  obtain ⟨rfl, rfl⟩ := hx
  obtain ⟨A, len, cap, rfl, hsl, zs, hzl, hrd, hz⟩ := open_list Try.underlying26 cells5 g2 (fun x hx => hlt x (by simp; exact .inr (.inr (.inl hx))))
  have hw1 : s.size ≤ 140737488351232 := hsz s.size (by
    rw [hsd]
    simp [DataW.weights, Try.underlying30, DataW.weightsEach])
  have hw2 : len ≤ 140737488351232 := by
    rcases hsl with h0 | ⟨el, sp', hy, hel⟩
    · omega
    · have h1 := hsz ((el.length + sp'.length) * Try.prog.bytesOf 5) (by
        simp [DataW.weights, Try.underlying30, DataW.weightsEach, hy, Try.underlying26])
      rw [bytes5] at h1
      unfold reachBytes at h1
      omega
  refine ⟨kind, x1, x2, s, A, len, cap, zs, rfl, hw1, hzl, hw2, hrd, fun u hu => ?_⟩
  obtain ⟨k, y', hy'⟩ := hz u hu
  obtain ⟨b, hb, _⟩ := DataW.trod_int Try.underlying5 hy'
  simp only [List.cons.injEq, and_true] at hb
  subst hb
  rfl

set_option maxRecDepth 100000 in
theorem open_uints {v : Value} {d : DataW H} {p : List MemPlace} {b0 : Nat} (hv : Value.okWide Try.prog w .any b0 31 v) (h : DataW.Trod enc Try.prog w 0 sp hd 31 v d p) (hlt : ∀ x ∈ p, x.block < w.heap.size)
    (hsz : ∀ k ∈ d.weights Try.prog 31, k ≤ reachBytes) :
    ∃ (A : Option Addr) (len cap : Nat) (xs : List Value), v = .slice A len cap ∧ xs.length = len ∧ len ≤ 140737488351232 ∧ Rd w A xs ∧ ∀ u ∈ xs, ∃ z : Int, u = .int .u64 z ∧ 0 ≤ z := by
  have hvs : ∃ A len cap, v = .slice A len cap := by
    simp only [Value.okWide, Try.underlying31, Cell.okWide] at hv
    cases v <;> simp_all [Cell.ok]
  obtain ⟨A0, l0, c0, rfl⟩ := hvs
  obtain ⟨fuel, hf⟩ := h
  obtain ⟨A, len, cap, hc, hsl, zs, hzl, hrd, hz⟩ := open_list (y := (d, p)) Try.underlying31 cells61 hf hlt
  refine ⟨A, len, cap, zs, hc, hzl, ?_, hrd, fun u hu => ?_⟩
  · rcases hsl with h0 | ⟨el, sp', hy, hel⟩
    · omega
    · have hy' : d = .slice el sp' := hy
      have h1 := hsz ((el.length + sp'.length) * Try.prog.bytesOf 61) (by
        simp [DataW.weights, hy', Try.underlying31])
      rw [bytes61] at h1
      unfold reachBytes at h1
      omega
  · obtain ⟨k, y', hy'⟩ := hz u hu
    obtain ⟨b, hb, _, hw⟩ := DataW.trod_int Try.underlying61 hy'
    simp only [List.cons.injEq, and_true] at hb
    subst hb
    have h0 : 0 ≤ b := by
      unfold Lit.wf at hw
      simp at hw
      have h1 : IntKind.u64.min = 0 := by decide
      omega
    exact ⟨b, rfl, h0⟩
end


end Go.Proofs.Ythjficahhcjfgaa
