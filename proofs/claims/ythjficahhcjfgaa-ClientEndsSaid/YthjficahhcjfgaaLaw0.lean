/-
  What stands in each round of the law's loop; a tick keeps it.
-/
import Derived.Test.YthjficahhcjfgaaLives
import Derived.Deep.MidRow
namespace Go.Proofs.Ythjficahhcjfgaa
open Go.RowKit

/-- What stands in each round: the argument, the op under way, its request, the map. -/
structure LRun (sk si boot : Int) (N T : Nat) (kind x1 x2 : Int) (s : ByteArray) (o co p cp b cb i ci x cx c n g : Nat) (A' : Option Addr) (len k' : Nat) (xs : List Value) (A : Option Addr) (kk m : Nat) (R : Option Addr) (us : List Value) (w : World) (k : Nat) (wr : World) : Prop where
  cl : Blk wr c 82 (clientCells sk si boot N T (.int .i64 1) (.slice (some ⟨o, 0, none⟩) 1 co) (.slice (some ⟨p, 0, none⟩) 1 cp) (.slice (some ⟨b, 0, none⟩) 1 cb) (.int .i64 0) 1 (.pointer (some ⟨n, 0, none⟩)) (.pointer none))
  op : Blk wr n 89 (opCells 0 0 kind s (.slice A' len k') x1 x2 1 k)
  m1 : M1 wr o co p cp b cb i ci x cx
  rd : Rd wr A' xs
  rq : Blk wr g 58 (reqCells sk si boot 1 kind s (.slice A kk m) x1 x2)
  st : Blk wr w.heap.size 25 #[.int .i64 sk, .int .i64 si, .int .i64 boot, .int .i64 N, .int .i64 T]
  rp : Rd wr R us
  gr : Gr w wr

/-- What stands when the tries are spent. -/
structure LEnd (sk si boot : Int) (N T : Nat) (me mo mp mb ml : Value) (num : Int) (c a : Nat) (w wr : World) : Prop where
  cl : Blk wr c 82 (clientCells sk si boot N T me mo mp mb ml num (.pointer none) (.pointer (some ⟨a, 0, none⟩)))
  an : Blk wr a 63 #[.int .i64 110, .string ⟨#[]⟩, .int .i64 0, .int .i64 0, .slice none 0 0, .slice none 0 0]
  st : Blk wr w.heap.size 25 #[.int .i64 sk, .int .i64 si, .int .i64 boot, .int .i64 N, .int .i64 T]
  gr : Gr w wr

/-- What a tick in the loop comes to. -/
def TickL (sk si boot : Int) (N T : Nat) (kind x1 x2 : Int) (s : ByteArray) (o co p cp b cb i ci x cx c n g : Nat) (A' : Option Addr) (len k' : Nat) (xs : List Value) (A : Option Addr) (kk m : Nat) (R : Option Addr) (us : List Value) (w wr : World) (k : Nat) (e : Ending) (w' : World) : Prop :=
  ∃ g7 cap7 M ys, e = .returned (.slice (some ⟨g7, 0, none⟩) M cap7) ∧ w'.ownsRow wr.heap.size 58 46 (.slice (some ⟨g7, 0, none⟩) M cap7) M ys ∧ 1 ≤ M ∧ M ≤ 6 ∧ Asks boot M ys ∧ wr.heap.size ≤ w'.heap.size ∧
    ((k + 1 ≤ T ∧ LRun sk si boot N T kind x1 x2 s o co p cp b cb i ci x cx c n g A' len k' xs A kk m R us w (k + 1) w') ∨
     (k + 1 = T + 1 ∧ ∃ a, LEnd sk si boot N T (.int .i64 1) (.slice (some ⟨o, 0, none⟩) 1 co) (.slice (some ⟨p, 0, none⟩) 1 cp) (.slice (some ⟨b, 0, none⟩) 1 cb) (.int .i64 0) 1 c a w w'))

theorem tick_law (sk si boot : Int) (N T : Nat) (kind x1 x2 : Int) (s : ByteArray) (o co p cp b cb i ci x cx c n g : Nat) (A' : Option Addr) (len k' : Nat) (xs : List Value) (A : Option Addr) (kk m : Nat) (R : Option Addr) (us : List Value) (w wr : World) (k : Nat)
    (h : LRun sk si boot N T kind x1 x2 s o co p cp b cb i ci x cx c n g A' len k' xs A kk m R us w k wr) (hk : k ≤ T) (hT : T ≤ 200) (hbt : 0 < boot) (hN : 1 ≤ N) (hN5 : N ≤ 5)
    (hs : s.size ≤ 140737488351232) (hgb : Hid (goodB s = true)) (hx : xs.length = len) (h1 : ∀ u ∈ xs, u.oneCell' = true) (hle : len ≤ 4096) (hru : Rd w R us)
    (hrb : ∀ ad, A' = some ad → ad.block ≠ n ∧ ad.block ≠ c) (ho : o ≠ n) (hp : p ≠ n) (hbb : b ≠ n) (hi : i ≠ n) (hxx : x ≠ n) (hwn : w.heap.size < n) (hwc : w.heap.size < c) :
    Calls Try.prog 11 #[.pointer (some ⟨c, 0, none⟩)] wr (TickL sk si boot N T kind x1 x2 s o co p cp b cb i ci x cx c n g A' len k' xs A kk m R us w wr k) := by
  have cne : c ≠ n := h.cl.ne_ h.op (by decide)
  have hgn : g ≠ n := h.rq.ne_ h.op (by decide)
  by_cases hmore : k + 1 ≤ T
  · refine (tick_more sk si boot T kind x1 x2 k N s A' len k' xs (.pointer none) c n o co p cp b cb i ci x cx wr hbt hN hN5 h.m1 h.cl h.op hs hgb hx h.rd h1 hle (fun ad ha _ => (hrb ad ha).1) ho hp hbb hi hxx (by omega) (by omega) (by omega)).mono ?_
    rintro e w' ⟨⟨g7, cap7, M, ys, rfl, hown, hM1, hM6, hask⟩, hop, hch⟩
    have hgw : Gr w w' := ((Gr.any h.gr : Ch (fun i => w.heap.size ≤ i) w wr).trans (hch.mono (fun i _ h => by have h' : i = n := h; show w.heap.size ≤ i; omega)) (fun i _ h => h)).mono (fun i hi h => by have h' : w.heap.size ≤ i := h; omega)
    have hcast : ((k : Int) + 1) = ((k + 1 : Nat) : Int) := by omega
    rw [hcast] at hop
    exact ⟨g7, cap7, M, ys, rfl, hown, hM1, hM6, hask, hch.size, .inl ⟨hmore, h.cl.ch hch cne, hop, h.m1.ch hch ho hp hbb hi hxx, h.rd.ch hch (fun ad ha _ => (hrb ad ha).1), h.rq.ch hch hgn, h.st.ch hch (by show ¬ (w.heap.size = n); omega), hru.gr hgw, hgw⟩⟩
  · refine (tick_last sk si boot T kind x1 x2 k N s _ _ _ _ _ (.pointer none) 1 c n wr hbt hN hN5 h.cl h.op (by omega) (by omega) (by omega)).mono ?_
    rintro e w' ⟨⟨g7, cap7, M, ys, rfl, hown, hM1, hM6, hask⟩, a, hcl, han, hal, hch⟩
    have hgw : Gr w w' := ((Gr.any h.gr : Ch (fun i => w.heap.size ≤ i) w wr).trans (hch.mono (fun i _ h => by show w.heap.size ≤ i; rcases h with h | h <;> omega)) (fun i _ h => h)).mono (fun i hi h => by have h' : w.heap.size ≤ i := h; omega)
    exact ⟨g7, cap7, M, ys, rfl, hown, hM1, hM6, hask, hch.size, .inr ⟨by omega, a, hcl, han, h.st.ch hch (by rintro (h | h) <;> omega), hgw⟩⟩

theorem LRun.grow {sk si boot : Int} {N T : Nat} {kind x1 x2 : Int} {s : ByteArray} {o co p cp b cb i ci x cx c n g : Nat} {A' : Option Addr} {len k' : Nat} {xs : List Value} {A : Option Addr} {kk m : Nat} {R : Option Addr} {us : List Value} {w wr w' : World} {k : Nat}
    (h : LRun sk si boot N T kind x1 x2 s o co p cp b cb i ci x cx c n g A' len k' xs A kk m R us w k wr) (hg : Gr wr w') : LRun sk si boot N T kind x1 x2 s o co p cp b cb i ci x cx c n g A' len k' xs A kk m R us w k w' :=
  ⟨h.cl.gr hg, h.op.gr hg, h.m1.gr hg, h.rd.gr hg, h.rq.gr hg, h.st.gr hg, h.rp.gr hg, h.gr.gr hg⟩

theorem LEnd.grow {sk si boot : Int} {N T : Nat} {me mo mp mb ml : Value} {num : Int} {c a : Nat} {w wr w' : World} (h : LEnd sk si boot N T me mo mp mb ml num c a w wr) (hg : Gr wr w') : LEnd sk si boot N T me mo mp mb ml num c a w w' :=
  ⟨h.cl.gr hg, h.an.gr hg, h.st.gr hg, h.gr.gr hg⟩

/-- The cells of message j. -/
def partOf (ys : List Value) (j : Nat) : List Value := (ys.drop (46 * j)).take 46

theorem partOf_len {ys : List Value} {M j : Nat} (hl : ys.length = M * 46) (hj : j < M) : (partOf ys j).length = 46 := by
  unfold partOf
  rw [List.length_take, List.length_drop]
  omega

theorem partOf_get {ys : List Value} {j i : Nat} (hi : i < 46) : (partOf ys j)[i]? = ys[46 * j + i]? := by
  unfold partOf
  rw [List.getElem?_take_of_lt hi, List.getElem?_drop]

theorem range_part {w : World} {B g cap M j : Nat} {ys : List Value} (h : w.ownsRow B 58 46 (.slice (some ⟨g, 0, none⟩) M cap) M ys) (hj : j < M) : w.rangeAt g (j * 46) (partOf ys j) := fun i v hv => by
  rw [Nat.mul_comm j 46]
  have hi : i < 46 := by
    have h1 := (List.getElem?_eq_some_iff.1 hv).1
    rw [partOf_len h.1 hj] at h1
    exact h1
  rw [partOf_get hi] at hv
  rw [h.cellAt (46 * j + i) (by omega)]
  exact hv

theorem Ch.cells {S : Nat → Prop} {w : World} (b : Nat) (hp : S b ∨ w.heap.size ≤ b) : ∀ (vs : List Value) (o : Nat) (w' : World), Ch S w w' → Ch S w (w'.setCells b o vs)
  | [], _, _, h => h
  | v :: r, o, _, h => Ch.cells b hp r (o + 1) _ (h.set (p := ⟨b, o, none⟩) hp v)

theorem part_there (w : World) (a : Array Value) (cs : List Value) (ha : a.size = cs.length) : (w.alloc (.cells a 58)).there w.heap.size 0 cs.length := fun i hi => by
  have kb : Blk (w.alloc (.cells a 58)) w.heap.size 58 a := Blk.new _ _ _
  rw [Nat.zero_add, kb.cell]
  refine ⟨?_, kb.frozen _⟩
  rw [Array.getElem?_eq_getElem (by omega)]
  rfl

theorem part_new (w : World) (a : Array Value) (cs : List Value) (ha : a.size = cs.length) : ∃ V, V = (w.alloc (.cells a 58)).setCells w.heap.size 0 cs ∧ Gr w V ∧ ∀ i v, cs[i]? = some v → V.cell? ⟨w.heap.size, i, none⟩ = some v := by
  refine ⟨_, rfl, Ch.cells w.heap.size (.inr (Nat.le_refl _)) _ 0 _ ((Ch.refl _ w).alloc _), ?_⟩
  intro i v hv
  have h := World.rangeAt_setCells_same (w.alloc (.cells a 58)) w.heap.size 0 cs (part_there w a cs ha) i v hv
  simpa using h

theorem part_one {boot : Int} {M j : Nat} {ys : List Value} (h : Asks boot M ys) : ∀ v ∈ partOf ys j, v.oneCell' = true := fun v hv => by
  unfold partOf at hv
  exact h.2 v (List.mem_of_mem_drop (List.mem_of_mem_take hv))

theorem part_kind {boot : Int} {M j : Nat} {ys : List Value} (h : Asks boot M ys) (hj : j < M) : (partOf ys j)[0]? = some (.int .i64 14) ∨ ((partOf ys j)[0]? = some (.int .i64 30) ∧ (partOf ys j)[9]? = some (.int .i64 boot) ∧ (partOf ys j)[10]? = some (.int .i64 1)) := by
  rw [partOf_get (by omega), partOf_get (by omega), partOf_get (by omega)]
  exact h.1 j hj

end Go.Proofs.Ythjficahhcjfgaa
