/-
  crush.Check: the hierarchy of one bucket with osd 0 is good.
-/
import Derived.Test.YthjficahhcjfgaaSmall
import Derived.Maps.OwnOps
namespace Go.Proofs.Ythjficahhcjfgaa
open Go.RowKit Go.Maps

/-- The list of buckets: one, the root, with osd 0. -/
structure BK (w : World) (b i ci x cx : Nat) : Prop where
  lb : b < w.heap.size
  li : i < w.heap.size
  lx : x < w.heap.size
  hi : 1 ≤ ci
  hx : 1 ≤ cx
  b0 : w.cell? ⟨b, 0, none⟩ = some (.int .i64 (-1))
  b1 : w.cell? ⟨b, 1, none⟩ = some (.int .i64 3)
  b2 : w.cell? ⟨b, 2, none⟩ = some (.slice (some ⟨i, 0, none⟩) 1 ci)
  b3 : w.cell? ⟨b, 3, none⟩ = some (.slice (some ⟨x, 0, none⟩) 1 cx)
  i0 : w.cell? ⟨i, 0, none⟩ = some (.int .i64 0)
  x0 : w.cell? ⟨x, 0, none⟩ = some (.int .i64 65536)

theorem BK.ch {S : Nat → Prop} {w w' : World} {b i ci x cx : Nat} (h : BK w b i ci x cx) (hc : Ch S w w') (sb : ¬ S b) (si : ¬ S i) (sx : ¬ S x) : BK w' b i ci x cx := by
  have hz := hc.size
  have k : ∀ (g n : Nat), g < w.heap.size → ¬ S g → w'.cell? ⟨g, n, none⟩ = w.cell? ⟨g, n, none⟩ := fun g n hg hn => hc.cell (p := ⟨g, n, none⟩) hg hn
  obtain ⟨lb, li, lx, hi, hx, b0, b1, b2, b3, i0, x0⟩ := h
  refine ⟨by omega, by omega, by omega, hi, hx, ?_, ?_, ?_, ?_, ?_, ?_⟩ <;> (rw [k _ _ (by assumption) (by assumption)]; assumption)
theorem BK.gr {w w' : World} {b i ci x cx : Nat} (h : BK w b i ci x cx) (hc : Gr w w') : BK w' b i ci x cx := h.ch hc (fun f => f) (fun f => f) (fun f => f)
theorem M1.bk {w : World} {o co p cp b cb i ci x cx : Nat} (h : M1 w o co p cp b cb i ci x cx) : BK w b i ci x cx := ⟨h.lb, h.li, h.lx, h.hi, h.hx, h.b0, h.b1, h.b2, h.b3, h.i0, h.x0⟩

theorem law3 : Keyed Try.prog 3 := int_keyed Try.underlying3
theorem zero3 (w : World) : (zeroValue 3).run Try.prog w = .ok (.int .i64 0) w := by kernel_rfl

theorem at_none {c : Int} (h : (DataW.map [] : DataW Unit).atKey (.int .i64 0) (.lit (.int .i64 0)) = .lit (.int .i64 c)) : c = 0 := by
  have e : (DataW.map [] : DataW Unit).atKey (.int .i64 0) (.lit (.int .i64 0)) = .lit (.int .i64 0) := rfl
  rw [e] at h
  injection h with h
  injection h with _ h
  exact h.symm
theorem at_put {c : Int} (h : ((DataW.map [] : DataW Unit).put (.int .i64 0) (.lit (.int .i64 1))).atKey (.int .i64 0) (.lit (.int .i64 0)) = .lit (.int .i64 c)) : c = 1 := by
  have e : ((DataW.map [] : DataW Unit).put (.int .i64 0) (.lit (.int .i64 1))).atKey (.int .i64 0) (.lit (.int .i64 0)) = .lit (.int .i64 1) := by rfl
  rw [e] at h
  injection h with h
  injection h with _ h
  exact h.symm

set_option maxHeartbeats 1000000 in
set_option maxRecDepth 100000 in
theorem check_one (e ob pb : Value) (b cb i ci x cx : Nat) (w : World) (h : BK w b i ci x cx) :
    Calls Try.prog 45 #[.agg #[e, ob, pb, .slice (some ⟨b, 0, none⟩) 1 cb, .int .i64 0]] w fun e w' => e = .returned (.int .i64 0) ∧ Gr w w' := by
  have hmm := @run_makeMap Try.prog
  obtain ⟨lb, li, lx, _, _, b0, b1, b2, b3, i0, x0⟩ := h
  have mk : ∀ a d : Array Value, ∃ W : World, W = ((w.alloc (.cells a 72)).alloc (.map #[] 0)).alloc (.cells d 93) ∧ Gr w W ∧ W.heap.size = w.heap.size + 3 ∧ Blk W w.heap.size 72 a ∧ Blk W (w.heap.size + 1 + 1) 93 d ∧
      W.ownsMap Try.prog 3 (plainElem (H := Unit) Try.prog 3) (w.heap.size + 1) 0 (.map []) :=
    fun a d => ⟨_, rfl, (((Ch.refl _ _).alloc _).alloc _).alloc _, by simp, ((Blk.new _ _ _).alloc _).alloc _, Blk.new_ _ _ _ _ (by simp), by
      have h := (World.ownsMap_made (w.alloc (.cells a 72)) Try.prog 3 (plainElem (H := Unit) Try.prog 3)).alloc (.cells d 93)
      simpa using h⟩
  go_enter Try.func45, Try.ntmps45
  go_wp2
  refine wp_loop_rounds 2 ?_
  rw [rounds_succ]
  go_wp2
  refine wp_loop_rounds 1 ?_
  rw [rounds_succ]
  go_wp2
  obtain ⟨W, hW, hg, hz, k0, k2, hown0⟩ := mk _ _
  rw [← hW]
  clear hW mk hmm b0 b1 b2 b3
  have H' : Hid (∀ W1, Ch (· = w.heap.size + 1) W W1 → W1.cell? ⟨w.heap.size, 0, none⟩ = some e ∧ W1.cell? ⟨w.heap.size, 1, none⟩ = some ob ∧ W1.cell? ⟨w.heap.size, 2, none⟩ = some pb ∧ W1.cell? ⟨w.heap.size, 3, none⟩ = some (.slice (some ⟨b, 0, none⟩) 1 cb) ∧ W1.cell? ⟨w.heap.size, 4, none⟩ = some (.int .i64 0) ∧ W1.cell? ⟨w.heap.size + 1 + 1, 0, none⟩ = some (.int .i64 (-1)) ∧ W1.cell? ⟨w.heap.size + 1 + 1, 1, none⟩ = some (.int .i64 3) ∧ W1.cell? ⟨w.heap.size + 1 + 1, 2, none⟩ = some (.slice (some ⟨i, 0, none⟩) 1 ci) ∧ W1.cell? ⟨w.heap.size + 1 + 1, 3, none⟩ = some (.slice (some ⟨x, 0, none⟩) 1 cx) ∧ W1.cell? ⟨i, 0, none⟩ = some (.int .i64 0) ∧ W1.cell? ⟨x, 0, none⟩ = some (.int .i64 65536)) := by
    intro W1 h1
    have k := k0.ch h1 (by omega)
    have k' := k2.ch h1 (by omega)
    have hs := hg.size
    exact ⟨k.cell 0, k.cell 1, k.cell 2, k.cell 3, k.cell 4, k'.cell 0, k'.cell 1, k'.cell 2, k'.cell 3, (h1.cell (p := ⟨i, 0, none⟩) (Nat.lt_of_lt_of_le li hs) (by show ¬ i = _; omega)).trans ((hg.cell (p := ⟨i, 0, none⟩) li (fun f => f)).trans i0), (h1.cell (p := ⟨x, 0, none⟩) (Nat.lt_of_lt_of_le lx hs) (by show ¬ x = _; omega)).trans ((hg.cell (p := ⟨x, 0, none⟩) lx (fun f => f)).trans x0)⟩
  obtain ⟨q0, q1, q2, q3, q4, q5, q6, q7, q8, q9, q10⟩ := H'.out W (Ch.refl _ _)
  have HG := hide hg
  clear i0 x0 k0 k2 hg hz
  refine wp_loop_rounds 2 ?_
  rw [rounds_succ]
  go_wp2_with (first
      | (at_lookup; refine wpList_lookup_own_int _ rfl _ _ 144 rfl 3 3 .i64 law3 Try.underlying144 Try.underlying3 (zero3 _) (w.heap.size + 1) 1 _ rfl hown1 _ _ rfl (keyOf_int_mk Try.underlying3 (by decide)) ?_; intro c hat hwc; obtain rfl := at_put hat; clear hat hwc)
      | (at_lookup; refine wpList_lookup_own_int _ rfl _ _ 144 rfl 3 3 .i64 law3 Try.underlying144 Try.underlying3 (zero3 _) (w.heap.size + 1) 0 _ rfl hown0 _ _ rfl (keyOf_int_mk Try.underlying3 (by decide)) ?_; intro c hat hwc; obtain rfl := at_none hat; clear hat hwc)
      | (at_mapUpdate; refine wpList_mapUpdate_own _ rfl _ _ _ 144 rfl 3 3 law3 Try.underlying144 _ (w.heap.size + 1) 0 _ rfl hown0 (by unfold maxLen; omega) _ _ _ rfl rfl (keyOf_int_mk Try.underlying3 (by decide)) _ [] (plainElem_int Try.underlying3 (by decide)) ?_; intro w1 hown1 hgrow1; have hc1 : Hid (Ch (· = w.heap.size + 1) W w1) := (Ch.refl _ _).grown hgrow1 (fun k hk => .inl (by injection hk with hk; exact hk.symm)); obtain ⟨q0, q1, q2, q3, q4, q5, q6, q7, q8, q9, q10⟩ := H'.out w1 hc1.out; clear hgrow1)
      | (go_at_call 54; refine (may_zero _ _ _ rfl rfl).mono ?_; rintro e2 w2 ⟨rfl, hgr⟩; have hc2 : Hid (Ch (· = w.heap.size + 1) W w2) := hc1.out.gr hgr; obtain ⟨q0, q1, q2, q3, q4, q5, q6, q7, q8, q9, q10⟩ := H'.out w2 hc2.out; clear hgr))
  rw [rounds_succ]
  go_wp2
  rw [rounds_succ]
  go_wp2
  go_ret
  exact ⟨rfl, HG.out.trans hc2.out (fun i hi e => by omega)⟩

end Go.Proofs.Ythjficahhcjfgaa
