/-
  straw.Choose among one item of weight one: it is chosen.
-/
import Derived.Test.YthjficahhcjfgaaStraw
import Derived.Deep.RegionHeld3
namespace Go.Proofs.Ythjficahhcjfgaa
open Go.RowKit

/-- What the straws' closure has captured, and what lies behind it. -/
structure Capt (w : World) (g : Addr) (e x i r v I ci V cv : Nat) (xv rv : Int) : Prop where
  le : e < w.heap.size
  lx : x < w.heap.size
  li : i < w.heap.size
  lr : r < w.heap.size
  lv : v < w.heap.size
  lI : I < w.heap.size
  lV : V < w.heap.size
  ce : w.cell? ⟨e, 0, none⟩ = some (.pointer (some g))
  cx : w.cell? ⟨x, 0, none⟩ = some (.int .u32 xv)
  ci_ : w.cell? ⟨i, 0, none⟩ = some (.slice (some ⟨I, 0, none⟩) 1 ci)
  cr : w.cell? ⟨r, 0, none⟩ = some (.int .i64 rv)
  cv_ : w.cell? ⟨v, 0, none⟩ = some (.slice (some ⟨V, 0, none⟩) 1 cv)
  cI : w.cell? ⟨I, 0, none⟩ = some (.int .i64 0)
  cV : w.cell? ⟨V, 0, none⟩ = some (.int .i64 65536)

theorem Capt.gr {w w' : World} {g : Addr} {e x i r v I ci V cv : Nat} {xv rv : Int} (h : Capt w g e x i r v I ci V cv xv rv) (hc : Gr w w') : Capt w' g e x i r v I ci V cv xv rv := by
  have hz := hc.size
  have k : ∀ (g n : Nat), g < w.heap.size → w'.cell? ⟨g, n, none⟩ = w.cell? ⟨g, n, none⟩ := fun g n hg => hc.cell (p := ⟨g, n, none⟩) hg (fun f => f)
  obtain ⟨le, lx, li, lr, lv, lI, lV, ce, cx, ci_, cr, cv_, cI, cV⟩ := h
  refine ⟨by omega, by omega, by omega, by omega, by omega, by omega, by omega, ?_, ?_, ?_, ?_, ?_, ?_, ?_⟩ <;> (rw [k _ _ (by assumption)]; assumption)

set_option maxHeartbeats 1000000 in
set_option maxRecDepth 100000 in
theorem chooseF_any (g : Addr) (e x i r v I ci V cv : Nat) (xv rv : Int) (w : World) (h : Capt w g e x i r v I ci V cv xv rv) :
    Calls Try.prog 85 #[.int .i64 0, .pointer (some ⟨e, 0, none⟩), .pointer (some ⟨x, 0, none⟩), .pointer (some ⟨i, 0, none⟩), .pointer (some ⟨r, 0, none⟩), .pointer (some ⟨v, 0, none⟩)] w
      fun e w' => (∃ r : Int, e = .returned (.int .i64 r)) ∧ Gr w w' := by
  have H : ∀ W, Gr w W → W.cell? ⟨e, 0, none⟩ = some (.pointer (some g)) ∧ W.cell? ⟨x, 0, none⟩ = some (.int .u32 xv) ∧ W.cell? ⟨i, 0, none⟩ = some (.slice (some ⟨I, 0, none⟩) 1 ci) ∧
      W.cell? ⟨r, 0, none⟩ = some (.int .i64 rv) ∧ W.cell? ⟨v, 0, none⟩ = some (.slice (some ⟨V, 0, none⟩) 1 cv) ∧ W.cell? ⟨I, 0, none⟩ = some (.int .i64 0) ∧ W.cell? ⟨V, 0, none⟩ = some (.int .i64 65536) :=
    fun W hW => let k := h.gr hW; ⟨k.ce, k.cx, k.ci_, k.cr, k.cv_, k.cI, k.cV⟩
  have H' := hide H
  obtain ⟨ce, cx, ci_, cr, cv_, cI, cV⟩ := H w (Ch.refl _ _)
  have hg0 : Hid (Gr w w.drew) := (Ch.refl _ _).drew
  clear H h
  go_enter Try.func85, Try.ntmps85
  go_wp2
  go_region_held3 (fun w' => w'.cell? ⟨e, 0, none⟩ = some (.pointer (some g)) ∧ w'.cell? ⟨x, 0, none⟩ = some (.int .u32 xv) ∧ w'.cell? ⟨i, 0, none⟩ = some (.slice (some ⟨I, 0, none⟩) 1 ci) ∧
      w'.cell? ⟨r, 0, none⟩ = some (.int .i64 rv) ∧ w'.cell? ⟨v, 0, none⟩ = some (.slice (some ⟨V, 0, none⟩) 1 cv) ∧ w'.cell? ⟨I, 0, none⟩ = some (.int .i64 0) ∧ w'.cell? ⟨V, 0, none⟩ = some (.int .i64 65536))
    (first | go_keep | exact H'.out _ hg1.out)
    (first
      | (go_at_call 87; refine (hash3_any _ _ _ _ _).mono ?_; rintro e' w1 ⟨⟨hv, rfl⟩, hgr⟩; have hg1 : Hid (Gr w w1) := hg0.out.gr hgr; clear hgr)
      | (go_at_call 86; refine (draw_any _ _).mono ?_; rintro e' w2 ⟨⟨dv, rfl⟩, rfl⟩))
  go_wp2
  go_ret
  exact ⟨⟨_, rfl⟩, hg1.out⟩

set_option maxHeartbeats 1000000 in
set_option maxRecDepth 100000 in
theorem choose_one (I ci V cv : Nat) (xv rv : Int) (w : World) (lI : I < w.heap.size) (lV : V < w.heap.size)
    (cI : w.cell? ⟨I, 0, none⟩ = some (.int .i64 0)) (cV : w.cell? ⟨V, 0, none⟩ = some (.int .i64 65536)) :
    Calls Try.prog 71 #[.slice (some ⟨I, 0, none⟩) 1 ci, .slice (some ⟨V, 0, none⟩) 1 cv, .int .u32 xv, .int .i64 rv] w
      fun e w' => e = .returned (.tuple #[.int .i64 0, .bool true]) ∧ Gr w w' := by
  have mk : ∃ W : World, W = ((((w.alloc (.cells #[.slice (some ⟨I, 0, none⟩) 1 ci] 91)).alloc (.cells #[.slice (some ⟨V, 0, none⟩) 1 cv] 91)).alloc (.cells #[.int .u32 xv] 137)).alloc (.cells #[.int .i64 rv] 3)) ∧ Gr w W ∧ W.heap.size = w.heap.size + 4 ∧
      Blk W w.heap.size 91 #[.slice (some ⟨I, 0, none⟩) 1 ci] ∧ Blk W (w.heap.size + 1) 91 #[.slice (some ⟨V, 0, none⟩) 1 cv] ∧ Blk W (w.heap.size + 1 + 1) 137 #[.int .u32 xv] ∧ Blk W (w.heap.size + 1 + 1 + 1) 3 #[.int .i64 rv] :=
    ⟨_, rfl, ((((Ch.refl _ _).alloc _).alloc _).alloc _).alloc _, by simp, (((Blk.new _ _ _).alloc _).alloc _).alloc _, ((Blk.new_ _ _ _ _ (by simp)).alloc _).alloc _, (Blk.new_ _ _ _ _ (by simp)).alloc _, Blk.new_ _ _ _ _ (by simp)⟩
  go_enter Try.func71, Try.ntmps71
  go_wp2_with fail
  go_step3
  go_wp2_with fail
  obtain ⟨W, hW, hg, hz, b0, b1, b2, b3⟩ := mk
  rw [← hW]
  clear hW
  refine (new_any _).mono ?_
  rintro e' w1 ⟨rfl, rfl⟩
  have c0 := b0.cell 0
  have c1 := b1.cell 0
  have c2 := b2.cell 0
  have c3 := b3.cell 0
  simp at c0 c1 c2 c3
  have CI : W.cell? ⟨I, 0, none⟩ = some (.int .i64 0) := (hg.cell (p := ⟨I, 0, none⟩) lI (fun f => f)).trans cI
  have CV : W.cell? ⟨V, 0, none⟩ = some (.int .i64 65536) := (hg.cell (p := ⟨V, 0, none⟩) lV (fun f => f)).trans cV
  have LI : I < W.heap.size := by omega
  have LV : V < W.heap.size := by omega
  have HG := hide hg
  have HZ := hide hz
  have l0 : w.heap.size < W.heap.size := by omega
  have l1 : w.heap.size + 1 < W.heap.size := by omega
  have l2 : w.heap.size + 1 + 1 < W.heap.size := by omega
  have l3 : w.heap.size + 1 + 1 + 1 < W.heap.size := by omega
  clear hg hz b0 b1 b2 b3 cI cV lI lV
  go_wp2
  go_step3
  go_wp2
  refine wp_loop_rounds 2 ?_
  rw [rounds_succ]
  go_wp2_with fail
  have hgr : Gr W ((W.alloc (.cells Try.zeroCells157 157)).alloc (.cells #[.pointer (some ⟨W.heap.size, 0, none⟩)] 138)) := ((Ch.refl _ _).alloc _).alloc _
  have k : ∀ (g n : Nat), g < W.heap.size → ((W.alloc (.cells Try.zeroCells157 157)).alloc (.cells #[.pointer (some ⟨W.heap.size, 0, none⟩)] 138)).cell? ⟨g, n, none⟩ = W.cell? ⟨g, n, none⟩ := fun g n hg => hgr.cell (p := ⟨g, n, none⟩) hg (fun f => f)
  have hz2 : ((W.alloc (.cells Try.zeroCells157 157)).alloc (.cells #[.pointer (some ⟨W.heap.size, 0, none⟩)] 138)).heap.size = W.heap.size + 2 := by simp
  refine (chooseF_any ⟨W.heap.size, 0, none⟩ _ _ _ _ _ I ci V cv xv rv _ ⟨by omega, by omega, by omega, by omega, by omega, by omega, by omega, by simp, (k _ _ l2).trans c2, (k _ _ l0).trans c0, (k _ _ l3).trans c3, (k _ _ l1).trans c1, (k _ _ LI).trans CI, (k _ _ LV).trans CV⟩).mono ?_
  rintro e2 w2 ⟨⟨dv, rfl⟩, hg2⟩
  have HG2 : Hid (Gr w w2) := (HG.out.gr hgr).gr hg2
  clear hg2 hgr k hz2 c0 c1 c2 c3 CI CV LI LV l0 l1 l2 l3
  go_wp2
  rw [rounds_succ]
  go_wp2
  try rw [Exit.noGoto_ret]
  go_ret2
  exact ⟨rfl, HG2.out⟩

end Go.Proofs.Ythjficahhcjfgaa
