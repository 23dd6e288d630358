/- A block known whole, and that it stays: small plain lemmas. No condition. -/
import Derived.Below
import Derived.Deep.Draws
import Derived.Laws.Rows
import Derived.WalkKit
namespace Go.Proofs.Ytoldjadadgokeaa.Bytes
open Go.RowKit

/-- Block b holds just this. -/
structure Blk (w : World) (b : Nat) (o : Obj) : Prop where mk :: (out : w.heap[b]? = some o)
theorem Blk.lt {w : World} {b : Nat} {o : Obj} (h : Blk w b o) : b < w.heap.size := by
  have := h.out
  rcases Nat.lt_or_ge b w.heap.size with hl | hl
  · exact hl
  · rw [Array.getElem?_eq_none hl] at this; cases this
theorem Blk.new (w : World) (o : Obj) : Blk (w.alloc o) w.heap.size o := ⟨heap_alloc_new w o⟩
theorem Blk.alloc {w : World} {b : Nat} {o : Obj} (h : Blk w b o) (c : Obj) : Blk (w.alloc c) b o := ⟨(heap_alloc_old w c h.lt).trans h.out⟩
theorem Blk.drew {w : World} {b : Nat} {o : Obj} (h : Blk w b o) : Blk w.drew b o := ⟨h.out⟩
theorem Blk.drewN {w : World} {b : Nat} {o : Obj} (h : Blk w b o) (n : Nat) : Blk (w.drewN n) b o := ⟨h.out⟩
theorem Blk.below {w w' : World} {b : Nat} {o : Obj} (h : Blk w b o) (hb : Below w.heap.size w w') : Blk w' b o := ⟨(hb.block b h.lt).trans h.out⟩
theorem Blk.other {w : World} {b g j : Nat} {o : Obj} {v : Value} (h : Blk w b o) (hg : b ≠ g) : Blk (w.setCell ⟨g, j, none⟩ v) b o := ⟨(heap_setCell_other w ⟨g, j, none⟩ b v hg).trans h.out⟩
theorem Blk.set {w : World} {b i : Nat} {cs : Array Value} {t : TypeId} {v : Value} (h : Blk w b (.cells cs t (0, 0))) : Blk (w.setCell ⟨b, i, none⟩ v) b (.cells (cs.setIfInBounds i v) t (0, 0)) :=
  ⟨heap_setCell_same w b i cs t v h.out⟩
theorem Blk.cell {w : World} {b : Nat} {cs : Array Value} {t : TypeId} {fr : Nat × Nat} (h : Blk w b (.cells cs t fr)) (j : Nat) : w.cell? ⟨b, j, none⟩ = cs[j]? := cell_of_row w b j cs t fr h.out
theorem Blk.frozen {w : World} {b : Nat} {cs : Array Value} {t : TypeId} (h : Blk w b (.cells cs t (0, 0))) (j : Nat) : w.frozen? ⟨b, j, none⟩ = false := frozen_of_row w b j cs t h.out
theorem Blk.cells4 {w : World} {b : Nat} {x0 x1 x2 x3 : Value} {t : TypeId} {fr : Nat × Nat} (h : Blk w b (.cells #[x0, x1, x2, x3] t fr)) :
    w.cell? ⟨b, 0, none⟩ = some x0 ∧ w.cell? ⟨b, 1, none⟩ = some x1 ∧ w.cell? ⟨b, 2, none⟩ = some x2 ∧ w.cell? ⟨b, 3, none⟩ = some x3 :=
  ⟨h.cell 0, h.cell 1, h.cell 2, h.cell 3⟩
end Go.Proofs.Ytoldjadadgokeaa.Bytes
