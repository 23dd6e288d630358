/- A row of bytes of one's own, also one that a conversion laid: what one byte more does to it. Condition: it is shorter than 2^47 bytes. -/
import Derived.Test.YtoldjadadgokeaaWo
import Derived.ArgAppend
import Derived.Laws.IdiomStrings
import Derived.Maps.AppendAt
namespace Go.Proofs.Ytoldjadadgokeaa.Md
open Go.RowKit Go.Proofs.Ytoldjadadgokeaa.Bytes

/-- The slice v holds the bytes l, in a block of one's own from base on; all its places can be written. -/
structure Row8 (w : World) (base : Nat) (v : Value) (l : List UInt8) : Prop where mk ::
  out : ∃ g cap, v = .slice (some ⟨g, 0, none⟩) l.length cap ∧ base ≤ g ∧ l.length ≤ cap ∧ cap ≤ maxLen ∧ g < w.heap.size ∧
    (∀ j, j < l.length → w.cell? ⟨g, j, none⟩ = some (.int .u8 (l.getD j 0).toNat)) ∧ (∀ j, j < cap → (w.cell? ⟨g, j, none⟩).isSome = true ∧ w.frozen? ⟨g, j, none⟩ = false)
theorem Row8.keep {w w' : World} {base : Nat} {v : Value} {l : List UInt8} (h : Row8 w base v l) (hs : w.heap.size ≤ w'.heap.size) (hb : ∀ k, base ≤ k → k < w.heap.size → w'.heap[k]? = w.heap[k]?) : Row8 w' base v l := by
  obtain ⟨g, cap, rfl, h1, h2, h3, h4, h5, h6⟩ := h.out
  have hc := fun j => World.cell?_of_block (w := w) (w' := w') (a := ⟨g, j, none⟩) (hb g h1 h4)
  have hf := fun j => World.frozen?_of_block (w := w) (w' := w') (a := ⟨g, j, none⟩) (hb g h1 h4)
  exact ⟨g, cap, rfl, h1, h2, h3, by omega, fun j hj => (hc j).trans (h5 j hj), fun j hj => by rw [hc, hf]; exact h6 j hj⟩
theorem Row8.alloc {w : World} {base : Nat} {v : Value} {l : List UInt8} (h : Row8 w base v l) (o : Obj) : Row8 (w.alloc o) base v l :=
  h.keep (by simp) fun k _ hk => heap_alloc_old w o hk
theorem Row8.drew {w : World} {base : Nat} {v : Value} {l : List UInt8} (h : Row8 w base v l) : Row8 w.drew base v l := h.keep (Nat.le_refl _) fun _ _ _ => rfl
theorem Row8.drewN {w : World} {base : Nat} {v : Value} {l : List UInt8} (h : Row8 w base v l) (n : Nat) : Row8 (w.drewN n) base v l := h.keep (Nat.le_refl _) fun _ _ _ => rfl
theorem Row8.below {w w' : World} {base : Nat} {v : Value} {l : List UInt8} (h : Row8 w base v l) (hb : Below w.heap.size w w') : Row8 w' base v l :=
  h.keep hb.size fun k _ hk => hb.block k hk
theorem Row8.lt {w : World} {base : Nat} {v : Value} {l : List UInt8} (h : Row8 w base v l) : ∀ g, v.ownBlock = some g → base ≤ g := by
  obtain ⟨g, cap, rfl, h1, _⟩ := h.out
  intro k hk
  simp [Value.ownBlock] at hk
  omega
/-- The row that '[]byte(s)' lays. -/
theorem Row8.conv (w : World) (l : List UInt8) (hl : l.length ≤ maxLen) :
    Row8 (w.drew.alloc (.cells (bytesRow (B l) (grownCap w (B l).size 0 5)) 5 ((bytesRow (B l) (grownCap w (B l).size 0 5)).size, (bytesRow (B l) (grownCap w (B l).size 0 5)).size + 1))) w.heap.size
      (.slice (some ⟨w.heap.size, 0, none⟩) (B l).size (grownCap w (B l).size 0 5)) l := by
  have hge := grownCap_ge w (B l).size 0 5
  have hmx := grownCap_le_maxLen w (B l).size 0 5 (by rw [B_size]; exact hl)
  have hz := B_size l
  generalize grownCap w (B l).size 0 5 = cap at hge hmx
  have hsz : (bytesRow (B l) cap).size = cap := by
    unfold bytesRow
    rw [Array.size_append, Array.size_map, Array.size_replicate]
    have : (B l).data.size = (B l).size := rfl
    omega
  have hblk := heap_alloc_new w.drew (.cells (bytesRow (B l) cap) 5 ((bytesRow (B l) cap).size, (bytesRow (B l) cap).size + 1))
  have hc := fun j => cell_of_row (w.drew.alloc (.cells (bytesRow (B l) cap) 5 ((bytesRow (B l) cap).size, (bytesRow (B l) cap).size + 1))) w.heap.size j _ 5 _ hblk
  refine ⟨w.heap.size, cap, by rw [hz], Nat.le_refl _, by omega, hmx, by simp, fun j hj => ?_, fun j hj => ⟨?_, ?_⟩⟩
  · rw [hc]
    unfold bytesRow
    rw [Array.getElem?_append_left (by rw [Array.size_map]; have : (B l).data.size = (B l).size := rfl; omega)]
    simp only [B, Array.getElem?_map, List.getElem?_toArray]
    rw [List.getElem?_eq_getElem hj, List.getD_eq_getElem?_getD, List.getElem?_eq_getElem hj]
    rfl
  · rw [hc, Array.getElem?_eq_getElem (by omega)]; rfl
  · have hb' : (w.drew.alloc (.cells (bytesRow (B l) cap) 5 ((bytesRow (B l) cap).size, (bytesRow (B l) cap).size + 1))).heap[w.heap.size]? = _ := hblk
    unfold World.frozen?
    rw [hb']
    simp only [hsz]
    have : ¬ (cap ≤ j) := by omega
    simp [this]
/-- A row that nothing marks. -/
theorem Row8.of_own {w : World} {base n : Nat} {v : Value} {l : List UInt8} (hn : 0 < n) (h : w.ownsRow base 5 1 v n (cells8 l)) : Row8 w base v l := by
  have hl : l.length = n := by have := h.1; rw [cells8_length] at this; omega
  rcases h.2 with ⟨_, h0⟩ | ⟨g, cap, cur, rfl, h1, h2, h3, h4, h5, h6⟩
  · omega
  · have hg := (h.lt g rfl).2
    have hc := fun j => cell_of_row w g j cur 5 (0, 0) h2
    refine ⟨g, cap, by rw [hl], h1, by omega, h4, hg, fun j hj => ?_, fun j hj => ⟨?_, frozen_of_row w g j cur 5 h2⟩⟩
    · have := h.cells (g := g) rfl j (.int .u8 (l.getD j 0).toNat) (by simp [cells8, List.getElem?_eq_getElem hj])
      rwa [show (⟨g, 0, none⟩ : Addr).add j = ⟨g, 0 + j, none⟩ by unfold Addr.add; split <;> simp_all, Nat.zero_add] at this
    · rw [hc, Array.getElem?_eq_getElem (by omega)]; rfl
theorem getD_snoc (l : List UInt8) (y : UInt8) (j : Nat) (hj : j < l.length) : (l ++ [y]).getD j 0 = l.getD j 0 := by
  rw [List.getD_eq_getElem?_getD, List.getD_eq_getElem?_getD, List.getElem?_append_left hj]
theorem getD_last (l : List UInt8) (y : UInt8) : (l ++ [y]).getD l.length 0 = y := by
  rw [List.getD_eq_getElem?_getD, List.getElem?_append_right (Nat.le_refl _)]; simp
/-- One byte more. -/
theorem run_append8 {w : World} {base : Nat} {v : Value} {l : List UInt8} (h : Row8 w base v l) (ty : TypeId) (ad : Addr) (c : Nat) (y : UInt8) (hnew : w.cell? ad = some (.int .u8 y.toNat))
    (hl : l.length < 140737488355328) :
    ∃ v' w', (Builtin.append_ #[37, 37] ty #[v, .slice (some ad) 1 c]).run Try.prog w = .ok v' w' ∧ Row8 w' base v' (l ++ [y]) ∧ w.grownBy w' v.ownBlock := by
  obtain ⟨i5, hi5, hz0, hz1, hz2⟩ := info_parts info5
  obtain ⟨g, cap, rfl, h1, h2, h3, h4, h5, h6⟩ := h.out
  have hnews : ∀ j u, ([.int .u8 y.toNat] : List Value)[j]? = some u → w.cell? (ad.add j) = some u := by
    intro j u hj
    cases j with
    | zero => simp at hj; subst hj; rw [show ad.add 0 = ad by unfold Addr.add; simp]; exact hnew
    | succ j => simp at hj
  have hone : ∀ u ∈ ([.int .u8 y.toNat] : List Value), u.oneCell' = true := by intro u hu; simp at hu; subst hu; rfl
  by_cases hr : l.length + 1 ≤ cap
  · have h7 := h6 l.length (by omega)
    have hoff : 0 + l.length * i5.size = l.length := by rw [hz1]; omega
    have hrun := run_append_room_cells (P := Try.prog) w 37 ty 5 i5 Try.underlying37 hi5 g 0 l.length cap ad 1 c [.int .u8 y.toNat] (by simp [hz1]) hnews hone hr
      (fun j hj => by rw [hoff]; have : j = 0 := by simp at hj; exact hj
                      subst this; exact h7.1)
      (fun j hj => by rw [hoff]; have : j = 0 := by simp at hj; exact hj
                      subst this; exact h7.2)
    rw [hoff] at hrun
    refine ⟨_, _, hrun, ?_, ?_⟩
    · have hsome : ∀ j, j < ([.int .u8 y.toNat] : List Value).length → (w.cell? ⟨g, l.length + j, none⟩).isSome = true := by
        intro j hj
        have : j = 0 := by simp at hj; exact hj
        subst this; exact h7.1
      have hin := World.cell?_setCells_in g [.int .u8 y.toNat] l.length w hsome 0 (by simp)
      have hout : ∀ j, j ≠ l.length → (w.setCells g l.length [.int .u8 y.toNat]).cell? ⟨g, j, none⟩ = w.cell? ⟨g, j, none⟩ := fun j hj =>
        World.cell?_setCells_out g _ _ w ⟨g, j, none⟩ (fun _ _ => by simp; omega)
      refine ⟨g, cap, by simp, h1, by simpa using hr, h3, by simpa [World.setCells] using h4, fun j hj => ?_, fun j hj => ⟨?_, ?_⟩⟩
      · by_cases e : j = l.length
        · subst e; rw [getD_last]; exact hin
        · have hj' : j < l.length := by simp at hj; omega
          rw [hout j e, getD_snoc l y j hj']; exact h5 j hj'
      · by_cases e : j = l.length
        · subst e
          have := hin
          simp only [Nat.add_zero] at this
          rw [this]; rfl
        · rw [hout j e]; exact (h6 j hj).1
      · rw [World.frozen?_setCells]; exact (h6 j hj).2
    · refine ⟨rfl, rfl, rfl, by simp [World.setCells], fun k _ hk => ?_⟩
      have : k ≠ g := fun e => hk (by simp [Value.ownBlock, e])
      exact heap_setCell_other w ⟨g, l.length, none⟩ k _ this
  · have holds : ∀ j u, (cells8 l)[j]? = some u → w.cell? ((⟨g, 0, none⟩ : Addr).add j) = some u := by
      intro j u hj
      have hjl : j < l.length := by have := (List.getElem?_eq_some_iff.1 hj).1; rwa [cells8_length] at this
      rw [show (⟨g, 0, none⟩ : Addr).add j = ⟨g, 0 + j, none⟩ by unfold Addr.add; split <;> simp_all, Nat.zero_add, h5 j hjl]
      simp [cells8, List.getElem?_eq_getElem hjl] at hj
      rw [← hj, List.getD_eq_getElem?_getD, List.getElem?_eq_getElem hjl]
      rfl
    obtain ⟨v', w', hrun, r1, r2⟩ := run_append_arg_grows (P := Try.prog) w 37 ty 5 i5 (.int .u8 0) 1 1 Try.underlying37 hi5 hz0 hz1 hz2 rfl (by decide) ⟨g, 0, none⟩ l.length cap (cells8 l) (by rw [cells8_length]; omega) holds ad 1 c
      [.int .u8 y.toNat] rfl hnews (by omega) (by unfold maxLen; omega) (by omega)
    have e : cells8 l ++ [.int .u8 y.toNat] = cells8 (l ++ [y]) := by simp [cells8]
    rw [e] at r1
    obtain ⟨g', cap', k1, k2, k3⟩ := (Row8.of_own (by omega) r1).out
    exact ⟨v', w', hrun, ⟨g', cap', k1, by omega, k3⟩, ⟨r2.os, r2.tape, r2.output, r2.size, fun k hk _ => r2.block k hk (by simp)⟩⟩
theorem wpList_append8 {w : World} {ops : Array Oper} {rest : List Oper} {o : Oper} {a : Act} {Q : Exit → Act → World → Prop} (hgd : o.guard = none) (s x : Operand)
    (ho : o.op = .call { callee := .builtin .append, args := #[s, x], argTypes := #[37, 37] }) {base : Nat} {v : Value} {l : List UInt8} (hs : a.eval s = v) (h : Row8 w base v l)
    (ad : Addr) (c : Nat) (hx : a.eval x = .slice (some ad) 1 c) (y : UInt8) (hnew : w.cell? ad = some (.int .u8 y.toNat)) (hl : l.length < 140737488355328)
    (hK : ∀ v' w', Row8 w' base v' (l ++ [y]) → w.grownBy w' v.ownBlock → wpList Try.prog ops Q rest (a.put o.dst v') w') : wpList Try.prog ops Q (o :: rest) a w := by
  refine wpList_plain hgd fun K hK' => ?_
  obtain ⟨v', w', hrun, r1, r2⟩ := run_append8 h o.type ad c y hnew hl
  unfold Oper.wp
  simp [execOp, ho, resolve, invoke, builtin, hs, hx, hrun, Result.andThen]
  exact hK' _ _ (hK v' w' r1 r2)
end Go.Proofs.Ytoldjadadgokeaa.Md
