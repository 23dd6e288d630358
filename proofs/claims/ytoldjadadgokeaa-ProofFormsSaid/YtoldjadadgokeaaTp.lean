/- What (*state).turn does, in plain words: the words of a block, the cells of a state. No condition. -/
import Derived.Test.YtoldjadadgokeaaMx
import Derived.Test.YtoldjadadgokeaaKo
import Derived.Test.YtoldjadadgokeaaBl
namespace Go.Proofs.Ytoldjadadgokeaa.Md
open Go.RowKit Go.Proofs.Ytoldjadadgokeaa.Bytes

/-- Word j after i bytes. -/
def wPart (l : List UInt8) : Nat → Nat → UInt32
  | 0, _ => 0
  | i + 1, j => if j = i / 4 then wPart l i j ||| (l.getD i 0).toUInt32 <<< UInt32.ofNat (8 * (i % 4)) else wPart l i j
theorem wPart_before (l : List UInt8) (j : Nat) : ∀ i, i ≤ 4 * j → wPart l i j = 0
  | 0, _ => rfl
  | i + 1, h => by rw [wPart, if_neg (by omega)]; exact wPart_before l j i (by omega)
theorem wPart_after (l : List UInt8) (j : Nat) : ∀ d, wPart l (4 * j + 4 + d) j = wPart l (4 * j + 4) j
  | 0 => rfl
  | d + 1 => by rw [← Nat.add_assoc, wPart, if_neg (by omega)]; exact wPart_after l j d
theorem wPart_whole (l : List UInt8) (j : Nat) : wPart l (4 * j + 4) j = wordOf l j := by
  have e0 := wPart_before l j (4 * j) (by omega)
  have e1 : wPart l (4 * j + 1) j = wPart l (4 * j) j ||| (l.getD (4 * j) 0).toUInt32 <<< UInt32.ofNat (8 * ((4 * j) % 4)) := by rw [wPart, if_pos (by omega)]
  have e2 : wPart l (4 * j + 2) j = wPart l (4 * j + 1) j ||| (l.getD (4 * j + 1) 0).toUInt32 <<< UInt32.ofNat (8 * ((4 * j + 1) % 4)) := by rw [wPart, if_pos (by omega)]
  have e3 : wPart l (4 * j + 3) j = wPart l (4 * j + 2) j ||| (l.getD (4 * j + 2) 0).toUInt32 <<< UInt32.ofNat (8 * ((4 * j + 2) % 4)) := by rw [wPart, if_pos (by omega)]
  have e4 : wPart l (4 * j + 4) j = wPart l (4 * j + 3) j ||| (l.getD (4 * j + 3) 0).toUInt32 <<< UInt32.ofNat (8 * ((4 * j + 3) % 4)) := by rw [wPart, if_pos (by omega)]
  rw [e4, e3, e2, e1, e0, show 4 * j % 4 = 0 by omega, show (4 * j + 1) % 4 = 1 by omega, show (4 * j + 2) % 4 = 2 by omega, show (4 * j + 3) % 4 = 3 by omega]
  unfold wordOf
  have z : ∀ x : UInt32, (0 : UInt32) ||| x <<< UInt32.ofNat (8 * 0) = x := by
    intro x
    apply UInt32.toNat_inj.1
    simp
  rw [z]
  rfl
theorem wPart_64 (l : List UInt8) (j : Nat) (hj : j < 16) : wPart l 64 j = wordOf l j := by
  have := wPart_after l j (64 - (4 * j + 4))
  rw [show 4 * j + 4 + (64 - (4 * j + 4)) = 64 by omega] at this
  rw [this, wPart_whole]

/-- The cells of the words, after i bytes. -/
def wCells (l : List UInt8) (i : Nat) : Array Value := Array.ofFn (n := 16) fun j => .int .u32 (wPart l i j.val).toNat
theorem wCells_get (l : List UInt8) (i j : Nat) (hj : j < 16) : (wCells l i)[j]? = some (.int .u32 (wPart l i j).toNat) := by
  unfold wCells
  rw [Array.getElem?_ofFn, dif_pos hj]
theorem wCells_set (l : List UInt8) (i : Nat) : (wCells l i).setIfInBounds (i / 4) (.int .u32 (wPart l (i + 1) (i / 4)).toNat) = wCells l (i + 1) := by
  apply Array.ext
  · simp [wCells]
  · intro j h1 h2
    have hj : j < 16 := by simpa [wCells] using h2
    rw [Array.getElem_setIfInBounds (by simpa using h1)]
    by_cases e : i / 4 = j
    · rw [if_pos e]; subst e; simp [wCells]
    · rw [if_neg e]
      have : wPart l (i + 1) j = wPart l i j := by rw [wPart, if_neg (by omega)]
      simp [wCells, this]
theorem wPart_step (l : List UInt8) (i : Nat) (r : Nat) (hr : i % 4 = r) (hr4 : r < 4) :
    Go.bits .or .u32 ((wPart l i (i / 4)).toNat : Int) (((l.getD i 0).toNat : Int) * 2 ^ (8 * r)) = ((wPart l (i + 1) (i / 4)).toNat : Int) := by
  rw [wPart, if_pos rfl, hr, ← or_u]
  generalize l.getD i 0 = v
  have h := shl_u v.toUInt32 (8 * r) (by omega)
  have hx : v.toUInt32.toNat = v.toNat := by simp
  rw [hx] at h
  rw [← h, IntKind.wrap_u32]
  have hb := v.toNat_lt
  have : (v.toNat : Int) * 2 ^ (8 * r) < 4294967296 := by
    have h3 : r = 0 ∨ r = 1 ∨ r = 2 ∨ r = 3 := by omega
    rcases h3 with rfl | rfl | rfl | rfl <;> simp <;> omega
  have h0 : 0 ≤ (v.toNat : Int) * 2 ^ (8 * r) := Int.mul_nonneg (by omega) (Int.le_of_lt (Int.pow_pos (by decide)))
  rw [Int.emod_eq_of_lt h0 this]

/-- The cells of a state. -/
def stCells (h : St) : Array Value := (.int .u32 h.a.toNat :: .int .u32 h.b.toNat :: .int .u32 h.c.toNat :: .int .u32 h.d.toNat :: kVals.toList).toArray
theorem kVals_eq : kVals.toList = kList.map fun k => Value.int .u32 (k.toNat : Int) := rfl
theorem stCells_k (h : St) (i : Nat) (hi : i < 64) : (stCells h)[4 + i]? = some (.int .u32 (kOf i).toNat) := by
  unfold stCells
  rw [List.getElem?_toArray, Nat.add_comm 4 i, List.getElem?_cons_succ, List.getElem?_cons_succ, List.getElem?_cons_succ, List.getElem?_cons_succ, kVals_eq, List.getElem?_map]
  have hl : i < kList.length := hi
  rw [List.getElem?_eq_getElem hl, kOf, List.getD_eq_getElem?_getD, List.getElem?_eq_getElem hl]
  rfl
/-- A state whose first n words have been added. -/
def addN (h s : St) : Nat → St
  | 0 => h
  | 1 => ⟨h.a + s.a, h.b, h.c, h.d⟩
  | 2 => ⟨h.a + s.a, h.b + s.b, h.c, h.d⟩
  | 3 => ⟨h.a + s.a, h.b + s.b, h.c + s.c, h.d⟩
  | _ => addSt h s
theorem stCells_set0 (h : St) (x : UInt32) : (stCells h).setIfInBounds 0 (.int .u32 x.toNat) = stCells ⟨x, h.b, h.c, h.d⟩ := by simp [stCells]
theorem stCells_set1 (h : St) (x : UInt32) : (stCells h).setIfInBounds 1 (.int .u32 x.toNat) = stCells ⟨h.a, x, h.c, h.d⟩ := by simp [stCells]
theorem stCells_set2 (h : St) (x : UInt32) : (stCells h).setIfInBounds 2 (.int .u32 x.toNat) = stCells ⟨h.a, h.b, x, h.d⟩ := by simp [stCells]
theorem stCells_set3 (h : St) (x : UInt32) : (stCells h).setIfInBounds 3 (.int .u32 x.toNat) = stCells ⟨h.a, h.b, h.c, x⟩ := by simp [stCells]
theorem gOf_lt (i : Nat) (hi : i < 64) : gOf i < 16 := by
  have : ∀ j, j < 64 → gOf j < 16 := by decide
  exact this i hi
end Go.Proofs.Ytoldjadadgokeaa.Md
