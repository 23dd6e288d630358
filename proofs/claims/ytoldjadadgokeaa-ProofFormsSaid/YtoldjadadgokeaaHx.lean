/- What withylaw13.hex answers. Condition: the text is shorter than 1000 bytes. -/
import Derived.Test.YtoldjadadgokeaaWo
import Derived.RegionTactic
import Derived.BigRegion
import Derived.Deep.AppendLies
import Derived.Deep.RegionLaw
namespace Go.Proofs.Ytoldjadadgokeaa.Md
open Go.RowKit Go.Proofs.Ytoldjadadgokeaa.Bytes

def digits : List UInt8 := [48, 49, 50, 51, 52, 53, 54, 55, 56, 57, 97, 98, 99, 100, 101, 102]
def dig2 (b : UInt8) : List UInt8 := [digits.getD (b.toNat / 16) 0, digits.getD (b.toNat % 16) 0]
def hexOf (l : List UInt8) : List UInt8 := l.flatMap dig2
def firstH (l : List UInt8) (k : Nat) : List UInt8 := (l.take k).flatMap dig2
theorem firstH_succ (l : List UInt8) (k : Nat) (hk : k < l.length) : firstH l (k + 1) = firstH l k ++ dig2 (l.getD k 0) := by
  unfold firstH
  rw [List.take_succ_eq_append_getElem hk, List.flatMap_append, List.getD_eq_getElem?_getD, List.getElem?_eq_getElem hk]
  simp
theorem digit_at (q : Nat) (hq : q < 16) : ∀ h : q < (⟨#[48, 49, 50, 51, 52, 53, 54, 55, 56, 57, 97, 98, 99, 100, 101, 102]⟩ : ByteArray).size, (((⟨#[48, 49, 50, 51, 52, 53, 54, 55, 56, 57, 97, 98, 99, 100, 101, 102]⟩ : ByteArray)[q]'h).toNat : Int) = ((digits.getD q 0).toNat : Int) := by
  intro h
  have h16 : q = 0 ∨ q = 1 ∨ q = 2 ∨ q = 3 ∨ q = 4 ∨ q = 5 ∨ q = 6 ∨ q = 7 ∨ q = 8 ∨ q = 9 ∨ q = 10 ∨ q = 11 ∨ q = 12 ∨ q = 13 ∨ q = 14 ∨ q = 15 := by omega
  rcases h16 with rfl | rfl | rfl | rfl | rfl | rfl | rfl | rfl | rfl | rfl | rfl | rfl | rfl | rfl | rfl | rfl <;> rfl

theorem two_cells (W : World) (a b : Int) : ∀ j u, ([.int .u8 a, .int .u8 b] : List Value)[j]? = some u → (W.alloc (.cells #[.int .u8 a, .int .u8 b] 5)).drew.cell? ((⟨W.heap.size, 0, none⟩ : Addr).add j) = some u := by
  intro j u hj
  have ha : (⟨W.heap.size, 0, none⟩ : Addr).add j = ⟨W.heap.size, j, none⟩ := by unfold Addr.add; split <;> simp_all
  rw [ha]
  have := cell_of_row (W.alloc (.cells #[.int .u8 a, .int .u8 b] 5)) W.heap.size j _ 5 (0, 0) (heap_alloc_new W _)
  exact this.trans (by simpa using hj)
theorem two_one (a b : Int) : ∀ u ∈ ([.int .u8 a, .int .u8 b] : List Value), u.oneCell' = true := by
  intro u hu
  simp at hu
  rcases hu with rfl | rfl <;> rfl

set_option maxHeartbeats 1000000 in
set_option maxRecDepth 100000 in
theorem hex_calls (s : ByteArray) (l : List UInt8) (w : World) (hs : s = B l) (hl : l.length < 1000) :
    Calls Try.prog 39 #[.string s] w fun e w' => e = .returned (.string (B (hexOf l))) ∧ Below w.heap.size w w' := by
  have hsz : s.size = l.length := by rw [hs, B_size]
  have hx : ∀ i, i < l.length → ∀ hi : i < s.size, ((s[i]'hi).toNat : Int) = ((l.getD i 0).toNat : Int) := by
    subst hs
    intro i h64 hi
    rw [B_getElem, List.getD_eq_getElem?_getD, List.getElem?_eq_getElem (by omega)]
    rfl
  have HX := Lib.hid hx
  have hsl : (s.size : Int) < 1000 := by omega
  have Hsz := Lib.hid hsz
  have hfin : firstH l s.size = hexOf l := by unfold firstH hexOf; rw [List.take_of_length_le (by omega)]
  have Hfin := Lib.hid hfin
  clear hfin hx hs hsz hl
  obtain ⟨i5, hi5, hz0, hz1, hz2⟩ := info_parts info5
  have H5 := Lib.hid (And.intro hi5 (And.intro hz0 (And.intro hz1 hz2)))
  clear hi5 hz0 hz1 hz2
  go_enter Try.func39, Try.ntmps39
  go_wp2
  go_loopw [4, 5] (fun v t wr => ∃ k : Nat, k ≤ s.size ∧ t = .int .i64 k ∧ wr.ownsRow w.heap.size 5 1 v (2 * k) (cells8 (firstH l k)) ∧ Below w.heap.size w wr) (fun _ t _ => s.size - (intOf t).toNat)
  case atStart => exact ⟨0, by omega, rfl, World.ownsRow_nil _ _ _ _, Below.refl _ _⟩
  case round =>
    obtain ⟨k, hk, rfl, hown, hbel⟩ := hrel
    by_cases hlt : k < s.size
    · have hxi := HX.out k (by rw [← Hsz.out]; exact hlt)
      obtain ⟨c, hc⟩ : ∃ c, c = l.getD k 0 := ⟨_, rfl⟩
      rw [← hc] at hxi
      have hcb := c.toNat_lt
      obtain ⟨q, hq⟩ : ∃ q, q = c.toNat / 16 := ⟨_, rfl⟩
      obtain ⟨r, hr⟩ : ∃ r, r = c.toNat % 16 := ⟨_, rfl⟩
      obtain ⟨x, hxx⟩ : ∃ x : Int, x = (c.toNat : Int) := ⟨_, rfl⟩
      rw [← hxx] at hxi
      have g1 := digit_at q (by omega)
      have g2 := digit_at r (by omega)
      obtain ⟨a, ha⟩ : ∃ a : Int, a = ((digits.getD q 0).toNat : Int) := ⟨_, rfl⟩
      obtain ⟨b, hb⟩ : ∃ b : Int, b = ((digits.getD r 0).toNat : Int) := ⟨_, rfl⟩
      rw [← ha] at g1
      rw [← hb] at g2
      have ecells : cells8 (firstH l k) ++ [.int .u8 a, .int .u8 b] = cells8 (firstH l (k + 1)) := by
        rw [firstH_succ l k (by rw [← Hsz.out]; exact hlt), ← hc, ha, hb, hq, hr]
        simp [cells8, dig2]
      have x0 : 0 ≤ x := by omega
      have x1 : x ≤ 255 := by omega
      have t1 : x.tdiv 16 = (q : Int) := by rw [Int.tdiv_eq_ediv_of_nonneg x0]; omega
      have t2 : x / 16 = (q : Int) := by omega
      have t3 : IntKind.u8.wrap (q : Int) = (q : Int) := by rw [IntKind.wrap_u8]; omega
      have t4 : x.tmod 16 = (r : Int) := by rw [Int.tmod_eq_emod_of_nonneg x0]; omega
      have t5 : x % 16 = (r : Int) := by omega
      have q16 : (q : Int) < 16 := by omega
      have r16 : (r : Int) < 16 := by omega
      have hlt' : (k : Int) < s.size := by omega
      have Hec := Lib.hid ecells
      have HO := Lib.hid hown
      have hbs := hbel.size
      clear ecells ha hb hq hr hc hxx hcb hown
      have hk63 : 2 * k + 2 ≤ maxLen := by unfold maxLen; omega
      have hkb : (2 * k + 2) * 1 ≤ 140737488355328 := by omega
      have hkbase : w.heap.size ≤ (wr.alloc (.cells #[.int .u8 a, .int .u8 b] 5)).drew.heap.size := (be_alloc hbel _).size
      go_wp2
      go_region_law (refine step_append_lies _ rfl _ _ 37 rfl w.heap.size 5 i5 (.int .u8 0) 1 1 Try.underlying37 H5.out.1 H5.out.2.1 H5.out.2.2.1 H5.out.2.2.2 rfl (by decide) _ (2 * k) _ rfl (HO.out.alloc _).drew ⟨wr.heap.size, 0, none⟩ 2 2 [.int .u8 a, .int .u8 b] rfl rfl (two_cells wr a b) (two_one a b) (by decide) hk63 hkb hkbase _ rfl ?_; intro g cap w1 hown1 hgrow1 hgb hglt)
      all_goals
        have hbel2 := (be_drew (be_alloc hbel (.cells #[.int .u8 a, .int .u8 b] 5))).grown hgrow1 (be_drew (be_alloc hbel _)).size (fun g hg => (HO.out.lt g hg).1)
        rw [Hec.out] at hown1
        have HO2 := Lib.hid hown1
        clear hown1 hgrow1 hgb hglt
        go_wp2
        go_roundw
        case rel => exact ⟨k + 1, by omega, by go_num, by first | exact HO2.out | exact HO2.out.drew, by first | exact hbel2 | exact be_drew hbel2⟩
        case measure => simp [intOf]; omega
    · have hge : (s.size : Int) ≤ k := by omega
      have hkn : k = s.size := by omega
      have ht := own_text hown
      rw [hkn, Hfin.out] at ht
      clear hkn hown
      go_wp2
      go_ret
      exact ⟨rfl, hbel⟩
end Go.Proofs.Ytoldjadadgokeaa.Md
