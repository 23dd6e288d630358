/- What digest.words answers. Condition: at most four words, which can be read. -/
import Derived.Test.YtoldjadadgokeaaMd
import Derived.Test.YtoldjadadgokeaaBl
import Derived.Test.YtoldjadadgokeaaProg
import Derived.WalkKit
import Derived.WalkLawsBesides
import Derived.WalkSpells
import Derived.OwnWalk
import Derived.Laws.OwnMore
import Derived.LoopTactic
import Derived.Lib.Hide
import Derived.Outline
namespace Go.Proofs.Ytoldjadadgokeaa.Md
open Go.RowKit Go.Proofs.Ytoldjadadgokeaa.Bytes

theorem info5 : (Try.prog.info? 5).map (fun i => (i.zero, i.size, i.bytes)) = some (some (.int .u8 0), 1, 1) := by kernel_rfl
/-- Bytes as cells. -/
def cells8 (l : List UInt8) : List Value := l.map fun b => .int .u8 (b.toNat : Int)
theorem cells8_length (l : List UInt8) : (cells8 l).length = l.length := by simp [cells8]
/-- A row of bytes of one's own, made a string. -/
theorem own_text {w : World} {base n : Nat} {v : Value} {l : List UInt8} (h : w.ownsRow base 5 1 v n (cells8 l)) : (convert 37 9 v).run Try.prog w = .ok (.string (B l)) w := by
  have hl : l.length = n := by have := h.1; rw [cells8_length] at this; omega
  have e : strOfNums (l.map fun b => (b.toNat : Int)) = B l := by
    rw [B_nums, List.map_map]
    congr 1
    rw [show ((fun n : Int => UInt8.ofNat n.toNat) ∘ fun b : UInt8 => (b.toNat : Int)) = id from funext fun b => by simp]
    exact List.map_id l
  rcases h.2 with ⟨rfl, hn⟩ | ⟨g, cap, cur, rfl, _⟩
  · obtain rfl : l = [] := List.eq_nil_of_length_eq_zero (by omega)
    exact run_convert_bytes_nil w 37 5 Try.underlying37 Try.underlying5 0 0 9 Try.underlying9
  · rw [← e]
    refine run_convert_bytes_arg w 37 5 Try.underlying37 Try.underlying5 g 0 n cap _ (by simpa using hl) (fun i hi => ?_) 9 Try.underlying9
    have hc := h.cells (g := g) rfl i (.int .u8 ((l.map fun b => (b.toNat : Int)).getD i 0)) (by simp [cells8, List.getElem?_eq_getElem (show i < l.length by omega)])
    have ha : (⟨g, 0, none⟩ : Addr).add i = ⟨g, 0 + i, none⟩ := by unfold Addr.add; split <;> simp_all
    rwa [ha] at hc

/-- The bytes of the first k words. -/
def firstW (ws : List UInt32) (k : Nat) : List UInt8 := (ws.take k).flatMap le4
theorem firstW_succ (ws : List UInt32) (k : Nat) (hk : k < ws.length) : firstW ws (k + 1) = firstW ws k ++ le4 (ws.getD k 0) := by
  unfold firstW
  rw [List.take_succ_eq_append_getElem hk, List.flatMap_append, List.getD_eq_getElem?_getD, List.getElem?_eq_getElem hk]
  simp
theorem firstW_len (ws : List UInt32) : ∀ k, k ≤ ws.length → (firstW ws k).length = 4 * k
  | 0, _ => by simp [firstW]
  | k + 1, h => by rw [firstW_succ ws k (by omega), List.length_append, firstW_len ws k (by omega)]; simp [le4]; omega
theorem le4_cells (x : UInt32) : cells8 (le4 x) = [.int .u8 ((x.toNat : Int) % 256), .int .u8 ((x.toNat : Int) / 256 % 256), .int .u8 ((x.toNat : Int) / 65536 % 256), .int .u8 ((x.toNat : Int) / 16777216 % 256)] := by
  have h8 : (x >>> 8).toNat = x.toNat / 256 := by rw [UInt32.toNat_shiftRight, Nat.shiftRight_eq_div_pow]; rfl
  have h16 : (x >>> 16).toNat = x.toNat / 65536 := by rw [UInt32.toNat_shiftRight, Nat.shiftRight_eq_div_pow]; rfl
  have h24 : (x >>> 24).toNat = x.toNat / 16777216 := by rw [UInt32.toNat_shiftRight, Nat.shiftRight_eq_div_pow]; rfl
  simp only [cells8, le4, List.map_cons, List.map_nil, UInt32.toNat_toUInt8, h8, h16, h24]
  simp

set_option maxHeartbeats 1000000 in
set_option maxRecDepth 100000 in
theorem words_calls (b o n cap : Nat) (ws : List UInt32) (w : World) (hn : ws.length = n) (hn4 : n ≤ 4)
    (hc : ∀ i, i < n → w.cell? ⟨b, o + i, none⟩ = some (.int .u32 (ws.getD i 0).toNat)) :
    Calls Try.prog 53 #[.slice (some ⟨b, o, none⟩) n cap] w fun e w' => e = .returned (.string (B (ws.flatMap le4))) ∧ Below w.heap.size w w' := by
  have hfin : firstW ws n = ws.flatMap le4 := by unfold firstW; rw [List.take_of_length_le (by omega)]
  have Hfin := Lib.hid hfin
  have Hn := Lib.hid hn
  have HC := Lib.hid hc
  clear hfin hn hc
  obtain ⟨i5, hi5, hz0, hz1, hz2⟩ := info_parts info5
  have H5 := Lib.hid (And.intro hi5 (And.intro hz0 (And.intro hz1 hz2)))
  clear hi5 hz0 hz1 hz2
  go_enter Try.func53, Try.ntmps53
  go_wp2
  go_loopw [3, 8] (fun v t wr => ∃ k : Nat, k ≤ n ∧ t = .int .i64 k ∧ wr.ownsRow w.heap.size 5 1 v (4 * k) (cells8 (firstW ws k)) ∧ Below w.heap.size w wr) (fun _ t _ => n - (intOf t).toNat)
  case atStart => exact ⟨0, by omega, rfl, World.ownsRow_nil _ _ _ _, Below.refl _ _⟩
  case round =>
    obtain ⟨k, hk, rfl, hown, hbel⟩ := hrel
    by_cases hlt : k < n
    · have hc0 := HC.out k hlt
      have hcl := (hbel.cell (p := ⟨b, o + k, none⟩) (block_lt_of_cell hc0)).trans hc0
      have hlt' : (k : Int) < n := by omega
      have hn4' : (n : Int) ≤ 4 := by omega
      obtain ⟨x, hx⟩ : ∃ x, x = ws.getD k 0 := ⟨_, rfl⟩
      rw [← hx] at hcl
      have HX := Lib.hid hx
      have hown2 := hown.alloc (.cells #[.int .u8 ((x.toNat : Int) % 256), .int .u8 ((x.toNat : Int) / 256 % 256), .int .u8 ((x.toNat : Int) / 65536 % 256), .int .u8 ((x.toNat : Int) / 16777216 % 256)] 5)
      have HO := Lib.hid hown2
      have hbs := hbel.size
      clear hx hc0 hown hown2
      go_wp2_with (at_builtin; refine wpList_append_own _ rfl _ _ 37 rfl w.heap.size 5 i5 (.int .u8 0) 1 1 Try.underlying37 H5.out.1 H5.out.2.1 H5.out.2.2.1 H5.out.2.2.2 rfl (by decide) _ _ _ rfl HO.out ⟨wr.heap.size, 0, none⟩ 4 4 [.int .u8 ((x.toNat : Int) % 256), .int .u8 ((x.toNat : Int) / 256 % 256), .int .u8 ((x.toNat : Int) / 65536 % 256), .int .u8 ((x.toNat : Int) / 16777216 % 256)] rfl rfl ?c1 ?c2 ?c3 ?c4 ?c5 ?_)
      case c1 =>
        intro j u hj
        have h4 : j = 0 ∨ j = 1 ∨ j = 2 ∨ j = 3 ∨ 4 ≤ j := by omega
        rcases h4 with rfl | rfl | rfl | rfl | h4
        · simp at hj; subst hj; simp [Addr.add]
        · simp at hj; subst hj; simp [Addr.add]
        · simp at hj; subst hj; simp [Addr.add]
        · simp at hj; subst hj; simp [Addr.add]
        · rw [List.getElem?_eq_none (by simpa using h4)] at hj; cases hj
      case c2 => intro u hu; simp at hu; rcases hu with rfl | rfl | rfl | rfl <;> rfl
      case c3 => unfold maxLen; omega
      case c4 => omega
      case c5 => simp; omega
      intro v' w1 hown' hgrow _
      have hbel2 := (be_alloc hbel _).grown hgrow (be_alloc hbel _).size (fun g hg => (HO.out.lt g hg).1)
      have e : cells8 (firstW ws k) ++ [.int .u8 ((x.toNat : Int) % 256), .int .u8 ((x.toNat : Int) / 256 % 256), .int .u8 ((x.toNat : Int) / 65536 % 256), .int .u8 ((x.toNat : Int) / 16777216 % 256)] = cells8 (firstW ws (k + 1)) := by
        rw [firstW_succ ws k (by rw [Hn.out]; exact hlt), ← HX.out, ← le4_cells]
        simp [cells8]
      rw [e] at hown'
      have HO2 := Lib.hid hown'
      clear hown' hgrow e HO
      go_wp2
      go_roundw
      case rel => exact ⟨k + 1, by omega, by go_num, HO2.out, hbel2⟩
      case measure => simp [intOf]; omega
    · have hge : (n : Int) ≤ k := by omega
      have hkn : k = n := by omega
      have ht := own_text hown
      rw [hkn, Hfin.out] at ht
      clear hkn hown
      go_wp2
      go_ret
      exact ⟨rfl, hbel⟩
end Go.Proofs.Ytoldjadadgokeaa.Md
