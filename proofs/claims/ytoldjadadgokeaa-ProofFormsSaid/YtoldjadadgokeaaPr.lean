/- The reference's Chap and Unchap answer just what Put and Get do. No condition. -/
import Derived.Test.YtoldjadadgokeaaPl
import Derived.Test.YtoldjadadgokeaaRefB
import Derived.Test.YtoldjadadgokeaaRefC
import Derived.Test.YtoldjadadgokeaaRefD
import Derived.Test.YtoldjadadgokeaaRefE
import Derived.Test.YtoldjadadgokeaaUnB
import Derived.Test.YtoldjadadgokeaaUnC
import Derived.Test.YtoldjadadgokeaaUnD
namespace Go.Proofs.Ytoldjadadgokeaa.Ch6
open Go.RowKit Go.Proofs.Ytoldjadadgokeaa.Bytes

theorem chap_any (c id : Int) (v n : List UInt8) (w : World) : ChapS c id (B v) (B n) (B (putV c id v n).1) (putV c id v n).2 w := by
  unfold putV
  have hvs : (B v).size = v.length := B_size v
  have hns : (B n).size = n.length := B_size n
  by_cases hc : c < 1
  · rw [if_neg (by unfold fit; omega)]; exact chap_codes0 c id _ _ w hc
  by_cases hc5 : 4 < c
  · rw [if_neg (by unfold fit; omega)]; exact chap_codes5 c id _ _ w hc5
  by_cases hi : id < 0
  · rw [if_neg (by unfold fit; omega)]
    by_cases hc2 : c ≤ 2
    · exact chap_id0_two c id _ _ w (by omega) hi
    · exact chap_id0_one c id _ _ w (by omega) hi
  by_cases hi5 : 255 < id
  · rw [if_neg (by unfold fit; omega)]
    by_cases hc2 : c ≤ 2
    · exact chap_id256_two c id _ _ w (by omega) hi5
    · exact chap_id256_one c id _ _ w (by omega) hi5
  by_cases hc2 : c ≤ 2
  · by_cases hv : v.length = 0
    · rw [if_neg (by unfold fit; omega)]
      exact chap_empty c id _ _ w (by omega) (by omega) (by omega) (by omega)
    · by_cases hl : 255 < v.length
      · rw [if_neg (by unfold fit; omega)]
        exact chap_wide c id _ _ w (by omega) (by omega) (by omega) (by omega)
      rw [if_pos (by unfold fit; omega)]
      by_cases hn : 253 < n.length
      · rw [if_pos hn]
        exact chap_long2 c id _ _ w (by omega) (by omega) (by omega) (by omega) (by omega) (by omega)
      · rw [if_neg hn]
        have : ChapS c id (B v) (B n) (B [UInt8.ofNat c.toNat, UInt8.ofNat id.toNat] ++ B [UInt8.ofNat ((1 + (B v).size + (B n).size + 4) / 256), UInt8.ofNat ((1 + (B v).size + (B n).size + 4) % 256)] ++ (B [UInt8.ofNat (B v).size] ++ B v ++ B n)) 0 w := by
          by_cases h1 : c = 1
          · exact chap_two1 c id h1 (B v) (B n) w (by omega) (by omega) (by omega) (by omega) (by omega)
          · exact chap_two2 c id (by omega) (B v) (B n) w (by omega) (by omega) (by omega) (by omega) (by omega)
        rw [B_append, B_append, B_append, B_append, hvs, hns] at this
        simpa [msg, body, hc2, Nat.add_comm, Nat.add_left_comm, Nat.add_assoc] using this
  · by_cases hv : v.length = 0
    · obtain rfl : v = [] := List.eq_nil_of_length_eq_zero hv
      rw [if_pos (by unfold fit; simp; omega)]
      by_cases hn : 253 < n.length
      · rw [if_pos hn]
        exact chap_long0 c id _ _ w (by omega) (by omega) (by omega) (by rw [hvs]; simp) (by omega)
      · rw [if_neg hn]
        have : ChapS c id (B []) (B n) (B [UInt8.ofNat c.toNat, UInt8.ofNat id.toNat] ++ B [UInt8.ofNat (((B n).size + 4) / 256), UInt8.ofNat (((B n).size + 4) % 256)] ++ B n) 0 w := by
          by_cases h1 : c = 3
          · exact chap_none3 c id h1 (B []) (B n) w (by omega) (by omega) (by rw [hvs]; simp) (by omega)
          · exact chap_none4 c id (by omega) (B []) (B n) w (by omega) (by omega) (by rw [hvs]; simp) (by omega)
        rw [B_append, B_append, hns] at this
        simpa [msg, body, hc2, Nat.add_comm] using this
    · rw [if_neg (by unfold fit; omega)]
      exact chap_full c id _ _ w (by omega) (by omega) (by omega) (by omega)

theorem hu_of (x0 x1 x2 x3 : UInt8) (t : List UInt8) : Hu (B (x0 :: x1 :: x2 :: x3 :: t)) x0.toNat x1.toNat x2.toNat x3.toNat (x2.toNat * 256 + x3.toNat) where
  h := by rw [B_size]; simp
  e0 := fun h => by rw [B_getElem]; rfl
  e1 := fun h => by rw [B_getElem]; rfl
  e2 := fun h => by rw [B_getElem]; rfl
  e3 := fun h => by rw [B_getElem]; rfl
  b0 := by omega
  b1 := by omega
  b2 := by omega
  b3 := by omega
  c0 := by have := x0.toNat_lt; omega
  c1 := by have := x1.toNat_lt; omega
  c2 := by have := x2.toNat_lt; omega
  c3 := by have := x3.toNat_lt; omega
  hm := by omega

theorem un_any (l : List UInt8) (w : World) : UnS (B l) (getV l).1 (getV l).2.1 (B (getV l).2.2.1) (B (getV l).2.2.2.1) (getV l).2.2.2.2 w := by
  match l with
  | [] => exact un_short _ w (by rw [B_size]; simp)
  | [_] => exact un_short _ w (by rw [B_size]; simp)
  | [_, _] => exact un_short _ w (by rw [B_size]; simp)
  | [_, _, _] => exact un_short _ w (by rw [B_size]; simp)
  | x0 :: x1 :: x2 :: x3 :: t =>
    have H := hu_of x0 x1 x2 x3 t
    have hs : (B (x0 :: x1 :: x2 :: x3 :: t)).size = t.length + 4 := by rw [B_size]; rfl
    have h02 := x2.toNat_lt
    have h03 := x3.toNat_lt
    generalize hm : x2.toNat * 256 + x3.toNat = m at H
    simp only [getV, hm]
    by_cases h1 : x0.toNat < 1
    · rw [if_pos (Or.inl h1)]; exact un_code0 w H (by omega)
    by_cases h2 : 4 < x0.toNat
    · rw [if_pos (by omega)]; exact un_code5 w H (by omega)
    by_cases h5 : x0.toNat ≤ 2
    · by_cases h3 : m < 4
      · rw [if_pos (by omega)]; exact un_low2 w H (by omega) (by omega)
      by_cases h3' : m < 5
      · by_cases h4 : t.length + 4 < m
        · rw [if_pos (by omega)]; exact un_low2 w H (by omega) (by omega)
        rw [if_neg (by omega), if_pos h5]
        obtain rfl : m = 4 := by omega
        exact un_low2 w H (by omega) (by omega)
      by_cases h4 : t.length + 4 < m
      · rw [if_pos (by omega)]; exact un_past2 w H (by omega) (by omega) (by omega)
      rw [if_neg (by omega), if_pos h5]
      cases t with
      | nil => simp at h4; omega
      | cons q u =>
        have hq := q.toNat_lt
        simp only [List.length_cons] at hs h4
        have e4 : ∀ h : 4 < (B (x0 :: x1 :: x2 :: x3 :: q :: u)).size, (((B (x0 :: x1 :: x2 :: x3 :: q :: u))[4]'h).toNat : Int) = (q.toNat : Int) := by
          intro h; rw [B_getElem]; rfl
        obtain ⟨k, rfl⟩ : ∃ k, m = k + 5 := ⟨m - 5, by omega⟩
        have hr : (q :: u).take (k + 5 - 4) = q :: u.take k := rfl
        rw [hr]
        have hlen : (u.take k).length = k := by rw [List.length_take]; omega
        simp only [hlen]
        by_cases h6 : q.toNat = 0
        · rw [if_pos (Or.inl h6)]
          rw [h6] at e4
          exact un_val_zero w H (by omega) (by omega) e4
        by_cases h7 : k < q.toNat
        · rw [if_pos (Or.inr h7)]
          exact un_val_past w H (by omega) (by omega) e4 (by omega) (by omega)
        obtain ⟨j, hj⟩ : ∃ j, k = q.toNat + j := ⟨k - q.toNat, by omega⟩
        subst hj
        rw [if_neg (by omega)]
        by_cases h8 : 253 < q.toNat + j - q.toNat
        · rw [if_pos h8]
          exact un_val_long w H (by omega) (by omega) e4 (by omega) (by omega) (by omega)
        · rw [if_neg h8]
          have := un_val w H (by omega) (by omega) e4 (by omega) (by omega) (by omega)
          rw [B_extract, B_extract] at this
          have e1 : List.take (5 + q.toNat - 5) (List.drop 5 (x0 :: x1 :: x2 :: x3 :: q :: u)) = (u.take (q.toNat + j)).take q.toNat := by
            rw [Nat.add_sub_cancel_left, List.take_take, Nat.min_eq_left (by omega)]; rfl
          have e2 : List.take (q.toNat + j + 5 - (5 + q.toNat)) (List.drop (5 + q.toNat) (x0 :: x1 :: x2 :: x3 :: q :: u)) = (u.take (q.toNat + j)).drop q.toNat := by
            rw [List.drop_take, show q.toNat + j + 5 - (5 + q.toNat) = q.toNat + j - q.toNat from by omega, Nat.add_comm 5 q.toNat]; rfl
          rw [e1, e2] at this
          exact this
    · by_cases h3 : m < 4
      · rw [if_pos (by omega)]; exact un_low0 w H (by omega) (by omega)
      by_cases h4 : t.length + 4 < m
      · rw [if_pos (by omega)]; exact un_past0 w H (by omega) (by omega) (by omega)
      rw [if_neg (by omega), if_neg h5]
      obtain ⟨k, rfl⟩ : ∃ k, m = k + 4 := ⟨m - 4, by omega⟩
      by_cases h8 : 253 < k + 4 - 4
      · rw [if_pos h8]
        exact un_text_long w H (by omega) (by omega) (by omega)
      · rw [if_neg h8]
        have := un_text w H (by omega) (by omega) (by omega)
        rw [B_extract] at this
        exact this
end Go.Proofs.Ytoldjadadgokeaa.Ch6
