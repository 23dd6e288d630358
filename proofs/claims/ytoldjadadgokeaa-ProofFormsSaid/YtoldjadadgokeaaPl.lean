/- What Put, Get and the reference's Chap and Unchap answer, as one plain function each. No condition. -/
import Derived.Test.YtoldjadadgokeaaGetA
import Derived.Test.YtoldjadadgokeaaGetB
namespace Go.Proofs.Ytoldjadadgokeaa.Ch6
open Go.RowKit Go.Proofs.Ytoldjadadgokeaa.Bytes

/-- May a message be put? -/
def fit (c id : Int) (v : List UInt8) : Prop := 1 ≤ c ∧ c ≤ 4 ∧ 0 ≤ id ∧ id ≤ 255 ∧ (c ≤ 2 ↔ 0 < v.length) ∧ v.length ≤ 255
instance (c id : Int) (v : List UInt8) : Decidable (fit c id v) := by unfold fit; infer_instance
/-- Its bytes behind the head. -/
def body (c : Int) (v n : List UInt8) : List UInt8 := if c ≤ 2 then UInt8.ofNat v.length :: (v ++ n) else n
/-- Its bytes. -/
def msg (c id : Int) (v n : List UInt8) : List UInt8 :=
  UInt8.ofNat c.toNat :: UInt8.ofNat id.toNat :: UInt8.ofNat ((4 + (body c v n).length) / 256) :: UInt8.ofNat ((4 + (body c v n).length) % 256) :: body c v n
def putV (c id : Int) (v n : List UInt8) : List UInt8 × Int :=
  if fit c id v then (if 253 < n.length then ([], 601) else (msg c id v n, 0)) else ([], 600)

def bad : Int × Int × List UInt8 × List UInt8 × Int := (0, 0, [], [], 600)
def long : Int × Int × List UInt8 × List UInt8 × Int := (0, 0, [], [], 601)
def getV (l : List UInt8) : Int × Int × List UInt8 × List UInt8 × Int :=
  match l with
  | x0 :: x1 :: x2 :: x3 :: t =>
    let m := x2.toNat * 256 + x3.toNat
    if x0.toNat < 1 ∨ 4 < x0.toNat ∨ m < 4 ∨ t.length + 4 < m then bad
    else if x0.toNat ≤ 2 then
      match t.take (m - 4) with
      | [] => bad
      | q :: r => if q.toNat = 0 ∨ r.length < q.toNat then bad else if 253 < r.length - q.toNat then long else (x0.toNat, x1.toNat, r.take q.toNat, r.drop q.toNat, 0)
    else if 253 < m - 4 then long else (x0.toNat, x1.toNat, [], t.take (m - 4), 0)
  | _ => bad

theorem put_any (c id : Int) (v n : List UInt8) (w : World) : PutS c id (B v) (B n) (B (putV c id v n).1) (putV c id v n).2 w := by
  unfold putV
  have hvs : (B v).size = v.length := B_size v
  have hns : (B n).size = n.length := B_size n
  have hve : (B v).toList = v := B_toList v
  by_cases hc : c < 1 ∨ 4 < c
  · rw [if_neg (by unfold fit; omega)]; exact put_codes c id _ _ w hc
  by_cases hi : id < 0 ∨ 255 < id
  · rw [if_neg (by unfold fit; omega)]; exact put_ids c id _ _ w (by omega) (by omega) hi
  by_cases hc2 : c ≤ 2
  · by_cases hv : v.length = 0
    · obtain rfl : v = [] := List.eq_nil_of_length_eq_zero hv
      rw [if_neg (by unfold fit; simp; omega)]
      exact put_empty c id _ _ w (by omega) (by omega) (by omega) (by rw [hve]; rfl)
    · have hve' : (B v).toList.isEmpty = false := by rw [hve]; cases v with | nil => simp at hv | cons a b => rfl
      by_cases hl : 255 < v.length
      · rw [if_neg (by unfold fit; omega)]
        exact put_wide c id _ _ w (by omega) (by omega) (by omega) hve' (by omega)
      rw [if_pos (by unfold fit; omega)]
      by_cases hn : 253 < n.length
      · rw [if_pos hn]
        exact put_long2 c id _ _ w (by omega) (by omega) (by omega) hve' (by omega) (by omega)
      · rw [if_neg hn]
        have := put_two c id (B v) (B n) w (by omega) (by omega) (by omega) hve' (by omega) (by omega)
        rw [B_append, B_append, B_append, hvs, hns] at this
        simpa [msg, body, hc2, Nat.add_comm, Nat.add_left_comm, Nat.add_assoc] using this
  · by_cases hv : v.length = 0
    · obtain rfl : v = [] := List.eq_nil_of_length_eq_zero hv
      rw [if_pos (by unfold fit; simp; omega)]
      by_cases hn : 253 < n.length
      · rw [if_pos hn]
        exact put_long0 c id _ _ w (by omega) (by omega) (by omega) (by rw [hve]; rfl) (by rw [hvs]; simp) (by omega)
      · rw [if_neg hn]
        have := put_none c id (B []) (B n) w (by omega) (by omega) (by omega) (by rw [hve]; rfl) (by rw [hvs]; simp) (by omega)
        rw [B_append, hns] at this
        simpa [msg, body, hc2] using this
    · have hve' : (B v).toList.isEmpty = false := by rw [hve]; cases v with | nil => simp at hv | cons a b => rfl
      rw [if_neg (by unfold fit; omega)]
      exact put_full c id _ _ w (by omega) (by omega) (by omega) hve'

theorem hd_of (x0 x1 x2 x3 : UInt8) (t : List UInt8) : Hd (B (x0 :: x1 :: x2 :: x3 :: t)) x0.toNat x1.toNat x2.toNat x3.toNat (x2.toNat * 256 + x3.toNat) where
  h := by rw [B_size]; simp
  e0 := fun h => by rw [B_getElem]; rfl
  e1 := fun h => by rw [B_getElem]; rfl
  e2 := fun h => by rw [B_getElem]; rfl
  e3 := fun h => by rw [B_getElem]; rfl
  b0 := by omega
  b1 := by omega
  b2 := by omega
  b3 := by omega
  c0 := by have := x0.toNat_lt; omega
  c1 := by have := x1.toNat_lt; omega
  c2 := by have := x2.toNat_lt; omega
  c3 := by have := x3.toNat_lt; omega
  hm := by have h2 := x2.toNat_lt; have h3 := x3.toNat_lt; rw [or_bytes _ _ (by omega) (by omega) (by omega) (by omega)]; omega
  ml := by have h2 := x2.toNat_lt; have h3 := x3.toNat_lt; omega

theorem get_any (l : List UInt8) (w : World) : GetS (B l) (getV l).1 (getV l).2.1 (B (getV l).2.2.1) (B (getV l).2.2.2.1) (getV l).2.2.2.2 w := by
  match l with
  | [] => exact get_short _ w (by rw [B_size]; simp)
  | [_] => exact get_short _ w (by rw [B_size]; simp)
  | [_, _] => exact get_short _ w (by rw [B_size]; simp)
  | [_, _, _] => exact get_short _ w (by rw [B_size]; simp)
  | x0 :: x1 :: x2 :: x3 :: t =>
    have H := hd_of x0 x1 x2 x3 t
    have hs : (B (x0 :: x1 :: x2 :: x3 :: t)).size = t.length + 4 := by rw [B_size]; rfl
    generalize hm : x2.toNat * 256 + x3.toNat = m at H
    simp only [getV, hm]
    by_cases h1 : x0.toNat < 1
    · rw [if_pos (Or.inl h1)]; exact get_code0 w H (by omega)
    by_cases h2 : 4 < x0.toNat
    · rw [if_pos (by omega)]; exact get_code5 w H (by omega)
    by_cases h3 : m < 4
    · rw [if_pos (by omega)]; exact get_low w H (by omega) (by omega) (by omega)
    by_cases h4 : t.length + 4 < m
    · rw [if_pos (by omega)]; exact get_past w H (by omega) (by omega) (by omega) (by rw [hs]; omega)
    rw [if_neg (by omega)]
    have he : (B (x0 :: x1 :: x2 :: x3 :: t)).extract 4 m = B (t.take (m - 4)) := by rw [B_extract]; rfl
    by_cases h5 : x0.toNat ≤ 2
    · rw [if_pos h5]
      cases hr : t.take (m - 4) with
      | nil =>
        have hlen : (t.take (m - 4)).length = 0 := by rw [hr]; rfl
        rw [List.length_take] at hlen
        obtain rfl : m = 4 := by omega
        exact get_val_none w H (by omega) (by omega)
      | cons q r =>
        have hlen : (t.take (m - 4)).length = r.length + 1 := by rw [hr]; rfl
        rw [List.length_take] at hlen
        have hq := q.toNat_lt
        have e4 : ∀ h : 0 < ((B (x0 :: x1 :: x2 :: x3 :: t)).extract 4 m).size, ((((B (x0 :: x1 :: x2 :: x3 :: t)).extract 4 m)[0]'h).toNat : Int) = (q.toNat : Int) := by
          rw [he, hr]; intro h; rw [B_getElem]; rfl
        rw [hr] at he
        by_cases h6 : q.toNat = 0
        · simp only []
          rw [if_pos (Or.inl h6)]
          obtain ⟨k, rfl⟩ : ∃ k, m = k + 5 := ⟨m - 5, by omega⟩
          rw [h6] at e4
          exact get_val_zero w H (by omega) (by omega) e4
        by_cases h7 : r.length < q.toNat
        · simp only []
          rw [if_pos (Or.inr h7)]
          obtain ⟨k, rfl⟩ : ∃ k, m = k + 5 := ⟨m - 5, by omega⟩
          exact get_val_past w H (by omega) (by omega) e4 (by omega) (by omega)
        obtain ⟨j, hj⟩ : ∃ j, r.length = q.toNat + j := ⟨r.length - q.toNat, by omega⟩
        obtain rfl : m = q.toNat + j + 5 := by omega
        simp only []
        rw [if_neg (by omega)]
        by_cases h8 : 253 < r.length - q.toNat
        · rw [if_pos h8]
          exact get_val_long w H (by omega) (by omega) e4 (by omega) (by omega) (by omega)
        · rw [if_neg h8]
          have := get_val w H (by omega) (by omega) e4 (by omega) (by omega) (by omega)
          rw [he, B_extract, B_extract] at this
          have e1 : List.take (1 + q.toNat - 1) (List.drop 1 (q :: r)) = r.take q.toNat := by rw [Nat.add_sub_cancel_left]; rfl
          have e2 : List.take (q.toNat + j + 1 - (1 + q.toNat)) (List.drop (1 + q.toNat) (q :: r)) = r.drop q.toNat := by
            rw [Nat.add_comm 1 q.toNat, List.drop_succ_cons, List.take_of_length_le (by rw [List.length_drop]; omega)]
          rw [e1, e2] at this
          exact this
    · rw [if_neg h5]
      obtain ⟨k, rfl⟩ : ∃ k, m = k + 4 := ⟨m - 4, by omega⟩
      by_cases h8 : 253 < k + 4 - 4
      · rw [if_pos h8]
        exact get_text_long w H (by omega) (by omega) (by omega)
      · rw [if_neg h8]
        have := get_text w H (by omega) (by omega) (by omega)
        rw [he] at this
        exact this
end Go.Proofs.Ytoldjadadgokeaa.Ch6
