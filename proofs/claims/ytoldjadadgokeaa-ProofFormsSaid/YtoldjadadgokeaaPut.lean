/- What chapmsg.Put answers, for every message. No condition. -/
import Derived.Test.YtoldjadadgokeaaProg
import Derived.Test.YtoldjadadgokeaaB
import Derived.Below
import Derived.WalkKit
import Derived.WalkLawsBesides
import Derived.WalkSpells
import Derived.Outline
namespace Go.Proofs.Ytoldjadadgokeaa.Ch6
open Go.RowKit Go.Proofs.Ytoldjadadgokeaa.Bytes

attribute [local go_sem] B_size ByteArray.size_append
theorem conv_new (W : World) (b : Nat) (xs : List Int) (hb : b = W.heap.size) (n : Nat) (hn : xs.length = n) (cs : Array Value) (hcs : (xs.map (Value.int .u8)).toArray = cs) :
    (convert 37 9 (.slice (some ⟨b, 0, none⟩) n n)).run Try.prog (W.alloc (.cells cs 5)) = .ok (.string (strOfNums xs)) (W.alloc (.cells cs 5)) := by
  subst hb
  refine run_convert_bytes_arg (P := Try.prog) (W.alloc (.cells cs 5)) 37 5 Try.underlying37 Try.underlying5 W.heap.size 0 n n xs hn (fun i hi => ?_) 9 Try.underlying9
  subst hcs
  have := cell_of_row (W.alloc (.cells (xs.map (Value.int .u8)).toArray 5)) W.heap.size (0 + i) _ 5 (0, 0) (heap_alloc_new W _)
  rw [this]
  simp [List.getElem?_eq_getElem (show i < xs.length by omega)]
theorem conv1 (W : World) (b : Nat) (x : Int) (hb : b = W.heap.size) :
    (convert 37 9 (.slice (some ⟨b, 0, none⟩) 1 1)).run Try.prog (W.alloc (.cells #[.int .u8 x] 5)) = .ok (.string (B [UInt8.ofNat x.toNat])) (W.alloc (.cells #[.int .u8 x] 5)) :=
  conv_new W b [x] hb 1 rfl _ rfl
theorem conv2 (W : World) (b : Nat) (x y : Int) (hb : b = W.heap.size) :
    (convert 37 9 (.slice (some ⟨b, 0, none⟩) 2 2)).run Try.prog (W.alloc (.cells #[.int .u8 x, .int .u8 y] 5))
      = .ok (.string (B [UInt8.ofNat x.toNat, UInt8.ofNat y.toNat])) (W.alloc (.cells #[.int .u8 x, .int .u8 y] 5)) :=
  conv_new W b [x, y] hb 2 rfl _ rfl
theorem conv4 (W : World) (b : Nat) (x y z u : Int) (hb : b = W.heap.size) :
    (convert 37 9 (.slice (some ⟨b, 0, none⟩) 4 4)).run Try.prog (W.alloc (.cells #[.int .u8 x, .int .u8 y, .int .u8 z, .int .u8 u] 5))
      = .ok (.string (B [UInt8.ofNat x.toNat, UInt8.ofNat y.toNat, UInt8.ofNat z.toNat, UInt8.ofNat u.toNat])) (W.alloc (.cells #[.int .u8 x, .int .u8 y, .int .u8 z, .int .u8 u] 5)) :=
  conv_new W b [x, y, z, u] hb 4 rfl _ rfl

/-- A call of Put answers this, and writes nothing that was there. -/
def PutS (c id : Int) (v n r : ByteArray) (e : Int) (w : World) : Prop :=
  Calls Try.prog 18 #[.agg #[.int .i64 c, .int .i64 id, .string v, .string n]] w fun e' w' => e' = .returned (.tuple #[.string r, .int .i64 e]) ∧ Below w.heap.size w w'

set_option maxHeartbeats 400000 in
set_option maxRecDepth 100000 in
theorem put_codes (c id : Int) (v n : ByteArray) (w : World) (h : c < 1 ∨ 4 < c) : PutS c id v n (B []) 600 w := by
  unfold PutS
  rcases h with h | h
  · go_enter Try.func18, Try.ntmps18
    go_wp2
    all_goals (go_ret2; exact ⟨rfl, (Below.refl _ _).alloc (Nat.le_refl _) _⟩)
  · have h' : ¬ c < 1 := by omega
    go_enter Try.func18, Try.ntmps18
    go_wp2
    all_goals (go_ret2; exact ⟨rfl, (Below.refl _ _).alloc (Nat.le_refl _) _⟩)

set_option maxHeartbeats 400000 in
set_option maxRecDepth 100000 in
theorem put_ids (c id : Int) (v n : ByteArray) (w : World) (h1 : 1 ≤ c) (h4 : c ≤ 4) (h : id < 0 ∨ 255 < id) : PutS c id v n (B []) 600 w := by
  unfold PutS
  rcases h with h | h
  · go_enter Try.func18, Try.ntmps18
    go_wp2
    all_goals (go_ret2; exact ⟨rfl, (Below.refl _ _).alloc (Nat.le_refl _) _⟩)
  · have h' : ¬ id < 0 := by omega
    go_enter Try.func18, Try.ntmps18
    go_wp2
    all_goals (go_ret2; exact ⟨rfl, (Below.refl _ _).alloc (Nat.le_refl _) _⟩)

set_option maxHeartbeats 400000 in
set_option maxRecDepth 100000 in
theorem put_empty (c id : Int) (v n : ByteArray) (w : World) (hc : c = 1 ∨ c = 2) (hi : 0 ≤ id) (hi' : id ≤ 255) (hv : v.toList.isEmpty = true) : PutS c id v n (B []) 600 w := by
  unfold PutS
  rcases hc with rfl | rfl
  all_goals
    go_enter Try.func18, Try.ntmps18
    go_wp2
    all_goals (go_ret2; exact ⟨rfl, (Below.refl _ _).alloc (Nat.le_refl _) _⟩)

set_option maxHeartbeats 400000 in
set_option maxRecDepth 100000 in
theorem put_full (c id : Int) (v n : ByteArray) (w : World) (hc : c = 3 ∨ c = 4) (hi : 0 ≤ id) (hi' : id ≤ 255) (hv : v.toList.isEmpty = false) : PutS c id v n (B []) 600 w := by
  unfold PutS
  rcases hc with rfl | rfl
  all_goals
    go_enter Try.func18, Try.ntmps18
    go_wp2
    all_goals (go_ret2; exact ⟨rfl, (Below.refl _ _).alloc (Nat.le_refl _) _⟩)

set_option maxHeartbeats 400000 in
set_option maxRecDepth 100000 in
theorem put_wide (c id : Int) (v n : ByteArray) (w : World) (hc : c = 1 ∨ c = 2) (hi : 0 ≤ id) (hi' : id ≤ 255) (hv : v.toList.isEmpty = false) (hv' : 255 < (v.size : Int)) : PutS c id v n (B []) 600 w := by
  unfold PutS
  rcases hc with rfl | rfl
  all_goals
    go_enter Try.func18, Try.ntmps18
    go_wp2
    all_goals (go_ret2; exact ⟨rfl, (Below.refl _ _).alloc (Nat.le_refl _) _⟩)

set_option maxHeartbeats 400000 in
set_option maxRecDepth 100000 in
theorem put_long2 (c id : Int) (v n : ByteArray) (w : World) (hc : c = 1 ∨ c = 2) (hi : 0 ≤ id) (hi' : id ≤ 255) (hv : v.toList.isEmpty = false) (hv' : (v.size : Int) ≤ 255) (hn : 253 < (n.size : Int)) : PutS c id v n (B []) 601 w := by
  unfold PutS
  rcases hc with rfl | rfl
  all_goals
    go_enter Try.func18, Try.ntmps18
    go_wp2
    all_goals (go_ret2; exact ⟨rfl, (Below.refl _ _).alloc (Nat.le_refl _) _⟩)

set_option maxHeartbeats 400000 in
set_option maxRecDepth 100000 in
theorem put_long0 (c id : Int) (v n : ByteArray) (w : World) (hc : c = 3 ∨ c = 4) (hi : 0 ≤ id) (hi' : id ≤ 255) (hv : v.toList.isEmpty = true) (hv' : (v.size : Int) ≤ 255) (hn : 253 < (n.size : Int)) : PutS c id v n (B []) 601 w := by
  unfold PutS
  rcases hc with rfl | rfl
  all_goals
    go_enter Try.func18, Try.ntmps18
    go_wp2
    all_goals (go_ret2; exact ⟨rfl, (Below.refl _ _).alloc (Nat.le_refl _) _⟩)

set_option maxHeartbeats 400000 in
set_option maxRecDepth 100000 in
theorem put_two (c id : Int) (v n : ByteArray) (w : World) (hc : c = 1 ∨ c = 2) (hi : 0 ≤ id) (hi' : id ≤ 255) (hv : v.toList.isEmpty = false) (hv' : (v.size : Int) ≤ 255) (hn : (n.size : Int) ≤ 253) :
    PutS c id v n (B [UInt8.ofNat c.toNat, UInt8.ofNat id.toNat, UInt8.ofNat ((4 + (1 + v.size + n.size)) / 256), UInt8.ofNat ((4 + (1 + v.size + n.size)) % 256)] ++ (B [UInt8.ofNat v.size] ++ v ++ n)) 0 w := by
  unfold PutS
  have k1 := conv1
  have k4 := conv4
  rcases hc with rfl | rfl
  all_goals
    go_enter Try.func18, Try.ntmps18
    go_wp2
    all_goals (go_ret2; exact ⟨rfl, (((Below.refl _ _).alloc (Nat.le_refl _) _).alloc (by simp) _).alloc (by simp; omega) _⟩)

set_option maxHeartbeats 400000 in
set_option maxRecDepth 100000 in
theorem put_none (c id : Int) (v n : ByteArray) (w : World) (hc : c = 3 ∨ c = 4) (hi : 0 ≤ id) (hi' : id ≤ 255) (hv : v.toList.isEmpty = true) (hv' : (v.size : Int) ≤ 255) (hn : (n.size : Int) ≤ 253) :
    PutS c id v n (B [UInt8.ofNat c.toNat, UInt8.ofNat id.toNat, UInt8.ofNat ((4 + n.size) / 256), UInt8.ofNat ((4 + n.size) % 256)] ++ n) 0 w := by
  unfold PutS
  have k4 := conv4
  rcases hc with rfl | rfl
  all_goals
    go_enter Try.func18, Try.ntmps18
    go_wp2
    all_goals (go_ret2; exact ⟨rfl, ((Below.refl _ _).alloc (Nat.le_refl _) _).alloc (by simp) _⟩)
end Go.Proofs.Ytoldjadadgokeaa.Ch6
