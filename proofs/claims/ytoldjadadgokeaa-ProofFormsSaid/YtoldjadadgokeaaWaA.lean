/- withylaw6.Chaps answers true, whatever message and string it is given. No condition. -/
import Derived.Test.YtoldjadadgokeaaAw
import Derived.Test.YtoldjadadgokeaaPr
namespace Go.Proofs.Ytoldjadadgokeaa.Ch6
open Go.RowKit Go.Proofs.Ytoldjadadgokeaa.Bytes
theorem ChapS.use {c id e : Int} {v n r : ByteArray} {w : World} {Q : Ending → World → Prop} (h : ChapS c id v n r e w)
    (k : ∀ e' w', (e' = .returned (.tuple #[.string r, .int .i64 e]) ∧ Below w.heap.size w w') → Q e' w') :
    Calls Try.prog 19 #[.agg #[.int .i64 c, .int .i64 id, .string v, .string n]] w Q := Calls.mono h k
theorem UnS.use {c id e : Int} {s v n : ByteArray} {w : World} {Q : Ending → World → Prop} (h : UnS s c id v n e w)
    (k : ∀ e' w', (e' = .returned (.tuple #[.agg #[.int .i64 c, .int .i64 id, .string v, .string n], .int .i64 e]) ∧ Below w.heap.size w w') → Q e' w') :
    Calls Try.prog 21 #[.string s] w Q := Calls.mono h k

set_option maxHeartbeats 1000000 in
set_option maxRecDepth 100000 in
theorem chaps_walk (c id e : Int) (v n r : ByteArray) (s : ByteArray) (c' id' e' : Int) (v' n' : ByteArray) (w : World)
    (hP : ∀ w, PutS c id v n r e w) (hC : ∀ w, ChapS c id v n r e w) (hG : ∀ w, GetS s c' id' v' n' e' w) (hU : ∀ w, UnS s c' id' v' n' e' w) :
    Calls Try.prog 3 #[.agg #[.int .i64 c, .int .i64 id, .string v, .string n], .string s] w fun e w' => e = .returned (.bool true) ∧ Below w.heap.size w w' := by
  go_enter Try.func3, Try.ntmps3
  go_wp2_with fail
  refine (hP _).use ?_
  rintro e w1 ⟨rfl, hb1⟩
  have k1 := (Blk.new w _).below hb1
  have B1 := (be_alloc (Below.refl w.heap.size w) _).trans (hb1.mono (be_alloc (Below.refl w.heap.size w) _).size)
  clear hb1
  obtain ⟨x0, x1, x2, x3⟩ := k1.cells4
  go_wp2_with fail
  refine (hC _).use ?_
  rintro e w2 ⟨rfl, hb2⟩
  replace B1 := B1.trans (hb2.mono B1.size)
  clear hb2 x0 x1 x2 x3 k1
  go_wp2_with fail
  refine (hG _).use ?_
  rintro e w3 ⟨rfl, hb3⟩
  replace B1 := B1.trans (hb3.mono B1.size)
  clear hb3
  go_wp2_with fail
  refine (hU _).use ?_
  rintro e w4 ⟨rfl, hb4⟩
  have k2 := (Blk.new w3 _).below hb4
  replace B1 := (be_alloc B1 _).trans (hb4.mono (be_alloc B1 _).size)
  clear hb4
  obtain ⟨y0, y1, y2, y3⟩ := k2.cells4
  have hlt := k2.lt
  clear k2
  go_wp2_with (first | (go_at_call 22; refine (num_calls _ _).mono ?_; rintro _ _ ⟨rfl, rfl⟩) | (go_at_call 23; refine (awake_calls _).mono ?_; rintro e w5 ⟨rfl, hb5⟩))
  go_ret
  exact ⟨rfl, (be_alloc B1 _).trans (hb5.mono (be_alloc B1 _).size)⟩

theorem chaps_calls (c id : Int) (v n s : ByteArray) (w : World) :
    Calls Try.prog 3 #[.agg #[.int .i64 c, .int .i64 id, .string v, .string n], .string s] w fun e w' => e = .returned (.bool true) ∧ Below w.heap.size w w' := by
  obtain ⟨v, rfl⟩ := B_of v
  obtain ⟨n, rfl⟩ := B_of n
  obtain ⟨s, rfl⟩ := B_of s
  exact chaps_walk c id _ _ _ _ _ _ _ _ _ _ w (put_any c id v n) (chap_any c id v n) (get_any s) (un_any s)
end Go.Proofs.Ytoldjadadgokeaa.Ch6
