/- SameChaps of two like answers, short, and withylaw16.awake. No condition. -/
import Derived.Test.YtoldjadadgokeaaPw
import Derived.Laws.StructEq
namespace Go.Proofs.Ytoldjadadgokeaa.Ch16
open Go.RowKit Go.Proofs.Ytoldjadadgokeaa.Bytes Go.Proofs.Ytoldjadadgokeaa.Md Go.Proofs.Ytoldjadadgokeaa.Ch6

/-- A call of SameChaps answers true. -/
def SameS (x y : Value) (w : World) : Prop := Calls Try.prog 34 #[x, y] w fun e w' => e = .returned (.bool true) ∧ Below w.heap.size w w'
theorem SameS.use {x y : Value} {w : World} {Q : Ending → World → Prop} (h : SameS x y w) (k : ∀ e' w', (e' = .returned (.bool true) ∧ Below w.heap.size w w') → Q e' w') : Calls Try.prog 34 #[x, y] w Q := Calls.mono h k
set_option maxRecDepth 100000 in
theorem same_nil (w : World) : SameS (.slice none 0 0) (.slice none 0 0) w := by
  unfold SameS
  go_enter Try.func34, Try.ntmps34
  go_wp2
  go_loopw [5] (fun t wr => t = .int .i64 0 ∧ wr = w) (fun _ _ => 0)
  case atStart => exact ⟨rfl, rfl⟩
  case round =>
    obtain ⟨rfl, rfl⟩ := hrel
    go_wp2
    go_ret
    exact ⟨rfl, Below.refl _ _⟩
set_option maxHeartbeats 1000000 in
set_option maxRecDepth 100000 in
theorem same_one (g h : Nat) (c id : Int) (v n : ByteArray) (w : World) (hg : Blk w g (cC c id v n)) (hh : Blk w h (cC c id v n)) : SameS (.slice (some ⟨g, 0, none⟩) 1 1) (.slice (some ⟨h, 0, none⟩) 1 1) w := by
  unfold SameS
  go_enter Try.func34, Try.ntmps34
  go_wp2
  go_loopw [5] (fun t wr => ∃ i : Nat, i ≤ 1 ∧ t = .int .i64 i ∧ Blk wr g (cC c id v n) ∧ Blk wr h (cC c id v n) ∧ Below w.heap.size w wr) (fun t _ => 1 - (intOf t).toNat)
  case atStart => exact ⟨0, by omega, rfl, hg, hh, Below.refl _ _⟩
  case round =>
    obtain ⟨i, hi, rfl, k1, k2, hbel⟩ := hrel
    by_cases hlt : i < 1
    · obtain rfl : i = 0 := by omega
      obtain ⟨x0, x1, x2, x3⟩ := k1.cells4
      obtain ⟨y0, y1, y2, y3⟩ := k2.cells4
      clear hlt
      go_wp2
      go_quiet (fail)
      go_wp2
      go_roundw
      case rel => exact ⟨1, by omega, rfl, by first | exact k1.drewN _ | exact k1.drew, by first | exact k2.drewN _ | exact k2.drew, by first | exact be_drewN hbel _ | exact be_drew hbel⟩
      case measure => simp [intOf]
    · have hge : (1 : Int) ≤ i := by omega
      clear k1 k2
      go_wp2
      go_ret
      exact ⟨rfl, hbel⟩

theorem Blk_new2 (w : World) (o o' : Obj) : Blk ((w.alloc o).alloc o') (w.heap.size + 1) o' := by
  have := Blk.new (w.alloc o) o'
  rwa [show (w.alloc o).heap.size = w.heap.size + 1 by simp] at this
abbrev sMe : ByteArray := ⟨#[109, 101]⟩
abbrev sMine : ByteArray := ⟨#[109, 105, 110, 101]⟩
abbrev sIts : ByteArray := ⟨#[105, 116, 115]⟩
abbrev sAbc : ByteArray := ⟨#[97, 98, 99]⟩
abbrev sX : ByteArray := ⟨#[120]⟩
theorem begun_of (s : Pst) (h : 1 ≤ s.ch.size) : s.begun = true := by unfold Pst.begun; rw [full_of h]; rfl
theorem start_new (nm sc ex : ByteArray) (n : Int) (c : ByteArray) (h1 : 1 ≤ c.size) (h2 : c.size ≤ 255) : startF (newF nm sc ex n) c = ({ newF nm sc ex n with ch := c }, ⟨1, 1, c, nm⟩, 0) := by
  unfold startF
  rw [if_neg (by omega), if_neg (by rw [begun_new]; simp [newF])]
  rfl
theorem start_twice (s : Pst) (c : ByteArray) (h1 : 1 ≤ c.size) (h2 : c.size ≤ 255) (hb : s.begun = true) : startF s c = (s, zeroC, 1601) := by
  unfold startF
  rw [if_neg (by omega), if_pos (Or.inl hb)]
theorem dig_size (id : Int) (s c : ByteArray) : (dig id s c).size = 16 := by unfold dig; rw [B_size, md5_length]
theorem err_two (c id : Int) (v n : ByteArray) (hc : c = 1 ∨ c = 2) (h0 : 0 ≤ id) (h1 : id ≤ 255) (hv : 1 ≤ v.size) (hv2 : v.size ≤ 255) (hn : n.size ≤ 253) : errOf ⟨c, id, v, n⟩ = 0 := by
  have h2 : v.data.toList.length = v.size := Array.length_toList
  have h3 : n.data.toList.length = n.size := Array.length_toList
  unfold errOf putV
  rw [if_pos (by unfold fit; simp only; omega), if_neg (by simp only; omega)]
theorem take_right (s : Pst) (n : ByteArray) (hn : n.size ≤ 253) (hb : s.begun = true) (hf : s.fl = false) :
    takeF s ⟨2, 1, dig 1 s.ex s.ch, n⟩ = ({ s with pr := true }, some ⟨3, 1, ⟨#[]⟩, ⟨#[111, 107]⟩⟩, 0) := by
  unfold takeF
  rw [if_neg (by rw [err_two 2 1 _ n (Or.inr rfl) (by decide) (by decide) (by rw [dig_size]; decide) (by rw [dig_size]; decide) hn]; simp), if_neg (by rw [hf]; simp), if_neg (by show ¬ (2 : Int) = 1; decide), if_pos rfl]
  unfold judgeF
  rw [if_neg (by rw [hb]; simp), if_pos (Or.inr rfl)]
theorem awake_new : mayNew sMe sMine sIts 3 := by unfold mayNew; decide
theorem awake_not : ¬ mayNew sMe ⟨#[]⟩ sIts 3 := by unfold mayNew; decide
/-- The state behind awake's Start. -/
def st1 : Pst := { newF sMe sMine sIts 3 with ch := sAbc }
theorem st1_inv : Inv st1 := by have := inv_start (inv_new awake_new) sAbc; rw [start_new _ _ _ _ _ (by decide) (by decide)] at this; exact this
theorem a_start (w : World) (b : Nat) (h : PS w b (newF sMe sMine sIts 3)) :
    Calls Try.prog 27 #[.pointer (some ⟨b, 0, none⟩), .string sAbc] w fun e w' => e = .returned (.tuple #[.agg #[.int .i64 1, .int .i64 1, .string sAbc, .string sMe], .int .i64 0]) ∧ PS w' b st1 ∧ But b w w' := by
  have := start_any h sAbc
  rw [start_new _ _ _ _ _ (by decide) (by decide)] at this
  exact this
theorem a_again (w : World) (b : Nat) (s : Pst) (hb : s.begun = true) (h : PS w b s) :
    Calls Try.prog 27 #[.pointer (some ⟨b, 0, none⟩), .string sAbc] w fun e w' => e = .returned (.tuple #[.agg #[.int .i64 0, .int .i64 0, .string ⟨#[]⟩, .string ⟨#[]⟩], .int .i64 1601]) ∧ PS w' b s ∧ But b w w' := by
  have := start_any h sAbc
  rw [start_twice s sAbc (by decide) (by decide) hb] at this
  exact this
theorem a_take (w : World) (b : Nat) (h : PS w b st1) :
    Calls Try.prog 32 #[.pointer (some ⟨b, 0, none⟩), .agg #[.int .i64 2, .int .i64 1, .string (dig 1 sIts sAbc), .string sX]] w (One2 b (fun w' => PS w' b { st1 with pr := true }) w (cC 3 1 ⟨#[]⟩ ⟨#[111, 107]⟩)) := by
  have := take_any h st1_inv ⟨2, 1, dig 1 sIts sAbc, sX⟩
  rw [show dig 1 sIts sAbc = dig 1 st1.ex st1.ch from rfl, take_right st1 sX (by decide) (begun_of st1 (by decide)) rfl] at this
  exact this
set_option maxHeartbeats 1000000 in
set_option maxRecDepth 100000 in
theorem awake16_calls (w : World) : Calls Try.prog 26 #[] w fun e w' => e = .returned (.bool true) ∧ Below w.heap.size w w' := by
  have hno := fun w => new_no sMe ⟨#[]⟩ sIts 3 w awake_not
  obtain ⟨d, hd⟩ : ∃ d, d = dig 1 sIts sAbc := ⟨_, rfl⟩
  have hr := fun w => dig_rc 1 sIts sAbc (by decide) (by decide) w
  have ht := a_take
  rw [← hd] at hr ht
  have HT := Lib.hid ht
  have HN := Lib.hid hno
  clear hd ht hno
  go_enter Try.func26, Try.ntmps26
  go_wp2_with fail
  refine (new_any awake_new _).mono ?_
  rintro _ w1 ⟨rfl, hp, B1⟩
  have hlt := Blk.lt hp
  have HP := Lib.hid hp
  clear hp
  go_wp2_with (go_at_call 22; refine (num_calls _ _).mono ?_; rintro _ _ ⟨rfl, rfl⟩)
  refine (a_start _ _ HP.out).mono ?_
  rintro _ w2 ⟨rfl, hp, hbut⟩
  have B2 := hbut.below B1 (Nat.le_refl _) B1.size
  have HP2 := Lib.hid hp
  clear hp hbut HP B1
  have k := Blk.new w2 (cC 1 1 sAbc sMe)
  go_wp2_with fail
  refine (hr _).use ?_
  rintro _ w3 ⟨rfl, hb⟩
  replace k := k.below hb
  have hp : PS w3 w.heap.size st1 := (Blk.alloc HP2.out _).below hb
  have B3 := (be_alloc B2 _).trans (hb.mono (be_alloc B2 _).size)
  have HP3 := Lib.hid hp
  have hlt2 : w.heap.size < w2.heap.size := Blk.lt HP2.out
  clear hp hb HP2 B2
  go_wp2_with fail
  refine (HT.out _ _ HP3.out).mono ?_
  rintro _ w4 ⟨g, rfl, hg, kg, hp, hbut⟩
  have B4 := hbut.below B3 (Nat.le_refl _) B3.size
  replace k := hbut.blk (by omega) k
  have HP4 := Lib.hid hp
  have hlt3 : w.heap.size < w3.heap.size := Blk.lt HP3.out
  clear hp hbut HP3 B3
  go_wp2_with fail
  refine (a_again _ _ _ (begun_of _ (by decide)) HP4.out).mono ?_
  rintro _ w5 ⟨rfl, hp, hbut⟩
  have B5 := hbut.below B4 (Nat.le_refl _) B4.size
  replace k := hbut.blk (by omega) k
  replace kg := hbut.blk (by omega) kg
  have HP5 := Lib.hid hp
  clear hp hbut HP4 B4
  go_wp2_with fail
  refine (HN.out _).mono ?_
  rintro _ w6 ⟨rfl, rfl⟩
  have B6 := be_alloc B5 (cC 0 0 ⟨#[]⟩ ⟨#[]⟩)
  replace k := k.alloc (cC 0 0 ⟨#[]⟩ ⟨#[]⟩)
  replace kg := kg.alloc (cC 0 0 ⟨#[]⟩ ⟨#[]⟩)
  have HP6 : Hid (PS (w5.alloc (cC 0 0 ⟨#[]⟩ ⟨#[]⟩)) w.heap.size { st1 with pr := true }) := Lib.hid (Blk.alloc HP5.out _)
  obtain ⟨x0, x1, x2, x3⟩ := k.cells4
  have hl3 := k.lt
  have kl := Blk_new2 w5 (cC 0 0 ⟨#[]⟩ ⟨#[]⟩) (cC 3 1 ⟨#[]⟩ ⟨#[111, 107]⟩)
  have HS := Lib.hid (same_one g (w5.heap.size + 1) 3 1 ⟨#[]⟩ ⟨#[111, 107]⟩ _ (kg.alloc _) kl)
  go_wp2_with (go_at_call 22; refine (num_calls _ _).mono ?_; rintro _ _ ⟨rfl, rfl⟩)
  refine (HS.out).use ?_
  rintro _ w7 ⟨rfl, hb⟩
  have hp7 : PS w7 w.heap.size { st1 with pr := true } := (Blk.alloc HP6.out _).below hb
  have B7 := (be_alloc B6 _).trans (hb.mono (be_alloc B6 _).size)
  have h35 := Lib.hid (show Calls Try.prog 35 #[.pointer (some ⟨w.heap.size, 0, none⟩)] w7 (fun e w' => e = .returned (.bool true) ∧ w7 = w') from proved_calls hp7)
  have h36 := Lib.hid (show Calls Try.prog 36 #[.pointer (some ⟨w.heap.size, 0, none⟩)] w7 (fun e w' => e = .returned (.bool false) ∧ w7 = w') from taken_calls hp7)
  have h37 := Lib.hid (show Calls Try.prog 37 #[.pointer (some ⟨w.heap.size, 0, none⟩)] w7 (fun e w' => e = .returned (.bool false) ∧ w7 = w') from failed_calls hp7)
  clear hb hp7 HS kl k kg B6 HP6 x0 x1 x2 x3
  go_wp2_with (first | (go_at_call 22; refine (num_calls _ _).mono ?_; rintro _ _ ⟨rfl, rfl⟩) | (go_at_call 35; refine h35.out.mono ?_; rintro _ _ ⟨rfl, rfl⟩) | (go_at_call 36; refine h36.out.mono ?_; rintro _ _ ⟨rfl, rfl⟩) | (go_at_call 37; refine h37.out.mono ?_; rintro _ _ ⟨rfl, rfl⟩))
  go_ret
  exact ⟨rfl, B7⟩
end Go.Proofs.Ytoldjadadgokeaa.Ch16
