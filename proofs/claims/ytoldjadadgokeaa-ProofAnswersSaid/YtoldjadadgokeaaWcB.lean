/- withylaw16.ProofWrong answers true. No condition. -/
import Derived.Test.YtoldjadadgokeaaSa
namespace Go.Proofs.Ytoldjadadgokeaa.Ch16
open Go.RowKit Go.Proofs.Ytoldjadadgokeaa.Bytes Go.Proofs.Ytoldjadadgokeaa.Md Go.Proofs.Ytoldjadadgokeaa.Ch6

/-- At most forty bytes. -/
def shortF (s : ByteArray) : ByteArray := if 40 < s.size then s.extract 0 40 else s
def ShS (s r : ByteArray) (w : World) : Prop := Calls Try.prog 38 #[.string s] w fun e w' => e = .returned (.string r) ∧ w = w'
theorem ShS.use {s r : ByteArray} {w : World} {Q : Ending → World → Prop} (h : ShS s r w) (k : ∀ e' w', (e' = .returned (.string r) ∧ w = w') → Q e' w') : Calls Try.prog 38 #[.string s] w Q := Calls.mono h k
theorem short_any (s : ByteArray) (w : World) : ShS s (shortF s) w := by
  unfold ShS shortF
  by_cases h : 40 < s.size
  · rw [if_pos h]
    have h' : 40 < (s.size : Int) := by omega
    have h2 : min 40 s.size = 40 := by omega
    go_enter Try.func38, Try.ntmps38
    go_wp2
    go_ret
    exact ⟨rfl, rfl⟩
  · rw [if_neg h]
    have h' : (s.size : Int) ≤ 40 := by omega
    clear h
    go_enter Try.func38, Try.ntmps38
    go_wp2
    go_ret
    exact ⟨rfl, rfl⟩
theorem short_size (s : ByteArray) : (shortF s).size ≤ 40 := by
  unfold shortF
  by_cases h : 40 < s.size
  · rw [if_pos h]
    obtain ⟨l, rfl⟩ := B_of s
    rw [B_extract, B_size, List.length_take]
    omega
  · rw [if_neg h]; omega
theorem add_any (x : UInt8) (s : ByteArray) (hs : s.size ≤ 1000) : ∃ c : ByteArray, (∀ W, (Op.stringOp .add ⟨#[x]⟩ s).run Try.prog W = .ok (.string c) W) ∧ c.size = s.size + 1 := by
  obtain ⟨l, rfl⟩ := B_of s
  rw [B_size] at hs
  exact ⟨_, add_run [x] l (by simp; omega), by rw [B_size, B_size]; simp⟩
abbrev sA : ByteArray := ⟨#[97]⟩
abbrev sB : ByteArray := ⟨#[98]⟩
theorem wrong_new : mayNew sMe sA sB 3 := by unfold mayNew; decide
theorem take_wrong (s : Pst) (v n : ByteArray) (h1 : 1 ≤ v.size) (h2 : v.size ≤ 255) (hn : n.size ≤ 253) (hb : s.begun = true) (hf : s.fl = false) (hp : s.pr = false) (hv : ¬ v.toList = (dig 1 s.ex s.ch).toList) :
    takeF s ⟨2, 1, v, n⟩ = ({ s with fl := true }, some ⟨4, 1, ⟨#[]⟩, ⟨#[110, 111]⟩⟩, 0) := by
  unfold takeF
  rw [if_neg (by rw [err_two 2 1 v n (Or.inr rfl) (by decide) (by decide) h1 h2 hn]; simp), if_neg (by rw [hf]; simp), if_neg (by show ¬ (2 : Int) = 1; decide), if_pos rfl]
  unfold judgeF
  rw [if_neg (by rw [hb]; simp), if_neg (by rw [hp]; simpa using hv)]
theorem take_past (s : Pst) (v n : ByteArray) (h1 : 1 ≤ v.size) (h2 : v.size ≤ 255) (hn : n.size ≤ 253) (hf : s.fl = true) : takeF s ⟨2, 1, v, n⟩ = (s, none, 0) := by
  unfold takeF
  rw [if_neg (by rw [err_two 2 1 v n (Or.inr rfl) (by decide) (by decide) h1 h2 hn]; simp), if_pos hf]
/-- A side that has asked. -/
def wst (c : ByteArray) : Pst := { newF sMe sA sB 3 with ch := c }
set_option maxHeartbeats 2000000 in
set_option maxRecDepth 100000 in
theorem wrong_walk (value chal t1 t2 c v d : ByteArray) (w : World) (s1 : ∀ w, ShS chal t1 w) (c1 : ∀ W, (Op.stringOp .add ⟨#[99]⟩ t1).run Try.prog W = .ok (.string c) W) (s2 : ∀ w, ShS value t2 w) (c2 : ∀ W, (Op.stringOp .add ⟨#[118]⟩ t2).run Try.prog W = .ok (.string v) W)
    (hd : ∀ w, RcS 1 sB c d w) (hst : ∀ w b, PS w b (newF sMe sA sB 3) → Calls Try.prog 27 #[.pointer (some ⟨b, 0, none⟩), .string c] w fun e w' => e = .returned (.tuple #[.agg #[.int .i64 1, .int .i64 1, .string c, .string sMe], .int .i64 0]) ∧ PS w' b (wst c) ∧ But b w w')
    (ht1 : (v.toList == d.toList) = false → ∀ w b, PS w b (wst c) → Calls Try.prog 32 #[.pointer (some ⟨b, 0, none⟩), .agg #[.int .i64 2, .int .i64 1, .string v, .string ⟨#[]⟩]] w (One2 b (fun w' => PS w' b { wst c with fl := true }) w (cC 4 1 ⟨#[]⟩ ⟨#[110, 111]⟩)))
    (ht2 : ∀ w b, PS w b { wst c with fl := true } → Calls Try.prog 32 #[.pointer (some ⟨b, 0, none⟩), .agg #[.int .i64 2, .int .i64 1, .string d, .string ⟨#[]⟩]] w fun e w' => e = nil2 0 ∧ PS w' b { wst c with fl := true } ∧ But b w w') :
    Calls Try.prog 16 #[.string value, .string chal] w fun e w' => e = .returned (.bool true) ∧ Below w.heap.size w w' := by
  have HT1 := Lib.hid ht1
  have HT2 := Lib.hid ht2
  have HST := Lib.hid hst
  clear ht1 ht2 hst
  go_enter Try.func16, Try.ntmps16
  go_wp2_with fail
  refine (awake16_calls _).mono ?_
  rintro _ w1 ⟨rfl, B1⟩
  go_wp2_with fail
  refine (s1 _).use ?_
  rintro _ _ ⟨rfl, rfl⟩
  go_wp2_with fail
  refine (new_any wrong_new _).mono ?_
  rintro _ w2 ⟨rfl, hp, hb⟩
  have hs1 := B1.size
  have B2 := B1.trans (hb.mono B1.size)
  have hlt := Blk.lt hp
  have HP := Lib.hid hp
  clear hp hb
  go_wp2_with fail
  refine (HST.out _ _ HP.out).mono ?_
  rintro _ w3 ⟨rfl, hp, hbut⟩
  have B3 := hbut.below B2 hs1 B2.size
  have HP3 := Lib.hid hp
  have hl3 : w1.heap.size < w3.heap.size := Blk.lt hp
  clear hp hbut HP B2
  go_wp2_with fail
  refine (hd _).use ?_
  rintro _ w4 ⟨rfl, hb⟩
  have hp : PS w4 w1.heap.size (wst c) := (Blk.alloc HP3.out _).below hb
  have B4 := (be_alloc B3 _).trans (hb.mono (be_alloc B3 _).size)
  have HP4 := Lib.hid hp
  clear hp hb HP3 B3
  go_wp2_with fail
  refine (s2 _).use ?_
  rintro _ _ ⟨rfl, rfl⟩
  cases hv : (v.toList == d.toList)
  · go_wp2_with fail
    have ht := Lib.hid (HT1.out hv _ _ HP4.out)
    refine ht.out.mono ?_
    rintro _ w5 ⟨g, rfl, hg, kg, hp, hbut⟩
    have B5 := hbut.below B4 hs1 B4.size
    have HP5 := Lib.hid hp
    have hl4 : w1.heap.size < w4.heap.size := Blk.lt HP4.out
    clear hp hbut HP4 B4 ht
    go_wp2_with fail
    refine (HT2.out _ _ HP5.out).mono ?_
    rintro _ w6 ⟨rfl, hp, hbut⟩
    have B6 := hbut.below B5 hs1 B5.size
    replace kg := hbut.blk (by omega) kg
    obtain ⟨x0, x1, x2, x3⟩ := kg.cells4
    have h37 := Lib.hid (show Calls Try.prog 37 #[.pointer (some ⟨w1.heap.size, 0, none⟩)] w6 (fun e w' => e = .returned (.bool true) ∧ w6 = w') from failed_calls hp)
    have h35 := Lib.hid (show Calls Try.prog 35 #[.pointer (some ⟨w1.heap.size, 0, none⟩)] w6 (fun e w' => e = .returned (.bool false) ∧ w6 = w') from proved_calls hp)
    clear hp hbut HP5 B5 kg
    go_wp2_with (first | (go_at_call 22; refine (num_calls _ _).mono ?_; rintro _ _ ⟨rfl, rfl⟩) | (go_at_call 35; refine h35.out.mono ?_; rintro _ _ ⟨rfl, rfl⟩) | (go_at_call 37; refine h37.out.mono ?_; rintro _ _ ⟨rfl, rfl⟩))
    go_ret
    exact ⟨rfl, B6⟩
  · go_wp2_with fail
    go_ret
    exact ⟨rfl, B4⟩
theorem wst_start (c : ByteArray) (h1 : 1 ≤ c.size) (h2 : c.size ≤ 255) : startF (newF sMe sA sB 3) c = (wst c, ⟨1, 1, c, sMe⟩, 0) := start_new _ _ _ _ c h1 h2
theorem wst_inv (c : ByteArray) (h1 : 1 ≤ c.size) (h2 : c.size ≤ 255) : Inv (wst c) := by have := inv_start (inv_new wrong_new) c; rw [wst_start c h1 h2] at this; exact this
theorem wst_failed (c : ByteArray) (h1 : 1 ≤ c.size) (h2 : c.size ≤ 255) : Inv { wst c with fl := true } := by
  have h := wst_inv c h1 h2
  exact ⟨fun e => by simp at e, h.most, h.sc, h.ex, h.ch⟩
theorem wrong_calls (value chal : ByteArray) (w : World) : Calls Try.prog 16 #[.string value, .string chal] w fun e w' => e = .returned (.bool true) ∧ Below w.heap.size w w' := by
  have z1 := short_size chal
  have z2 := short_size value
  obtain ⟨c, c1, hc⟩ := add_any 99 (shortF chal) (by omega)
  obtain ⟨v, c2, hv⟩ := add_any 118 (shortF value) (by omega)
  refine wrong_walk value chal (shortF chal) (shortF value) c v (dig 1 sB c) w (short_any chal) c1 (short_any value) c2 (dig_rc 1 sB c (by decide) (by omega)) ?_ ?_ ?_
  · intro w b h
    have := start_any h c
    rw [wst_start c (by omega) (by omega)] at this
    exact this
  · intro hne w b h
    have := take_any h (wst_inv c (by omega) (by omega)) ⟨2, 1, v, ⟨#[]⟩⟩
    rw [take_wrong (wst c) v ⟨#[]⟩ (by omega) (by omega) (by decide) (begun_of _ (by show 1 ≤ c.size; omega)) rfl rfl (fun e => by rw [show (dig 1 (wst c).ex (wst c).ch) = dig 1 sB c from rfl] at e; rw [e] at hne; simp at hne)] at this
    exact this
  · intro w b h
    have := take_any h (wst_failed c (by omega) (by omega)) ⟨2, 1, dig 1 sB c, ⟨#[]⟩⟩
    rw [take_past _ (dig 1 sB c) ⟨#[]⟩ (by rw [dig_size]; decide) (by rw [dig_size]; decide) (by decide) rfl] at this
    exact this
end Go.Proofs.Ytoldjadadgokeaa.Ch16
