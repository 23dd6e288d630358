/- withylaw16.ProofTries answers true. No condition. -/
import Derived.Test.YtoldjadadgokeaaWcB
namespace Go.Proofs.Ytoldjadadgokeaa.Ch16
open Go.RowKit Go.Proofs.Ytoldjadadgokeaa.Bytes Go.Proofs.Ytoldjadadgokeaa.Md Go.Proofs.Ytoldjadadgokeaa.Ch6

/-- A side that may ask k times and has asked j + 1 times. -/
def tst (c : ByteArray) (k j : Nat) : Pst := if j < k then ⟨sB, c, sMe, sA, (k : Int) - j, false, false, false⟩ else ⟨sB, c, sMe, sA, 0, false, false, true⟩
theorem tst_lt {c : ByteArray} {k j : Nat} (h : j < k) : tst c k j = ⟨sB, c, sMe, sA, (k : Int) - j, false, false, false⟩ := if_pos h
theorem tst_ge {c : ByteArray} {k j : Nat} (h : ¬ j < k) : tst c k j = ⟨sB, c, sMe, sA, 0, false, false, true⟩ := if_neg h
theorem tst_inv (c : ByteArray) (k j : Nat) (hk : k ≤ 10) (hc : c.size ≤ 255) : Inv (tst c k j) := by
  by_cases h : j < k
  · rw [tst_lt h]; exact ⟨fun _ => by show 1 ≤ (k : Int) - j; omega, by show (k : Int) - j ≤ 10; omega, by show sA.size ≤ 64; decide, by show sB.size ≤ 64; decide, hc⟩
  · rw [tst_ge h]; exact ⟨fun e => by simp at e, by show (0 : Int) ≤ 10; omega, by show sA.size ≤ 64; decide, by show sB.size ≤ 64; decide, hc⟩
theorem tst_more {c : ByteArray} {k j : Nat} (h : j + 1 < k) (hc : 1 ≤ c.size) : againF (tst c k j) = (tst c k (j + 1), ⟨1, 1, c, sMe⟩, 0) := by
  rw [tst_lt (show j < k by omega), tst_lt h]
  unfold againF
  rw [if_neg (by rw [begun_of _ (by exact hc)]; simp), if_neg (by show ¬ (k : Int) - j = 1; omega)]
  have e : (k : Int) - j - 1 = (k : Int) - ((j + 1 : Nat) : Int) := by omega
  simp only [e]
theorem tst_last {c : ByteArray} {k j : Nat} (h : j + 1 = k) (hc : 1 ≤ c.size) : againF (tst c k j) = (tst c k (j + 1), zeroC, 1601) := by
  rw [tst_lt (show j < k by omega), tst_ge (show ¬ j + 1 < k by omega)]
  unfold againF
  rw [if_neg (by rw [begun_of _ (by exact hc)]; simp), if_pos (by show (k : Int) - j = 1; omega)]
theorem again_new (nm sc ex : ByteArray) (n : Int) : againF (newF nm sc ex n) = (newF nm sc ex n, zeroC, 1601) := by
  unfold againF
  rw [if_pos (Or.inl (begun_new nm sc ex n))]
section
variable {c : ByteArray} {k j : Nat} {w : World} {b : Nat}
theorem t_more (hk : k ≤ 10) (h1 : 1 ≤ c.size) (h2 : c.size ≤ 255) (hj : j + 1 < k) (h : PS w b (tst c k j)) :
    Calls Try.prog 29 #[.pointer (some ⟨b, 0, none⟩)] w fun e w' => e = .returned (.tuple #[.agg #[.int .i64 1, .int .i64 1, .string c, .string sMe], .int .i64 0]) ∧ PS w' b (tst c k (j + 1)) ∧ But b w w' := by
  have := again_any h (tst_inv c k j hk h2)
  rw [tst_more hj h1] at this
  exact this
theorem t_last (hk : k ≤ 10) (h1 : 1 ≤ c.size) (h2 : c.size ≤ 255) (hj : j + 1 = k) (h : PS w b (tst c k j)) :
    Calls Try.prog 29 #[.pointer (some ⟨b, 0, none⟩)] w fun e w' => e = .returned (.tuple #[.agg #[.int .i64 0, .int .i64 0, .string ⟨#[]⟩, .string ⟨#[]⟩], .int .i64 1601]) ∧ PS w' b (tst c k (j + 1)) ∧ But b w w' := by
  have := again_any h (tst_inv c k j hk h2)
  rw [tst_last hj h1] at this
  exact this
theorem t_on (hj : j < k) (h : PS w b (tst c k j)) : Calls Try.prog 37 #[.pointer (some ⟨b, 0, none⟩)] w fun e w' => e = .returned (.bool false) ∧ w = w' := by
  rw [tst_lt hj] at h
  exact failed_calls h
theorem t_off (h : PS w b (tst c k k)) : (Calls Try.prog 37 #[.pointer (some ⟨b, 0, none⟩)] w fun e w' => e = .returned (.bool true) ∧ w = w') ∧ (Calls Try.prog 35 #[.pointer (some ⟨b, 0, none⟩)] w fun e w' => e = .returned (.bool false) ∧ w = w') := by
  rw [tst_ge (by omega)] at h
  exact ⟨failed_calls h, proved_calls h⟩
end
set_option maxHeartbeats 2000000 in
set_option maxRecDepth 100000 in
theorem tries_walk (tries : Int) (chal t1 c : ByteArray) (u κ k : Nat) (w : World) (hu : IntKind.u64.wrap tries = (u : Int)) (hk2 : Int.tmod (u : Int) 10 = (κ : Int)) (hk : k = κ + 1) (hk10 : k ≤ 10) (h1 : 1 ≤ c.size) (h2 : c.size ≤ 255)
    (s1 : ∀ w, ShS chal t1 w) (c1 : ∀ W, (Op.stringOp .add ⟨#[99]⟩ t1).run Try.prog W = .ok (.string c) W) :
    Calls Try.prog 7 #[.int .i64 tries, .string chal] w fun e w' => e = .returned (.bool true) ∧ Below w.heap.size w w' := by
  have hmay : mayNew sMe sA sB (1 + (κ : Int)) := by
    have h1 : sMe.size = 2 := rfl
    have h2 : sA.size = 1 := rfl
    have h3 : sB.size = 1 := rfl
    unfold mayNew; omega
  have HM := Lib.hid hmay
  have HK := Lib.hid hk
  have HC := Lib.hid (And.intro h1 h2)
  have hκ : (κ : Int) ≤ 9 := by omega
  clear hmay hk h1 h2
  go_enter Try.func7, Try.ntmps7
  go_wp2_with fail
  refine (awake16_calls _).mono ?_
  rintro _ w1 ⟨rfl, B1⟩
  go_wp2_with fail
  refine (new_any HM.out _).mono ?_
  rintro _ w2 ⟨rfl, hp, hb⟩
  have hs1 := B1.size
  have B2 := B1.trans (hb.mono B1.size)
  have HA := Lib.hid (again_any hp (inv_new HM.out))
  have hl2 : w1.heap.size < w2.heap.size := Blk.lt hp
  clear hp hb
  have ha := HA.out
  rw [again_new] at ha
  have HA2 := Lib.hid (show Calls Try.prog 29 #[.pointer (some ⟨w1.heap.size, 0, none⟩)] w2 fun e w' => e = .returned (.tuple #[.agg #[.int .i64 0, .int .i64 0, .string ⟨#[]⟩, .string ⟨#[]⟩], .int .i64 1601]) ∧ PS w' w1.heap.size (newF sMe sA sB (1 + (κ : Int))) ∧ But w1.heap.size w2 w' from ha)
  clear ha HA
  go_wp2_with fail
  refine HA2.out.mono ?_
  rintro _ w3 ⟨rfl, hp, hbut⟩
  have B3 := hbut.below B2 hs1 B2.size
  have hl3 : w1.heap.size < w3.heap.size := Blk.lt hp
  have HP3 := Lib.hid hp
  clear hp hbut HA2 B2
  go_wp2_with fail
  refine (s1 _).use ?_
  rintro _ _ ⟨rfl, rfl⟩
  go_wp2_with fail
  have hp : PS (w3.alloc (cC 0 0 ⟨#[]⟩ ⟨#[]⟩)) w1.heap.size (newF sMe sA sB (1 + (κ : Int))) := Blk.alloc HP3.out _
  have hst := start_any hp c
  rw [start_new _ _ _ _ c HC.out.1 HC.out.2] at hst
  have e0 : ({ newF sMe sA sB (1 + (κ : Int)) with ch := c } : Pst) = tst c k 0 := by
    rw [tst_lt (by have := HK.out; omega)]
    unfold newF
    have : (1 + (κ : Int)) = (k : Int) - ((0 : Nat) : Int) := by have := HK.out; omega
    simp only [this]
  rw [e0] at hst
  have HST := Lib.hid (show Calls Try.prog 27 #[.pointer (some ⟨w1.heap.size, 0, none⟩), .string c] (w3.alloc (cC 0 0 ⟨#[]⟩ ⟨#[]⟩)) fun e w' => e = .returned (.tuple #[.agg #[.int .i64 1, .int .i64 1, .string c, .string sMe], .int .i64 0]) ∧ PS w' w1.heap.size (tst c k 0) ∧ But w1.heap.size (w3.alloc (cC 0 0 ⟨#[]⟩ ⟨#[]⟩)) w' from hst)
  clear e0 hst hp HP3
  refine HST.out.mono ?_
  rintro _ w4 ⟨rfl, hp, hbut⟩
  have B4 := hbut.below (be_alloc B3 _) hs1 (be_alloc B3 _).size
  have hl4 : w1.heap.size < w4.heap.size := Blk.lt hp
  have kc := Blk.new w4 (cC 1 1 c sMe)
  have hp5 : PS (w4.alloc (cC 1 1 c sMe)) w1.heap.size (tst c k 0) := Blk.alloc hp _
  have B5 := be_alloc B4 (cC 1 1 c sMe)
  have H5 := Lib.hid (And.intro kc (And.intro hp5 B5))
  clear hp hbut HST B3 kc hp5 B5 B4
  go_wp2_with fail
  go_loopw [12, 13] (fun m t wr => ∃ j n : Nat, t = .int .i64 j ∧ m = .int .i64 n ∧ ((j < k ∧ n = j + 1) ∨ (j = k ∧ n = k)) ∧ Blk wr w4.heap.size (cC 1 1 c sMe) ∧ PS wr w1.heap.size (tst c k j) ∧ Below w.heap.size w wr) (fun _ t _ => 20 - (intOf t).toNat)
  case atStart => exact ⟨0, 1, rfl, rfl, Or.inl ⟨by have := HK.out; omega, rfl⟩, H5.out.1, H5.out.2.1, H5.out.2.2⟩
  case round =>
    obtain ⟨j, n, rfl, rfl, hjn, kc, hp, hbel⟩ := hrel
    rcases hjn with ⟨hjk, hn⟩ | ⟨hjk, hn⟩
    · have hon := Lib.hid (t_on hjk hp)
      have hj20 : (j : Int) < 20 := by omega
      have hn20 : (n : Int) < 20 := by omega
      obtain ⟨x0, x1, x2, x3⟩ := kc.cells4
      have hlr := Blk.lt hp
      have hlc := kc.lt
      by_cases hlast : j + 1 = k
      · have HL := Lib.hid (t_last hk10 HC.out.1 HC.out.2 hlast hp)
        have HN := Lib.hid hn
        have HJ := Lib.hid (And.intro hjk hlast)
        have KC := Lib.hid kc
        clear hjk hn hp kc hlast x0 x1 x2 x3
        go_wp2_with (go_at_call 37; refine hon.out.mono ?_; rintro _ _ ⟨rfl, rfl⟩)
        refine HL.out.mono ?_
        rintro _ w6 ⟨rfl, hp6, hbut6⟩
        have B6 := hbut6.below hbel hs1 hbel.size
        have kc6 := hbut6.blk (by omega) KC.out
        clear HL hon
        go_wp2_with (go_at_call 22; refine (num_calls _ _).mono ?_; rintro _ _ ⟨rfl, rfl⟩)
        go_roundw
        case rel => exact ⟨j + 1, n, by go_num, rfl, Or.inr ⟨HJ.out.2, by have := HN.out; have := HJ.out.2; omega⟩, kc6.alloc _, Blk.alloc hp6 _, be_alloc B6 _⟩
        case measure => simp [intOf]; omega
      · have HL := Lib.hid (t_more hk10 HC.out.1 HC.out.2 (by omega) hp)
        have HN := Lib.hid hn
        have HJ := Lib.hid (show j + 1 < k by omega)
        have KC := Lib.hid kc
        clear hjk hn hp kc hlast x0 x1 x2 x3
        go_wp2_with (go_at_call 37; refine hon.out.mono ?_; rintro _ _ ⟨rfl, rfl⟩)
        refine HL.out.mono ?_
        rintro _ w6 ⟨rfl, hp6, hbut6⟩
        have B6 := hbut6.below hbel hs1 hbel.size
        have kc6 := hbut6.blk (by omega) KC.out
        obtain ⟨x0, x1, x2, x3⟩ := kc6.cells4
        have hl6 := kc6.lt
        have HQ := Lib.hid (And.intro kc6 (And.intro hp6 B6))
        clear HL hon kc6 hp6 B6 hbut6
        go_wp2_with (go_at_call 22; refine (num_calls _ _).mono ?_; rintro _ _ ⟨rfl, rfl⟩)
        go_roundw
        case rel => exact ⟨j + 1, n + 1, by go_num, by go_num, Or.inl ⟨HJ.out, by rw [HN.out]⟩, HQ.out.1.alloc _, Blk.alloc HQ.out.2.1 _, be_alloc HQ.out.2.2 _⟩
        case measure => simp [intOf]; omega
    · rw [hjk] at hp
      obtain ⟨ho1, ho2⟩ := t_off hp
      have h37 := Lib.hid ho1
      have h35 := Lib.hid ho2
      have hj20 : (j : Int) < 20 := by omega
      have hkn : (n : Int) = 1 + (κ : Int) := by have := HK.out; omega
      have he : ((n : Int) == 1 + (κ : Int)) = true := by rw [beq_iff_eq]; exact hkn
      have he2 : decide ((n : Int) = 1 + (κ : Int)) = true := decide_eq_true hkn
      clear hkn hjk hn hp ho1 ho2 kc
      go_wp2_with (first | (go_at_call 22; refine (num_calls _ _).mono ?_; rintro _ _ ⟨rfl, rfl⟩) | (go_at_call 35; refine h35.out.mono ?_; rintro _ _ ⟨rfl, rfl⟩) | (go_at_call 37; refine h37.out.mono ?_; rintro _ _ ⟨rfl, rfl⟩))
      go_ret
      exact ⟨rfl, hbel⟩
theorem tries_calls (tries : Int) (chal : ByteArray) (w : World) : Calls Try.prog 7 #[.int .i64 tries, .string chal] w fun e w' => e = .returned (.bool true) ∧ Below w.heap.size w w' := by
  have z1 := short_size chal
  obtain ⟨c, c1, hc⟩ := add_any 99 (shortF chal) (by omega)
  obtain ⟨u, hu⟩ : ∃ u : Nat, IntKind.u64.wrap tries = (u : Int) := by
    have h : IntKind.u64.wrap tries = tries % 18446744073709551616 := by simp [IntKind.wrap, IntKind.bits, IntKind.signed]
    exact ⟨(tries % 18446744073709551616).toNat, by rw [h]; omega⟩
  exact tries_walk tries chal (shortF chal) c u (u % 10) (u % 10 + 1) w hu (by rw [Int.tmod_eq_emod_of_nonneg (by omega)]; omega) rfl (by omega) (by omega) (by omega) (short_any chal) c1
end Go.Proofs.Ytoldjadadgokeaa.Ch16
