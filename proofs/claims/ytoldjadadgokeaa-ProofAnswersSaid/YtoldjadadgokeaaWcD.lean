/- withylaw16.ProofAnswers answers true. Condition: the values can be read where they lie. -/
import Derived.Test.YtoldjadadgokeaaWcB
namespace Go.Proofs.Ytoldjadadgokeaa.Ch16
open Go.RowKit Go.Proofs.Ytoldjadadgokeaa.Bytes Go.Proofs.Ytoldjadadgokeaa.Md Go.Proofs.Ytoldjadadgokeaa.Ch6

theorem add_right (x : UInt8) (s : ByteArray) (hs : s.size ≤ 1000) : ∃ c : ByteArray, (∀ W, (Op.stringOp .add s ⟨#[x]⟩).run Try.prog W = .ok (.string c) W) ∧ c.size = s.size + 1 := by
  obtain ⟨l, rfl⟩ := B_of s
  rw [B_size] at hs
  exact ⟨_, add_run l [x] (by simp; omega), by rw [B_size, B_size]; simp⟩
theorem take_asked (s : Pst) (id : Int) (v n : ByteArray) (h0 : 0 ≤ id) (h3 : id ≤ 255) (h1 : 1 ≤ v.size) (h2 : v.size ≤ 255) (hn : n.size ≤ 253) (hf : s.fl = false) : takeF s ⟨1, id, v, n⟩ = (s, some ⟨2, id, dig id s.sc v, s.nm⟩, 0) := by
  unfold takeF
  rw [if_neg (by rw [err_two 1 id v n (Or.inl rfl) h0 h3 h1 h2 hn]; simp), if_neg (by rw [hf]; simp), if_pos rfl]
set_option maxHeartbeats 2000000 in
set_option maxRecDepth 100000 in
theorem answers_walk (id : Int) (secret t1 s : ByteArray) (A : Option Addr) (L cap : Nat) (ss : Nat → ByteArray) (w : World) (s1 : ∀ w, ShS secret t1 w) (c1 : ∀ W, (Op.stringOp .add t1 ⟨#[107]⟩).run Try.prog W = .ok (.string s) W) (hs1 : 1 ≤ s.size) (hs2 : s.size ≤ 60)
    (hA : ∀ i, i < L → ∃ ad, A = some ad ∧ w.cell? (ad.add i) = some (.string (ss i))) :
    Calls Try.prog 15 #[.int .i64 id, .string secret, .slice A L cap] w fun e w' => e = .returned (.bool true) ∧ Below w.heap.size w w' := by
  have hnew : mayNew sMe s sB 3 := by
    have h1 : sMe.size = 2 := rfl
    have h3 : sB.size = 1 := rfl
    unfold mayNew; omega
  have HM := Lib.hid hnew
  have HS := Lib.hid (And.intro hs1 hs2)
  have HA := Lib.hid hA
  clear hnew hs1 hs2 hA
  go_enter Try.func15, Try.ntmps15
  go_wp2_with fail
  refine (awake16_calls _).mono ?_
  rintro _ w1 ⟨rfl, B1⟩
  go_wp2_with fail
  refine (s1 _).use ?_
  rintro _ _ ⟨rfl, rfl⟩
  go_wp2_with fail
  refine (new_any HM.out _).mono ?_
  rintro _ w2 ⟨rfl, hp, hb⟩
  have hz := B1.size
  have B2 := B1.trans (hb.mono B1.size)
  have HP := Lib.hid hp
  clear hp hb
  go_wp2_with fail
  go_loopw [10] (fun t wr => ∃ i : Nat, i ≤ 10 ∧ t = .int .i64 i ∧ PS wr w1.heap.size (newF sMe s sB 3) ∧ Below w.heap.size w wr) (fun t _ => 10 - (intOf t).toNat)
  case atStart => exact ⟨0, by omega, rfl, HP.out, B2⟩
  case round =>
    obtain ⟨i, hi, rfl, hp, hbel⟩ := hrel
    by_cases hL : i < L
    · by_cases h10 : i < 10
      · obtain ⟨ad, rfl, hc0⟩ := HA.out i hL
        have hc := (hbel.cell (block_lt_of_cell hc0)).trans hc0
        have hL' : (i : Int) < L := by omega
        have h10' : (i : Int) < 10 := by omega
        obtain ⟨v, c2, hv⟩ := add_right 118 (shortF (ss i)) (by have := short_size (ss i); omega)
        have hsh := short_any (ss i)
        have HV := Lib.hid (show 1 ≤ v.size ∧ v.size ≤ 60 by have := short_size (ss i); omega)
        obtain ⟨q, hq⟩ : ∃ q : Int, Go.bits .and .i64 (wrap64 (id + (i : Int))) 255 = q := ⟨_, rfl⟩
        have hq0 : 0 ≤ q ∧ q ≤ 255 := by rw [← hq, Md.and255]; omega
        have hp' := hp
        have HQ := Lib.hid hq0
        have hlr := Blk.lt hp
        clear hv hp hc0 hq0
        go_wp2_with fail
        refine (hsh _).use ?_
        rintro _ _ ⟨rfl, rfl⟩
        go_wp2_with fail
        have ht := take_any hp' (inv_new HM.out) ⟨1, q, v, sX⟩
        rw [take_asked _ q v sX HQ.out.1 HQ.out.2 HV.out.1 (by have := HV.out.2; omega) (by decide) rfl] at ht
        obtain ⟨d, hd⟩ : ∃ d, d = dig q s v := ⟨_, rfl⟩
        have ht2 : Calls Try.prog 32 #[.pointer (some ⟨w1.heap.size, 0, none⟩), .agg #[.int .i64 1, .int .i64 q, .string v, .string sX]] wr (One2 w1.heap.size (fun w' => PS w' w1.heap.size (newF sMe s sB 3)) wr (cC 2 q d sMe)) := by rw [hd]; exact ht
        have hr : ∀ w, RcS q s v d w := by rw [hd]; exact fun w => dig_rc q s v (by have := HS.out.2; omega) (by have := HV.out.2; omega) w
        clear ht hd hp'
        refine ht2.mono ?_
        rintro _ w4 ⟨g, rfl, hg, kg, hp4, hbut⟩
        have B4 := hbut.below hbel hz hbel.size
        have HP4 := Lib.hid hp4
        clear ht2 hp4 hbut hc hq
        go_wp2_with (go_at_call 22; refine (num_calls _ _).mono ?_; rintro _ _ ⟨rfl, rfl⟩)
        refine (hr _).use ?_
        rintro _ w5 ⟨rfl, hb⟩
        have B5 := B4.trans (hb.mono B4.size)
        have kg5 := kg.below hb
        have hp5 : PS w5 w1.heap.size (newF sMe s sB 3) := Blk.below HP4.out hb
        have HS5 := Lib.hid (same_one g w5.heap.size 2 q d sMe _ (kg5.alloc (cC 2 q d sMe)) (Blk.new w5 _))
        have HP5 := Lib.hid hp5
        clear hb kg kg5 hp5 HP4 B4
        go_wp2_with fail
        refine HS5.out.use ?_
        rintro _ w6 ⟨rfl, hb⟩
        have hp6 : PS w6 w1.heap.size (newF sMe s sB 3) := (Blk.alloc HP5.out _).below hb
        have B6 := (be_alloc B5 _).trans (hb.mono (be_alloc B5 _).size)
        clear HS5 HP5 B5 hb hr
        go_wp2_with fail
        go_roundw
        case rel => exact ⟨i + 1, by omega, by go_num, hp6, B6⟩
        case measure => simp [intOf]; omega
      · have h10' : (10 : Int) ≤ i := by omega
        have hL' : (i : Int) < L := by omega
        have h35 := Lib.hid (show Calls Try.prog 35 #[.pointer (some ⟨w1.heap.size, 0, none⟩)] wr (fun e w' => e = .returned (.bool false) ∧ wr = w') from proved_calls hp)
        have h36 := Lib.hid (show Calls Try.prog 36 #[.pointer (some ⟨w1.heap.size, 0, none⟩)] wr (fun e w' => e = .returned (.bool false) ∧ wr = w') from taken_calls hp)
        have h37 := Lib.hid (show Calls Try.prog 37 #[.pointer (some ⟨w1.heap.size, 0, none⟩)] wr (fun e w' => e = .returned (.bool false) ∧ wr = w') from failed_calls hp)
        clear hp
        go_wp2_with (first | (go_at_call 22; refine (num_calls _ _).mono ?_; rintro _ _ ⟨rfl, rfl⟩) | (go_at_call 35; refine h35.out.mono ?_; rintro _ _ ⟨rfl, rfl⟩) | (go_at_call 36; refine h36.out.mono ?_; rintro _ _ ⟨rfl, rfl⟩) | (go_at_call 37; refine h37.out.mono ?_; rintro _ _ ⟨rfl, rfl⟩))
        go_ret
        exact ⟨rfl, hbel⟩
    · have hL' : (L : Int) ≤ i := by omega
      have hL2 : decide (i < L) = false := decide_eq_false hL
      have h35 := Lib.hid (show Calls Try.prog 35 #[.pointer (some ⟨w1.heap.size, 0, none⟩)] wr (fun e w' => e = .returned (.bool false) ∧ wr = w') from proved_calls hp)
      have h36 := Lib.hid (show Calls Try.prog 36 #[.pointer (some ⟨w1.heap.size, 0, none⟩)] wr (fun e w' => e = .returned (.bool false) ∧ wr = w') from taken_calls hp)
      have h37 := Lib.hid (show Calls Try.prog 37 #[.pointer (some ⟨w1.heap.size, 0, none⟩)] wr (fun e w' => e = .returned (.bool false) ∧ wr = w') from failed_calls hp)
      clear hp hL
      go_wp2_with (first | (go_at_call 22; refine (num_calls _ _).mono ?_; rintro _ _ ⟨rfl, rfl⟩) | (go_at_call 35; refine h35.out.mono ?_; rintro _ _ ⟨rfl, rfl⟩) | (go_at_call 36; refine h36.out.mono ?_; rintro _ _ ⟨rfl, rfl⟩) | (go_at_call 37; refine h37.out.mono ?_; rintro _ _ ⟨rfl, rfl⟩))
      go_ret
      exact ⟨rfl, hbel⟩
theorem answers_calls (id : Int) (secret : ByteArray) (A : Option Addr) (L cap : Nat) (ss : Nat → ByteArray) (w : World) (hA : ∀ i, i < L → ∃ ad, A = some ad ∧ w.cell? (ad.add i) = some (.string (ss i))) :
    Calls Try.prog 15 #[.int .i64 id, .string secret, .slice A L cap] w fun e w' => e = .returned (.bool true) ∧ Below w.heap.size w w' := by
  have z1 := short_size secret
  obtain ⟨c, c1, hc⟩ := add_right 107 (shortF secret) (by omega)
  exact answers_walk id secret (shortF secret) c A L cap ss w (short_any secret) c1 (by omega) (by omega) hA
end Go.Proofs.Ytoldjadadgokeaa.Ch16
