/- What withyref1.Chap answers for a message that may be (code 2). No condition. -/
import Derived.Test.YtoldjadadgokeaaRef
namespace Go.Proofs.Ytoldjadadgokeaa.Ch6
open Go.RowKit Go.Proofs.Ytoldjadadgokeaa.Bytes
attribute [local go_sem] B_size ByteArray.size_append
set_option maxHeartbeats 4000000 in
set_option maxRecDepth 100000 in
theorem chap_two2 (c id : Int) (hc : c = 2) (v n : ByteArray) (w : World) (hi : 0 ≤ id) (hi' : id ≤ 255) (hv : 0 < (v.size : Int)) (hv' : (v.size : Int) ≤ 255) (hn : (n.size : Int) ≤ 253) : ChapS c id v n (B [UInt8.ofNat c.toNat, UInt8.ofNat id.toNat] ++ B [UInt8.ofNat ((1 + v.size + n.size + 4) / 256), UInt8.ofNat ((1 + v.size + n.size + 4) % 256)] ++ (B [UInt8.ofNat v.size] ++ v ++ n)) 0 w := by
  unfold ChapS
  have k1 := conv1
  have k2 := conv2d
  have k2b := conv2b
  have hid : IntKind.u8.wrap id = id := by rw [IntKind.wrap_u8]; omega
  subst hc
  have hk : IntKind.u8.wrap 2 = 2 := rfl
  go_enter Try.func19, Try.ntmps19
  go_wp2
  go_region_with (go_at_call 46; ((with_reducible refine (two_any (1 + v.size + n.size + 4) _ _ ?hz ?hn).mono ?_); (case hz => rw [IntKind.wrap_i64]; omega); (case hn => omega)); rintro e w' ⟨rfl, rfl⟩)
  all_goals
    go_wp2
    go_ret2
    exact ⟨rfl, by repeat (with_reducible first | exact Below.refl _ _ | apply be_alloc | apply be_drewN | apply be_drew)⟩
end Go.Proofs.Ytoldjadadgokeaa.Ch6
