/- What withyref1.two answers. No condition. -/
import Derived.Test.YtoldjadadgokeaaPut
import Derived.Laws.BitsAllLaws
namespace Go.Proofs.Ytoldjadadgokeaa.Ch6
open Go.RowKit Go.Proofs.Ytoldjadadgokeaa.Bytes
theorem and255 (x : Int) (h0 : 0 ≤ x) (h1 : x ≤ 65535) : Go.bits .and .i64 x 255 = x % 256 := by
  have := Go.bits_mask .i64 16 (by decide) (fun n h0 h1 => by rw [IntKind.wrap_i64]; omega) 8 (by decide) x h0 (by omega)
  simpa using this
set_option maxHeartbeats 400000 in
theorem two_calls (n : Nat) (w : World) (hn : n ≤ 60000) (x y : Int) (hx : x = (n : Int) / 256) (hy : y = (n : Int) % 256) :
    Calls Try.prog 46 #[.int .i64 n] w fun e w' => e = .returned (.string (B [UInt8.ofNat (n / 256), UInt8.ofNat (n % 256)])) ∧ w.alloc (.cells #[.int .u8 x, .int .u8 y] 5) = w' := by
  subst hx hy
  have k2 := conv2
  have a1 : Go.bits .and .i64 ((n : Int) / 256) 255 = (n : Int) / 256 := by rw [and255 _ (by omega) (by omega)]; omega
  have a2 : Go.bits .and .i64 (n : Int) 255 = (n : Int) % 256 := by rw [and255 _ (by omega) (by omega)]
  go_enter Try.func46, Try.ntmps46
  go_wp2
  go_ret
  exact ⟨rfl, rfl⟩
theorem two_any (n : Nat) (z : Int) (w : World) (hz : z = (n : Int)) (hn : n ≤ 60000) :
    Calls Try.prog 46 #[.int .i64 z] w fun e w' => e = .returned (.string (B [UInt8.ofNat (n / 256), UInt8.ofNat (n % 256)])) ∧ w.alloc (.cells #[.int .u8 ((n : Int) / 256), .int .u8 ((n : Int) % 256)] 5) = w' := by
  subst hz
  exact two_calls n w hn _ _ rfl rfl
end Go.Proofs.Ytoldjadadgokeaa.Ch6
