/- Take, the program's and the reference's. Condition: the secrets are short enough for the digest. -/
import Derived.Test.YtoldjadadgokeaaPs
import Derived.Test.YtoldjadadgokeaaPr
import Derived.Test.YtoldjadadgokeaaWaA
namespace Go.Proofs.Ytoldjadadgokeaa.Ch16
open Go.RowKit Go.Proofs.Ytoldjadadgokeaa.Bytes Go.Proofs.Ytoldjadadgokeaa.Md
attribute [local go_sem ↓] Go.wp_at_zero Go.wp_at_succ

/-- A message's cells. -/
abbrev cC (c id : Int) (v n : ByteArray) : Obj := .cells #[.int .i64 c, .int .i64 id, .string v, .string n] 23 (0, 0)
/-- One message is answered, in new memory. -/
def OneS (w : World) (o : Obj) (e : Ending) (w' : World) : Prop := ∃ g, e = .returned (.slice (some ⟨g, 0, none⟩) 1 1) ∧ w.heap.size ≤ g ∧ Blk w' g o ∧ Below w.heap.size w w'
theorem keep1 {W W' : World} (hb : Below W.heap.size W W') {p : Addr} {v : Value} (h : W.cell? p = some v) : W'.cell? p = some v := (hb.cell (block_lt_of_cell h)).trans h
theorem keep4 {W W' : World} (hb : Below W.heap.size W W') {p q r s : Addr} {x y z u : Value} (h : W.cell? p = some x ∧ W.cell? q = some y ∧ W.cell? r = some z ∧ W.cell? s = some u) :
    W'.cell? p = some x ∧ W'.cell? q = some y ∧ W'.cell? r = some z ∧ W'.cell? s = some u := ⟨keep1 hb h.1, keep1 hb h.2.1, keep1 hb h.2.2.1, keep1 hb h.2.2.2⟩
theorem Blk_new_set (w : World) (b j : Nat) (v : Value) (o : Obj) : Blk ((w.setCell ⟨b, j, none⟩ v).alloc o) w.heap.size o := by
  have := Blk.new (w.setCell ⟨b, j, none⟩ v) o
  rwa [show (w.setCell ⟨b, j, none⟩ v).heap.size = w.heap.size by simp] at this
section
variable {b cb : Nat} {ex ch nm sc : ByteArray} {lf : Int} {st pr tk fl : Bool} {w : World} {c id : Int} {v n d : ByteArray}
set_option maxHeartbeats 1000000 in
set_option maxRecDepth 100000 in
theorem respond_calls (h : PB w b ex ch nm sc lf st pr tk fl) (hc : Blk w cb (cC c id v n)) (hd : ∀ w, DcS id sc v d w) :
    Calls Try.prog 51 #[.pointer (some ⟨b, 5, none⟩), .pointer (some ⟨cb, 0, none⟩)] w (OneS w (cC 2 id d nm)) := by
  obtain ⟨c0, c1, c2, c3, c4, c5, c6, c7, c8⟩ := h.cells
  obtain ⟨x0, x1, x2, x3⟩ := hc.cells4
  have hl1 := Blk.lt h
  have hl2 := hc.lt
  clear h hc
  have hS : w.cell? ⟨b, 5, none⟩ = some (.string nm) ∧ w.cell? ⟨b, 6, none⟩ = some (.string sc) ∧ w.cell? ⟨cb, 1, none⟩ = some (.int .i64 id) ∧ w.cell? ⟨cb, 2, none⟩ = some (.string v) := ⟨c5, c6, x1, x2⟩
  go_enter Try.func51, Try.ntmps51
  go_wp2_with fail
  go_region_held3 (fun w' => w'.cell? ⟨b, 5, none⟩ = some (.string nm) ∧ w'.cell? ⟨b, 6, none⟩ = some (.string sc) ∧ w'.cell? ⟨cb, 1, none⟩ = some (.int .i64 id) ∧ w'.cell? ⟨cb, 2, none⟩ = some (.string v)) (first | go_keep | exact keep4 hb (by assumption)) ((go_at_call 42; (with_reducible refine (hd _).use ?_); rintro e w' ⟨rfl, hb⟩))
  all_goals
    go_wp2
    go_ret
    exact ⟨_, rfl, hb.size, Blk.new _ _, be_alloc ((be_drew (Below.refl _ _)).trans hb) _⟩
/-- One message is answered, in new memory; but for block b all is as it was; P holds behind it. -/
def OneB (b : Nat) (P : World → Prop) (w : World) (o : Obj) (e : Ending) (w' : World) : Prop := ∃ g, e = .returned (.slice (some ⟨g, 0, none⟩) 1 1) ∧ w.heap.size ≤ g ∧ Blk w' g o ∧ P w' ∧ But b w w'
abbrev noS : Ending := .returned (.slice none 0 0)
set_option maxRecDepth 100000 in
theorem judge_off (h : PB w b ex ch nm sc lf false pr tk fl) (hc : Blk w cb (cC c id v n)) :
    Calls Try.prog 52 #[.pointer (some ⟨b, 0, none⟩), .pointer (some ⟨cb, 0, none⟩)] w fun e w' => e = noS ∧ Below w.heap.size w w' := by
  obtain ⟨c0, c1, c2, c3, c4, c5, c6, c7, c8⟩ := h.cells
  obtain ⟨x0, x1, x2, x3⟩ := hc.cells4
  clear h hc
  go_enter Try.func52, Try.ntmps52
  go_wp2
  go_ret
  exact ⟨rfl, Below.refl _ _⟩
set_option maxRecDepth 100000 in
theorem judge_id (h : PB w b ex ch nm sc lf true pr tk fl) (hc : Blk w cb (cC c id v n)) (hi : (id != 1) = true) :
    Calls Try.prog 52 #[.pointer (some ⟨b, 0, none⟩), .pointer (some ⟨cb, 0, none⟩)] w fun e w' => e = noS ∧ Below w.heap.size w w' := by
  obtain ⟨c0, c1, c2, c3, c4, c5, c6, c7, c8⟩ := h.cells
  obtain ⟨x0, x1, x2, x3⟩ := hc.cells4
  clear h hc
  go_enter Try.func52, Try.ntmps52
  go_wp2
  go_ret
  exact ⟨rfl, Below.refl _ _⟩
set_option maxHeartbeats 1000000 in
set_option maxRecDepth 100000 in
theorem judge_again (h : PB w b ex ch nm sc lf true true tk fl) (hc : Blk w cb (cC c 1 v n)) :
    Calls Try.prog 52 #[.pointer (some ⟨b, 0, none⟩), .pointer (some ⟨cb, 0, none⟩)] w (OneB b (fun w' => PB w' b ex ch nm sc lf true true tk fl) w (cC 3 1 ⟨#[]⟩ ⟨#[111, 107]⟩)) := by
  obtain ⟨c0, c1, c2, c3, c4, c5, c6, c7, c8⟩ := h.cells
  obtain ⟨f0, f1, f2, f3, f4, f5, f6, f7, f8⟩ := h.free
  obtain ⟨x0, x1, x2, x3⟩ := hc.cells4
  have hl1 := Blk.lt h
  have H := Lib.hid h
  clear h hc
  go_enter Try.func52, Try.ntmps52
  go_wp2_with fail
  go_quiet (fail)
  have k1 : PB (w.drewN nq) b ex ch nm sc lf true true tk fl := Blk.drewN H.out _
  have b1 := (But.refl b w).drewN nq
  clear c0 c1 c2 c3 c4 c5 c6 c7 c8 f0 f1 f2 f3 f4 f5 f6 f7 f8 x0 x1 x2 x3
  obtain ⟨c0, c1, c2, c3, c4, c5, c6, c7, c8⟩ := PB.cells k1
  obtain ⟨f0, f1, f2, f3, f4, f5, f6, f7, f8⟩ := PB.free k1
  have hl3 := Blk.lt k1
  go_wp2
  go_ret
  exact ⟨_, rfl, b1.size, Blk_new_set _ _ _ _ _, (Blk.set k1 (i := 4) (v := .bool true)).alloc _, (b1.set (Or.inl rfl)).alloc _⟩
set_option maxHeartbeats 1000000 in
set_option maxRecDepth 100000 in
theorem judge_right (h : PB w b ex ch nm sc lf true false tk fl) (hc : Blk w cb (cC c 1 v n)) (hd : ∀ w, DcS 1 ex ch v w) :
    Calls Try.prog 52 #[.pointer (some ⟨b, 0, none⟩), .pointer (some ⟨cb, 0, none⟩)] w (OneB b (fun w' => PB w' b ex ch nm sc lf true true tk fl) w (cC 3 1 ⟨#[]⟩ ⟨#[111, 107]⟩)) := by
  obtain ⟨c0, c1, c2, c3, c4, c5, c6, c7, c8⟩ := h.cells
  obtain ⟨f0, f1, f2, f3, f4, f5, f6, f7, f8⟩ := h.free
  obtain ⟨x0, x1, x2, x3⟩ := hc.cells4
  have hl1 := Blk.lt h
  have H := Lib.hid h
  clear h hc
  have hS : w.cell? ⟨b, 0, none⟩ = some (.string ex) ∧ w.cell? ⟨b, 1, none⟩ = some (.string ch) ∧ w.cell? ⟨b, 4, none⟩ = some (.bool false) ∧ w.cell? ⟨cb, 2, none⟩ = some (.string v) := ⟨c0, c1, c4, x2⟩
  go_enter Try.func52, Try.ntmps52
  go_wp2_with fail
  go_region_held3 (fun w' => w'.cell? ⟨b, 0, none⟩ = some (.string ex) ∧ w'.cell? ⟨b, 1, none⟩ = some (.string ch) ∧ w'.cell? ⟨b, 4, none⟩ = some (.bool false) ∧ w'.cell? ⟨cb, 2, none⟩ = some (.string v)) (first | go_keep | exact keep4 hb (by assumption)) ((go_at_call 42; (with_reducible refine (hd _).use ?_); rintro e w' ⟨rfl, hb⟩))
  all_goals
    have k1 : PB w' b ex ch nm sc lf true false tk fl := (Blk.drew H.out).below hb
    have b1 := ((But.refl b w).drew).next hb
    clear c0 c1 c2 c3 c4 c5 c6 c7 c8 f0 f1 f2 f3 f4 f5 f6 f7 f8 x0 x1 x2 x3
    obtain ⟨c0, c1, c2, c3, c4, c5, c6, c7, c8⟩ := PB.cells k1
    obtain ⟨f0, f1, f2, f3, f4, f5, f6, f7, f8⟩ := PB.free k1
    have hl3 := Blk.lt k1
    go_wp2
    go_ret
    exact ⟨_, rfl, b1.size, Blk_new_set _ _ _ _ _, (Blk.set k1 (i := 4) (v := .bool true)).alloc _, (b1.set (Or.inl rfl)).alloc _⟩
set_option maxHeartbeats 1000000 in
set_option maxRecDepth 100000 in
theorem judge_wrong (h : PB w b ex ch nm sc lf true false tk fl) (hc : Blk w cb (cC c 1 v n)) (hd : ∀ w, DcS 1 ex ch d w) (hne : (v.toList == d.toList) = false) :
    Calls Try.prog 52 #[.pointer (some ⟨b, 0, none⟩), .pointer (some ⟨cb, 0, none⟩)] w (OneB b (fun w' => PB w' b ex ch nm sc lf true false tk true) w (cC 4 1 ⟨#[]⟩ ⟨#[110, 111]⟩)) := by
  obtain ⟨c0, c1, c2, c3, c4, c5, c6, c7, c8⟩ := h.cells
  obtain ⟨f0, f1, f2, f3, f4, f5, f6, f7, f8⟩ := h.free
  obtain ⟨x0, x1, x2, x3⟩ := hc.cells4
  have hl1 := Blk.lt h
  have H := Lib.hid h
  clear h hc
  have hS : w.cell? ⟨b, 0, none⟩ = some (.string ex) ∧ w.cell? ⟨b, 1, none⟩ = some (.string ch) ∧ w.cell? ⟨b, 4, none⟩ = some (.bool false) ∧ w.cell? ⟨cb, 2, none⟩ = some (.string v) := ⟨c0, c1, c4, x2⟩
  go_enter Try.func52, Try.ntmps52
  go_wp2_with fail
  go_region_held3 (fun w' => w'.cell? ⟨b, 0, none⟩ = some (.string ex) ∧ w'.cell? ⟨b, 1, none⟩ = some (.string ch) ∧ w'.cell? ⟨b, 4, none⟩ = some (.bool false) ∧ w'.cell? ⟨cb, 2, none⟩ = some (.string v)) (first | go_keep | exact keep4 hb (by assumption)) ((go_at_call 42; (with_reducible refine (hd _).use ?_); rintro e w' ⟨rfl, hb⟩))
  all_goals
    have k1 : PB w' b ex ch nm sc lf true false tk fl := (Blk.drew H.out).below hb
    have b1 := ((But.refl b w).drew).next hb
    clear c0 c1 c2 c3 c4 c5 c6 c7 c8 f0 f1 f2 f3 f4 f5 f6 f7 f8 x0 x1 x2 x3
    obtain ⟨c0, c1, c2, c3, c4, c5, c6, c7, c8⟩ := PB.cells k1
    obtain ⟨f0, f1, f2, f3, f4, f5, f6, f7, f8⟩ := PB.free k1
    have hl3 := Blk.lt k1
    go_wp2
    go_ret
    exact ⟨_, rfl, b1.size, Blk_new_set _ _ _ _ _, (Blk.set k1 (i := 8) (v := .bool true)).alloc _, (b1.set (Or.inl rfl)).alloc _⟩
end
end Go.Proofs.Ytoldjadadgokeaa.Ch16
