/- Take, the reference's: its ways. Condition: the secrets are short enough for the digest. -/
import Derived.Test.YtoldjadadgokeaaPu
namespace Go.Proofs.Ytoldjadadgokeaa.Ch16
open Go.RowKit Go.Proofs.Ytoldjadadgokeaa.Bytes Go.Proofs.Ytoldjadadgokeaa.Md Go.Proofs.Ytoldjadadgokeaa.Ch6
attribute [local go_sem ↓] Go.wp_at_zero Go.wp_at_succ
section
variable {b : Nat} {ex ch nm sc : ByteArray} {lf : Int} {pr tk fl : Bool} {w : World} {c id er : Int} {v n d r : ByteArray}
set_option maxHeartbeats 1000000 in
set_option maxRecDepth 100000 in
theorem rtake_bad (hP : ∀ w, ChapS c id v n r er w) (he : (er != 0) = true) :
    Calls Try.prog 33 #[.pointer (some ⟨b, 0, none⟩), .agg #[.int .i64 c, .int .i64 id, .string v, .string n]] w fun e w' => e = nil2 1600 ∧ Below w.heap.size w w' := by
  go_enter Try.func33, Try.ntmps33
  go_wp2_with fail
  refine (hP _).use ?_
  rintro _ w1 ⟨rfl, hb⟩
  have B1 := (be_alloc (Below.refl w.heap.size w) _).trans (hb.mono (be_alloc (Below.refl w.heap.size w) _).size)
  clear hb
  go_wp2_with fail
  go_ret2
  exact ⟨rfl, B1⟩
set_option maxHeartbeats 1000000 in
set_option maxRecDepth 100000 in
theorem rtake_failed (hP : ∀ w, ChapS c id v n r 0 w) (h : RB w b ex ch nm sc lf pr tk true) :
    Calls Try.prog 33 #[.pointer (some ⟨b, 0, none⟩), .agg #[.int .i64 c, .int .i64 id, .string v, .string n]] w fun e w' => e = nil2 0 ∧ Below w.heap.size w w' := by
  have H := Lib.hid h
  clear h
  go_enter Try.func33, Try.ntmps33
  go_wp2_with fail
  refine (hP _).use ?_
  rintro _ w1 ⟨rfl, hb⟩
  have B1 := (be_alloc (Below.refl w.heap.size w) _).trans (hb.mono (be_alloc (Below.refl w.heap.size w) _).size)
  have k1 : RB w1 b ex ch nm sc lf pr tk true := (Blk.alloc H.out _).below hb
  have r1 : Blk w1 w.heap.size (cC c id v n) := (Blk.new w _).below hb
  obtain ⟨c0, c1, c2, c3, c4, c5, c6, c7⟩ := k1.cells
  obtain ⟨f0, f1, f2, f3, f4, f5, f6, f7⟩ := k1.free
  obtain ⟨x0, x1, x2, x3⟩ := r1.cells4
  have hl1 := Blk.lt k1
  have hl2 := r1.lt
  have K1 := Lib.hid k1
  clear hb k1 r1
  clear K1
  go_wp2_with fail
  go_ret2
  exact ⟨rfl, B1⟩
set_option maxHeartbeats 1000000 in
set_option maxRecDepth 100000 in
theorem rtake_off (hP : ∀ w, ChapS 2 id v n r 0 w) (h : RB w b ex ⟨#[]⟩ nm sc lf pr tk false) :
    Calls Try.prog 33 #[.pointer (some ⟨b, 0, none⟩), .agg #[.int .i64 2, .int .i64 id, .string v, .string n]] w fun e w' => e = nil2 0 ∧ Below w.heap.size w w' := by
  have H := Lib.hid h
  clear h
  go_enter Try.func33, Try.ntmps33
  go_wp2_with fail
  refine (hP _).use ?_
  rintro _ w1 ⟨rfl, hb⟩
  have B1 := (be_alloc (Below.refl w.heap.size w) _).trans (hb.mono (be_alloc (Below.refl w.heap.size w) _).size)
  have k1 : RB w1 b ex ⟨#[]⟩ nm sc lf pr tk false := (Blk.alloc H.out _).below hb
  have r1 : Blk w1 w.heap.size (cC 2 id v n) := (Blk.new w _).below hb
  obtain ⟨c0, c1, c2, c3, c4, c5, c6, c7⟩ := k1.cells
  obtain ⟨f0, f1, f2, f3, f4, f5, f6, f7⟩ := k1.free
  obtain ⟨x0, x1, x2, x3⟩ := r1.cells4
  have hl1 := Blk.lt k1
  have hl2 := r1.lt
  have K1 := Lib.hid k1
  clear hb k1 r1
  clear K1
  go_wp2_with fail
  go_ret2
  exact ⟨rfl, B1⟩
set_option maxHeartbeats 1000000 in
set_option maxRecDepth 100000 in
theorem rtake_id (hP : ∀ w, ChapS 2 id v n r 0 w) (h : RB w b ex ch nm sc lf pr tk false) (hc : ch.toList.isEmpty = false) (hi : (id != 1) = true) :
    Calls Try.prog 33 #[.pointer (some ⟨b, 0, none⟩), .agg #[.int .i64 2, .int .i64 id, .string v, .string n]] w fun e w' => e = nil2 0 ∧ Below w.heap.size w w' := by
  have H := Lib.hid h
  clear h
  go_enter Try.func33, Try.ntmps33
  go_wp2_with fail
  refine (hP _).use ?_
  rintro _ w1 ⟨rfl, hb⟩
  have B1 := (be_alloc (Below.refl w.heap.size w) _).trans (hb.mono (be_alloc (Below.refl w.heap.size w) _).size)
  have k1 : RB w1 b ex ch nm sc lf pr tk false := (Blk.alloc H.out _).below hb
  have r1 : Blk w1 w.heap.size (cC 2 id v n) := (Blk.new w _).below hb
  obtain ⟨c0, c1, c2, c3, c4, c5, c6, c7⟩ := k1.cells
  obtain ⟨f0, f1, f2, f3, f4, f5, f6, f7⟩ := k1.free
  obtain ⟨x0, x1, x2, x3⟩ := r1.cells4
  have hl1 := Blk.lt k1
  have hl2 := r1.lt
  have K1 := Lib.hid k1
  clear hb k1 r1
  clear K1
  go_wp2_with fail
  go_ret2
  exact ⟨rfl, B1⟩
set_option maxHeartbeats 1000000 in
set_option maxRecDepth 100000 in
theorem rtake_taken (hP : ∀ w, ChapS 3 id v n r 0 w) (h : RB w b ex ch nm sc lf pr tk false) :
    Calls Try.prog 33 #[.pointer (some ⟨b, 0, none⟩), .agg #[.int .i64 3, .int .i64 id, .string v, .string n]] w fun e w' => e = nil2 0 ∧ RB w' b ex ch nm sc lf pr true false ∧ But b w w' := by
  have H := Lib.hid h
  clear h
  go_enter Try.func33, Try.ntmps33
  go_wp2_with fail
  refine (hP _).use ?_
  rintro _ w1 ⟨rfl, hb⟩
  have B1 := (be_alloc (Below.refl w.heap.size w) _).trans (hb.mono (be_alloc (Below.refl w.heap.size w) _).size)
  have k1 : RB w1 b ex ch nm sc lf pr tk false := (Blk.alloc H.out _).below hb
  have r1 : Blk w1 w.heap.size (cC 3 id v n) := (Blk.new w _).below hb
  obtain ⟨c0, c1, c2, c3, c4, c5, c6, c7⟩ := k1.cells
  obtain ⟨f0, f1, f2, f3, f4, f5, f6, f7⟩ := k1.free
  obtain ⟨x0, x1, x2, x3⟩ := r1.cells4
  have hl1 := Blk.lt k1
  have hl2 := r1.lt
  have K1 := Lib.hid k1
  clear hb k1 r1
  go_wp2_with fail
  go_ret2
  exact ⟨rfl, Blk.set K1.out (i := 1) (v := .bool true), ((But.refl b w).next B1).set (Or.inl rfl)⟩
set_option maxHeartbeats 1000000 in
set_option maxRecDepth 100000 in
theorem rtake_no (hP : ∀ w, ChapS 4 id v n r 0 w) (h : RB w b ex ch nm sc lf pr tk false) :
    Calls Try.prog 33 #[.pointer (some ⟨b, 0, none⟩), .agg #[.int .i64 4, .int .i64 id, .string v, .string n]] w fun e w' => e = nil2 0 ∧ RB w' b ex ch nm sc lf pr tk true ∧ But b w w' := by
  have H := Lib.hid h
  clear h
  go_enter Try.func33, Try.ntmps33
  go_wp2_with fail
  refine (hP _).use ?_
  rintro _ w1 ⟨rfl, hb⟩
  have B1 := (be_alloc (Below.refl w.heap.size w) _).trans (hb.mono (be_alloc (Below.refl w.heap.size w) _).size)
  have k1 : RB w1 b ex ch nm sc lf pr tk false := (Blk.alloc H.out _).below hb
  have r1 : Blk w1 w.heap.size (cC 4 id v n) := (Blk.new w _).below hb
  obtain ⟨c0, c1, c2, c3, c4, c5, c6, c7⟩ := k1.cells
  obtain ⟨f0, f1, f2, f3, f4, f5, f6, f7⟩ := k1.free
  obtain ⟨x0, x1, x2, x3⟩ := r1.cells4
  have hl1 := Blk.lt k1
  have hl2 := r1.lt
  have K1 := Lib.hid k1
  clear hb k1 r1
  go_wp2_with fail
  go_ret2
  exact ⟨rfl, Blk.set K1.out (i := 2) (v := .bool true), ((But.refl b w).next B1).set (Or.inl rfl)⟩
set_option maxHeartbeats 1000000 in
set_option maxRecDepth 100000 in
theorem rtake_ask (hP : ∀ w, ChapS 1 id v n r 0 w) (h : RB w b ex ch nm sc lf pr tk false) (hd : ∀ w, RcS id sc v d w) :
    Calls Try.prog 33 #[.pointer (some ⟨b, 0, none⟩), .agg #[.int .i64 1, .int .i64 id, .string v, .string n]] w (One2 b (fun w' => RB w' b ex ch nm sc lf pr tk false) w (cC 2 id d nm)) := by
  have H := Lib.hid h
  clear h
  go_enter Try.func33, Try.ntmps33
  go_wp2_with fail
  refine (hP _).use ?_
  rintro _ w1 ⟨rfl, hb⟩
  have B1 := (be_alloc (Below.refl w.heap.size w) _).trans (hb.mono (be_alloc (Below.refl w.heap.size w) _).size)
  have k1 : RB w1 b ex ch nm sc lf pr tk false := (Blk.alloc H.out _).below hb
  have r1 : Blk w1 w.heap.size (cC 1 id v n) := (Blk.new w _).below hb
  obtain ⟨c0, c1, c2, c3, c4, c5, c6, c7⟩ := k1.cells
  obtain ⟨f0, f1, f2, f3, f4, f5, f6, f7⟩ := k1.free
  obtain ⟨x0, x1, x2, x3⟩ := r1.cells4
  have hl1 := Blk.lt k1
  have hl2 := r1.lt
  have K1 := Lib.hid k1
  clear hb k1 r1
  have hS : w1.cell? ⟨b, 3, none⟩ = some (.string nm) ∧ w1.cell? ⟨b, 4, none⟩ = some (.string sc) ∧ w1.cell? ⟨w.heap.size, 1, none⟩ = some (.int .i64 id) ∧ w1.cell? ⟨w.heap.size, 2, none⟩ = some (.string v) := ⟨c3, c4, x1, x2⟩
  have hs := B1.size
  obtain ⟨q, hq⟩ : ∃ q, q = w.heap.size := ⟨_, rfl⟩
  have HQ := Lib.hid hq
  rw [← hq] at hS hl2 x0 x1 x2 x3 ⊢
  clear hq
  go_wp2_with fail
  go_region_held3 (fun w' => w'.cell? ⟨b, 3, none⟩ = some (.string nm) ∧ w'.cell? ⟨b, 4, none⟩ = some (.string sc) ∧ w'.cell? ⟨q, 1, none⟩ = some (.int .i64 id) ∧ w'.cell? ⟨q, 2, none⟩ = some (.string v)) (first | go_keep | exact keep4 hb (by assumption)) ((go_at_call 31; (with_reducible refine (hd _).use ?_); rintro e w' ⟨rfl, hb⟩))
  all_goals
    have k2 : RB w' b ex ch nm sc lf pr tk false := (Blk.drew K1.out).below hb
    have bb := (((But.refl b w).next B1).drew).next hb
    have hs2 := hb.size
    have hs3 : w1.heap.size ≤ w'.heap.size := hs2
    go_wp2
    go_ret2
    exact ⟨_, rfl, by omega, Blk.new _ _, Blk.alloc k2 _, bb.alloc _⟩
set_option maxHeartbeats 1000000 in
set_option maxRecDepth 100000 in
theorem rtake_right (hP : ∀ w, ChapS 2 1 v n r 0 w) (h : RB w b ex ch nm sc lf false tk false) (hc : ch.toList.isEmpty = false) (hd : ∀ w, RcS 1 ex ch v w) :
    Calls Try.prog 33 #[.pointer (some ⟨b, 0, none⟩), .agg #[.int .i64 2, .int .i64 1, .string v, .string n]] w (One2 b (fun w' => RB w' b ex ch nm sc lf true tk false) w (cC 3 1 ⟨#[]⟩ ⟨#[111, 107]⟩)) := by
  have H := Lib.hid h
  clear h
  go_enter Try.func33, Try.ntmps33
  go_wp2_with fail
  refine (hP _).use ?_
  rintro _ w1 ⟨rfl, hb⟩
  have B1 := (be_alloc (Below.refl w.heap.size w) _).trans (hb.mono (be_alloc (Below.refl w.heap.size w) _).size)
  have k1 : RB w1 b ex ch nm sc lf false tk false := (Blk.alloc H.out _).below hb
  have r1 : Blk w1 w.heap.size (cC 2 1 v n) := (Blk.new w _).below hb
  obtain ⟨c0, c1, c2, c3, c4, c5, c6, c7⟩ := k1.cells
  obtain ⟨f0, f1, f2, f3, f4, f5, f6, f7⟩ := k1.free
  obtain ⟨x0, x1, x2, x3⟩ := r1.cells4
  have hl1 := Blk.lt k1
  have hl2 := r1.lt
  have K1 := Lib.hid k1
  clear hb k1 r1
  have hS : w1.cell? ⟨b, 0, none⟩ = some (.bool false) ∧ w1.cell? ⟨b, 5, none⟩ = some (.string ex) ∧ w1.cell? ⟨b, 6, none⟩ = some (.string ch) ∧ w1.cell? ⟨w.heap.size, 2, none⟩ = some (.string v) := ⟨c0, c5, c6, x2⟩
  have hs := B1.size
  obtain ⟨q, hq⟩ : ∃ q, q = w.heap.size := ⟨_, rfl⟩
  have HQ := Lib.hid hq
  rw [← hq] at hS hl2 x0 x1 x2 x3 ⊢
  clear hq
  go_wp2_with fail
  go_region_held3 (fun w' => w'.cell? ⟨b, 0, none⟩ = some (.bool false) ∧ w'.cell? ⟨b, 5, none⟩ = some (.string ex) ∧ w'.cell? ⟨b, 6, none⟩ = some (.string ch) ∧ w'.cell? ⟨q, 2, none⟩ = some (.string v)) (first | go_keep | exact keep4 hb (by assumption)) ((go_at_call 31; (with_reducible refine (hd _).use ?_); rintro e w' ⟨rfl, hb⟩))
  all_goals
    have k2 : RB w' b ex ch nm sc lf false tk false := (Blk.drew K1.out).below hb
    have bb := (((But.refl b w).next B1).drew).next hb
    have hs2 := hb.size
    have hs3 : w1.heap.size ≤ w'.heap.size := hs2
    clear c0 c1 c2 c3 c4 c5 c6 c7 f0 f1 f2 f3 f4 f5 f6 f7 x0 x1 x2 x3
    obtain ⟨c0, c1, c2, c3, c4, c5, c6, c7⟩ := RB.cells k2
    obtain ⟨f0, f1, f2, f3, f4, f5, f6, f7⟩ := RB.free k2
    have hl3 := Blk.lt k2
    go_wp2
    go_ret2
    exact ⟨_, rfl, by omega, Blk_new_set _ _ _ _ _, (Blk.set k2 (i := 0) (v := .bool true)).alloc _, (bb.set (Or.inl rfl)).alloc _⟩
set_option maxHeartbeats 1000000 in
set_option maxRecDepth 100000 in
theorem rtake_wrong (hP : ∀ w, ChapS 2 1 v n r 0 w) (h : RB w b ex ch nm sc lf false tk false) (hc : ch.toList.isEmpty = false) (hd : ∀ w, RcS 1 ex ch d w) (hne : (v.toList == d.toList) = false) :
    Calls Try.prog 33 #[.pointer (some ⟨b, 0, none⟩), .agg #[.int .i64 2, .int .i64 1, .string v, .string n]] w (One2 b (fun w' => RB w' b ex ch nm sc lf false tk true) w (cC 4 1 ⟨#[]⟩ ⟨#[110, 111]⟩)) := by
  have H := Lib.hid h
  clear h
  go_enter Try.func33, Try.ntmps33
  go_wp2_with fail
  refine (hP _).use ?_
  rintro _ w1 ⟨rfl, hb⟩
  have B1 := (be_alloc (Below.refl w.heap.size w) _).trans (hb.mono (be_alloc (Below.refl w.heap.size w) _).size)
  have k1 : RB w1 b ex ch nm sc lf false tk false := (Blk.alloc H.out _).below hb
  have r1 : Blk w1 w.heap.size (cC 2 1 v n) := (Blk.new w _).below hb
  obtain ⟨c0, c1, c2, c3, c4, c5, c6, c7⟩ := k1.cells
  obtain ⟨f0, f1, f2, f3, f4, f5, f6, f7⟩ := k1.free
  obtain ⟨x0, x1, x2, x3⟩ := r1.cells4
  have hl1 := Blk.lt k1
  have hl2 := r1.lt
  have K1 := Lib.hid k1
  clear hb k1 r1
  have hS : w1.cell? ⟨b, 0, none⟩ = some (.bool false) ∧ w1.cell? ⟨b, 5, none⟩ = some (.string ex) ∧ w1.cell? ⟨b, 6, none⟩ = some (.string ch) ∧ w1.cell? ⟨w.heap.size, 2, none⟩ = some (.string v) := ⟨c0, c5, c6, x2⟩
  have hs := B1.size
  obtain ⟨q, hq⟩ : ∃ q, q = w.heap.size := ⟨_, rfl⟩
  have HQ := Lib.hid hq
  rw [← hq] at hS hl2 x0 x1 x2 x3 ⊢
  clear hq
  go_wp2_with fail
  go_region_held3 (fun w' => w'.cell? ⟨b, 0, none⟩ = some (.bool false) ∧ w'.cell? ⟨b, 5, none⟩ = some (.string ex) ∧ w'.cell? ⟨b, 6, none⟩ = some (.string ch) ∧ w'.cell? ⟨q, 2, none⟩ = some (.string v)) (first | go_keep | exact keep4 hb (by assumption)) ((go_at_call 31; (with_reducible refine (hd _).use ?_); rintro e w' ⟨rfl, hb⟩))
  all_goals
    have k2 : RB w' b ex ch nm sc lf false tk false := (Blk.drew K1.out).below hb
    have bb := (((But.refl b w).next B1).drew).next hb
    have hs2 := hb.size
    have hs3 : w1.heap.size ≤ w'.heap.size := hs2
    clear c0 c1 c2 c3 c4 c5 c6 c7 f0 f1 f2 f3 f4 f5 f6 f7 x0 x1 x2 x3
    obtain ⟨c0, c1, c2, c3, c4, c5, c6, c7⟩ := RB.cells k2
    obtain ⟨f0, f1, f2, f3, f4, f5, f6, f7⟩ := RB.free k2
    have hl3 := Blk.lt k2
    go_wp2
    go_ret2
    exact ⟨_, rfl, by omega, Blk_new_set _ _ _ _ _, (Blk.set k2 (i := 2) (v := .bool true)).alloc _, (bb.set (Or.inl rfl)).alloc _⟩
set_option maxHeartbeats 1000000 in
set_option maxRecDepth 100000 in
theorem rtake_again (hP : ∀ w, ChapS 2 1 v n r 0 w) (h : RB w b ex ch nm sc lf true tk false) (hc : ch.toList.isEmpty = false) :
    Calls Try.prog 33 #[.pointer (some ⟨b, 0, none⟩), .agg #[.int .i64 2, .int .i64 1, .string v, .string n]] w (One2 b (fun w' => RB w' b ex ch nm sc lf true tk false) w (cC 3 1 ⟨#[]⟩ ⟨#[111, 107]⟩)) := by
  have H := Lib.hid h
  clear h
  go_enter Try.func33, Try.ntmps33
  go_wp2_with fail
  refine (hP _).use ?_
  rintro _ w1 ⟨rfl, hb⟩
  have B1 := (be_alloc (Below.refl w.heap.size w) _).trans (hb.mono (be_alloc (Below.refl w.heap.size w) _).size)
  have k1 : RB w1 b ex ch nm sc lf true tk false := (Blk.alloc H.out _).below hb
  have r1 : Blk w1 w.heap.size (cC 2 1 v n) := (Blk.new w _).below hb
  obtain ⟨c0, c1, c2, c3, c4, c5, c6, c7⟩ := k1.cells
  obtain ⟨f0, f1, f2, f3, f4, f5, f6, f7⟩ := k1.free
  obtain ⟨x0, x1, x2, x3⟩ := r1.cells4
  have hl1 := Blk.lt k1
  have hl2 := r1.lt
  have K1 := Lib.hid k1
  clear hb k1 r1
  have hS : w1.cell? ⟨b, 0, none⟩ = some (.bool true) ∧ w1.cell? ⟨b, 5, none⟩ = some (.string ex) ∧ w1.cell? ⟨b, 6, none⟩ = some (.string ch) ∧ w1.cell? ⟨w.heap.size, 2, none⟩ = some (.string v) := ⟨c0, c5, c6, x2⟩
  have hs := B1.size
  obtain ⟨q, hq⟩ : ∃ q, q = w.heap.size := ⟨_, rfl⟩
  have HQ := Lib.hid hq
  rw [← hq] at hS hl2 x0 x1 x2 x3 ⊢
  clear hq
  go_wp2_with fail
  go_quiet (fail)
  have k2 : RB (w1.drewN nq) b ex ch nm sc lf true tk false := Blk.drewN K1.out _
  have bb := ((But.refl b w).next B1).drewN nq
  clear c0 c1 c2 c3 c4 c5 c6 c7 f0 f1 f2 f3 f4 f5 f6 f7 x0 x1 x2 x3
  obtain ⟨c0, c1, c2, c3, c4, c5, c6, c7⟩ := RB.cells k2
  obtain ⟨f0, f1, f2, f3, f4, f5, f6, f7⟩ := RB.free k2
  have hl3 := Blk.lt k2
  go_wp2
  go_ret2
  exact ⟨_, rfl, bb.size, Blk_new_set _ _ _ _ _, (Blk.set k2 (i := 0) (v := .bool true)).alloc _, (bb.set (Or.inl rfl)).alloc _⟩
end
end Go.Proofs.Ytoldjadadgokeaa.Ch16
