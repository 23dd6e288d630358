/- Take, the program's: its ways. Condition: the secrets are short enough for the digest. -/
import Derived.Test.YtoldjadadgokeaaPt
namespace Go.Proofs.Ytoldjadadgokeaa.Ch16
open Go.RowKit Go.Proofs.Ytoldjadadgokeaa.Bytes Go.Proofs.Ytoldjadadgokeaa.Md Go.Proofs.Ytoldjadadgokeaa.Ch6

/-- Nothing is answered, with an error. -/
abbrev nil2 (er : Int) : Ending := .returned (.tuple #[.slice none 0 0, .int .i64 er])
/-- One message is answered. -/
def One2 (b : Nat) (P : World → Prop) (w : World) (o : Obj) (e : Ending) (w' : World) : Prop := ∃ g, e = .returned (.tuple #[.slice (some ⟨g, 0, none⟩) 1 1, .int .i64 0]) ∧ w.heap.size ≤ g ∧ Blk w' g o ∧ P w' ∧ But b w w'
section
variable {b : Nat} {ex ch nm sc : ByteArray} {lf : Int} {st pr tk fl : Bool} {w : World} {c id er : Int} {v n d r : ByteArray}
set_option maxHeartbeats 1000000 in
set_option maxRecDepth 100000 in
theorem take_bad (hP : ∀ w, PutS c id v n r er w) (he : (er != 0) = true) :
    Calls Try.prog 32 #[.pointer (some ⟨b, 0, none⟩), .agg #[.int .i64 c, .int .i64 id, .string v, .string n]] w fun e w' => e = nil2 1600 ∧ Below w.heap.size w w' := by
  go_enter Try.func32, Try.ntmps32
  go_wp2_with fail
  refine (hP _).use ?_
  rintro _ w1 ⟨rfl, hb⟩
  have B1 := (be_alloc (Below.refl w.heap.size w) _).trans (hb.mono (be_alloc (Below.refl w.heap.size w) _).size)
  clear hb
  go_wp2_with fail
  go_ret2
  exact ⟨rfl, B1⟩
set_option maxHeartbeats 1000000 in
set_option maxRecDepth 100000 in
theorem take_failed (hP : ∀ w, PutS c id v n r 0 w) (h : PB w b ex ch nm sc lf st pr tk true) :
    Calls Try.prog 32 #[.pointer (some ⟨b, 0, none⟩), .agg #[.int .i64 c, .int .i64 id, .string v, .string n]] w fun e w' => e = nil2 0 ∧ Below w.heap.size w w' := by
  have H := Lib.hid h
  clear h
  go_enter Try.func32, Try.ntmps32
  go_wp2_with fail
  refine (hP _).use ?_
  rintro _ w1 ⟨rfl, hb⟩
  have B1 := (be_alloc (Below.refl w.heap.size w) _).trans (hb.mono (be_alloc (Below.refl w.heap.size w) _).size)
  have k1 : PB w1 b ex ch nm sc lf st pr tk true := (Blk.alloc H.out _).below hb
  obtain ⟨c0, c1, c2, c3, c4, c5, c6, c7, c8⟩ := k1.cells
  clear hb k1
  go_wp2_with fail
  go_ret2
  exact ⟨rfl, B1⟩
set_option maxHeartbeats 1000000 in
set_option maxRecDepth 100000 in
theorem take_ask (hP : ∀ w, PutS 1 id v n r 0 w) (h : PB w b ex ch nm sc lf st pr tk false) (hd : ∀ w, DcS id sc v d w) :
    Calls Try.prog 32 #[.pointer (some ⟨b, 0, none⟩), .agg #[.int .i64 1, .int .i64 id, .string v, .string n]] w (One2 b (fun w' => PB w' b ex ch nm sc lf st pr tk false) w (cC 2 id d nm)) := by
  have H := Lib.hid h
  clear h
  go_enter Try.func32, Try.ntmps32
  go_wp2_with fail
  refine (hP _).use ?_
  rintro _ w1 ⟨rfl, hb⟩
  have B1 := (be_alloc (Below.refl w.heap.size w) _).trans (hb.mono (be_alloc (Below.refl w.heap.size w) _).size)
  have k1 : PB w1 b ex ch nm sc lf st pr tk false := (Blk.alloc H.out _).below hb
  have r1 : Blk w1 w.heap.size (cC 1 id v n) := (Blk.new w _).below hb
  obtain ⟨c0, c1, c2, c3, c4, c5, c6, c7, c8⟩ := k1.cells
  obtain ⟨x0, x1, x2, x3⟩ := r1.cells4
  have hc := respond_calls k1 r1 hd
  have HC := Lib.hid hc
  have K1 := Lib.hid k1
  clear hb k1 r1 hc
  go_wp2_with fail
  refine HC.out.mono ?_
  rintro _ w2 ⟨g, rfl, hg, hr, hb2⟩
  have k2 : PB w2 b ex ch nm sc lf st pr tk false := Blk.below K1.out hb2
  have bb := ((But.refl b w).next B1).next hb2
  have hs := B1.size
  clear HC K1 hb2 B1
  go_wp2_with fail
  go_ret2
  exact ⟨g, rfl, by omega, hr, k2, bb⟩
set_option maxHeartbeats 1000000 in
set_option maxRecDepth 100000 in
theorem take_judge {P : World → Prop} {o : Obj} (hP : ∀ w, PutS 2 id v n r 0 w) (h : PB w b ex ch nm sc lf st pr tk false)
    (hJ : ∀ W cb, PB W b ex ch nm sc lf st pr tk false → Blk W cb (cC 2 id v n) → Calls Try.prog 52 #[.pointer (some ⟨b, 0, none⟩), .pointer (some ⟨cb, 0, none⟩)] W (OneB b P W o)) :
    Calls Try.prog 32 #[.pointer (some ⟨b, 0, none⟩), .agg #[.int .i64 2, .int .i64 id, .string v, .string n]] w (One2 b P w o) := by
  have H := Lib.hid h
  clear h
  go_enter Try.func32, Try.ntmps32
  go_wp2_with fail
  refine (hP _).use ?_
  rintro _ w1 ⟨rfl, hb⟩
  have B1 := (be_alloc (Below.refl w.heap.size w) _).trans (hb.mono (be_alloc (Below.refl w.heap.size w) _).size)
  have k1 : PB w1 b ex ch nm sc lf st pr tk false := (Blk.alloc H.out _).below hb
  have r1 : Blk w1 w.heap.size (cC 2 id v n) := (Blk.new w _).below hb
  obtain ⟨c0, c1, c2, c3, c4, c5, c6, c7, c8⟩ := k1.cells
  obtain ⟨x0, x1, x2, x3⟩ := r1.cells4
  have HC := Lib.hid (hJ w1 w.heap.size k1 r1)
  clear hb k1 r1 hJ
  go_wp2_with fail
  refine HC.out.mono ?_
  rintro _ w2 ⟨g, rfl, hg, hr, k2, hb2⟩
  have bb := ((But.refl b w).next B1).trans hb2
  have hs := B1.size
  clear HC hb2 B1
  go_wp2_with fail
  go_ret2
  exact ⟨g, rfl, by omega, hr, k2, bb⟩
set_option maxHeartbeats 1000000 in
set_option maxRecDepth 100000 in
theorem take_judge_nil (hP : ∀ w, PutS 2 id v n r 0 w) (h : PB w b ex ch nm sc lf st pr tk false)
    (hJ : ∀ W cb, PB W b ex ch nm sc lf st pr tk false → Blk W cb (cC 2 id v n) → Calls Try.prog 52 #[.pointer (some ⟨b, 0, none⟩), .pointer (some ⟨cb, 0, none⟩)] W fun e w' => e = noS ∧ Below W.heap.size W w') :
    Calls Try.prog 32 #[.pointer (some ⟨b, 0, none⟩), .agg #[.int .i64 2, .int .i64 id, .string v, .string n]] w fun e w' => e = nil2 0 ∧ Below w.heap.size w w' := by
  have H := Lib.hid h
  clear h
  go_enter Try.func32, Try.ntmps32
  go_wp2_with fail
  refine (hP _).use ?_
  rintro _ w1 ⟨rfl, hb⟩
  have B1 := (be_alloc (Below.refl w.heap.size w) _).trans (hb.mono (be_alloc (Below.refl w.heap.size w) _).size)
  have k1 : PB w1 b ex ch nm sc lf st pr tk false := (Blk.alloc H.out _).below hb
  have r1 : Blk w1 w.heap.size (cC 2 id v n) := (Blk.new w _).below hb
  obtain ⟨c0, c1, c2, c3, c4, c5, c6, c7, c8⟩ := k1.cells
  obtain ⟨x0, x1, x2, x3⟩ := r1.cells4
  have HC := Lib.hid (hJ w1 w.heap.size k1 r1)
  clear hb k1 r1 hJ
  go_wp2_with fail
  refine HC.out.mono ?_
  rintro _ w2 ⟨rfl, hb2⟩
  have B2 := B1.trans (hb2.mono B1.size)
  clear HC hb2 B1
  go_wp2_with fail
  go_ret2
  exact ⟨rfl, B2⟩
set_option maxHeartbeats 1000000 in
set_option maxRecDepth 100000 in
theorem take_taken (hP : ∀ w, PutS 3 id v n r 0 w) (h : PB w b ex ch nm sc lf st pr tk false) :
    Calls Try.prog 32 #[.pointer (some ⟨b, 0, none⟩), .agg #[.int .i64 3, .int .i64 id, .string v, .string n]] w fun e w' => e = nil2 0 ∧ PB w' b ex ch nm sc lf st pr true false ∧ But b w w' := by
  have H := Lib.hid h
  clear h
  go_enter Try.func32, Try.ntmps32
  go_wp2_with fail
  refine (hP _).use ?_
  rintro _ w1 ⟨rfl, hb⟩
  have B1 := (be_alloc (Below.refl w.heap.size w) _).trans (hb.mono (be_alloc (Below.refl w.heap.size w) _).size)
  have k1 : PB w1 b ex ch nm sc lf st pr tk false := (Blk.alloc H.out _).below hb
  have r1 : Blk w1 w.heap.size (cC 3 id v n) := (Blk.new w _).below hb
  obtain ⟨c0, c1, c2, c3, c4, c5, c6, c7, c8⟩ := k1.cells
  obtain ⟨f0, f1, f2, f3, f4, f5, f6, f7, f8⟩ := k1.free
  obtain ⟨x0, x1, x2, x3⟩ := r1.cells4
  have K1 := Lib.hid k1
  clear hb k1 r1
  go_wp2_with fail
  go_ret2
  exact ⟨rfl, Blk.set K1.out (i := 7) (v := .bool true), ((But.refl b w).next B1).set (Or.inl rfl)⟩
set_option maxHeartbeats 1000000 in
set_option maxRecDepth 100000 in
theorem take_no (hP : ∀ w, PutS 4 id v n r 0 w) (h : PB w b ex ch nm sc lf st pr tk false) :
    Calls Try.prog 32 #[.pointer (some ⟨b, 0, none⟩), .agg #[.int .i64 4, .int .i64 id, .string v, .string n]] w fun e w' => e = nil2 0 ∧ PB w' b ex ch nm sc lf st pr tk true ∧ But b w w' := by
  have H := Lib.hid h
  clear h
  go_enter Try.func32, Try.ntmps32
  go_wp2_with fail
  refine (hP _).use ?_
  rintro _ w1 ⟨rfl, hb⟩
  have B1 := (be_alloc (Below.refl w.heap.size w) _).trans (hb.mono (be_alloc (Below.refl w.heap.size w) _).size)
  have k1 : PB w1 b ex ch nm sc lf st pr tk false := (Blk.alloc H.out _).below hb
  have r1 : Blk w1 w.heap.size (cC 4 id v n) := (Blk.new w _).below hb
  obtain ⟨c0, c1, c2, c3, c4, c5, c6, c7, c8⟩ := k1.cells
  obtain ⟨f0, f1, f2, f3, f4, f5, f6, f7, f8⟩ := k1.free
  obtain ⟨x0, x1, x2, x3⟩ := r1.cells4
  have K1 := Lib.hid k1
  clear hb k1 r1
  go_wp2_with fail
  go_ret2
  exact ⟨rfl, Blk.set K1.out (i := 8) (v := .bool true), ((But.refl b w).next B1).set (Or.inl rfl)⟩
end
end Go.Proofs.Ytoldjadadgokeaa.Ch16
