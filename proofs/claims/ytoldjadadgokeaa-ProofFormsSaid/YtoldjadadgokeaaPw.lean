/- A side's proof as a plain machine, and that the program's and the reference's New, Start, Again, Take do what it does. Condition: the state is one that New and the calls lead to. -/
import Derived.Test.YtoldjadadgokeaaPv
namespace Go.Proofs.Ytoldjadadgokeaa.Ch16
open Go.RowKit Go.Proofs.Ytoldjadadgokeaa.Bytes Go.Proofs.Ytoldjadadgokeaa.Md Go.Proofs.Ytoldjadadgokeaa.Ch6

/-- A side's state. -/
structure Pst where
  ex : ByteArray
  ch : ByteArray
  nm : ByteArray
  sc : ByteArray
  lf : Int
  pr : Bool
  tk : Bool
  fl : Bool
/-- A message. -/
structure Cv where
  c : Int
  id : Int
  v : ByteArray
  n : ByteArray
def zeroC : Cv := ⟨0, 0, ⟨#[]⟩, ⟨#[]⟩⟩
def Cv.val (m : Cv) : Value := .agg #[.int .i64 m.c, .int .i64 m.id, .string m.v, .string m.n]
def Cv.obj (m : Cv) : Obj := cC m.c m.id m.v m.n
def Pst.begun (s : Pst) : Bool := !s.ch.toList.isEmpty
def PS (w : World) (b : Nat) (s : Pst) : Prop := PB w b s.ex s.ch s.nm s.sc s.lf s.begun s.pr s.tk s.fl
def RS (w : World) (b : Nat) (s : Pst) : Prop := RB w b s.ex s.ch s.nm s.sc s.lf s.pr s.tk s.fl
structure Inv (s : Pst) : Prop where
  left : s.fl = false → 1 ≤ s.lf
  most : s.lf ≤ 10
  sc : s.sc.size ≤ 64
  ex : s.ex.size ≤ 64
  ch : s.ch.size ≤ 255
/-- What answers a challenge. -/
def dig (id : Int) (s c : ByteArray) : ByteArray := B (md5 (chapIn id s.data.toList c.data.toList))
theorem dig_dc (id : Int) (s c : ByteArray) (hs : s.size ≤ 100000) (hc : c.size ≤ 100000) (w : World) : DcS id s c (dig id s c) w := by
  obtain ⟨s, rfl⟩ := B_of s
  obtain ⟨c, rfl⟩ := B_of c
  rw [B_size] at hs hc
  exact dchap_any id s c (by omega) w
theorem dig_rc (id : Int) (s c : ByteArray) (hs : s.size ≤ 100000) (hc : c.size ≤ 100000) (w : World) : RcS id s c (dig id s c) w := by
  obtain ⟨s, rfl⟩ := B_of s
  obtain ⟨c, rfl⟩ := B_of c
  rw [B_size] at hs hc
  exact rchap_any id s c (by omega) w
def startF (s : Pst) (c : ByteArray) : Pst × Cv × Int :=
  if c.size < 1 ∨ 255 < c.size then (s, zeroC, 1600)
  else if s.begun = true ∨ s.fl = true then (s, zeroC, 1601)
  else ({ s with ch := c }, ⟨1, 1, c, s.nm⟩, 0)
def againF (s : Pst) : Pst × Cv × Int :=
  if s.begun = false ∨ s.pr = true ∨ s.fl = true then (s, zeroC, 1601)
  else if s.lf = 1 then ({ s with lf := 0, fl := true }, zeroC, 1601)
  else ({ s with lf := s.lf - 1 }, ⟨1, 1, s.ch, s.nm⟩, 0)
def judgeF (s : Pst) (m : Cv) : Pst × Option Cv × Int :=
  if s.begun = false ∨ m.id ≠ 1 then (s, none, 0)
  else if s.pr = true ∨ m.v.toList = (dig 1 s.ex s.ch).toList then ({ s with pr := true }, some ⟨3, 1, ⟨#[]⟩, ⟨#[111, 107]⟩⟩, 0)
  else ({ s with fl := true }, some ⟨4, 1, ⟨#[]⟩, ⟨#[110, 111]⟩⟩, 0)
def errOf (m : Cv) : Int := (putV m.c m.id m.v.data.toList m.n.data.toList).2
def takeF (s : Pst) (m : Cv) : Pst × Option Cv × Int :=
  if errOf m ≠ 0 then (s, none, 1600)
  else if s.fl = true then (s, none, 0)
  else if m.c = 1 then (s, some ⟨2, m.id, dig m.id s.sc m.v, s.nm⟩, 0)
  else if m.c = 2 then judgeF s m
  else if m.c = 3 then ({ s with tk := true }, none, 0)
  else ({ s with fl := true }, none, 0)
theorem err_fit (m : Cv) (h : errOf m = 0) : fit m.c m.id m.v.data.toList := by
  unfold errOf putV at h
  by_cases hf : fit m.c m.id m.v.data.toList
  · exact hf
  · rw [if_neg hf] at h; simp at h
theorem err_put (m : Cv) : ∃ r, ∀ w, PutS m.c m.id m.v m.n r (errOf m) w := by
  obtain ⟨c, id, v, n⟩ := m
  obtain ⟨v, rfl⟩ := B_of v
  obtain ⟨n, rfl⟩ := B_of n
  exact ⟨_, put_any c id v n⟩
theorem err_chap (m : Cv) : ∃ r, ∀ w, ChapS m.c m.id m.v m.n r (errOf m) w := by
  obtain ⟨c, id, v, n⟩ := m
  obtain ⟨v, rfl⟩ := B_of v
  obtain ⟨n, rfl⟩ := B_of n
  exact ⟨_, chap_any c id v n⟩
theorem empty_of {s : ByteArray} (h : s.toList.isEmpty = true) : s = ⟨#[]⟩ := by
  obtain ⟨l, rfl⟩ := B_of s
  rw [B_toList] at h
  cases l with
  | nil => rfl
  | cons a t => cases h
theorem full_of {s : ByteArray} (h : 1 ≤ s.size) : s.toList.isEmpty = false := by
  obtain ⟨l, rfl⟩ := B_of s
  rw [B_toList]
  rw [B_size] at h
  cases l with
  | nil => simp at h
  | cons a t => rfl
theorem But.of {b : Nat} {w w' : World} (h : Below w.heap.size w w') : But b w w' := (But.refl b w).next h
section
variable {b : Nat} {w : World} {s : Pst}
theorem start_any (h : PS w b s) (c : ByteArray) :
    Calls Try.prog 27 #[.pointer (some ⟨b, 0, none⟩), .string c] w fun e w' => e = .returned (.tuple #[(startF s c).2.1.val, .int .i64 (startF s c).2.2]) ∧ PS w' b (startF s c).1 ∧ But b w w' := by
  unfold startF
  by_cases h1 : c.size < 1 ∨ 255 < c.size
  · rw [if_pos h1]
    exact (start_len c (by omega)).mono fun e w' ⟨he, hb⟩ => ⟨he, Blk.below h hb, But.of hb⟩
  rw [if_neg h1]
  by_cases h2 : s.begun = true ∨ s.fl = true
  · rw [if_pos h2]
    exact (start_never h c (by omega) (by omega) (by rcases h2 with h2 | h2 <;> simp [h2])).mono fun e w' ⟨he, hb⟩ => ⟨he, Blk.below h hb, But.of hb⟩
  rw [if_neg h2]
  have hb : s.begun = false := by cases hh : s.begun <;> simp_all
  have hf : s.fl = false := by cases hh : s.fl <;> simp_all
  have h' := h
  unfold PS at h'
  rw [hb, hf] at h'
  refine (start_ok h' c (by omega) (by omega)).mono fun e w' ⟨he, hp, hbut⟩ => ⟨he, ?_, hbut⟩
  unfold PS Pst.begun
  show PB w' b s.ex c s.nm s.sc s.lf (!c.toList.isEmpty) s.pr s.tk s.fl
  rw [full_of (by omega), hf]
  exact hp
theorem rstart_any (h : RS w b s) (c : ByteArray) :
    Calls Try.prog 28 #[.pointer (some ⟨b, 0, none⟩), .string c] w fun e w' => e = .returned (.tuple #[(startF s c).2.1.val, .int .i64 (startF s c).2.2]) ∧ RS w' b (startF s c).1 ∧ But b w w' := by
  unfold startF
  by_cases h1 : c.size < 1 ∨ 255 < c.size
  · rw [if_pos h1]
    exact (rstart_len c (by omega)).mono fun e w' ⟨he, hb⟩ => ⟨he, Blk.below h hb, But.of hb⟩
  rw [if_neg h1]
  cases hb : s.ch.toList.isEmpty
  · rw [if_pos (Or.inl (by unfold Pst.begun; rw [hb]; rfl))]
    exact (rstart_begun h c (by omega) (by omega) hb).mono fun e w' ⟨he, hb⟩ => ⟨he, Blk.below h hb, But.of hb⟩
  · have he := empty_of hb
    cases hf : s.fl
    · rw [if_neg (by unfold Pst.begun; rw [hb]; simp)]
      have h' := h
      unfold RS at h'
      rw [he, hf] at h'
      refine (rstart_ok h' c (by omega) (by omega)).mono fun e w' ⟨he, hp, hbut⟩ => ⟨he, ?_, hbut⟩
      exact hp
    · rw [if_pos (Or.inr rfl)]
      have h' := h
      unfold RS at h'
      rw [he, hf] at h'
      exact (rstart_failed h' c (by omega) (by omega)).mono fun e w' ⟨he, hb⟩ => ⟨he, Blk.below h hb, But.of hb⟩
theorem again_any (h : PS w b s) (hI : Inv s) :
    Calls Try.prog 29 #[.pointer (some ⟨b, 0, none⟩)] w fun e w' => e = .returned (.tuple #[(againF s).2.1.val, .int .i64 (againF s).2.2]) ∧ PS w' b (againF s).1 ∧ But b w w' := by
  unfold againF
  by_cases h1 : s.begun = false ∨ s.pr = true ∨ s.fl = true
  · rw [if_pos h1]
    exact (again_never h (by rcases h1 with h1 | h1 | h1 <;> simp [h1])).mono fun e w' ⟨he, hb⟩ => ⟨he, Blk.below h hb, But.of hb⟩
  rw [if_neg h1]
  have hb : s.begun = true := by cases hh : s.begun <;> simp_all
  have hp : s.pr = false := by cases hh : s.pr <;> simp_all
  have hf : s.fl = false := by cases hh : s.fl <;> simp_all
  have h' := h
  unfold PS at h'
  rw [hb, hp, hf] at h'
  by_cases h2 : s.lf = 1
  · rw [if_pos h2]
    rw [h2] at h'
    refine (again_last h').mono fun e w' ⟨he, hq, hbut⟩ => ⟨he, ?_, hbut⟩
    show PB w' b s.ex s.ch s.nm s.sc 0 s.begun s.pr s.tk true
    rw [hb, hp]
    exact hq
  · rw [if_neg h2]
    refine (again_ok h' (by have := hI.left hf; omega) hI.most).mono fun e w' ⟨he, hq, hbut⟩ => ⟨he, ?_, hbut⟩
    show PB w' b s.ex s.ch s.nm s.sc (s.lf - 1) s.begun s.pr s.tk s.fl
    rw [hb, hp, hf]
    exact hq
theorem ragain_any (h : RS w b s) (hI : Inv s) :
    Calls Try.prog 30 #[.pointer (some ⟨b, 0, none⟩)] w fun e w' => e = .returned (.tuple #[(againF s).2.1.val, .int .i64 (againF s).2.2]) ∧ RS w' b (againF s).1 ∧ But b w w' := by
  unfold againF
  cases hb : s.ch.toList.isEmpty
  · by_cases h1 : s.pr = true ∨ s.fl = true
    · rw [if_pos (Or.inr h1)]
      exact (ragain_over h hb (by rcases h1 with h1 | h1 <;> simp [h1])).mono fun e w' ⟨he, hb⟩ => ⟨he, Blk.below h hb, But.of hb⟩
    have hp : s.pr = false := by cases hh : s.pr <;> simp_all
    have hf : s.fl = false := by cases hh : s.fl <;> simp_all
    rw [if_neg (by unfold Pst.begun; rw [hb, hp, hf]; simp)]
    have h' := h
    unfold RS at h'
    rw [hp, hf] at h'
    by_cases h2 : s.lf = 1
    · rw [if_pos h2]
      rw [h2] at h'
      refine (ragain_last h' hb).mono fun e w' ⟨he, hq, hbut⟩ => ⟨he, ?_, hbut⟩
      show RB w' b s.ex s.ch s.nm s.sc 0 s.pr s.tk true
      rw [hp]
      exact hq
    · rw [if_neg h2]
      refine (ragain_ok h' hb (by have := hI.left hf; omega) hI.most).mono fun e w' ⟨he, hq, hbut⟩ => ⟨he, ?_, hbut⟩
      show RB w' b s.ex s.ch s.nm s.sc (s.lf - 1) s.pr s.tk s.fl
      rw [hp, hf]
      exact hq
  · rw [if_pos (Or.inl (by unfold Pst.begun; rw [hb]; rfl))]
    have h' := h
    unfold RS at h'
    rw [empty_of hb] at h'
    exact (ragain_none h').mono fun e w' ⟨he, hb⟩ => ⟨he, Blk.below h hb, But.of hb⟩
/-- What a call of Take (32), of the reference's (33) does; Q: the state's block. -/
def TakeS (Q : World → Nat → Pst → Prop) (b : Nat) (w : World) (a : Pst × Option Cv × Int) (e : Ending) (w' : World) : Prop :=
  match a with
  | (s', none, er) => e = nil2 er ∧ Q w' b s' ∧ But b w w'
  | (s', some m, _) => One2 b (fun w' => Q w' b s') w m.obj e w'
theorem str_ne {x y : ByteArray} (h : ¬ x.toList = y.toList) : (x.toList == y.toList) = false := beq_eq_false_iff_ne.2 h
theorem take_any (h : PS w b s) (hI : Inv s) (m : Cv) : Calls Try.prog 32 #[.pointer (some ⟨b, 0, none⟩), m.val] w (TakeS PS b w (takeF s m)) := by
  obtain ⟨r, hP⟩ := err_put m
  have hfit := err_fit m
  unfold takeF
  by_cases h0 : errOf m ≠ 0
  · rw [if_pos h0]
    exact (take_bad hP (by rw [bne_iff_ne]; exact h0)).mono fun e w' ⟨he, hb⟩ => ⟨he, Blk.below h hb, But.of hb⟩
  rw [if_neg h0]
  have h0' : errOf m = 0 := Decidable.not_not.1 h0
  obtain ⟨f1, f2, f3, f4, f5, f6⟩ := hfit h0'
  rw [h0'] at hP
  have hvl : m.v.data.toList.length = m.v.size := Array.length_toList
  obtain ⟨c, id, v, n⟩ := m
  simp only at hP f1 f2 f3 f4 f5 f6 hvl ⊢
  by_cases h1 : s.fl = true
  · rw [if_pos h1]
    have h' := h
    unfold PS at h'
    rw [h1] at h'
    exact (take_failed hP h').mono fun e w' ⟨he, hb⟩ => ⟨he, Blk.below h hb, But.of hb⟩
  rw [if_neg h1]
  have hf : s.fl = false := by cases hh : s.fl <;> simp_all
  have h' := h
  unfold PS at h'
  rw [hf] at h'
  by_cases hc1 : c = 1
  · subst hc1
    rw [if_pos rfl]
    refine (take_ask hP h' (dig_dc id s.sc v (by have := hI.sc; omega) (by omega))).mono fun e w' h => ?_
    unfold TakeS PS
    show One2 b (fun w' => PB w' b s.ex s.ch s.nm s.sc s.lf s.begun s.pr s.tk s.fl) w _ e w'
    rw [hf]
    exact h
  rw [if_neg hc1]
  by_cases hc2 : c = 2
  · subst hc2
    rw [if_pos rfl]
    unfold judgeF
    simp only
    cases hb : s.begun
    · rw [if_pos (Or.inl rfl)]
      rw [hb] at h'
      refine (take_judge_nil hP h' fun W cb hp hq => judge_off hp hq).mono fun e w' ⟨he, hb'⟩ => ⟨he, Blk.below h hb', But.of hb'⟩
    · rw [hb] at h'
      by_cases hi : id = 1
      · subst hi
        rw [if_neg (by simp)]
        cases hp : s.pr
        · rw [hp] at h'
          by_cases hv : v.toList = (dig 1 s.ex s.ch).toList
          · rw [if_pos (Or.inr hv)]
            have hd := fun w => dig_dc 1 s.ex s.ch (by have := hI.ex; omega) (by have := hI.ch; omega) w
            rw [← toList_inj hv] at hd
            refine (take_judge hP h' fun W cb hp hq => judge_right hp hq hd).mono fun e w' h => ?_
            unfold TakeS PS
            show One2 b (fun w' => PB w' b s.ex s.ch s.nm s.sc s.lf s.begun true s.tk s.fl) w _ e w'
            rw [hb, hf]
            exact h
          · rw [if_neg (by simp [hv])]
            refine (take_judge hP h' fun W cb hp hq => judge_wrong hp hq (dig_dc 1 s.ex s.ch (by have := hI.ex; omega) (by have := hI.ch; omega)) (str_ne hv)).mono fun e w' h => ?_
            unfold TakeS PS
            show One2 b (fun w' => PB w' b s.ex s.ch s.nm s.sc s.lf s.begun false s.tk true) w _ e w'
            rw [hb]
            exact h
        · rw [if_pos (Or.inl rfl)]
          rw [hp] at h'
          refine (take_judge hP h' fun W cb hp hq => judge_again hp hq).mono fun e w' h => ?_
          unfold TakeS PS
          show One2 b (fun w' => PB w' b s.ex s.ch s.nm s.sc s.lf s.begun true s.tk s.fl) w _ e w'
          rw [hb, hf]
          exact h
      · rw [if_pos (Or.inr hi)]
        refine (take_judge_nil hP h' fun W cb hp hq => judge_id hp hq (by rw [bne_iff_ne]; exact hi)).mono fun e w' ⟨he, hb'⟩ => ⟨he, Blk.below h hb', But.of hb'⟩
  rw [if_neg hc2]
  by_cases hc3 : c = 3
  · subst hc3
    rw [if_pos rfl]
    refine (take_taken hP h').mono fun e w' ⟨he, hq, hbut⟩ => ⟨he, ?_, hbut⟩
    show PB w' b s.ex s.ch s.nm s.sc s.lf s.begun s.pr true s.fl
    rw [hf]
    exact hq
  · obtain rfl : c = 4 := by omega
    rw [if_neg (by decide)]
    exact (take_no hP h').mono fun e w' ⟨he, hq, hbut⟩ => ⟨he, hq, hbut⟩
theorem rtake_any (h : RS w b s) (hI : Inv s) (m : Cv) : Calls Try.prog 33 #[.pointer (some ⟨b, 0, none⟩), m.val] w (TakeS RS b w (takeF s m)) := by
  obtain ⟨r, hP⟩ := err_chap m
  have hfit := err_fit m
  unfold takeF
  by_cases h0 : errOf m ≠ 0
  · rw [if_pos h0]
    exact (rtake_bad hP (by rw [bne_iff_ne]; exact h0)).mono fun e w' ⟨he, hb⟩ => ⟨he, Blk.below h hb, But.of hb⟩
  rw [if_neg h0]
  have h0' : errOf m = 0 := Decidable.not_not.1 h0
  obtain ⟨f1, f2, f3, f4, f5, f6⟩ := hfit h0'
  rw [h0'] at hP
  have hvl : m.v.data.toList.length = m.v.size := Array.length_toList
  obtain ⟨c, id, v, n⟩ := m
  simp only at hP f1 f2 f3 f4 f5 f6 hvl ⊢
  by_cases h1 : s.fl = true
  · rw [if_pos h1]
    have h' := h
    unfold RS at h'
    rw [h1] at h'
    exact (rtake_failed hP h').mono fun e w' ⟨he, hb⟩ => ⟨he, Blk.below h hb, But.of hb⟩
  rw [if_neg h1]
  have hf : s.fl = false := by cases hh : s.fl <;> simp_all
  have h' := h
  unfold RS at h'
  rw [hf] at h'
  by_cases hc1 : c = 1
  · subst hc1
    rw [if_pos rfl]
    refine (rtake_ask hP h' (dig_rc id s.sc v (by have := hI.sc; omega) (by omega))).mono fun e w' h => ?_
    unfold TakeS RS
    show One2 b (fun w' => RB w' b s.ex s.ch s.nm s.sc s.lf s.pr s.tk s.fl) w _ e w'
    rw [hf]
    exact h
  rw [if_neg hc1]
  by_cases hc2 : c = 2
  · subst hc2
    rw [if_pos rfl]
    unfold judgeF
    simp only
    cases hb : s.ch.toList.isEmpty
    · have hbg : s.begun = true := by unfold Pst.begun; rw [hb]; rfl
      rw [hbg]
      by_cases hi : id = 1
      · subst hi
        rw [if_neg (by simp)]
        cases hp : s.pr
        · rw [hp] at h'
          by_cases hv : v.toList = (dig 1 s.ex s.ch).toList
          · rw [if_pos (Or.inr hv)]
            have hd := fun w => dig_rc 1 s.ex s.ch (by have := hI.ex; omega) (by have := hI.ch; omega) w
            rw [← toList_inj hv] at hd
            refine (rtake_right hP h' hb hd).mono fun e w' h => ?_
            unfold TakeS RS
            show One2 b (fun w' => RB w' b s.ex s.ch s.nm s.sc s.lf true s.tk s.fl) w _ e w'
            rw [hf]
            exact h
          · rw [if_neg (by simp [hv])]
            refine (rtake_wrong hP h' hb (dig_rc 1 s.ex s.ch (by have := hI.ex; omega) (by have := hI.ch; omega)) (str_ne hv)).mono fun e w' h => ?_
            exact h
        · rw [if_pos (Or.inl rfl)]
          rw [hp] at h'
          refine (rtake_again hP h' hb).mono fun e w' h => ?_
          unfold TakeS RS
          show One2 b (fun w' => RB w' b s.ex s.ch s.nm s.sc s.lf true s.tk s.fl) w _ e w'
          rw [hf]
          exact h
      · rw [if_pos (Or.inr hi)]
        refine (rtake_id hP h' hb (by rw [bne_iff_ne]; exact hi)).mono fun e w' ⟨he, hb'⟩ => ⟨he, Blk.below h hb', But.of hb'⟩
    · have hbg : s.begun = false := by unfold Pst.begun; rw [hb]; rfl
      rw [if_pos (Or.inl hbg)]
      rw [empty_of hb] at h'
      exact (rtake_off hP h').mono fun e w' ⟨he, hb'⟩ => ⟨he, Blk.below h hb', But.of hb'⟩
  rw [if_neg hc2]
  by_cases hc3 : c = 3
  · subst hc3
    rw [if_pos rfl]
    refine (rtake_taken hP h').mono fun e w' ⟨he, hq, hbut⟩ => ⟨he, ?_, hbut⟩
    show RB w' b s.ex s.ch s.nm s.sc s.lf s.pr true s.fl
    rw [hf]
    exact hq
  · obtain rfl : c = 4 := by omega
    rw [if_neg (by decide)]
    exact (rtake_no hP h').mono fun e w' ⟨he, hq, hbut⟩ => ⟨he, hq, hbut⟩
end
theorem inv_start {s : Pst} (h : Inv s) (c : ByteArray) : Inv (startF s c).1 := by
  unfold startF
  split
  · exact h
  · split
    · exact h
    · exact ⟨h.left, h.most, h.sc, h.ex, by show c.size ≤ 255; omega⟩
theorem inv_again {s : Pst} (h : Inv s) : Inv (againF s).1 := by
  unfold againF
  split
  · exact h
  · rename_i h1
    split
    · exact ⟨fun e => by simp at e, by show (0 : Int) ≤ 10; omega, h.sc, h.ex, h.ch⟩
    · rename_i h2
      have hf : s.fl = false := by cases hh : s.fl <;> simp_all
      have := h.left hf
      exact ⟨fun _ => by show 1 ≤ s.lf - 1; omega, by have := h.most; show s.lf - 1 ≤ 10; omega, h.sc, h.ex, h.ch⟩
theorem inv_take {s : Pst} (h : Inv s) (m : Cv) : Inv (takeF s m).1 := by
  have hfl : Inv { s with fl := true } := ⟨fun e => by simp at e, h.most, h.sc, h.ex, h.ch⟩
  unfold takeF
  split
  · exact h
  split
  · exact h
  split
  · exact h
  split
  · unfold judgeF
    split
    · exact h
    split
    · exact ⟨h.left, h.most, h.sc, h.ex, h.ch⟩
    · exact hfl
  split
  · exact ⟨h.left, h.most, h.sc, h.ex, h.ch⟩
  · exact hfl
/-- The state that New begins with. -/
def newF (nm sc ex : ByteArray) (n : Int) : Pst := ⟨ex, ⟨#[]⟩, nm, sc, n, false, false, false⟩
theorem inv_new {nm sc ex : ByteArray} {n : Int} (h : mayNew nm sc ex n) : Inv (newF nm sc ex n) :=
  ⟨fun _ => h.2.2.2.1, h.2.2.2.2, h.2.1.2, h.2.2.1.2, by show (⟨#[]⟩ : ByteArray).size ≤ 255; decide⟩
theorem begun_new (nm sc ex : ByteArray) (n : Int) : (newF nm sc ex n).begun = false := by
  show (!(B []).toList.isEmpty) = false
  rw [B_toList]; rfl
theorem new_any {nm sc ex : ByteArray} {n : Int} (h : mayNew nm sc ex n) (w : World) :
    Calls Try.prog 24 #[.string nm, .string sc, .string ex, .int .i64 n] w fun e w' => e = .returned (.tuple #[.pointer (some ⟨w.heap.size, 0, none⟩), .int .i64 0]) ∧ PS w' w.heap.size (newF nm sc ex n) ∧ Below w.heap.size w w' := by
  refine (new_yes nm sc ex n w h).mono fun e w' ⟨he, hp, hb⟩ => ⟨he, ?_, hb⟩
  unfold PS
  rw [begun_new]
  exact hp
theorem newProof_any {nm sc ex : ByteArray} {n : Int} (h : mayNew nm sc ex n) (w : World) :
    Calls Try.prog 25 #[.string nm, .string sc, .string ex, .int .i64 n] w fun e w' => e = .returned (.tuple #[.pointer (some ⟨w.heap.size, 0, none⟩), .int .i64 0]) ∧ RS w' w.heap.size (newF nm sc ex n) ∧ Below w.heap.size w w' := newProof_yes nm sc ex n w h
end Go.Proofs.Ytoldjadadgokeaa.Ch16
