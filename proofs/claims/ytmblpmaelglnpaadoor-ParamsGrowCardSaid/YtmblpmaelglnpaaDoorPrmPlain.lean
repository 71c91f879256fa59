/-
  Parameters of an encoder: their text, and how it is read. No program in sight.
-/
import Derived.Test.YtmblpmaelglnpaaDoorRows
import Derived.RowKit
import Derived.Lib.AtoiAllCases
import Derived.Lib.ItoaNum
import Derived.Lib.Join
import Derived.Lib.Bytealg
namespace Go.Proofs.YtmblpmaelglnpaaDoor
open Go.RowKit
set_option linter.unusedSimpArgs false
set_option linter.unusedVariables false

/-- Parameters. -/
structure Prm where
  lv : Int
  wi : Int
  jo : Int
  ov : Int
  sy : Bool
  ch : Bool
def prm0 : Prm := ⟨0, 0, 0, 0, false, false⟩
/-- They are valid. -/
def okP (p : Prm) : Bool := decide (1 ≤ p.lv ∧ p.lv ≤ 9 ∧ 10 ≤ p.wi ∧ p.wi ≤ 27 ∧ 16 ≤ p.jo ∧ p.jo ≤ 2097152 ∧ 0 ≤ p.ov ∧ p.ov ≤ 9)
/-- Their numbers can stand in a text. -/
def inR (p : Prm) : Prop := (0 ≤ p.lv ∧ p.lv ≤ 9999999) ∧ (0 ≤ p.wi ∧ p.wi ≤ 9999999) ∧ (0 ≤ p.jo ∧ p.jo ≤ 9999999) ∧ (0 ≤ p.ov ∧ p.ov ≤ 9999999)
theorem okP_inR {p : Prm} (h : okP p = true) : inR p := by
  unfold okP at h
  have := of_decide_eq_true h
  unfold inR
  omega
def wLv : List UInt8 := [108, 101, 118, 101, 108]
def wWi : List UInt8 := [119, 105, 110, 100, 111, 119]
def wJo : List UInt8 := [106, 111, 98]
def wOv : List UInt8 := [111, 118, 101, 114, 108, 97, 112]
def wSy : List UInt8 := [115, 121, 110, 99]
def wCh : List UInt8 := [99, 104, 101, 99, 107]
/-- The words of the text. -/
def wordsOf (p : Prm) : List (List UInt8) := [wLv, Lib.itoa p.lv, wWi, Lib.itoa p.wi, wJo, Lib.itoa p.jo, wOv, Lib.itoa p.ov] ++ (if p.sy then [wSy] else []) ++ (if p.ch then [wCh] else [])
/-- The text of any parameters. -/
def txtL (p : Prm) : List UInt8 := Lib.join (wordsOf p) [32]
def pLv : List UInt8 := [108, 101, 118, 101, 108, 32]
def pWi : List UInt8 := [32, 119, 105, 110, 100, 111, 119, 32]
def pJo : List UInt8 := [32, 106, 111, 98, 32]
def pOv : List UInt8 := [32, 111, 118, 101, 114, 108, 97, 112, 32]
def pSy : List UInt8 := [32, 115, 121, 110, 99]
def pCh : List UInt8 := [32, 99, 104, 101, 99, 107]
/-- The text, in one row. -/
def flatL (p : Prm) : List UInt8 := pLv ++ (Lib.itoa p.lv ++ (pWi ++ (Lib.itoa p.wi ++ (pJo ++ (Lib.itoa p.jo ++ (pOv ++ (Lib.itoa p.ov ++ ((if p.sy then pSy else []) ++ (if p.ch then pCh else [])))))))))
theorem txtL_flat (p : Prm) : txtL p = flatL p := by
  unfold txtL flatL wordsOf
  cases p.sy <;> cases p.ch <;> simp [Lib.join_cons, Lib.joinTail, pLv, pWi, pJo, pOv, pSy, pCh, wLv, wWi, wJo, wOv, wSy, wCh]
/-! The reference reads. -/
def isDig (c : UInt8) : Bool := decide (48 ≤ c.toNat ∧ c.toNat ≤ 57)
/-- What follows a word. -/
def aft (w s : List UInt8) : Option (List UInt8) := if w.isPrefixOf s then some (s.drop w.length) else none
/-- Digits: u of them are read, their number is n. -/
def rnum (u n : Nat) : List UInt8 → Option (Nat × List UInt8)
  | [] => if u = 0 then none else some (n, [])
  | c :: l => if isDig c = true then (if u = 7 ∨ (u = 1 ∧ n = 0) then none else rnum (u + 1) (10 * n + (c.toNat - 48)) l) else (if u = 0 then none else some (n, c :: l))
def noDig (l : List UInt8) : Prop := ∀ c r, l = c :: r → isDig c = false
theorem aft_app (w s : List UInt8) : aft w (w ++ s) = some s := by simp [aft]
theorem aft_inv {w s r : List UInt8} (h : aft w s = some r) : s = w ++ r := by
  unfold aft at h
  split at h
  · rename_i hp
    rw [List.isPrefixOf_iff_prefix] at hp
    obtain ⟨t, rfl⟩ := hp
    simp at h
    rw [h]
  · cases h
theorem dig_ofNat {d : Nat} (h : d < 10) : isDig (UInt8.ofNat (48 + d)) = true ∧ (UInt8.ofNat (48 + d)).toNat - 48 = d := by
  have e : (UInt8.ofNat (48 + d)).toNat = 48 + d := by simp; omega
  unfold isDig
  rw [e]
  simp; omega
theorem dec_step {n d : Nat} (hn : n ≠ 0) (hd : d < 10) : Lib.decDigits (10 * n + d) = Lib.decDigits n ++ [UInt8.ofNat (48 + d)] ∧ Lib.nDigits (10 * n + d) = Lib.nDigits n + 1 := by
  have h : ¬ 10 * n + d < 10 := by omega
  have e1 : (10 * n + d) / 10 = n := by omega
  have e2 : (10 * n + d) % 10 = d := by omega
  constructor
  · rw [Lib.decDigits, dif_neg h, e1, e2]
  · rw [Lib.nDigits_big h, e1]
theorem nDig_le7 {n : Nat} (h : n ≤ 9999999) : Lib.nDigits n ≤ 7 := by
  rcases Nat.lt_or_ge (Lib.nDigits n) 8 with h8 | h8
  · omega
  · exfalso
    obtain ⟨k, hk⟩ : ∃ k, Lib.nDigits n = k + 1 := ⟨Lib.nDigits n - 1, by omega⟩
    have key : ∀ m, 2 ≤ Lib.nDigits m → 10 ^ (Lib.nDigits m - 1) ≤ m := by
      intro m
      induction m using Nat.strongRecOn with
      | _ m ih =>
        intro h2
        by_cases hs : m < 10
        · rw [Lib.nDigits_small hs] at h2; omega
        · rw [Lib.nDigits_big hs] at h2 ⊢
          by_cases h1 : m / 10 < 10
          · rw [Lib.nDigits_small h1]; simp; omega
          · have h3 : 2 ≤ Lib.nDigits (m / 10) := by rw [Lib.nDigits_big h1]; have := Lib.nDigits_pos (m / 10 / 10); omega
            have := ih (m / 10) (by omega) h3
            rw [show Lib.nDigits (m / 10) + 1 - 1 = (Lib.nDigits (m / 10) - 1) + 1 by omega, Nat.pow_succ]
            omega
    have h1 := key n (by omega)
    have h2 : 10 ^ 7 ≤ 10 ^ (Lib.nDigits n - 1) := Nat.pow_le_pow_right (by decide) (by omega)
    have : (10 : Nat) ^ 7 = 10000000 := by decide
    omega
theorem le_of_nDig {n : Nat} (h : Lib.nDigits n ≤ 7) : n ≤ 9999999 := by
  have h1 := Lib.lt_pow_nDigits n
  have h2 : 10 ^ Lib.nDigits n ≤ 10 ^ 7 := Nat.pow_le_pow_right (by decide) h
  have : (10 : Nat) ^ 7 = 10000000 := by decide
  omega
theorem rnum_inv : ∀ (l : List UInt8) (u n : Nat) (pre : List UInt8) (m : Nat) (r : List UInt8), (u = 0 ∧ n = 0 ∧ pre = [] ∨ u = Lib.nDigits n ∧ pre = Lib.decDigits n) → u ≤ 7 → rnum u n l = some (m, r) → pre ++ l = Lib.decDigits m ++ r ∧ m ≤ 9999999 ∧ noDig r := by
  intro l
  induction l with
  | nil =>
    intro u n pre m r hi hu h
    unfold rnum at h
    split at h
    · cases h
    · cases h
      rcases hi with ⟨h0, _, _⟩ | ⟨h1, rfl⟩
      · omega
      · exact ⟨rfl, le_of_nDig (by omega), fun c r hc => by cases hc⟩
  | cons c l ih =>
    intro u n pre m r hi hu h
    unfold rnum at h
    by_cases hc : isDig c = true
    · rw [if_pos hc] at h
      split at h
      · cases h
      · rename_i hno
        have hc2 := of_decide_eq_true (show decide (48 ≤ c.toNat ∧ c.toNat ≤ 57) = true from hc)
        obtain ⟨d, hd, hd2⟩ : ∃ d, c.toNat - 48 = d ∧ d < 10 := ⟨_, rfl, by omega⟩
        have hcd : c = UInt8.ofNat (48 + d) := by
          apply UInt8.toNat_inj.1
          simp; omega
        rw [hd] at h
        have hgo := ih (u + 1) (10 * n + d) (pre ++ [c]) m r ?_ (by omega) h
        · rw [List.append_assoc] at hgo
          exact hgo
        · right
          rcases hi with ⟨rfl, rfl, rfl⟩ | ⟨h1, rfl⟩
          · rw [show 10 * 0 + d = d by omega, Lib.nDigits_small hd2, Lib.decDigits_one hd2, hcd]
            exact ⟨rfl, rfl⟩
          · have hn : n ≠ 0 := by
              intro h0
              subst h0
              rw [Lib.nDigits_small (by decide)] at h1
              exact hno (Or.inr ⟨h1, rfl⟩)
            obtain ⟨e1, e2⟩ := dec_step hn hd2
            rw [e1, e2, hcd, h1]
            exact ⟨rfl, rfl⟩
    · rw [if_neg hc] at h
      split at h
      · cases h
      · cases h
        rcases hi with ⟨h0, _, _⟩ | ⟨h1, rfl⟩
        · omega
        · refine ⟨rfl, le_of_nDig (by omega), fun c' r' hc' => ?_⟩
          cases hc'
          simpa using hc
theorem rnum_run : ∀ (m : Nat), Lib.nDigits m ≤ 7 → ∀ r, rnum 0 0 (Lib.decDigits m ++ r) = rnum (Lib.nDigits m) m r := by
  intro m
  induction m using Nat.strongRecOn with
  | _ m ih =>
    intro h7 r
    by_cases h : m < 10
    · rw [Lib.decDigits_one h, Lib.nDigits_small h]
      obtain ⟨e1, e2⟩ := dig_ofNat h
      show rnum 0 0 (UInt8.ofNat (48 + m) :: r) = _
      rw [rnum, if_pos e1, if_neg (by omega), e2]
      simp
    · have hn : m / 10 ≠ 0 := by omega
      have hd : m % 10 < 10 := by omega
      obtain ⟨e1, e2⟩ := dec_step hn hd
      rw [show 10 * (m / 10) + m % 10 = m by omega] at e1 e2
      obtain ⟨d1, d2⟩ := dig_ofNat hd
      rw [e1, e2, List.append_assoc, ih (m / 10) (by omega) (by omega)]
      show rnum _ _ (UInt8.ofNat (48 + m % 10) :: r) = _
      rw [rnum, if_pos d1, if_neg (by omega), d2]
      congr 1
      omega
theorem rnum_end {u n : Nat} {r : List UInt8} (hu : 1 ≤ u) (hr : noDig r) : rnum u n r = some (n, r) := by
  cases r with
  | nil => rw [rnum, if_neg (by omega)]
  | cons c r => rw [rnum, if_neg (by rw [hr c r rfl]; simp), if_neg (by omega)]
theorem rnum_dec {m : Nat} (h : m ≤ 9999999) {r : List UInt8} (hr : noDig r) : rnum 0 0 (Lib.decDigits m ++ r) = some (m, r) := by
  rw [rnum_run m (nDig_le7 h), rnum_end (Lib.nDigits_pos m) hr]
/-- A word and a number: what follows. -/
def rpart (w s : List UInt8) : Option (Nat × List UInt8) := match aft w s with | none => none | some r => rnum 0 0 r
theorem rpart_inv {w s : List UInt8} {m : Nat} {r : List UInt8} (h : rpart w s = some (m, r)) : s = w ++ (Lib.decDigits m ++ r) ∧ m ≤ 9999999 := by
  unfold rpart at h
  cases h1 : aft w s with
  | none => rw [h1] at h; cases h
  | some t =>
    rw [h1] at h
    obtain ⟨e1, e2, _⟩ := rnum_inv t 0 0 [] m r (Or.inl ⟨rfl, rfl, rfl⟩) (by omega) h
    rw [aft_inv h1, ← e1]
    exact ⟨rfl, e2⟩
theorem rpart_app {w : List UInt8} {m : Nat} (h : m ≤ 9999999) {r : List UInt8} (hr : noDig r) : rpart w (w ++ (Lib.decDigits m ++ r)) = some (m, r) := by
  unfold rpart
  rw [aft_app]
  exact rnum_dec h hr
/-- The words at the end. -/
def rsync (s : List UInt8) : Bool × List UInt8 := match aft pSy s with | some r => (true, r) | none => (false, s)
def rcheck (s : List UInt8) : Bool × List UInt8 := match aft pCh s with | some r => (true, r) | none => (false, s)
/-- What parameters a text is by its form. -/
def rform (s : List UInt8) : Option Prm :=
  match rpart pLv s with
  | none => none
  | some (a, s) => match rpart pWi s with
    | none => none
    | some (b, s) => match rpart pJo s with
      | none => none
      | some (c, s) => match rpart pOv s with
        | none => none
        | some (d, s) => if (rcheck (rsync s).2).2 = [] then some ⟨a, b, c, d, (rsync s).1, (rcheck (rsync s).2).1⟩ else none
/-- The reference's Parse: parameters and an error. -/
def rparse (s : List UInt8) : Prm × Int := match rform s with | none => (prm0, 3) | some p => if okP p = true then (p, 0) else (prm0, 2)
theorem rsync_inv (s : List UInt8) : s = (if (rsync s).1 then pSy else []) ++ (rsync s).2 := by
  unfold rsync
  cases h : aft pSy s with
  | none => rfl
  | some r => exact aft_inv h
theorem rcheck_inv (s : List UInt8) : s = (if (rcheck s).1 then pCh else []) ++ (rcheck s).2 := by
  unfold rcheck
  cases h : aft pCh s with
  | none => rfl
  | some r => exact aft_inv h
theorem itoa_nat (n : Nat) : Lib.itoa (n : Int) = Lib.decDigits n := by
  unfold Lib.itoa
  rw [if_neg (by omega), Int.toNat_natCast]
theorem rform_inv {s : List UInt8} {p : Prm} (h : rform s = some p) : s = flatL p ∧ inR p := by
  unfold rform at h
  cases h1 : rpart pLv s with
  | none => rw [h1] at h; cases h
  | some q1 =>
    obtain ⟨a, s1⟩ := q1
    rw [h1] at h
    dsimp only at h
    cases h2 : rpart pWi s1 with
    | none => rw [h2] at h; cases h
    | some q2 =>
      obtain ⟨b, s2⟩ := q2
      rw [h2] at h
      dsimp only at h
      cases h3 : rpart pJo s2 with
      | none => rw [h3] at h; cases h
      | some q3 =>
        obtain ⟨c, s3⟩ := q3
        rw [h3] at h
        dsimp only at h
        cases h4 : rpart pOv s3 with
        | none => rw [h4] at h; cases h
        | some q4 =>
          obtain ⟨d, s4⟩ := q4
          rw [h4] at h
          dsimp only at h
          split at h
          · rename_i he
            cases h
            obtain ⟨e1, l1⟩ := rpart_inv h1
            obtain ⟨e2, l2⟩ := rpart_inv h2
            obtain ⟨e3, l3⟩ := rpart_inv h3
            obtain ⟨e4, l4⟩ := rpart_inv h4
            have e5 := rsync_inv s4
            have e6 := rcheck_inv (rsync s4).2
            rw [he, List.append_nil] at e6
            constructor
            · unfold flatL
              dsimp only
              rw [itoa_nat, itoa_nat, itoa_nat, itoa_nat, ← e6, ← e5, ← e4, ← e3, ← e2, ← e1]
            · unfold inR
              dsimp only
              omega
          · cases h
theorem noDig_cons {c : UInt8} {l : List UInt8} (h : isDig c = false) : noDig (c :: l) := fun c' r' e => by cases e; exact h
theorem rform_flat {p : Prm} (h : inR p) : rform (flatL p) = some p := by
  obtain ⟨l, w, j, o, sy, ch⟩ := p
  unfold inR at h
  dsimp only at h
  obtain ⟨⟨h1, h1'⟩, ⟨h2, h2'⟩, ⟨h3, h3'⟩, ⟨h4, h4'⟩⟩ := h
  obtain ⟨l, rfl⟩ := Int.eq_ofNat_of_zero_le h1
  obtain ⟨w, rfl⟩ := Int.eq_ofNat_of_zero_le h2
  obtain ⟨j, rfl⟩ := Int.eq_ofNat_of_zero_le h3
  obtain ⟨o, rfl⟩ := Int.eq_ofNat_of_zero_le h4
  unfold flatL
  dsimp only
  simp only [itoa_nat]
  unfold rform
  rw [rpart_app (by omega) (by exact noDig_cons (by decide))]
  dsimp only
  rw [rpart_app (by omega) (by exact noDig_cons (by decide))]
  dsimp only
  rw [rpart_app (by omega) (by exact noDig_cons (by decide))]
  dsimp only
  rw [rpart_app (by omega) (by cases sy <;> cases ch <;> first | exact noDig_cons (by decide) | (intro c r e; cases e))]
  dsimp only
  cases sy <;> cases ch <;> rfl
/-! The program reads. -/
/-- What Atoi gives beside its error. -/
def anum (l : List UInt8) : Int := match Lib.atoiAll l with | .ok v => v | .«syntax» => 0 | .range => Lib.atoiSat l
theorem anum_dec {n : Nat} (h : n ≤ 9999999) : anum (Lib.itoa (n : Int)) = n := by
  rw [itoa_nat]
  have key : ∀ m, m ≤ 9999999 → ∀ r, Lib.parseUint10 0 (Lib.decDigits m ++ r) = Lib.parseUint10 m r := by
    intro m
    induction m using Nat.strongRecOn with
    | _ m ih =>
      intro hm r
      by_cases hs : m < 10
      · rw [Lib.decDigits_one hs]
        have e : (UInt8.ofNat (48 + m)).toNat = 48 + m := by simp; omega
        show Lib.parseUint10 0 (UInt8.ofNat (48 + m) :: r) = _
        rw [Lib.parseUint10, e, if_pos (by omega), if_neg (by omega), if_neg (by omega)]
        congr 1
        omega
      · have e0 := (dec_step (n := m / 10) (d := m % 10) (by omega) (by omega)).1
        rw [show 10 * (m / 10) + m % 10 = m by omega] at e0
        have e : (UInt8.ofNat (48 + m % 10)).toNat = 48 + m % 10 := by simp; omega
        rw [e0, List.append_assoc, ih (m / 10) (by omega) (by omega)]
        show Lib.parseUint10 (m / 10) (UInt8.ofNat (48 + m % 10) :: r) = _
        rw [Lib.parseUint10, e, if_pos (by omega), if_neg (by omega), if_neg (by omega)]
        congr 1
        omega
  have hp := key n h []
  rw [List.append_nil] at hp
  have hne : Lib.decDigits n ≠ [] := by
    intro h0
    have := Lib.decDigits_length n
    rw [h0] at this
    have := Lib.nDigits_pos n
    simp at *
    omega
  have hd : ∀ m, ∃ d t, d < 10 ∧ Lib.decDigits m = UInt8.ofNat (48 + d) :: t := by
    intro m
    induction m using Nat.strongRecOn with
    | _ m ih =>
      by_cases hs : m < 10
      · exact ⟨m, [], hs, Lib.decDigits_one hs⟩
      · obtain ⟨d, t, hd, e⟩ := ih (m / 10) (by omega)
        refine ⟨d, t ++ [UInt8.ofNat (48 + m % 10)], hd, ?_⟩
        rw [Lib.decDigits, dif_neg hs, e]
        rfl
  obtain ⟨d, t, hd, e⟩ := hd n
  have ec : (UInt8.ofNat (48 + d)).toNat = 48 + d := by simp; omega
  have hA : Lib.atoiAll (Lib.decDigits n) = .ok (n : Int) := by
    rw [e, Lib.atoiAll_plain _ _ (by omega) (by omega), ← e]
    unfold Lib.parseMag
    rw [if_neg hne, hp]
    show (if 9223372036854775808 ≤ n then Lib.NumEnd.range else Lib.NumEnd.ok (n : Int)) = _
    rw [if_neg (by omega)]
  unfold anum
  rw [hA]
/-- The pieces between blanks. -/
def spl : List UInt8 → List (List UInt8)
  | [] => [[]]
  | c :: l => if c = 32 then [] :: spl l else match spl l with | [] => [[c]] | x :: xs => (c :: x) :: xs
theorem spl_ne (l : List UInt8) : spl l ≠ [] := by
  induction l with
  | nil => simp [spl]
  | cons c l ih =>
    unfold spl
    split
    · simp
    · split <;> simp
theorem spl_word {x : List UInt8} (h : (32 : UInt8) ∉ x) : spl x = [x] ∧ ∀ r, spl (x ++ 32 :: r) = x :: spl r := by
  induction x with
  | nil => exact ⟨rfl, fun r => by show spl (32 :: r) = _; rw [spl, if_pos rfl]⟩
  | cons c x ih =>
    have h1 : c ≠ 32 := fun e => h (by simp [e])
    obtain ⟨i1, i2⟩ := ih (fun e => h (List.mem_cons_of_mem _ e))
    constructor
    · rw [spl, if_neg h1, i1]
    · intro r
      show spl (c :: (x ++ 32 :: r)) = _
      rw [spl, if_neg h1, i2]
theorem spl_join : ∀ (r : List (List UInt8)) (x : List UInt8), (∀ y ∈ x :: r, (32 : UInt8) ∉ y) → spl (x ++ Lib.joinTail [32] r) = x :: r := by
  intro r
  induction r with
  | nil =>
    intro x h
    have := (spl_word (h x (by simp))).1
    simpa [Lib.joinTail] using this
  | cons y r ih =>
    intro x h
    have e : x ++ Lib.joinTail [32] (y :: r) = x ++ 32 :: (y ++ Lib.joinTail [32] r) := by simp [Lib.joinTail]
    rw [e, (spl_word (h x (by simp))).2, ih y (fun z hz => h z (List.mem_cons_of_mem _ hz))]
theorem dec_no32 (m : Nat) : (32 : UInt8) ∉ Lib.decDigits m := by
  induction m using Nat.strongRecOn with
  | _ m ih =>
    intro h
    have key : ∀ d, d < 10 → (32 : UInt8) ≠ UInt8.ofNat (48 + d) := by
      intro d hd e
      have := congrArg UInt8.toNat e
      have e2 : (UInt8.ofNat (48 + d)).toNat = 48 + d := by simp; omega
      rw [e2] at this
      have e3 : (32 : UInt8).toNat = 32 := rfl
      omega
    by_cases hs : m < 10
    · rw [Lib.decDigits_one hs] at h
      exact key m hs (by simpa using h)
    · rw [Lib.decDigits, dif_neg hs] at h
      rcases List.mem_append.1 h with h1 | h1
      · exact ih _ (by omega) h1
      · exact key (m % 10) (by omega) (by simpa using h1)
theorem itoa_no32 {n : Int} (h : 0 ≤ n) : (32 : UInt8) ∉ Lib.itoa n := by
  obtain ⟨m, rfl⟩ := Int.eq_ofNat_of_zero_le h
  rw [show ((↑m : Int)) = (m : Int) from rfl, itoa_nat]
  exact dec_no32 m
/-- One word, the i-th. -/
def stepW (i : Nat) (w : List UInt8) (p : Prm) : Prm := ⟨if i = 1 then anum w else p.lv, if i = 3 then anum w else p.wi, if i = 5 then anum w else p.jo, if i = 7 then anum w else p.ov, p.sy || (decide (i = 8) && decide (w = wSy)), p.ch || (decide (8 ≤ i) && decide (w = wCh))⟩
def okW (w : List UInt8) : Bool := decide (0 ≤ anum w ∧ anum w ≤ 9999999)
/-- The words, from the i-th on: none: a number is none of a text. -/
def foldW (i : Nat) (p : Prm) : List (List UInt8) → Option Prm
  | [] => some p
  | w :: r => if okW w = true then foldW (i + 1) (stepW i w p) r else none
/-- The program's Parse: parameters and an error. -/
def pparse (s : List UInt8) : Prm × Int := match foldW 0 prm0 (spl s) with | none => (prm0, 3) | some p => if txtL p = s then (if okP p = true then (p, 0) else (prm0, 2)) else (prm0, 3)
theorem stepW_in {i : Nat} {w : List UInt8} {p : Prm} (h : okW w = true) (hp : inR p) : inR (stepW i w p) := by
  have := of_decide_eq_true (show decide (0 ≤ anum w ∧ anum w ≤ 9999999) = true from h)
  unfold inR at hp ⊢
  unfold stepW
  dsimp only
  refine ⟨?_, ?_, ?_, ?_⟩ <;> split <;> omega
theorem foldW_in : ∀ (l : List (List UInt8)) (i : Nat) (p q : Prm), inR p → foldW i p l = some q → inR q := by
  intro l
  induction l with
  | nil => intro i p q hp h; cases h; exact hp
  | cons w r ih =>
    intro i p q hp h
    unfold foldW at h
    split at h
    · rename_i hw
      exact ih _ _ _ (stepW_in hw hp) h
    · cases h
theorem foldW_words {p : Prm} (h : inR p) : foldW 0 prm0 (spl (txtL p)) = some p := by
  obtain ⟨l, w, j, o, sy, ch⟩ := p
  unfold inR at h
  dsimp only at h
  obtain ⟨⟨h1, h1'⟩, ⟨h2, h2'⟩, ⟨h3, h3'⟩, ⟨h4, h4'⟩⟩ := h
  have hs : spl (txtL ⟨l, w, j, o, sy, ch⟩) = wordsOf ⟨l, w, j, o, sy, ch⟩ := by
    unfold txtL
    have e : wordsOf ⟨l, w, j, o, sy, ch⟩ = wLv :: (wordsOf ⟨l, w, j, o, sy, ch⟩).tail := rfl
    rw [e, Lib.join_cons, spl_join]
    rw [← e]
    intro y hy
    unfold wordsOf at hy
    dsimp only at hy
    have n1 := itoa_no32 h1
    have n2 := itoa_no32 h2
    have n3 := itoa_no32 h3
    have n4 := itoa_no32 h4
    rcases List.mem_append.1 hy with hy | hy
    · rcases List.mem_append.1 hy with hy | hy
      · simp only [List.mem_cons, List.not_mem_nil, or_false] at hy
        rcases hy with rfl | rfl | rfl | rfl | rfl | rfl | rfl | rfl <;> first | assumption | decide
      · cases sy
        · cases hy
        · simp at hy; subst hy; decide
    · cases ch
      · cases hy
      · simp at hy; subst hy; decide
  rw [hs]
  obtain ⟨l, rfl⟩ := Int.eq_ofNat_of_zero_le h1
  obtain ⟨w, rfl⟩ := Int.eq_ofNat_of_zero_le h2
  obtain ⟨j, rfl⟩ := Int.eq_ofNat_of_zero_le h3
  obtain ⟨o, rfl⟩ := Int.eq_ofNat_of_zero_le h4
  have a1 := anum_dec (n := l) (by omega)
  have a2 := anum_dec (n := w) (by omega)
  have a3 := anum_dec (n := j) (by omega)
  have a4 := anum_dec (n := o) (by omega)
  have k1 : okW wLv = true := by decide
  have k2 : okW wWi = true := by decide
  have k3 : okW wJo = true := by decide
  have k4 : okW wOv = true := by decide
  have k5 : okW wSy = true := by decide
  have k6 : okW wCh = true := by decide
  have o1 : okW (Lib.itoa (l : Int)) = true := by unfold okW; rw [a1]; simp; omega
  have o2 : okW (Lib.itoa (w : Int)) = true := by unfold okW; rw [a2]; simp; omega
  have o3 : okW (Lib.itoa (j : Int)) = true := by unfold okW; rw [a3]; simp; omega
  have o4 : okW (Lib.itoa (o : Int)) = true := by unfold okW; rw [a4]; simp; omega
  have c1 : decide (wCh = wSy) = false := by decide
  have c2 : decide (wSy = wCh) = false := by decide
  unfold wordsOf
  dsimp only
  cases sy <;> cases ch <;> simp [foldW, k1, k2, k3, k4, k5, k6, o1, o2, o3, o4, stepW, prm0, a1, a2, a3, a4, c1, c2]
/-- Both read alike. -/
theorem pparse_eq (s : List UInt8) : pparse s = rparse s := by
  unfold pparse rparse
  cases hr : rform s with
  | some p =>
    obtain ⟨e1, e2⟩ := rform_inv hr
    rw [← txtL_flat] at e1
    rw [e1, foldW_words e2]
    dsimp only
    rw [if_pos rfl]
  | none =>
    cases hf : foldW 0 prm0 (spl s) with
    | none => rfl
    | some p =>
      dsimp only
      by_cases ht : txtL p = s
      · exfalso
        have hin := foldW_in _ _ _ _ (by unfold inR prm0; dsimp only; omega) hf
        have := rform_flat hin
        rw [← txtL_flat, ht, hr] at this
        cases this
      · rw [if_neg ht]
theorem rparse_txt {p : Prm} (h : okP p = true) : rparse (txtL p) = (p, 0) := by
  unfold rparse
  rw [txtL_flat, rform_flat (okP_inR h)]
  dsimp only
  rw [if_pos h]
theorem rparse_ok {s : List UInt8} {p : Prm} (h : rparse s = (p, 0)) : okP p = true ∧ txtL p = s := by
  unfold rparse at h
  cases hr : rform s with
  | none => rw [hr] at h; cases h
  | some q =>
    rw [hr] at h
    dsimp only at h
    split at h
    · rename_i hk
      cases h
      exact ⟨hk, by rw [txtL_flat]; exact (rform_inv hr).1.symm⟩
    · cases h
end Go.Proofs.YtmblpmaelglnpaaDoor
