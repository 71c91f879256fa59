/-
  Counts of bytes and of symbols, and strings of one byte, walked.
-/
import Derived.Test.YtgponpjlkebjcaaRows
import Derived.Test.YtgponpjlkebjcaaCountsRef
import Derived.Test.YtgponpjlkebjcaaCommon
import Derived.Deep.Light
import Derived.Shelf.Abstract
import Derived.Shelf.RegionOpen
import Derived.OwnWalkIn
import Derived.TacticsInMore
import Derived.LoopNIn
import Derived.LoopIn
namespace Go.Proofs.Ytgponpjlkebjcaa
open Go.RowKit
set_option linter.unusedSimpArgs false
set_option linter.unusedVariables false
attribute [local go_sem] Oper.semAt_some

/-- A string's bytes as numbers. -/
def bts (s : ByteArray) : List Nat := s.data.toList.map UInt8.toNat
theorem bts_len (s : ByteArray) : (bts s).length = s.size := by simp [bts]
theorem bts_get {s : ByteArray} {k : Nat} (h : k < s.size) : (bts s)[k]'(by rw [bts_len]; exact h) = (s[k]'h).toNat := by simp [bts]; rfl
theorem bts_take_succ {s : ByteArray} {k c : Nat} (h : k < s.size) (hc : (s[k]'h).toNat = c) : (bts s).take (k + 1) = (bts s).take k ++ [c] := by
  rw [List.take_succ_eq_append_getElem (by rw [bts_len]; exact h), bts_get h, hc]
def rBytes (s : ByteArray) : List Int × Int := if 1048576 < s.size then ([], 4) else (tally 256 (bts s), 0)
set_option maxHeartbeats 1000000 in
theorem bytes_1 (s : ByteArray) (w : World) (hl : s.size ≤ 1048576) :
    Calls Try.prog 16 #[.string s] w (ListPost (tally 256 (bts s), 0) w) := by
  have hz : Try.zeroCells61.toList = (List.replicate 256 (0 : Int)).map (Value.int .i64) := by kernel_rfl
  have A0 : Arr (w.alloc (.cells Try.zeroCells61 61)) w.heap.size 61 (tally 256 []) := by
    have := Blk.new w 61 Try.zeroCells61
    rw [hz] at this
    exact this
  go_enter Try.func16, Try.ntmps16
  go_wp2
  go_loopw [11] (fun i wr => ∃ k : Nat, i = .int .i64 k ∧ k ≤ s.size ∧ Arr wr w.heap.size 61 (tally 256 ((bts s).take k)) ∧ Below w.heap.size w wr ∧ w.heap.size < wr.heap.size) (fun i _ => s.size - (intOf i).toNat)
  case atStart => exact ⟨0, rfl, by omega, A0, (Below.refl _ w).alloc (Nat.le_refl _) _, by simp⟩
  case round =>
    clear A0 hz
    obtain ⟨k, rfl, hk, hA, hb, hsz⟩ := hrel
    by_cases hlt : k < s.size
    · obtain ⟨c, hc⟩ : ∃ c : Nat, (s[k]'hlt).toNat = c := ⟨_, rfl⟩
      have hc2 : c < 256 := by rw [← hc]; exact UInt8.toNat_lt _
      have c1 := hA.get (i := c) (by rw [tally_len]; exact hc2)
      have f1 := Blk.frozen hA c
      have hv := tally_le 256 ((bts s).take k) c
      have hbl : ((bts s).take k).length = k := by simp [bts_len]; omega
      rw [hbl] at hv
      obtain ⟨v, hvv⟩ : ∃ v, (tally 256 ((bts s).take k)).getD c 0 = v := ⟨_, rfl⟩
      rw [hvv] at c1 hv
      have HT := Lib.hid (bts_take_succ hlt hc)
      have HV := Lib.hid hvv
      have i0 : (0 : Int) ≤ (k : Int) := by omega
      have i1 : (k : Int) < (s.size : Int) := by omega
      have i2 : (0 : Int) ≤ (c : Int) := by omega
      have i3 : (c : Int) < 256 := by omega
      clear hvv hbl
      go_wp2
      go_roundw
      case rel =>
        refine ⟨k + 1, by go_num, by omega, ?_, hb.setCell (by simp) _, by simpa using hsz⟩
        rw [HT.out, tally_snoc]
        unfold bump
        rw [HV.out]
        exact Arr.set hA c (v + 1)
      case measure => go_light; simp [intOf] <;> omega
    · have hkk : k = s.size := by omega
      have hA2 : Arr wr w.heap.size 61 (tally 256 (bts s)) := by have := hA; rwa [hkk, List.take_of_length_le (by rw [bts_len]; omega)] at this
      clear hkk hA
      go_wp2
      go_ret2
      exact ⟨_, _, by rw [tally_len]; rfl, Blk.row hA2, hb⟩
theorem bytes_p (s : ByteArray) (w : World) (hl : s.size ≤ 9223372036854775807) : Calls Try.prog 16 #[.string s] w (ListPost (rBytes s) w) := by
  unfold rBytes
  by_cases h : 1048576 < s.size
  · rw [if_pos h]
    have h0 : (1048576 : Int) < (s.size : Int) := by omega
    go_enter Try.func16, Try.ntmps16
    go_wp2
    repeat' (first | (go_region <;> go_wp2))
    go_light
    refine bodyPost_ret (v := .tuple #[.slice none 0 0, .int .i64 4]) (by simp [results, Try.results16, go_sem, *]) rfl ⟨none, 0, rfl, .inl rfl, Below.refl _ _⟩
  · rw [if_neg h]
    exact bytes_1 s w (by omega)

set_option maxHeartbeats 1000000 in
theorem rbytes_1 (s : ByteArray) (w : World) (hl : s.size ≤ 1048576) :
    Calls Try.prog 17 #[.string s] w (ListPost (tally 256 (bts s), 0) w) := by
  have hmk : ∀ W, (Instr.makeSlice 22 (.int .i64 256) (.int .i64 256)).run Try.prog W = _ := fun W => mk_ints 256 (by omega) W
  have A0 : Arr (w.alloc (.cells (madeCells #[.int .i64 0] 256) 3)) w.heap.size 3 (tally 256 []) := Arr.made w 256
  go_enter Try.func17, Try.ntmps17
  go_wp2
  go_loopw [5] (fun i wr => ∃ k : Nat, i = .int .i64 k ∧ k ≤ s.size ∧ Arr wr w.heap.size 3 (tally 256 ((bts s).take k)) ∧ Below w.heap.size w wr ∧ w.heap.size < wr.heap.size) (fun i _ => s.size - (intOf i).toNat)
  case atStart => exact ⟨0, rfl, by omega, A0, (Below.refl _ w).alloc (Nat.le_refl _) _, by simp⟩
  case round =>
    clear A0 hmk
    obtain ⟨k, rfl, hk, hA, hb, hsz⟩ := hrel
    by_cases hlt : k < s.size
    · obtain ⟨c, hc⟩ : ∃ c : Nat, (s[k]'hlt).toNat = c := ⟨_, rfl⟩
      have hc2 : c < 256 := by rw [← hc]; exact UInt8.toNat_lt _
      have c1 := hA.get (i := c) (by rw [tally_len]; exact hc2)
      have f1 := Blk.frozen hA c
      have hv := tally_le 256 ((bts s).take k) c
      have hbl : ((bts s).take k).length = k := by simp [bts_len]; omega
      rw [hbl] at hv
      obtain ⟨v, hvv⟩ : ∃ v, (tally 256 ((bts s).take k)).getD c 0 = v := ⟨_, rfl⟩
      rw [hvv] at c1 hv
      have HT := Lib.hid (bts_take_succ hlt hc)
      have HV := Lib.hid hvv
      have i0 : (0 : Int) ≤ (k : Int) := by omega
      have i1 : (k : Int) < (s.size : Int) := by omega
      have i2 : (0 : Int) ≤ (c : Int) := by omega
      have i3 : (c : Int) < 256 := by omega
      clear hvv hbl
      go_wp2
      go_roundw
      case rel =>
        refine ⟨k + 1, by go_num, by omega, ?_, hb.setCell (by simp) _, by simpa using hsz⟩
        rw [HT.out, tally_snoc]
        unfold bump
        rw [HV.out]
        exact Arr.set hA c (v + 1)
      case measure => go_light; simp [intOf] <;> omega
    · have hkk : k = s.size := by omega
      have hA2 : Arr wr w.heap.size 3 (tally 256 (bts s)) := by have := hA; rwa [hkk, List.take_of_length_le (by rw [bts_len]; omega)] at this
      clear hkk hA
      go_wp2
      go_ret2
      exact ⟨_, _, by rw [tally_len]; rfl, Blk.row hA2, hb⟩
theorem rbytes_p (s : ByteArray) (w : World) (hl : s.size ≤ 9223372036854775807) : Calls Try.prog 17 #[.string s] w (ListPost (rBytes s) w) := by
  unfold rBytes
  by_cases h : 1048576 < s.size
  · rw [if_pos h]
    have h0 : (1048576 : Int) < (s.size : Int) := by omega
    go_enter Try.func17, Try.ntmps17
    go_wp2
    repeat' (first | (go_region <;> go_wp2))
    go_light
    refine bodyPost_ret (v := .tuple #[.slice none 0 0, .int .i64 4]) (by simp [results, Try.results17, go_sem, *]) rfl ⟨none, 0, rfl, .inl rfl, Below.refl _ _⟩
  · rw [if_neg h]
    exact rbytes_1 s w (by omega)

/-! Symbols -/
def nats (xs : List Int) : List Nat := xs.map Int.toNat
def okS (m : Nat) (xs : List Int) : Bool := xs.all fun x => decide (0 ≤ x) && decide (x ≤ (m : Int))
def rSyms1 (xs : List Int) (m : Nat) : List Int × Int := if okS m xs = true then (tally (m + 1) (nats xs), 0) else ([], 2)
theorem rSyms1_bad {xs : List Int} {m : Nat} (h : okS m xs = false) : rSyms1 xs m = ([], 2) := by unfold rSyms1; rw [h]; rfl
theorem rSyms1_ok {xs : List Int} {m : Nat} (h : okS m xs = true) : rSyms1 xs m = (tally (m + 1) (nats xs), 0) := by unfold rSyms1; rw [if_pos h]
def rSyms (xs : List Int) (m : Int) : List Int × Int := if m < 0 ∨ 255 < m then ([], 2) else if 1048576 < xs.length then ([], 4) else rSyms1 xs m.toNat
theorem nats_take_succ {xs : List Int} {k c : Nat} (h : k < xs.length) (hc : xs.getD k 0 = (c : Int)) : (nats xs).take (k + 1) = (nats xs).take k ++ [c] := by
  simp [h] at hc
  rw [List.take_succ_eq_append_getElem (by simpa [nats] using h)]
  simp [nats, hc]
theorem okS_take_succ {m : Nat} {xs : List Int} {k : Nat} {x : Int} (h : k < xs.length) (hx : xs.getD k 0 = x) : okS m (xs.take (k + 1)) = (okS m (xs.take k) && (decide (0 ≤ x) && decide (x ≤ (m : Int)))) := by
  simp [h] at hx
  rw [List.take_succ_eq_append_getElem h]
  simp [okS, hx]
theorem okS_bad {m : Nat} {xs : List Int} {k : Nat} {x : Int} (h : k < xs.length) (hx : xs.getD k 0 = x) (hb : ¬ (0 ≤ x ∧ x ≤ (m : Int))) : okS m xs = false := by
  simp [h] at hx
  rw [← Bool.not_eq_true]
  intro hr
  simp [okS] at hr
  have := hr xs[k] (by simp)
  rw [hx] at this
  exact hb this
theorem okS_lt {m : Nat} {xs : List Int} (h : okS m xs = true) : ∀ k ∈ nats xs, k < m + 1 := by
  intro k hk
  simp only [nats, List.mem_map] at hk
  obtain ⟨x, hx, rfl⟩ := hk
  simp [okS] at h
  have := h x hx
  omega

set_option maxHeartbeats 1000000 in
theorem symbols_1 (a : Option Addr) (xs : List Int) (cap : Nat) (m : Nat) (w : World) (ha : Row .i64 w a xs) (hl : xs.length ≤ 1048576) (hm : m ≤ 255) :
    Calls Try.prog 18 #[.slice a xs.length cap, .int .i64 (m : Int)] w (ListPost (rSyms1 xs m) w) := by
  have g0 : ¬ (m : Int) < 0 := by omega
  have g1 : ¬ (256 : Int) ≤ (m : Int) := by omega
  have g2 : ¬ (255 : Int) < (m : Int) := by omega
  have g3 : ¬ (1048576 : Int) < (xs.length : Int) := by omega
  have hz : Try.zeroCells61.toList = (List.replicate 256 (0 : Int)).map (Value.int .i64) := by kernel_rfl
  have A0 : Arr (w.alloc (.cells Try.zeroCells61 61)) w.heap.size 61 (tally 256 []) := by
    have := Blk.new w 61 Try.zeroCells61
    rw [hz] at this
    exact this
  go_enter Try.func18, Try.ntmps18
  go_wp2
  go_loopw [20] (fun i wr => ∃ k : Nat, i = .int .i64 k ∧ k ≤ xs.length ∧ Arr wr w.heap.size 61 (tally 256 ((nats xs).take k)) ∧ Hid (okS m (xs.take k) = true) ∧ Below w.heap.size w wr ∧ w.heap.size < wr.heap.size) (fun i _ => xs.length - (intOf i).toNat)
  case atStart => exact ⟨0, rfl, by omega, A0, rfl, (Below.refl _ w).alloc (Nat.le_refl _) _, by simp⟩
  case round =>
    clear A0 hz
    obtain ⟨k, rfl, hk, hA, HO, hb, hsz⟩ := hrel
    by_cases hlt : k < xs.length
    · have hks := fun c hc => nats_take_succ (c := c) hlt hc
      have hos := fun x hx => okS_take_succ (m := m) hlt (x := x) hx
      have hbad := fun x hx => okS_bad (m := m) hlt (x := x) hx
      rw [HO.out] at hos
      obtain ⟨b1, o1, rfl, hb1, hc1⟩ := (ha.later hb).at hlt
      have c1 := hc1 k hlt
      obtain ⟨x, hx1⟩ : ∃ x, xs.getD k 0 = x := ⟨_, rfl⟩
      rw [hx1] at c1
      have HX1 := Lib.hid hx1
      clear hc1 hx1
      have i01 : (0 : Int) ≤ (k : Int) := by omega
      have i11 : (k : Int) < (xs.length : Int) := by omega
      by_cases hx0 : x < 0
      · have E1 := Lib.hid (hbad x HX1.out (by omega))
        clear hbad hos hks
        go_wp2
        go_ret2
        exact ⟨none, 0, by rw [rSyms1_bad E1.out]; rfl, by rw [rSyms1_bad E1.out]; exact .inl rfl, hb⟩
      · by_cases hx1 : (m : Int) < x
        · have E1 := Lib.hid (hbad x HX1.out (by omega))
          clear hbad hos hks
          go_wp2
          go_ret2
          exact ⟨none, 0, by rw [rSyms1_bad E1.out]; rfl, by rw [rSyms1_bad E1.out]; exact .inl rfl, hb⟩
        · obtain ⟨c, rfl⟩ : ∃ c : Nat, x = (c : Int) := ⟨x.toNat, by omega⟩
          have hcm : c ≤ m := by omega
          have c2 := hA.get (i := c) (by rw [tally_len]; omega)
          have f2 := Blk.frozen hA c
          have hv := tally_le 256 ((nats xs).take k) c
          have hbl : ((nats xs).take k).length = k := by simp [nats]; omega
          rw [hbl] at hv
          obtain ⟨v, hvv⟩ : ∃ v, (tally 256 ((nats xs).take k)).getD c 0 = v := ⟨_, rfl⟩
          rw [hvv] at c2 hv
          have HT := Lib.hid (hks c HX1.out)
          have HV := Lib.hid hvv
          have HU := Lib.hid (hos c HX1.out)
          clear hvv hbl hbad hos hks
          have i2 : (0 : Int) ≤ (c : Int) := by omega
          have i3 : (c : Int) < 256 := by omega
          have i4 : (c : Int) < (m : Int) + 1 := by omega
          have i5 : ¬ (m : Int) < (c : Int) := by omega
          go_wp2
          go_roundw
          case rel =>
            refine ⟨k + 1, by go_num, by omega, ?_, by show _ = _; rw [HU.out]; simp; omega, hb.setCell (by simp) _, by simpa using hsz⟩
            rw [HT.out, tally_snoc]
            unfold bump
            rw [HV.out]
            exact Arr.set hA c (v + 1)
          case measure => go_light; simp [intOf] <;> omega
    · have hkk : k = xs.length := by omega
      have hA2 : Arr wr w.heap.size 61 (tally 256 (nats xs)) := by have := hA; rwa [hkk, List.take_of_length_le (by simp [nats])] at this
      have E1 := Lib.hid (show okS m xs = true by have := HO.out; rwa [hkk, List.take_length] at this)
      clear hkk hA
      have j0 : (m : Int) + 1 ≤ 256 := by omega
      have j1 : (0 : Int) ≤ (m : Int) + 1 := by omega
      have hr2 := (Blk.row hA2).take (m + 1)
      rw [tally_take 256 (m + 1) _ (by omega) (okS_lt E1.out)] at hr2
      go_wp2
      go_ret2
      refine ⟨some ⟨w.heap.size, 0, none⟩, m + 1, by rw [rSyms1_ok E1.out, tally_len]; rfl, by rw [rSyms1_ok E1.out]; exact hr2, hb⟩
theorem symbols_p (a : Option Addr) (xs : List Int) (cap : Nat) (m : Int) (w : World) (ha : Row .i64 w a xs) (hl : xs.length ≤ 9223372036854775807) : Calls Try.prog 18 #[.slice a xs.length cap, .int .i64 m] w (ListPost (rSyms xs m) w) := by
  unfold rSyms
  by_cases h1 : m < 0
  · rw [if_pos (.inl h1)]
    go_enter Try.func18, Try.ntmps18
    go_wp2
    repeat' (first | (go_region <;> go_wp2))
    go_light
    refine bodyPost_ret (v := .tuple #[.slice none 0 0, .int .i64 2]) (by simp [results, Try.results18, go_sem, *]) rfl ⟨none, 0, rfl, .inl rfl, Below.refl _ _⟩
  · by_cases h2 : 255 < m
    · rw [if_pos (.inr h2)]
      have h3 : (256 : Int) ≤ m := by omega
      go_enter Try.func18, Try.ntmps18
      go_wp2
      repeat' (first | (go_region <;> go_wp2))
      go_light
      refine bodyPost_ret (v := .tuple #[.slice none 0 0, .int .i64 2]) (by simp [results, Try.results18, go_sem, *]) rfl ⟨none, 0, rfl, .inl rfl, Below.refl _ _⟩
    · rw [if_neg (by omega)]
      by_cases h4 : 1048576 < xs.length
      · rw [if_pos h4]
        have h5 : (1048576 : Int) < (xs.length : Int) := by omega
        have h3 : ¬ (256 : Int) ≤ m := by omega
        go_enter Try.func18, Try.ntmps18
        go_wp2
        repeat' (first | (go_region <;> go_wp2))
        go_light
        refine bodyPost_ret (v := .tuple #[.slice none 0 0, .int .i64 4]) (by simp [results, Try.results18, go_sem, *]) rfl ⟨none, 0, rfl, .inl rfl, Below.refl _ _⟩
      · rw [if_neg h4]
        obtain ⟨m, rfl⟩ : ∃ n : Nat, m = (n : Int) := ⟨m.toNat, by omega⟩
        exact symbols_1 a xs cap m w ha (by omega) (by omega)

set_option maxHeartbeats 1000000 in
theorem rsymbols_1 (a : Option Addr) (xs : List Int) (cap : Nat) (m : Nat) (w : World) (ha : Row .i64 w a xs) (hl : xs.length ≤ 1048576) (hm : m ≤ 255) :
    Calls Try.prog 19 #[.slice a xs.length cap, .int .i64 (m : Int)] w (ListPost (rSyms1 xs m) w) := by
  have g0 : ¬ (m : Int) < 0 := by omega
  have g1 : ¬ (256 : Int) ≤ (m : Int) := by omega
  have g2 : ¬ (255 : Int) < (m : Int) := by omega
  have g3 : ¬ (1048576 : Int) < (xs.length : Int) := by omega
  have hmk : ∀ W, (Instr.makeSlice 22 (.int .i64 ((m : Int) + 1)) (.int .i64 ((m : Int) + 1))).run Try.prog W = _ := fun W => mk_ints (m + 1) (by omega) W
  have A0 : Arr (w.alloc (.cells (madeCells #[.int .i64 0] (m + 1)) 3)) w.heap.size 3 (tally (m + 1) []) := Arr.made w (m + 1)
  go_enter Try.func19, Try.ntmps19
  go_wp2
  go_loopw [7] (fun i wr => ∃ k : Nat, i = .int .i64 k ∧ k ≤ xs.length ∧ Arr wr w.heap.size 3 (tally (m + 1) ((nats xs).take k)) ∧ Hid (okS m (xs.take k) = true) ∧ Below w.heap.size w wr ∧ w.heap.size < wr.heap.size) (fun i _ => xs.length - (intOf i).toNat)
  case atStart => exact ⟨0, rfl, by omega, A0, rfl, (Below.refl _ w).alloc (Nat.le_refl _) _, by simp⟩
  case round =>
    clear A0 hmk
    obtain ⟨k, rfl, hk, hA, HO, hb, hsz⟩ := hrel
    by_cases hlt : k < xs.length
    · have hks := fun c hc => nats_take_succ (c := c) hlt hc
      have hos := fun x hx => okS_take_succ (m := m) hlt (x := x) hx
      have hbad := fun x hx => okS_bad (m := m) hlt (x := x) hx
      rw [HO.out] at hos
      obtain ⟨b1, o1, rfl, hb1, hc1⟩ := (ha.later hb).at hlt
      have c1 := hc1 k hlt
      obtain ⟨x, hx1⟩ : ∃ x, xs.getD k 0 = x := ⟨_, rfl⟩
      rw [hx1] at c1
      have HX1 := Lib.hid hx1
      clear hc1 hx1
      have i01 : (0 : Int) ≤ (k : Int) := by omega
      have i11 : (k : Int) < (xs.length : Int) := by omega
      by_cases hx0 : x < 0
      · have E1 := Lib.hid (hbad x HX1.out (by omega))
        clear hbad hos hks
        go_wp2
        go_ret2
        exact ⟨none, 0, by rw [rSyms1_bad E1.out]; rfl, by rw [rSyms1_bad E1.out]; exact .inl rfl, hb⟩
      · by_cases hx1 : (m : Int) < x
        · have E1 := Lib.hid (hbad x HX1.out (by omega))
          clear hbad hos hks
          go_wp2
          go_ret2
          exact ⟨none, 0, by rw [rSyms1_bad E1.out]; rfl, by rw [rSyms1_bad E1.out]; exact .inl rfl, hb⟩
        · obtain ⟨c, rfl⟩ : ∃ c : Nat, x = (c : Int) := ⟨x.toNat, by omega⟩
          have hcm : c ≤ m := by omega
          have c2 := hA.get (i := c) (by rw [tally_len]; omega)
          have f2 := Blk.frozen hA c
          have hv := tally_le (m + 1) ((nats xs).take k) c
          have hbl : ((nats xs).take k).length = k := by simp [nats]; omega
          rw [hbl] at hv
          obtain ⟨v, hvv⟩ : ∃ v, (tally (m + 1) ((nats xs).take k)).getD c 0 = v := ⟨_, rfl⟩
          rw [hvv] at c2 hv
          have HT := Lib.hid (hks c HX1.out)
          have HV := Lib.hid hvv
          have HU := Lib.hid (hos c HX1.out)
          clear hvv hbl hbad hos hks
          have i2 : (0 : Int) ≤ (c : Int) := by omega
          have i3 : (c : Int) < 256 := by omega
          have i4 : (c : Int) < (m : Int) + 1 := by omega
          have i5 : ¬ (m : Int) < (c : Int) := by omega
          go_wp2
          go_roundw
          case rel =>
            refine ⟨k + 1, by go_num, by omega, ?_, by show _ = _; rw [HU.out]; simp; omega, hb.setCell (by simp) _, by simpa using hsz⟩
            rw [HT.out, tally_snoc]
            unfold bump
            rw [HV.out]
            exact Arr.set hA c (v + 1)
          case measure => go_light; simp [intOf] <;> omega
    · have hkk : k = xs.length := by omega
      have hA2 : Arr wr w.heap.size 3 (tally (m + 1) (nats xs)) := by have := hA; rwa [hkk, List.take_of_length_le (by simp [nats])] at this
      have E1 := Lib.hid (show okS m xs = true by have := HO.out; rwa [hkk, List.take_length] at this)
      clear hkk hA
      have j0 : (m : Int) + 1 ≤ 256 := by omega
      have j1 : (0 : Int) ≤ (m : Int) + 1 := by omega
      have hr2 := Blk.row hA2
      go_wp2
      go_ret2
      refine ⟨some ⟨w.heap.size, 0, none⟩, m + 1, by rw [rSyms1_ok E1.out, tally_len]; rfl, by rw [rSyms1_ok E1.out]; exact hr2, hb⟩
theorem rsymbols_p (a : Option Addr) (xs : List Int) (cap : Nat) (m : Int) (w : World) (ha : Row .i64 w a xs) (hl : xs.length ≤ 9223372036854775807) : Calls Try.prog 19 #[.slice a xs.length cap, .int .i64 m] w (ListPost (rSyms xs m) w) := by
  unfold rSyms
  by_cases h1 : m < 0
  · rw [if_pos (.inl h1)]
    go_enter Try.func19, Try.ntmps19
    go_wp2
    repeat' (first | (go_region <;> go_wp2))
    go_light
    refine bodyPost_ret (v := .tuple #[.slice none 0 0, .int .i64 2]) (by simp [results, Try.results19, go_sem, *]) rfl ⟨none, 0, rfl, .inl rfl, Below.refl _ _⟩
  · by_cases h2 : 255 < m
    · rw [if_pos (.inr h2)]
      have h3 : (256 : Int) ≤ m := by omega
      go_enter Try.func19, Try.ntmps19
      go_wp2
      repeat' (first | (go_region <;> go_wp2))
      go_light
      refine bodyPost_ret (v := .tuple #[.slice none 0 0, .int .i64 2]) (by simp [results, Try.results19, go_sem, *]) rfl ⟨none, 0, rfl, .inl rfl, Below.refl _ _⟩
    · rw [if_neg (by omega)]
      by_cases h4 : 1048576 < xs.length
      · rw [if_pos h4]
        have h5 : (1048576 : Int) < (xs.length : Int) := by omega
        have h3 : ¬ (256 : Int) ≤ m := by omega
        go_enter Try.func19, Try.ntmps19
        go_wp2
        repeat' (first | (go_region <;> go_wp2))
        go_light
        refine bodyPost_ret (v := .tuple #[.slice none 0 0, .int .i64 4]) (by simp [results, Try.results19, go_sem, *]) rfl ⟨none, 0, rfl, .inl rfl, Below.refl _ _⟩
      · rw [if_neg h4]
        obtain ⟨m, rfl⟩ : ∃ n : Nat, m = (n : Int) := ⟨m.toNat, by omega⟩
        exact rsymbols_1 a xs cap m w ha (by omega) (by omega)

/-! One byte all over -/
def rSame (s : ByteArray) : Bool := decide (0 < s.size) && (bts s).all fun c => c == (bts s).headD 0
theorem rSame_bad {s : ByteArray} {k c d : Nat} (h : k < s.size) (h0 : 0 < s.size) (hc : (s[k]'h).toNat = c) (hd : (s[0]'h0).toNat = d) (hne : ¬ c = d) : rSame s = false := by
  have e0 : (bts s).headD 0 = d := by
    have := bts_get h0
    rw [hd] at this
    cases hb : bts s with
    | nil => rw [← bts_len, hb] at h0; simp at h0
    | cons x r => simp [hb] at this ⊢; exact this
  rw [← Bool.not_eq_true]
  intro hr
  simp only [rSame, Bool.and_eq_true, List.all_eq_true] at hr
  have := hr.2 c (by rw [← hc, ← bts_get h]; simp)
  rw [e0] at this
  simp at this
  exact hne this
theorem rSame_good {s : ByteArray} {d : Nat} (h0 : 0 < s.size) (hd : (s[0]'h0).toNat = d) (ha : (bts s).all (fun c => c == d) = true) : rSame s = true := by
  have e0 : (bts s).headD 0 = d := by
    have := bts_get h0
    rw [hd] at this
    cases hb : bts s with
    | nil => rw [← bts_len, hb] at h0; simp at h0
    | cons x r => simp [hb] at this ⊢; exact this
  unfold rSame
  rw [e0, ha]
  simp [h0]
theorem size_zero {s : ByteArray} (h : ¬ 0 < s.size) : s = ByteArray.empty := by
  have : s.size = 0 := by omega
  simpa using this
theorem bne_nil {s : ByteArray} (h : 0 < s.size) : s.toList.isEmpty = false := by
  rw [ByteArray.toList_eq, List.isEmpty_eq_false_iff]
  intro he
  have h2 : s.data.size = 0 := by rw [← Array.length_toList, he]; rfl
  have h3 : s.size = 0 := h2
  omega

set_option maxHeartbeats 1000000 in
theorem same_1 (s : ByteArray) (w : World) (hl : s.size ≤ 9223372036854775807) (h0 : 0 < s.size) :
    Calls Try.prog 21 #[.string s] w fun e w' => e = .returned (.bool (rSame s)) ∧ Below w.heap.size w w' := by
  have hne := bne_nil h0
  go_enter Try.func21, Try.ntmps21
  go_wp2
  obtain ⟨d, hd⟩ : ∃ d : Nat, (s[0]'h0).toNat = d := ⟨_, rfl⟩
  go_loopw [6] (fun i wr => ∃ k : Nat, i = .int .i64 k ∧ 0 ≤ k ∧ k ≤ s.size ∧ Hid (((bts s).take k).all (fun c => c == d) = true) ∧ Below w.heap.size w wr) (fun i _ => s.size - (intOf i).toNat)
  case atStart => exact ⟨0, rfl, by omega, by omega, rfl, Below.refl _ _⟩
  case round =>
    obtain ⟨k, rfl, hk0, hk, HS, hb⟩ := hrel
    have j1 : (0 : Int) < (s.size : Int) := by omega
    by_cases hlt : k < s.size
    · obtain ⟨c, hc⟩ : ∃ c : Nat, (s[k]'hlt).toNat = c := ⟨_, rfl⟩
      have HT := Lib.hid (bts_take_succ hlt hc)
      have HB := Lib.hid (fun hcd => rSame_bad (c := c) (d := d) hlt h0 hc hd hcd)
      have i0 : (0 : Int) ≤ (k : Int) := by omega
      have i1 : (k : Int) < (s.size : Int) := by omega
      by_cases hcd : c = d
      · have e2 : ((c : Int) != (d : Int)) = false := by simp; omega
        go_wp2
        go_quiet (fail)
        go_wp2
        go_roundw
        case rel => exact ⟨k + 1, by go_num, by omega, by omega, by show _ = _; rw [HT.out, List.all_append, HS.out]; simp [hcd], below_drewN hb _⟩
        case measure => go_light; simp [intOf] <;> omega
      · have e2 : ((c : Int) != (d : Int)) = true := by simp; omega
        have E1 := Lib.hid (HB.out hcd)
        go_wp2
        go_quiet (fail)
        go_wp2
        go_ret
        exact ⟨by rw [E1.out]; rfl, below_drewN hb _⟩
    · have hkk : k = s.size := by omega
      have E1 := Lib.hid (rSame_good h0 hd (by have := HS.out; rwa [hkk, List.take_of_length_le (by rw [bts_len]; omega)] at this))
      clear hkk
      go_wp2
      go_ret
      exact ⟨by rw [E1.out]; rfl, hb⟩
theorem same_p (s : ByteArray) (w : World) (hl : s.size ≤ 9223372036854775807) : Calls Try.prog 21 #[.string s] w fun e w' => e = .returned (.bool (rSame s)) ∧ Below w.heap.size w w' := by
  by_cases h0 : 0 < s.size
  · exact same_1 s w hl h0
  · have := size_zero h0
    subst this
    have e : rSame ByteArray.empty = false := by decide
    rw [e]
    clear h0
    go_enter Try.func21, Try.ntmps21
    go_wp2
    repeat' (first | (go_region <;> go_wp2) | (refine wp_loop_rounds 2 ?_; rw [rounds_succ]; go_wp2) | (rw [rounds_succ]; go_wp2))
    all_goals go_light
    all_goals (try simp only [beq_iff_eq, beq_eq_false_iff_ne, bne_iff_ne, bne_eq_false_iff_eq, ne_eq] at *)
    all_goals
      refine bodyPost_ret (v := .bool false) (by simp [results, Try.results21, go_sem, *]) rfl ⟨rfl, ?_⟩
      repeat' (first | exact Below.refl _ _ | refine Below.drew ?_ | refine below_drewN ?_ _ | refine Below.alloc ?_ (by first | omega | (simp <;> omega)) _ | refine Below.setCell ?_ (by first | omega | (simp <;> omega)) _ | refine Below.trans ?_ (Below.mono (by assumption) (by first | omega | (simp <;> omega))))

set_option maxHeartbeats 1000000 in
theorem rsame_1 (s : ByteArray) (w : World) (hl : s.size ≤ 9223372036854775807) (h0 : 0 < s.size) :
    Calls Try.prog 22 #[.string s] w fun e w' => e = .returned (.bool (rSame s)) ∧ Below w.heap.size w w' := by
  have hne := bne_nil h0
  go_enter Try.func22, Try.ntmps22
  go_wp2
  obtain ⟨d, hd⟩ : ∃ d : Nat, (s[0]'h0).toNat = d := ⟨_, rfl⟩
  go_loopw [3] (fun i wr => ∃ k : Nat, i = .int .i64 k ∧ 1 ≤ k ∧ k ≤ s.size ∧ Hid (((bts s).take k).all (fun c => c == d) = true) ∧ Below w.heap.size w wr) (fun i _ => s.size - (intOf i).toNat)
  case atStart => exact ⟨1, rfl, by omega, by omega, by show _ = _; rw [bts_take_succ (k := 0) h0 hd]; simp, Below.refl _ _⟩
  case round =>
    obtain ⟨k, rfl, hk0, hk, HS, hb⟩ := hrel
    have j1 : (0 : Int) < (s.size : Int) := by omega
    by_cases hlt : k < s.size
    · obtain ⟨c, hc⟩ : ∃ c : Nat, (s[k]'hlt).toNat = c := ⟨_, rfl⟩
      have HT := Lib.hid (bts_take_succ hlt hc)
      have HB := Lib.hid (fun hcd => rSame_bad (c := c) (d := d) hlt h0 hc hd hcd)
      have i0 : (0 : Int) ≤ (k : Int) := by omega
      have i1 : (k : Int) < (s.size : Int) := by omega
      by_cases hcd : c = d
      · have e2 : ((c : Int) != (d : Int)) = false := by simp; omega
        go_wp2
        go_quiet (fail)
        go_wp2
        go_roundw
        case rel => exact ⟨k + 1, by go_num, by omega, by omega, by show _ = _; rw [HT.out, List.all_append, HS.out]; simp [hcd], below_drewN hb _⟩
        case measure => go_light; simp [intOf] <;> omega
      · have e2 : ((c : Int) != (d : Int)) = true := by simp; omega
        have E1 := Lib.hid (HB.out hcd)
        go_wp2
        go_quiet (fail)
        go_wp2
        go_ret
        exact ⟨by rw [E1.out]; rfl, below_drewN hb _⟩
    · have hkk : k = s.size := by omega
      have E1 := Lib.hid (rSame_good h0 hd (by have := HS.out; rwa [hkk, List.take_of_length_le (by rw [bts_len]; omega)] at this))
      clear hkk
      go_wp2
      go_ret
      exact ⟨by rw [E1.out]; rfl, hb⟩
theorem rsame_p (s : ByteArray) (w : World) (hl : s.size ≤ 9223372036854775807) : Calls Try.prog 22 #[.string s] w fun e w' => e = .returned (.bool (rSame s)) ∧ Below w.heap.size w w' := by
  by_cases h0 : 0 < s.size
  · exact rsame_1 s w hl h0
  · have := size_zero h0
    subst this
    have e : rSame ByteArray.empty = false := by decide
    rw [e]
    clear h0
    go_enter Try.func22, Try.ntmps22
    go_wp2
    repeat' (first | (go_region <;> go_wp2) | (refine wp_loop_rounds 2 ?_; rw [rounds_succ]; go_wp2) | (rw [rounds_succ]; go_wp2))
    all_goals go_light
    all_goals (try simp only [beq_iff_eq, beq_eq_false_iff_ne, bne_iff_ne, bne_eq_false_iff_eq, ne_eq] at *)
    all_goals
      refine bodyPost_ret (v := .bool false) (by simp [results, Try.results22, go_sem, *]) rfl ⟨rfl, ?_⟩
      repeat' (first | exact Below.refl _ _ | refine Below.drew ?_ | refine below_drewN ?_ _ | refine Below.alloc ?_ (by first | omega | (simp <;> omega)) _ | refine Below.setCell ?_ (by first | omega | (simp <;> omega)) _ | refine Below.trans ?_ (Below.mono (by assumption) (by first | omega | (simp <;> omega))))
end Go.Proofs.Ytgponpjlkebjcaa
