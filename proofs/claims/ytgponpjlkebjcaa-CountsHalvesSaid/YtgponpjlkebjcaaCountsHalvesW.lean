/-
  CountsHalves, walked.
-/
import Derived.Test.YtgponpjlkebjcaaRows
import Derived.Test.YtgponpjlkebjcaaCountsKnownW
import Derived.Test.YtgponpjlkebjcaaMod
import Derived.Test.YtgponpjlkebjcaaCommon
import Derived.Deep.Light
import Derived.Shelf.Abstract
import Derived.Shelf.RegionOpen
import Derived.OwnWalkIn
import Derived.TacticsInMore
import Derived.LoopNIn
import Derived.LoopIn
namespace Go.Proofs.Ytgponpjlkebjcaa
open Go.RowKit
set_option linter.unusedSimpArgs false
set_option linter.unusedVariables false
attribute [local go_sem] Oper.semAt_some

/-- All from 0 to a bound. -/
def upTo (m : Int) (xs : List Int) : Prop := ∀ k, k < xs.length → 0 ≤ xs.getD k 0 ∧ xs.getD k 0 ≤ m
theorem upTo_half {xs : List Int} {j : Nat} (h : upTo ((2 : Int) ^ (j + 1)) xs) : upTo ((2 : Int) ^ j) (hlv xs) := by
  intro k hk
  rw [hlv_len] at hk
  have h1 := h k hk
  rw [hlv_get hk rfl]
  rw [Int.pow_succ] at h1
  omega
theorem upTo_ok {m : Int} {xs : List Int} (hl : xs.length ≤ 60) (h : upTo m xs) (hm : m ≤ 1048576) : cchk xs = 0 := by
  have hr : rng xs = true := by
    unfold rng
    rw [List.all_eq_true]
    intro x hx
    obtain ⟨k, hk, rfl⟩ := List.getElem_of_mem hx
    have := h k hk
    rw [List.getD_eq_getElem?_getD, List.getElem?_eq_getElem hk] at this
    simp at this ⊢
    omega
  have key : ∀ (ys : List Int), upTo m ys → ys.sum ≤ 1048576 * ys.length := by
    intro ys
    induction ys with
    | nil => intro _; simp
    | cons y r ih =>
      intro hy
      have h0 := hy 0 (by simp)
      have h1 := ih (fun k hk => by have := hy (k + 1) (by simpa using hk); simpa using this)
      simp at h0
      simp only [List.sum_cons, List.length_cons]
      push_cast
      omega
  exact cchk_zero (by omega) hr (by have := key xs h; omega)
def mods (xs : List Int) : List Int := xs.map fun n => n % 1000001
theorem mods_upTo (xs : List Int) : upTo ((2 : Int) ^ 20) (mods xs) := by
  intro k hk
  simp only [mods, List.length_map] at hk
  have : (mods xs).getD k 0 = xs[k] % 1000001 := by simp [mods, hk]
  rw [this]
  have h1 := Int.emod_nonneg xs[k] (b := 1000001) (by omega)
  have h2 := Int.emod_lt_of_pos xs[k] (b := 1000001) (by omega)
  omega
theorem mods_take_succ {xs : List Int} {k : Nat} {x : Int} (h : k < xs.length) (hx : xs.getD k 0 = x) : mods (xs.take (k + 1)) = mods (xs.take k) ++ [x % 1000001] := by
  simp [h] at hx
  rw [List.take_succ_eq_append_getElem h, hx]
  simp [mods]
set_option maxRecDepth 100000 in
set_option maxHeartbeats 4000000 in
theorem countsHalves_w (a : Option Addr) (xs : List Int) (cap : Nat) (w : World) (ha : Row .i64 w a xs) (hl : xs.length ≤ 9223372036854775807) :
    Calls Try.prog 6 #[.slice a xs.length cap] w fun e w' => e = .returned (.bool true) ∧ Below w.heap.size w w' := by
  obtain ⟨i0, hi, hz0, hz1, hz2⟩ := info_parts infoInt
  go_enter Try.func6, Try.ntmps6
  go_wp2_with ((go_at_call 5; refine (countsKnown_w _).mono ?_; rintro e w1 ⟨rfl, hb⟩; have hsz := hb.size; (try simp at hsz)))
  go_loopw [4, 5] (fun v i wr => ∃ (k : Nat) (vs : List Int), k ≤ xs.length ∧ k ≤ 60 ∧ i = .int .i64 k ∧ wr.ownsRow w.heap.size 3 1 v vs.length (vs.map (Value.int .i64)) ∧ Hid (vs = mods (xs.take k)) ∧ vs.length = k ∧ Below w.heap.size w wr) (fun _ i _ => 60 - (intOf i).toNat)
  case atStart => exact ⟨0, [], by omega, by omega, rfl, World.ownsRow_nil _ _ _ _, rfl, rfl, hb⟩
  case round =>
    clear hsz hb
    obtain ⟨k, vs, hk, hk6, rfl, hown, HS, hvl, hb⟩ := hrel
    by_cases hlt : k < xs.length ∧ k < 60
    · obtain ⟨hlt, hl6⟩ := hlt
      have hsu := fun x hx => mods_take_succ (x := x) hlt hx
      rw [← HS.out] at hsu
      obtain ⟨b1, o1, rfl, hb1, hc1⟩ := (ha.later hb).at hlt
      have c1 := hc1 k hlt
      obtain ⟨x, hx1⟩ : ∃ x, xs.getD k 0 = x := ⟨_, rfl⟩
      rw [hx1] at c1
      have HX1 := Lib.hid hx1
      clear hc1 hx1
      have i01 : (0 : Int) ≤ (k : Int) := by omega
      have i11 : (k : Int) < (xs.length : Int) := by omega
      have HU := Lib.hid (hsu x HX1.out)
      have j1 : (k : Int) < 60 := by omega
      clear hsu
      go_wp2_with (first | (go_at_call 41; refine (modK _ _ (by omega) (by omega) _).mono ?_; rintro e w2 ⟨rfl, hb2⟩; have hsz2 := hb2.size; have hown2 := ownsRow_later hown hb2) | (at_builtin; refine wpList_append_own _ rfl _ _ 22 rfl w.heap.size 3 i0 (.int .i64 0) 1 8 Try.underlying22 hi hz0 hz1 hz2 rfl (by decide) _ _ _ rfl (hown2.alloc _) ⟨w2.heap.size, 0, none⟩ 1 1 [.int .i64 (x % 1000001)] rfl rfl (cell_one_new _ _ _) (ints_oneCell .i64 [x % 1000001]) (by unfold maxLen; omega) (by omega) (by have := hb.size; simp; omega) ?_; intro v1 w1 hown1 hgrow1 hnil1))
      go_roundw
      case rel =>
        have hws := hb.size
        refine ⟨k + 1, vs ++ [x % 1000001], by omega, by omega, by go_num, by simpa using hown1, ?_, by simp; omega, ?_⟩
        · show _ = _
          rw [HU.out]
        · exact ((hb.trans (hb2.mono hws)).alloc (by omega) _).grown hgrow1 (by simp; omega) (fun k hk => (hown.lt k hk).1)
      case measure => go_light; simp [intOf] <;> omega
    · have hvs : Hid (upTo ((2 : Int) ^ 20) vs) := Lib.hid (by rw [HS.out]; exact mods_upTo _)
      have hv6 : vs.length ≤ 60 := by omega
      obtain ⟨pa, ca, rfl, _, hrow⟩ := Row.of_own hown
      have c12 : ((k : Int) < (xs.length : Int) ∧ ¬ (k : Int) < 60) ∨ ¬ (k : Int) < (xs.length : Int) := by omega
      clear hlt hvl HS hown
      have hpw : ∀ k : Nat, k ≤ 20 → (2 : Int) ^ (20 - k) ≤ 1048576 := by
        have key : ∀ k : Fin 21, (2 : Int) ^ (20 - k.1) ≤ 1048576 := by decide
        intro k hk
        exact key ⟨k, by omega⟩
      have HPW := Lib.hid hpw
      clear hpw
      rcases c12 with ⟨c1, c2⟩ | c1
      all_goals
        go_wp2
        go_loopw [4, 6] (fun v i wl => ∃ (q : Nat) (pa : Option Addr) (ys : List Int) (ca : Nat), q ≤ 20 ∧ i = .int .i64 q ∧ v = .slice pa ys.length ca ∧ ys.length ≤ 60 ∧ Row .i64 wl pa ys ∧ Hid (upTo ((2 : Int) ^ (20 - q)) ys) ∧ Below w.heap.size w wl) (fun _ i _ => 20 - (intOf i).toNat)
        case atStart => exact ⟨0, pa, vs, ca, by omega, rfl, rfl, hv6, hrow, hvs, hb⟩
        case round =>
          clear hrow hvs hv6 hb c1
          obtain ⟨q, pa, ys, ca, hq, rfl, rfl, hy6, hry, HY, hb⟩ := hrel
          by_cases hq2 : q < 20
          · have hck := upTo_ok hy6 HY.out (HPW.out q hq)
            have qH : ∀ (pa : Option Addr) (ca : Nat) (w' : World), Row .i64 w' pa ys → Calls Try.prog 37 #[.slice pa ys.length ca] w' fun e w'' => ∃ pn cn, e = .returned (.tuple #[.slice pn ys.length cn, .int .i64 0]) ∧ Row .i64 w'' pn (hlv ys) ∧ Below w'.heap.size w' w'' := by
              intro pa ca w' h
              have e : rHlv ys = (hlv ys, 0) := by unfold rHlv; rw [if_pos hck]
              refine (halve_p pa ys ca w' h (by omega)).mono ?_
              rw [e]
              rintro e w'' ⟨pn, cn, rfl, hr, hb⟩
              exact ⟨pn, cn, by rw [hlv_len], hr, hb⟩
            have hq3 : (q : Int) < 20 := by omega
            clear hck
            go_wp2_with (go_at_call 37; refine (qH _ _ _ hry).mono ?_; rintro e w2 ⟨pn, cn, rfl, hrn, hb2⟩)
            have hs2 := hb2.size
            have hsw := hb.size
            have RY : Row .i64 w2 pa ys := hry.later hb2
            have B2 : Below w.heap.size w w2 := hb.trans (hb2.mono hsw)
            clear qH hry hb hb2
            go_loopw [9] (fun i wi => ∃ m : Nat, i = .int .i64 m ∧ m ≤ ys.length ∧ Below w2.heap.size w2 wi) (fun i _ => ys.length - (intOf i).toNat)
            case atStart => exact ⟨0, rfl, by omega, Below.refl _ _⟩
            case round =>
              obtain ⟨wi, hwi⟩ : ∃ z, z = wr := ⟨_, rfl⟩
              subst hwi
              obtain ⟨m, rfl, hm, hb⟩ := hrel
              by_cases hlt : m < ys.length
              · obtain ⟨b1, o1, rfl, hb1, hc1⟩ := (RY.later hb).at hlt
                obtain ⟨b2, o2, rfl, hb2, hc2⟩ := (hrn.later hb).at (i := m) (by rw [hlv_len]; exact hlt)
                have c1 := hc1 m hlt
                have c2 := hc2 m (by rw [hlv_len]; exact hlt)
                have hu := HY.out m hlt
                rw [hlv_get hlt rfl] at c2
                obtain ⟨x, hx⟩ : ∃ x, ys.getD m 0 = x := ⟨_, rfl⟩
                rw [hx] at c1 c2 hu
                obtain ⟨y, hy⟩ : ∃ y, x - x / 2 = y := ⟨_, rfl⟩
                rw [hy] at c2
                have j0 : (0 : Int) ≤ (m : Int) := by omega
                have j1 : (m : Int) < (ys.length : Int) := by omega
                have hxy : (decide (0 < x) = true ∧ decide (0 < y) = true) ∨ (decide (0 < x) = false ∧ decide (0 < y) = false) := by
                  by_cases h : 0 < x
                  · left; exact ⟨decide_eq_true h, decide_eq_true (by omega)⟩
                  · right; exact ⟨decide_eq_false h, decide_eq_false (by omega)⟩
                rcases hxy with ⟨hx0, hy0⟩ | ⟨hx0, hy0⟩
                all_goals
                  rcases m with _ | j
                  · have c3 : wi.cell? ⟨b1, o1, none⟩ = some (.int .i64 x) := c1
                    have c4 : wi.cell? ⟨b2, o2, none⟩ = some (.int .i64 y) := c2
                    have j2 : (0 : Int) < (ys.length : Int) := by omega
                    clear hc1 hc2 hx hy hu c1 c2 j0 j1
                    go_wp2
                    refine wp_region_later1 (by kernel_rfl) (by kernel_rfl) ?_
                    intro hLC
                    repeat (go_big_quiet_step (fail))
                    refine wpQuiet_nil ?_
                    intro w9 hb9
                    clear hLC
                    go_wp2
                    go_roundw
                    case rel => exact ⟨1, by go_num, by omega, hb.trans (hb9.mono hb.size)⟩
                    case measure => go_light; simp [intOf] <;> omega
                  · have d1 := hc1 j (by omega)
                    have d2 := hc2 j (by rw [hlv_len]; omega)
                    have hu2 := HY.out j (by omega)
                    rw [hlv_get (by omega) rfl] at d2
                    obtain ⟨px, hpx⟩ : ∃ px, ys.getD j 0 = px := ⟨_, rfl⟩
                    rw [hpx] at d1 d2 hu2
                    obtain ⟨py, hpy⟩ : ∃ py, px - px / 2 = py := ⟨_, rfl⟩
                    rw [hpy] at d2
                    have j5 : (0 : Int) ≤ (j : Int) + 1 := by omega
                    have j6 : (j : Int) + 1 < (ys.length : Int) := by omega
                    have j2 : (0 : Int) ≤ (j : Int) := by omega
                    have j3 : (j : Int) < (ys.length : Int) := by omega
                    have j4 : (0 : Int) < ((j + 1 : Nat) : Int) := by omega
                    by_cases hle : px ≤ x
                    · have hpy2 : decide (y < py) = false := decide_eq_false (by omega)
                      have hle2 : decide (px ≤ x) = true := decide_eq_true hle
                      clear hc1 hc2 hx hy hu hpx hpy hu2
                      go_wp2
                      refine wp_region_later1 (by kernel_rfl) (by kernel_rfl) ?_
                      intro hLC
                      repeat (go_big_quiet_step (fail))
                      refine wpQuiet_nil ?_
                      intro w9 hb9
                      clear hLC
                      go_wp2
                      go_roundw
                      case rel => exact ⟨j + 1 + 1, by go_num, by omega, hb.trans (hb9.mono hb.size)⟩
                      case measure => go_light; simp [intOf] <;> omega
                    · have hle2 : decide (px ≤ x) = false := decide_eq_false hle
                      clear hc1 hc2 hx hy hu hpx hpy hu2 hle
                      go_wp2
                      refine wp_region_later1 (by kernel_rfl) (by kernel_rfl) ?_
                      intro hLC
                      repeat (go_big_quiet_step (fail))
                      refine wpQuiet_nil ?_
                      intro w9 hb9
                      clear hLC
                      go_wp2
                      go_roundw
                      case rel => exact ⟨j + 1 + 1, by go_num, by omega, hb.trans (hb9.mono hb.size)⟩
                      case measure => go_light; simp [intOf] <;> omega
              · have hkk : m = ys.length := by omega
                subst hkk
                go_wp2
                go_roundw
                case rel =>
                  refine ⟨q + 1, pn, hlv ys, cn, by omega, by go_num, by rw [hlv_len], by rw [hlv_len]; exact hy6, hrn.later hb, ?_, B2.trans (hb.mono B2.size)⟩
                  show upTo _ _
                  have e : 20 - q = (20 - (q + 1)) + 1 := by omega
                  have := HY.out
                  rw [e] at this
                  exact upTo_half this
                case measure => go_light; simp [intOf] <;> omega
          · have hqq : q = 20 := by omega
            subst hqq
            have HU : Hid (upTo 1 ys) := HY.out
            go_wp2
            go_loopw [10] (fun i wi => ∃ m : Nat, i = .int .i64 m ∧ m ≤ ys.length ∧ Below w.heap.size w wi ∧ Row .i64 wi pa ys) (fun i _ => ys.length - (intOf i).toNat)
            case atStart => exact ⟨0, rfl, by omega, hb, hry⟩
            case round =>
              clear hb hry
              obtain ⟨m, rfl, hm, hb, hry⟩ := hrel
              by_cases hlt : m < ys.length
              · have hu := HU.out m hlt
                obtain ⟨b1, o1, rfl, hb1, hc1⟩ := hry.at hlt
                have c1 := hc1 m hlt
                obtain ⟨x, hx⟩ : ∃ x, ys.getD m 0 = x := ⟨_, rfl⟩
                rw [hx] at c1 hu
                have hx1 : ¬ 1 < x := by omega
                have j0 : (0 : Int) ≤ (m : Int) := by omega
                have j1 : (m : Int) < (ys.length : Int) := by omega
                clear hc1 hx hu
                go_wp2
                go_roundw
                case rel => exact ⟨m + 1, by go_num, by omega, hb, hry⟩
                case measure => go_light; simp [intOf] <;> omega
              · have hkk : m = ys.length := by omega
                subst hkk
                go_wp2
                go_ret
                exact ⟨rfl, hb⟩
end Go.Proofs.Ytgponpjlkebjcaa
