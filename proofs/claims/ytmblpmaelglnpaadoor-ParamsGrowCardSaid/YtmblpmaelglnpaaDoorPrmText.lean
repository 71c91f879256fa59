/-
  The text of parameters, walked.
-/
import Derived.Test.YtmblpmaelglnpaaDoorRows
import Derived.Test.YtmblpmaelglnpaaDoorPrmEnv
import Derived.Test.YtmblpmaelglnpaaDoorParams1
import Derived.Test.YtmblpmaelglnpaaDoorGBase
import Derived.Deep.Light
import Derived.Shelf.Abstract
import Derived.Shelf.RegionOpen
import Derived.OwnWalkIn
import Derived.TacticsInMore
import Derived.LoopNIn
import Derived.LoopIn
import Derived.Deep.RegionHeld3
import Derived.Outline
import Derived.IntWalk
import Derived.WalkMore
namespace Go.Proofs.YtmblpmaelglnpaaDoor
open Go.RowKit
set_option linter.unusedSimpArgs false
set_option linter.unusedVariables false
open Go.Shelf
attribute [local go_sem] Oper.semAt_some

theorem infoStr : (Tryd.prog.info? 9).map (fun i => (i.zero, i.size, i.bytes)) = some (some (.string ByteArray.empty), 1, 16) := by kernel_rfl
theorem one_str (x : ByteArray) : ∀ u ∈ [Value.string x], u.oneCell' = true := by
  intro u hu
  obtain rfl := List.mem_singleton.1 hu
  rfl
theorem own_new {w : World} {X : Nat} {e : TypeId} {cs : Array Value} (h : w.heap[X]? = some (.cells cs e (0, 0))) (hm : cs.size ≤ maxLen) : w.ownsRow X e 1 (.slice (some ⟨X, 0, none⟩) cs.size cs.size) cs.size cs.toList := by
  refine ⟨by simp, .inr ⟨X, cs.size, cs, rfl, Nat.le_refl _, h, Nat.le_refl _, hm, by simp, ?_⟩⟩
  exact List.take_of_length_le (by simp)
/-- A row of strings that the call has made reads so. -/
theorem own_strs {w : World} {base : Nat} {e : TypeId} {v : Value} {n : Nat} {xs : List ByteArray} (h : w.ownsRow base e 1 v n (xs.map Value.string)) (hne : xs ≠ []) :
    ∃ g cap, v = .slice (some ⟨g, 0, none⟩) xs.length cap ∧ g < w.heap.size ∧ xs.length ≤ cap ∧ ∀ (j : Nat) x, xs[j]? = some x → w.cell? ⟨g, 0 + j, none⟩ = some (.string x) := by
  obtain ⟨hl, h⟩ := h
  simp at hl
  rcases h with ⟨rfl, rfl⟩ | ⟨g, cap, cur, rfl, hg, hh, hn, hm, hs, ht⟩
  · exact absurd (List.length_eq_zero_iff.1 (by omega)) hne
  · refine ⟨g, cap, by rw [hl], (Array.getElem?_eq_some_iff.1 hh).1, by omega, fun j x hx => ?_⟩
    have h1 : w.cell? ⟨g, 0 + j, none⟩ = cur[j]? := by simp [World.cell?, hh]
    have hj : j < xs.length := (List.getElem?_eq_some_iff.1 hx).1
    rw [h1, ← Array.getElem?_toList]
    have h2 : (cur.toList.take (n * 1))[j]? = cur.toList[j]? := by rw [List.getElem?_take]; rw [if_pos (by omega)]
    rw [← h2, ht]
    simp [hx]
/-- The words as strings. -/
def strsOf (p : Prm) : List ByteArray := (wordsOf p).map fun l => ⟨l.toArray⟩
theorem strsOf_bytes (p : Prm) : (strsOf p).map (·.data.toList) = wordsOf p := by
  unfold strsOf
  rw [List.map_map]
  conv => rhs; rw [← List.map_id (wordsOf p)]
  exact List.map_congr_left fun l _ => by simp
theorem dec_len {n : Int} (h0 : 0 ≤ n) (h1 : n ≤ 9999999) : (Lib.itoa n).length ≤ 7 := by
  obtain ⟨m, rfl⟩ := Int.eq_ofNat_of_zero_le h0
  rw [show ((↑m : Int)) = (m : Int) from rfl, itoa_nat, Lib.decDigits_length]
  exact nDig_le7 (by omega)
theorem txt_len {p : Prm} (h : inR p) : (txtL p).length ≤ 100 := by
  unfold inR at h
  have h1 := dec_len h.1.1 h.1.2
  have h2 := dec_len h.2.1.1 h.2.1.2
  have h3 := dec_len h.2.2.1.1 h.2.2.1.2
  have h4 := dec_len h.2.2.2.1 h.2.2.2.2
  rw [txtL_flat]
  unfold flatL
  cases p.sy <;> cases p.ch <;> simp [pLv, pWi, pJo, pOv, pSy, pCh] <;> omega
set_option maxRecDepth 100000 in
set_option maxHeartbeats 8000000 in
theorem text_p (p : Prm) (hp : inR p) (w : World) (hE : PEnv w) : Calls Tryd.prog 81 #[.agg #[.int .i64 p.lv, .int .i64 p.wi, .int .i64 p.jo, .int .i64 p.ov, .bool p.sy, .bool p.ch]] w fun e w' => e = .returned (.string ⟨(txtL p).toArray⟩) ∧ Below w.heap.size w w' := by
  have hJ := fun g cap W (hc : ∀ (j : Nat) x, (strsOf p)[j]? = some x → W.cell? ⟨g, 0 + j, none⟩ = some (.string x)) (hg : g < W.heap.size) (hcap : (strsOf p).length ≤ cap) => Tryd.strings_Join g 0 cap (strsOf p) ⟨#[32]⟩ W hc hg (by unfold strsOf wordsOf; cases p.sy <;> cases p.ch <;> simp) hcap (by rw [strsOf_bytes]; have := txt_len hp; unfold txtL at this; simp; omega)
  have hJe : Lib.join ((strsOf p).map (·.data.toList)) (⟨#[32]⟩ : ByteArray).data.toList = txtL p := by rw [strsOf_bytes]; rfl
  rw [hJe] at hJ
  have HT := Lib.hid (show strsOf p = strsOf p from rfl)
  generalize (txtL p).toArray = TX at hJ ⊢
  obtain ⟨i0, hi0, hz0, hz1, hz2⟩ := info_parts infoStr
  obtain ⟨a, b, c, d, sy, ch⟩ := p
  unfold inR at hp
  dsimp only at hp ⊢
  obtain ⟨⟨h1, h1'⟩, ⟨h2, h2'⟩, ⟨h3, h3'⟩, ⟨h4, h4'⟩⟩ := hp
  have q0 := fun w h => itoa_p a (by omega) (by omega) w h
  have q1 := fun w h => itoa_p b (by omega) (by omega) w h
  have q2 := fun w h => itoa_p c (by omega) (by omega) w h
  have q3 := fun w h => itoa_p d (by omega) (by omega) w h
  go_enter Tryd.func81, Tryd.ntmps81
  go_wp2
  obtain ⟨B, hB⟩ : ∃ B, w.heap.size = B := ⟨_, rfl⟩
  obtain ⟨W1, hW1⟩ : ∃ W1, w.alloc (.cells #[.int .i64 a, .int .i64 b, .int .i64 c, .int .i64 d, .bool sy, .bool ch] 58) = W1 := ⟨_, rfl⟩
  have hE1 : PEnv W1 := by rw [← hW1]; exact hE.later ((Below.refl _ w).alloc (Nat.le_refl _) _)
  have hbw : Below w.heap.size w W1 := by rw [← hW1]; exact (Below.refl _ w).alloc (Nat.le_refl _) _
  have b0 : W1.cell? ⟨B, 0, none⟩ = some (.int .i64 a) := by rw [← hW1, ← hB]; simp [go_sem]
  have b1 : W1.cell? ⟨B, 1, none⟩ = some (.int .i64 b) := by rw [← hW1, ← hB]; simp [go_sem]
  have b2 : W1.cell? ⟨B, 2, none⟩ = some (.int .i64 c) := by rw [← hW1, ← hB]; simp [go_sem]
  have b3 : W1.cell? ⟨B, 3, none⟩ = some (.int .i64 d) := by rw [← hW1, ← hB]; simp [go_sem]
  have b4 : W1.cell? ⟨B, 4, none⟩ = some (.bool sy) := by rw [← hW1, ← hB]; simp [go_sem]
  have b5 : W1.cell? ⟨B, 5, none⟩ = some (.bool ch) := by rw [← hW1, ← hB]; simp [go_sem]
  have hlB : B < W1.heap.size := by rw [← hW1, ← hB]; simp
  rw [hW1]
  (try simp only [hB])
  have HB := Lib.hid hB
  clear hW1 hE hB
  go_region_held3 (fun w' => w'.cell? ⟨B, 0, none⟩ = some (.int .i64 a) ∧ w'.cell? ⟨B, 1, none⟩ = some (.int .i64 b) ∧ w'.cell? ⟨B, 2, none⟩ = some (.int .i64 c) ∧ w'.cell? ⟨B, 3, none⟩ = some (.int .i64 d)) (exact ⟨((show Below W1.heap.size W1 _ by repeat' (first | with_reducible exact Below.refl _ _ | with_reducible refine Below.drew ?_ | with_reducible refine below_drewN ?_ _ | with_reducible refine Below.alloc ?_ (by first | omega | (simp <;> omega)) _ | with_reducible refine Below.setCell ?_ (by first | omega | (dsimp only; omega) | (simp <;> omega)) _ | with_reducible refine Below.trans ?_ (Below.mono (by assumption) (by first | omega | (simp <;> omega))))).cell (p := ⟨B, 0, none⟩) hlB).trans b0, ((show Below W1.heap.size W1 _ by repeat' (first | with_reducible exact Below.refl _ _ | with_reducible refine Below.drew ?_ | with_reducible refine below_drewN ?_ _ | with_reducible refine Below.alloc ?_ (by first | omega | (simp <;> omega)) _ | with_reducible refine Below.setCell ?_ (by first | omega | (dsimp only; omega) | (simp <;> omega)) _ | with_reducible refine Below.trans ?_ (Below.mono (by assumption) (by first | omega | (simp <;> omega))))).cell (p := ⟨B, 1, none⟩) hlB).trans b1, ((show Below W1.heap.size W1 _ by repeat' (first | with_reducible exact Below.refl _ _ | with_reducible refine Below.drew ?_ | with_reducible refine below_drewN ?_ _ | with_reducible refine Below.alloc ?_ (by first | omega | (simp <;> omega)) _ | with_reducible refine Below.setCell ?_ (by first | omega | (dsimp only; omega) | (simp <;> omega)) _ | with_reducible refine Below.trans ?_ (Below.mono (by assumption) (by first | omega | (simp <;> omega))))).cell (p := ⟨B, 2, none⟩) hlB).trans b2, ((show Below W1.heap.size W1 _ by repeat' (first | with_reducible exact Below.refl _ _ | with_reducible refine Below.drew ?_ | with_reducible refine below_drewN ?_ _ | with_reducible refine Below.alloc ?_ (by first | omega | (simp <;> omega)) _ | with_reducible refine Below.setCell ?_ (by first | omega | (dsimp only; omega) | (simp <;> omega)) _ | with_reducible refine Below.trans ?_ (Below.mono (by assumption) (by first | omega | (simp <;> omega))))).cell (p := ⟨B, 3, none⟩) hlB).trans b3⟩) ((go_at_call 109; first | ((with_reducible refine (q0 _ (hE1.later (by repeat' (first | with_reducible exact Below.refl _ _ | with_reducible refine Below.drew ?_ | with_reducible refine below_drewN ?_ _ | with_reducible refine Below.alloc ?_ (by first | omega | (simp <;> omega)) _ | with_reducible refine Below.setCell ?_ (by first | omega | (dsimp only; omega) | (simp <;> omega)) _ | with_reducible refine Below.trans ?_ (Below.mono (by assumption) (by first | omega | (simp <;> omega))))))).mono ?_); rintro en wi0 ⟨rfl, hbi0⟩; have hsi0 := hbi0.size; (try simp at hsi0)) | ((with_reducible refine (q1 _ (hE1.later (by repeat' (first | with_reducible exact Below.refl _ _ | with_reducible refine Below.drew ?_ | with_reducible refine below_drewN ?_ _ | with_reducible refine Below.alloc ?_ (by first | omega | (simp <;> omega)) _ | with_reducible refine Below.setCell ?_ (by first | omega | (dsimp only; omega) | (simp <;> omega)) _ | with_reducible refine Below.trans ?_ (Below.mono (by assumption) (by first | omega | (simp <;> omega))))))).mono ?_); rintro en wi1 ⟨rfl, hbi1⟩; have hsi1 := hbi1.size; (try simp at hsi1)) | ((with_reducible refine (q2 _ (hE1.later (by repeat' (first | with_reducible exact Below.refl _ _ | with_reducible refine Below.drew ?_ | with_reducible refine below_drewN ?_ _ | with_reducible refine Below.alloc ?_ (by first | omega | (simp <;> omega)) _ | with_reducible refine Below.setCell ?_ (by first | omega | (dsimp only; omega) | (simp <;> omega)) _ | with_reducible refine Below.trans ?_ (Below.mono (by assumption) (by first | omega | (simp <;> omega))))))).mono ?_); rintro en wi2 ⟨rfl, hbi2⟩; have hsi2 := hbi2.size; (try simp at hsi2)) | ((with_reducible refine (q3 _ (hE1.later (by repeat' (first | with_reducible exact Below.refl _ _ | with_reducible refine Below.drew ?_ | with_reducible refine below_drewN ?_ _ | with_reducible refine Below.alloc ?_ (by first | omega | (simp <;> omega)) _ | with_reducible refine Below.setCell ?_ (by first | omega | (dsimp only; omega) | (simp <;> omega)) _ | with_reducible refine Below.trans ?_ (Below.mono (by assumption) (by first | omega | (simp <;> omega))))))).mono ?_); rintro en wi3 ⟨rfl, hbi3⟩; have hsi3 := hbi3.size; (try simp at hsi3))))
  obtain ⟨X, hX⟩ : ∃ X, wi3.heap.size = X := ⟨_, rfl⟩
  have hbx : Below W1.heap.size W1 wi3 := by repeat' (first | with_reducible exact Below.refl _ _ | with_reducible refine Below.drew ?_ | with_reducible refine below_drewN ?_ _ | with_reducible refine Below.alloc ?_ (by first | omega | (simp <;> omega)) _ | with_reducible refine Below.setCell ?_ (by first | omega | (dsimp only; omega) | (simp <;> omega)) _ | with_reducible refine Below.trans ?_ (Below.mono (by assumption) (by first | omega | (simp <;> omega))))
  have hbxs := hbx.size
  have hbws := hbw.size
  obtain ⟨W5, hW5⟩ : ∃ W5, wi3.alloc (.cells #[Value.string ⟨#[108, 101, 118, 101, 108]⟩, .string ⟨(Lib.itoa a).toArray⟩, .string ⟨#[119, 105, 110, 100, 111, 119]⟩, .string ⟨(Lib.itoa b).toArray⟩, .string ⟨#[106, 111, 98]⟩, .string ⟨(Lib.itoa c).toArray⟩, .string ⟨#[111, 118, 101, 114, 108, 97, 112]⟩, .string ⟨(Lib.itoa d).toArray⟩] 9) = W5 := ⟨_, rfl⟩
  have hb5 : Below W1.heap.size W1 W5 := by rw [← hW5]; exact hbx.alloc hbxs _
  have hh5 : W5.heap[X]? = some (.cells #[Value.string ⟨#[108, 101, 118, 101, 108]⟩, .string ⟨(Lib.itoa a).toArray⟩, .string ⟨#[119, 105, 110, 100, 111, 119]⟩, .string ⟨(Lib.itoa b).toArray⟩, .string ⟨#[106, 111, 98]⟩, .string ⟨(Lib.itoa c).toArray⟩, .string ⟨#[111, 118, 101, 114, 108, 97, 112]⟩, .string ⟨(Lib.itoa d).toArray⟩] 9 (0, 0)) := by rw [← hW5, ← hX]; exact heap_alloc_new _ _
  have HO := Lib.hid (own_new hh5 (by simp [maxLen]))
  have hs5 : W5.heap.size = X + 1 := by rw [← hW5, ← hX]; simp
  have c4 := (hb5.cell (p := ⟨B, 4, none⟩) hlB).trans b4
  have c5 := (hb5.cell (p := ⟨B, 5, none⟩) hlB).trans b5
  have hb6 : Below w.heap.size w W5 := hbw.trans (hb5.mono hbws)
  rw [hW5]
  (try simp only [hX])
  have hBX : B < X := by omega
  have hXW : X < W5.heap.size := by omega
  have hb6s := hb6.size
  have hS5 : W5.heap.size ≤ X + 1 := by omega
  have hwX : w.heap.size ≤ X := by omega
  clear hW5 hh5 hb5 hbx hbw b0 b1 b2 b3 b4 b5 q0 q1 q2 q3 hE1 hlB hs5 hX hbxs hbws
  (try clear hbi0 hsi0); (try clear hbi1 hsi1); (try clear hbi2 hsi2); (try clear hbi3 hsi3)
  cases sy <;> cases ch
  · obtain ⟨g, cap, hv, hg, hcp, hcl⟩ := own_strs (xs := strsOf ⟨a, b, c, d, false, false⟩) HO.out (by unfold strsOf wordsOf; simp)
    cases hv
    go_wp2_with ((go_at_call 110; refine (hJ _ _ _ hcl hg hcp).mono ?_; rintro en wJ ⟨rfl, hbJ⟩; have hsJ := hbJ.size))
    go_ret
    exact ⟨rfl, hb6.trans (hbJ.mono hb6s)⟩
  · go_wp2_with (first | (at_builtin; refine wpList_append_own_at _ rfl _ _ 99 rfl X 9 i0 (.string ByteArray.empty) 1 16 Tryd.underlying99 hi0 hz0 hz1 hz2 rfl (by decide) (.slice (some ⟨X, 0, none⟩) 8 8) 8 _ rfl (HO.out.alloc _) ⟨W5.heap.size, 0, none⟩ 1 1 [.string ⟨#[99, 104, 101, 99, 107]⟩] rfl rfl (cell_one_new _ _ _) (one_str _) (by simp [maxLen]) (by omega) (by simp; omega) ?_; intro v1 w6 ho1 hg1 hnil1 hat1; have hb7 : Below w.heap.size w w6 := (hb6.alloc (by omega) _).grown hg1 (by simp; omega) (fun k e => Nat.le_trans hwX (own_base_o HO.out k e)); obtain ⟨g, cap, hv, hg, hcp, hcl⟩ := own_strs (xs := strsOf ⟨a, b, c, d, false, true⟩) ho1 (by unfold strsOf wordsOf; simp); cases hv) | (go_at_call 110; refine (hJ _ _ _ hcl hg hcp).mono ?_; rintro en wJ ⟨rfl, hbJ⟩; have hsJ := hbJ.size))
    go_ret
    exact ⟨rfl, hb7.trans (hbJ.mono hb7.size)⟩
  · go_wp2_with (first | (at_builtin; refine wpList_append_own_at _ rfl _ _ 99 rfl X 9 i0 (.string ByteArray.empty) 1 16 Tryd.underlying99 hi0 hz0 hz1 hz2 rfl (by decide) (.slice (some ⟨X, 0, none⟩) 8 8) 8 _ rfl (HO.out.alloc _) ⟨W5.heap.size, 0, none⟩ 1 1 [.string ⟨#[115, 121, 110, 99]⟩] rfl rfl (cell_one_new _ _ _) (one_str _) (by simp [maxLen]) (by omega) (by simp; omega) ?_; intro v1 w6 ho1 hg1 hnil1 hat1; have hb7 : Below w.heap.size w w6 := (hb6.alloc (by omega) _).grown hg1 (by simp; omega) (fun k e => Nat.le_trans hwX (own_base_o HO.out k e)); have hbX : Below X W5 w6 := ((Below.refl X W5).alloc (by omega) _).grown hg1 (by simp; omega) (own_base_o HO.out); have d5 := (hbX.cell (p := ⟨B, 5, none⟩) hBX).trans c5; obtain ⟨g, cap, hv, hg, hcp, hcl⟩ := own_strs (xs := strsOf ⟨a, b, c, d, true, false⟩) ho1 (by unfold strsOf wordsOf; simp); cases hv) | (go_at_call 110; refine (hJ _ _ _ hcl hg hcp).mono ?_; rintro en wJ ⟨rfl, hbJ⟩; have hsJ := hbJ.size))
    go_ret
    exact ⟨rfl, hb7.trans (hbJ.mono hb7.size)⟩
  · go_wp2_with (first | (at_builtin; refine wpList_append_own_at _ rfl _ _ 99 rfl X 9 i0 (.string ByteArray.empty) 1 16 Tryd.underlying99 hi0 hz0 hz1 hz2 rfl (by decide) (.slice (some ⟨X, 0, none⟩) 8 8) 8 _ rfl (HO.out.alloc _) ⟨W5.heap.size, 0, none⟩ 1 1 [.string ⟨#[115, 121, 110, 99]⟩] rfl rfl (cell_one_new _ _ _) (one_str _) (by simp [maxLen]) (by omega) (by simp; omega) ?_; intro v1 w6 ho1 hg1 hnil1 hat1; have hb7 : Below w.heap.size w w6 := (hb6.alloc (by omega) _).grown hg1 (by simp; omega) (fun k e => Nat.le_trans hwX (own_base_o HO.out k e)); have hbX : Below X W5 w6 := ((Below.refl X W5).alloc (by omega) _).grown hg1 (by simp; omega) (own_base_o HO.out); have hs6 := hbX.size; have d5 := (hbX.cell (p := ⟨B, 5, none⟩) hBX).trans c5; obtain ⟨a1, c1, rfl⟩ := own_slice_o ho1; have HO2 := Lib.hid ho1; clear ho1) | (at_builtin; refine wpList_append_own_at _ rfl _ _ 99 rfl X 9 i0 (.string ByteArray.empty) 1 16 Tryd.underlying99 hi0 hz0 hz1 hz2 rfl (by decide) (.slice a1 9 c1) 9 _ rfl (HO2.out.alloc _) ⟨w6.heap.size, 0, none⟩ 1 1 [.string ⟨#[99, 104, 101, 99, 107]⟩] rfl rfl (cell_one_new _ _ _) (one_str _) (by simp [maxLen]) (by omega) (by simp; omega) ?_; intro v2 w7 ho2 hg2 hnil2 hat2; have hb8 : Below w.heap.size w w7 := (hb7.alloc (by omega) _).grown hg2 (by simp; omega) (fun k e => Nat.le_trans hwX (own_base_o HO2.out k e)); obtain ⟨g, cap, hv, hg, hcp, hcl⟩ := own_strs (xs := strsOf ⟨a, b, c, d, true, true⟩) ho2 (by unfold strsOf wordsOf; simp); cases hv) | (go_at_call 110; refine (hJ _ _ _ hcl hg hcp).mono ?_; rintro en wJ ⟨rfl, hbJ⟩; have hsJ := hbJ.size))
    go_ret
    exact ⟨rfl, hb8.trans (hbJ.mono hb8.size)⟩
end Go.Proofs.YtmblpmaelglnpaaDoor
