/-
  The reference's match of a parse, walked.
-/
import Derived.Test.YtammacofhdbgcaaRows
import Derived.Test.YtammacofhdbgcaaParseChk
import Derived.Test.YtammacofhdbgcaaParsePlain2
import Derived.Test.YtammacofhdbgcaaGBase
import Derived.Deep.Light
import Derived.Shelf.Abstract
import Derived.Shelf.RegionOpen
import Derived.OwnWalkIn
import Derived.TacticsInMore
import Derived.LoopNIn
import Derived.LoopIn
import Derived.Outline
import Derived.Deep.LoopGhost
namespace Go.Proofs.Ytammacofhdbgcaa
open Go.RowKit
set_option linter.unusedSimpArgs false
set_option linter.unusedVariables false
open Go.Shelf
attribute [local go_sem] eq32 Oper.semAt_some

set_option maxHeartbeats 4000000 in
theorem rmatch_s (s : ByteArray) (p e : Nat) (L W J O a b c li : Int) (sy ch : Bool) (w : World) (hs : s.size ≤ 1048576) (hp : pOk L W J O) :
    Calls Try.prog 97 #[.string s, .int .i64 (p : Int), .int .i64 (e : Int), .agg #[.int .i64 L, .int .i64 W, .int .i64 J, .int .i64 O, .bool sy, .bool ch], .agg #[.int .i64 a, .int .i64 b, .int .i64 c], .int .i64 li] w fun en w' => en = .returned (.tuple #[.agg #[.int .i64 (pat s e W (depthT L) a b c p li).1.1, .int .i64 (pat s e W (depthT L) a b c p li).1.2.1, .int .i64 (pat s e W (depthT L) a b c p li).1.2.2.1, .int .i64 (pat s e W (depthT L) a b c p li).1.2.2.2], .bool (pat s e W (depthT L) a b c p li).2]) ∧ Below w.heap.size w w' := by
  have qA := fun w => rat_p s p e W (depthT L) a b c li w (by omega)
  have qD := fun w => rpdepth_p L W J O sy ch w
  unfold Rpdepth at qD
  rw [if_pos hp] at qD
  dsimp only at qD
  clear hp
  unfold pat
  generalize depthT L = dp at qA qD ⊢
  generalize Rat s p e W dp a b c li = R at qA ⊢
  obtain ⟨⟨x, y, z, u⟩, fb, er⟩ := R
  dsimp only at qA ⊢
  cases fb
  all_goals
    go_enter Try.func97, Try.ntmps97
    go_wp2_with (first | (go_at_call 44; refine (qD _).mono ?_; rintro e w1 ⟨rfl, hb⟩; have hsz := hb.size; (try simp at hsz); (first | (have hbl := blater2 HA (by first | exact Nat.le_refl _ | (simp; done) | (simp; omega)) hb; obtain ⟨hcc, hff, HA, hne, hne'⟩ := hbl) | (obtain ⟨hcc, hff, HA, hne, hne'⟩ := blater1 hb)); (try simp only [World.size_alloc, World.size_setCell] at HA)) | (go_at_call 19; refine (qA _).mono ?_; rintro e w1 ⟨rfl, hb⟩; have hsz := hb.size; (try simp at hsz); (first | (have hbl := blater2 HA (by first | exact Nat.le_refl _ | (simp; done) | (simp; omega)) hb; obtain ⟨hcc, hff, HA, hne, hne'⟩ := hbl) | (obtain ⟨hcc, hff, HA, hne, hne'⟩ := blater1 hb)); (try simp only [World.size_alloc, World.size_setCell] at HA)))
    repeat' (first | (go_region <;> go_wp2_with (first | (go_at_call 44; refine (qD _).mono ?_; rintro e w1 ⟨rfl, hb⟩; have hsz := hb.size; (try simp at hsz); (first | (have hbl := blater2 HA (by first | exact Nat.le_refl _ | (simp; done) | (simp; omega)) hb; obtain ⟨hcc, hff, HA, hne, hne'⟩ := hbl) | (obtain ⟨hcc, hff, HA, hne, hne'⟩ := blater1 hb)); (try simp only [World.size_alloc, World.size_setCell] at HA)) | (go_at_call 19; refine (qA _).mono ?_; rintro e w1 ⟨rfl, hb⟩; have hsz := hb.size; (try simp at hsz); (first | (have hbl := blater2 HA (by first | exact Nat.le_refl _ | (simp; done) | (simp; omega)) hb; obtain ⟨hcc, hff, HA, hne, hne'⟩ := hbl) | (obtain ⟨hcc, hff, HA, hne, hne'⟩ := blater1 hb)); (try simp only [World.size_alloc, World.size_setCell] at HA)))))
    all_goals go_light
    all_goals (try simp only [beq_iff_eq, beq_eq_false_iff_ne, bne_iff_ne, bne_eq_false_iff_eq, ne_eq] at *)
    all_goals
      refine bodyPost_ret (v := .tuple #[.agg #[.int .i64 x, .int .i64 y, .int .i64 z, .int .i64 u], _]) (by simp [results, Try.results97, go_sem, *]) rfl ⟨rfl, ?_⟩
      repeat' (first | exact Below.refl _ _ | refine Below.drew ?_ | refine below_drewN ?_ _ | refine Below.alloc ?_ (by first | omega | (simp <;> omega)) _ | refine Below.setCell ?_ (by first | omega | (simp <;> omega)) _ | refine Below.trans ?_ (Below.mono (by assumption) (by first | omega | (simp <;> omega))))

end Go.Proofs.Ytammacofhdbgcaa
