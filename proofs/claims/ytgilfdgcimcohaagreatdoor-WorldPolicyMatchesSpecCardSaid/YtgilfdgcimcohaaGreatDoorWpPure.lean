/- The plain law of CheckPolicy, Pauses and Permits: what the program computes and what the reference computes is one. -/
import Derived.Test.YtgilfdgcimcohaaGreatDoorPWorldPolicyMatchesSpecx4
namespace Go.Proofs.YtgilfdgcimcohaaGreatDoor.PWorldPolicyMatchesSpec
open Go.RowKit Go.Proofs.YtgilfdgcimcohaaGreatDoorW.PrintWords Go.Proofs.YtgilfdgcimcohaaGreatDoorW.PrintLast Go.Proofs.YtgilfdgcimcohaaGreatDoorW.PrintMore

theorem wrap_i {i : Int} (h0 : -1000000000000000000 ≤ i) (h : i ≤ 1000000000000000000) : wrap64 i = i := by
  unfold wrap64
  omega
theorem inside_eq (a l h : Int) : world_inside.f a l h = some (decide (l ≤ a ∧ a ≤ h)) := by
  unfold world_inside.f
  split
  · rename_i h1; congr 1; simp; omega
  · rename_i h1; congr 1; symm; simp; omega
theorem outside_eq (a l h : Int) : dynamometerref8_Outside.f a l h = some (decide (a < l ∨ a > h)) := by
  unfold dynamometerref8_Outside.f
  split
  · rename_i h1; congr 1; symm; simp; omega
  · rename_i h1; congr 1; simp; omega

/-- Whether all numbers of a policy lie in their ranges. -/
def okP (a b c d e f g h : Int) : Prop := (1 ≤ a ∧ a ≤ 1000000000) ∧ (1 ≤ b ∧ b ≤ 10) ∧ (0 ≤ c ∧ c ≤ 1000000000) ∧ (1 ≤ d ∧ d ≤ 10) ∧ (c ≤ e ∧ e ≤ 1000000000) ∧ (0 ≤ f ∧ f ≤ 10000) ∧ (0 ≤ g ∧ g ≤ 1000) ∧ (0 ≤ h ∧ h ≤ 1000000000)
instance (a b c d e f g h : Int) : Decidable (okP a b c d e f g h) := by unfold okP; infer_instance
def chk (a b c d e f g h : Int) : Int := if okP a b c d e f g h then (if g = 0 then (if h = 0 then 0 else 2) else 0) else 9

theorem not_true_ (b : Bool) (h : b = false) : (!b) = true := by rw [h]; rfl
theorem policy_eq (a b c d e f g h : Int) (k : Nat) : world_CheckPolicy.f (k + 2) a b c d e f g h = some (chk a b c d e f g h) := by
  unfold world_CheckPolicy.f chk
  have j1t : ∀ a b c d e f g h, world_CheckPolicy.j1 (k + 1) true a b c d e f g h = some 9 := fun _ _ _ _ _ _ _ _ => by rw [world_CheckPolicy.j1, if_pos rfl]
  have j0t : ∀ a b c d e f g h, world_CheckPolicy.j0 (k + 2) true a b c d e f g h = some 9 := fun _ _ _ _ _ _ _ _ => by rw [world_CheckPolicy.j0, if_pos rfl]
  simp only [inside_eq, Option.bind_some, decide_eq_true_eq]
  by_cases c0 : 1 ≤ a ∧ a ≤ 1000000000
  · rw [if_pos c0]
    by_cases c1 : 1 ≤ b ∧ b ≤ 10
    · rw [if_pos c1]
      by_cases c2 : 0 ≤ c ∧ c ≤ 1000000000
      · rw [if_pos c2]
        by_cases c3 : 1 ≤ d ∧ d ≤ 10
        · rw [decide_eq_true c3, Bool.not_true, world_CheckPolicy.j0, if_neg (by decide)]
          simp only [inside_eq, Option.bind_some, decide_eq_true_eq]
          by_cases c4 : c ≤ e ∧ e ≤ 1000000000
          · rw [if_pos c4]
            by_cases c5 : 0 ≤ f ∧ f ≤ 10000
            · rw [if_pos c5]
              by_cases c6 : 0 ≤ g ∧ g ≤ 1000
              · rw [if_pos c6]
                by_cases c7 : 0 ≤ h ∧ h ≤ 1000000000
                · have hok : okP a b c d e f g h := ⟨c0, c1, c2, c3, c4, c5, c6, c7⟩
                  rw [decide_eq_true c7, Bool.not_true, world_CheckPolicy.j1, if_neg (by decide), if_pos hok]
                  by_cases hg : g = 0
                  · rw [if_pos hg, if_pos hg]; split <;> rfl
                  · rw [if_neg hg, if_neg hg]
                · rw [decide_eq_false c7, Bool.not_false, j1t, if_neg (fun q => c7 q.2.2.2.2.2.2.2)]
              · rw [if_neg c6, decide_eq_false c6, Bool.not_false, j1t, if_neg (fun q => c6 q.2.2.2.2.2.2.1)]
            · rw [if_neg c5, decide_eq_false c5, Bool.not_false, j1t, if_neg (fun q => c5 q.2.2.2.2.2.1)]
          · rw [if_neg c4, decide_eq_false c4, Bool.not_false, j1t, if_neg (fun q => c4 q.2.2.2.2.1)]
        · rw [decide_eq_false c3, Bool.not_false, j0t, if_neg (fun q => c3 q.2.2.2.1)]
      · rw [if_neg c2, decide_eq_false c2, Bool.not_false, j0t, if_neg (fun q => c2 q.2.2.1)]
    · rw [if_neg c1, decide_eq_false c1, Bool.not_false, j0t, if_neg (fun q => c1 q.2.1)]
  · rw [if_neg c0, decide_eq_false c0, Bool.not_false, j0t, if_neg (fun q => c0 q.1)]
theorem refpol_eq (a b c d e f g h : Int) (k : Nat) : dynamometerref8_CheckPolicy.f (k + 1) a b c d e f g h = some (chk a b c d e f g h) := by
  unfold dynamometerref8_CheckPolicy.f chk
  have j0t : ∀ a b c d e f g h, dynamometerref8_CheckPolicy.j0 (k + 1) true a b c d e f g h = some 9 := fun _ _ _ _ _ _ _ _ => by rw [dynamometerref8_CheckPolicy.j0, if_pos rfl]
  simp only [outside_eq, Option.bind_some, decide_eq_true_eq]
  by_cases c0 : a < 1 ∨ a > 1000000000
  · rw [if_pos c0, j0t, if_neg (fun q => by have := q.1; omega)]
  · rw [if_neg c0]
    by_cases c1 : b < 1 ∨ b > 10
    · rw [if_pos c1, j0t, if_neg (fun q => by have := q.2.1; omega)]
    · rw [if_neg c1]
      by_cases c2 : c < 0 ∨ c > 1000000000
      · rw [if_pos c2, j0t, if_neg (fun q => by have := q.2.2.1; omega)]
      · rw [if_neg c2]
        by_cases c3 : d < 1 ∨ d > 10
        · rw [if_pos c3, j0t, if_neg (fun q => by have := q.2.2.2.1; omega)]
        · rw [if_neg c3]
          by_cases c4 : e < c ∨ e > 1000000000
          · rw [if_pos c4, j0t, if_neg (fun q => by have := q.2.2.2.2.1; omega)]
          · rw [if_neg c4]
            by_cases c5 : f < 0 ∨ f > 10000
            · rw [if_pos c5, j0t, if_neg (fun q => by have := q.2.2.2.2.2.1; omega)]
            · rw [if_neg c5]
              by_cases c6 : g < 0 ∨ g > 1000
              · rw [if_pos c6, j0t, if_neg (fun q => by have := q.2.2.2.2.2.2.1; omega)]
              · rw [if_neg c6]
                by_cases c7 : h < 0 ∨ h > 1000000000
                · rw [decide_eq_true c7, j0t, if_neg (fun q => by have := q.2.2.2.2.2.2.2; omega)]
                · have hok : okP a b c d e f g h := by unfold okP; omega
                  rw [decide_eq_false c7, dynamometerref8_CheckPolicy.j0, if_neg (by decide), if_pos hok]
                  by_cases hg : g = 0
                  · rw [if_pos hg, if_pos hg]; split <;> rfl
                  · rw [if_neg hg, if_neg hg]

theorem mn_le (a b : Int) : mn a b ≤ b := by unfold mn; omega
theorem mn_eq {a b : Int} (h : a ≤ b) : mn a b = a := by unfold mn; omega
/-- Both loops make the same list. -/
theorem pauses_loop (p0 p1 p2 p3 p4 p5 p6 p7 N : Int) (hN : N ≤ 10) : ∀ (d k : Nat) (acc : List Int) (n i : Int), 0 ≤ i → i ≤ N → N - i = d → acc.length + d < 1000 → d < k → n ≤ p4 →
    ∃ r, world_pauses.l0 k acc n N i p0 p1 p2 p3 p4 p5 p6 p7 = some r ∧ dynamometerref8_Pauses.l0 k acc n N i p0 p1 p2 p3 p4 p5 p6 p7 = some (r, 0) ∧ r.length < 1000 := by
  intro d
  induction d with
  | zero =>
    intro k acc n i h0 h1 hd hl hk hn
    obtain ⟨k, rfl⟩ : ∃ m, k = m + 1 := ⟨k - 1, by omega⟩
    rw [world_pauses.l0, dynamometerref8_Pauses.l0, if_neg (by omega), if_neg (by omega)]
    exact ⟨_, rfl, rfl, by omega⟩
  | succ d ih =>
    intro k acc n i h0 h1 hd hl hk hn
    obtain ⟨k, rfl⟩ : ∃ m, k = m + 1 := ⟨k - 1, by omega⟩
    have hw : wrap64 (i + 1) = i + 1 := wrap_i (by omega) (by omega)
    rw [world_pauses.l0, dynamometerref8_Pauses.l0, if_pos (by omega), if_pos (by omega), if_pos (by omega), if_pos (by omega), hw, mn_eq hn]
    exact ih k _ _ (i + 1) (by omega) (by omega) (by omega) (by simp; omega) (by omega) (mn_le _ _)
theorem equal_same (l : List Int) (hl : l.length < 1000) : ∀ (d k i : Nat), i + d = l.length → d < k → slices_Equal_int_int.l0 k l l (l.length : Int) (i : Int) = some true := by
  intro d
  induction d with
  | zero =>
    intro k i hi hk
    obtain ⟨k, rfl⟩ : ∃ m, k = m + 1 := ⟨k - 1, by omega⟩
    rw [slices_Equal_int_int.l0, if_neg (by omega)]
  | succ d ih =>
    intro k i hi hk
    obtain ⟨k, rfl⟩ : ∃ m, k = m + 1 := ⟨k - 1, by omega⟩
    have hw : wrap64 ((i : Int) + 1) = ((i + 1 : Nat) : Int) := by rw [wrap_i (by omega) (by omega)]; omega
    rw [slices_Equal_int_int.l0, if_pos (by omega), if_pos (by omega), if_pos (by omega), if_pos (by omega), if_pos rfl, hw]
    exact ih k (i + 1) (by omega) (by omega)

theorem permits_eq (a b c d e f g h x y : Int) (k : Nat) : ∃ r, world_Permits.f (k + 2) a b c d e f g h x y = some r ∧ dynamometerref8_Permits.f (k + 2) a b c d e f g h x y = some r := by
  unfold world_Permits.f dynamometerref8_Permits.f
  rw [policy_eq, refpol_eq]
  simp only [Option.bind_some, inside_eq, outside_eq, decide_eq_true_eq, world_permits.f]
  by_cases c0 : chk a b c d e f g h = 0
  · rw [if_pos c0, if_pos c0]
    by_cases c1 : 0 ≤ x ∧ x ≤ 1000000000000
    · rw [if_pos c1, if_neg (c := _ ∨ _) (by omega)]
      by_cases c2 : 0 ≤ y ∧ y ≤ 1000000000000
      · rw [if_pos c2, if_neg (c := _ ∨ _) (by omega)]; exact ⟨_, rfl, rfl⟩
      · rw [if_neg c2, if_pos (c := _ ∨ _) (by omega)]; exact ⟨_, rfl, rfl⟩
    · rw [if_neg c1, if_pos (c := _ ∨ _) (by omega)]; exact ⟨_, rfl, rfl⟩
  · rw [if_neg c0, if_neg c0]; exact ⟨_, rfl, rfl⟩

theorem pure_law (a b c d e f g h x y : Int) : ∃ k, dynamometerlaw8_WorldPolicyMatchesSpec.f k a b c d e f g h x y = some true := by
  refine ⟨2000 + 2, ?_⟩
  have hp : ∃ l, world_Pauses.f (2000 + 2) a b c d e f g h = some (l, chk a b c d e f g h) ∧ dynamometerref8_Pauses.f (2000 + 2) a b c d e f g h = some (l, chk a b c d e f g h) ∧ l.length < 1000 := by
    unfold world_Pauses.f dynamometerref8_Pauses.f
    rw [policy_eq, refpol_eq]
    simp only [Option.bind_some]
    by_cases c0 : chk a b c d e f g h = 0
    · rw [if_pos c0, if_pos c0, c0]
      have hok : okP a b c d e f g h := by
        unfold chk at c0
        split at c0
        · assumption
        · cases c0
      obtain ⟨_, hb, _, _, he, _⟩ := hok
      have hw : wrap64 (b - 1) = b - 1 := wrap_i (by omega) (by omega)
      obtain ⟨r, h1, h2, h3⟩ := pauses_loop a b c d e f g h (b - 1) (by omega) (b - 1).toNat (2000 + 2) [] c 0 (by omega) (by omega) (by omega) (by simp; omega) (by omega) he.1
      refine ⟨r, ?_, ?_, h3⟩
      · unfold world_pauses.f; rw [hw, h1]; rfl
      · rw [hw, h2]
    · rw [if_neg c0, if_neg c0]
      exact ⟨[], rfl, rfl, by simp⟩
  obtain ⟨l, h1, h2, h3⟩ := hp
  obtain ⟨r, e1, e2⟩ := permits_eq a b c d e f g h x y 1999
  unfold dynamometerlaw8_WorldPolicyMatchesSpec.f
  rw [h1, h2, policy_eq, refpol_eq]
  have he : slices_Equal_int_int.f (2000 + 2) l l = some true := by
    unfold slices_Equal_int_int.f
    rw [if_pos rfl]
    exact equal_same l h3 l.length _ 0 (by omega) (by omega)
  simp only [Option.bind_some, if_true, he, Bool.not_true]
  rw [dynamometerlaw8_WorldPolicyMatchesSpec.j0, if_neg (by decide), e1, e2]
  simp [dynamometerlaw8_ran.f]
end Go.Proofs.YtgilfdgcimcohaaGreatDoor.PWorldPolicyMatchesSpec
