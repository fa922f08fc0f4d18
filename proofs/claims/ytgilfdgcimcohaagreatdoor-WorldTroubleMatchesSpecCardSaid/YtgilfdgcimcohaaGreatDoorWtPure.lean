/- The plain law of Trouble: what the program computes and what the reference computes is one. -/
import Derived.Test.YtgilfdgcimcohaaGreatDoorPWorldTroubleMatchesSpecx2
namespace Go.Proofs.YtgilfdgcimcohaaGreatDoor.PWorldTroubleMatchesSpec
open Go.RowKit Go.Proofs.YtgilfdgcimcohaaGreatDoorW.PrintWords Go.Proofs.YtgilfdgcimcohaaGreatDoorW.PrintLast Go.Proofs.YtgilfdgcimcohaaGreatDoorW.PrintMore

theorem wrap_i {i : Int} (h0 : -1000 ≤ i) (h : i ≤ 140737488351232) : wrap64 i = i := by
  unfold wrap64
  omega
theorem inside_eq (a l h : Int) : world_inside.f a l h = some (decide (l ≤ a ∧ a ≤ h)) := by
  unfold world_inside.f
  split
  · rename_i h1; congr 1; simp; omega
  · rename_i h1; congr 1; symm; simp; omega
theorem outside_eq (a l h : Int) : dynamometerref8_Outside.f a l h = some (decide (a < l ∨ a > h)) := by
  unfold dynamometerref8_Outside.f
  split
  · rename_i h1; congr 1; symm; simp; omega
  · rename_i h1; congr 1; simp; omega

/-- Whether a trouble's value is right. -/
def valOk (k v : Int) : Bool := if k = 1 then v = 0 else if k = 3 then decide (200 ≤ v ∧ v ≤ 599) else if k = 5 then decide (0 ≤ v ∧ v ≤ 1000000000) else decide (0 ≤ v ∧ v ≤ 1000000)
def tf (x : S128) : Int := if 1 ≤ x.f0 ∧ x.f0 ≤ 5 then (if 0 ≤ x.f1 ∧ x.f1 ≤ 49 ∧ 0 ≤ x.f2 ∧ x.f2 ≤ x.f3 ∧ x.f3 ≤ 1000000000000 ∧ valOk x.f0 x.f4 = true then 0 else 9) else 7
def tfl : List S128 → Int
  | [] => 0
  | x :: xs => if tf x = 0 then tfl xs else tf x

theorem rd_at (xs : List S128) (i : Nat) (h : i < xs.length) : rd_T128 xs (i : Int) = xs[i] := by
  simp [rd_T128, h]
theorem troubleValue_eq (a b c d e : Int) : world_troubleValue.f a b c d e = some (valOk a e) := by
  unfold world_troubleValue.f valOk
  simp only [inside_eq, Option.bind_some]
  by_cases h1 : a = 1
  · simp [h1]; rfl
  · by_cases h3 : a = 3
    · simp [h3]
    · by_cases h5 : a = 5
      · simp [h5]
      · simp [h1, h3, h5]

theorem check_step (k : Nat) (xs : List S128) (i : Nat) (h : i < xs.length) (hn : xs.length ≤ 140737488351232) :
    world_checkTroubles.l0 (k + 2) xs (xs.length : Int) (i : Int) = if tf xs[i] = 0 then world_checkTroubles.l0 k xs (xs.length : Int) ((i + 1 : Nat) : Int) else some (tf xs[i]) := by
  have hi : (i : Int) < (xs.length : Int) := by omega
  have h0 : (0 : Int) ≤ i := by omega
  have hw : wrap64 ((i : Int) + 1) = ((i + 1 : Nat) : Int) := by rw [wrap_i (by omega) (by omega)]; omega
  have h50 : wrap64 ((50 : Int) - 1) = 49 := by rw [wrap_i (by omega) (by omega)]; rfl
  have hol : ∃ b, world_ofLink.f xs[i].f0 = some b := by unfold world_ofLink.f; split <;> exact ⟨_, rfl⟩
  obtain ⟨b, hb⟩ := hol
  rw [world_checkTroubles.l0, if_pos hi, if_pos h0, if_pos hi, rd_at xs i h, hb]
  simp only [Option.bind_some, ite_self]
  generalize xs[i] = x
  rw [world_checkTroubles.j1]
  simp only [world_troubleKind.f, inside_eq, troubleValue_eq, Option.bind_some, h50, hw, decide_eq_true_eq]
  unfold tf
  by_cases c0 : 1 ≤ x.f0 ∧ x.f0 ≤ 5
  · rw [if_pos c0, if_pos c0]
    by_cases c1 : 0 ≤ x.f1 ∧ x.f1 ≤ 49
    · rw [if_pos c1]
      by_cases c2 : x.f2 < 0
      · rw [if_pos c2, if_neg (c := _ ∧ _) (by omega)]; simp
      · rw [if_neg c2]
        by_cases c3 : x.f2 > x.f3
        · rw [if_pos c3, if_neg (c := _ ∧ _) (by omega)]; simp
        · rw [if_neg c3]
          by_cases c4 : x.f3 > 1000000000000
          · rw [if_pos c4, if_neg (c := _ ∧ _) (by omega)]; simp
          · rw [if_neg c4]
            by_cases c5 : valOk x.f0 x.f4 = true
            · rw [if_pos c5, if_pos (c := _ ∧ _) ⟨c1.1, c1.2, by omega, by omega, by omega, c5⟩]; simp
            · rw [if_neg c5, if_neg (c := _ ∧ _) (fun h => c5 h.2.2.2.2.2)]; simp
    · rw [if_neg c1, if_neg (c := _ ∧ _) (by omega)]; simp
  · rw [if_neg c0, if_neg c0]; simp
theorem fault_step (k : Nat) (xs : List S128) (i : Nat) (h : i < xs.length) (hn : xs.length ≤ 140737488351232) :
    dynamometerref8_troublesFault.l0 (k + 2) xs (xs.length : Int) (i : Int) = if tf xs[i] = 0 then dynamometerref8_troublesFault.l0 k xs (xs.length : Int) ((i + 1 : Nat) : Int) else some (tf xs[i]) := by
  have hi : (i : Int) < (xs.length : Int) := by omega
  have h0 : (0 : Int) ≤ i := by omega
  have hw : wrap64 ((i : Int) + 1) = ((i + 1 : Nat) : Int) := by rw [wrap_i (by omega) (by omega)]; omega
  rw [dynamometerref8_troublesFault.l0, if_pos hi, if_pos h0, if_pos hi, rd_at xs i h]
  generalize xs[i] = x
  have key : ∀ lo hi' : Int, (∀ v, valOk x.f0 v = true ↔ lo ≤ v ∧ v ≤ hi') → 1 ≤ x.f0 ∧ x.f0 ≤ 5 →
      dynamometerref8_troublesFault.j1 (k + 1) lo hi' xs (xs.length : Int) (i : Int) x.f0 x.f1 x.f2 x.f3 x.f4 = if tf x = 0 then dynamometerref8_troublesFault.l0 k xs (xs.length : Int) ((i + 1 : Nat) : Int) else some (tf x) := by
    intro lo hi' hv c0
    rw [dynamometerref8_troublesFault.j1]
    simp only [outside_eq, Option.bind_some, hw, decide_eq_true_eq]
    unfold tf
    rw [if_pos c0]
    by_cases c1 : x.f1 < 0 ∨ x.f1 > 49
    · rw [if_pos c1, if_neg (c := _ ∧ _) (by omega)]; simp
    · rw [if_neg c1]
      by_cases c2 : x.f2 < 0
      · rw [if_pos c2, if_neg (c := _ ∧ _) (by omega)]; simp
      · rw [if_neg c2]
        by_cases c3 : x.f2 > x.f3
        · rw [if_pos c3, if_neg (c := _ ∧ _) (by omega)]; simp
        · rw [if_neg c3]
          by_cases c4 : x.f3 > 1000000000000
          · rw [if_pos c4, if_neg (c := _ ∧ _) (by omega)]; simp
          · rw [if_neg c4]
            by_cases c5 : x.f4 < lo ∨ x.f4 > hi'
            · have : ¬ valOk x.f0 x.f4 = true := by rw [hv]; omega
              rw [if_pos c5, if_neg (c := _ ∧ _) (fun h => this h.2.2.2.2.2)]; simp
            · have : valOk x.f0 x.f4 = true := by rw [hv]; omega
              rw [if_neg c5, if_pos (c := _ ∧ _) ⟨by omega, by omega, by omega, by omega, by omega, this⟩]; simp
  simp only [outside_eq, Option.bind_some, decide_eq_true_eq]
  by_cases c0 : x.f0 < 1 ∨ x.f0 > 5
  · have : tf x = 7 := by unfold tf; rw [if_neg (by omega)]
    rw [if_pos c0, this]; simp
  · rw [if_neg c0]
    have c0' : 1 ≤ x.f0 ∧ x.f0 ≤ 5 := by omega
    by_cases h1 : x.f0 = 1
    · rw [if_pos h1]; exact key 0 0 (fun v => by simp [valOk, h1]; omega) c0'
    · rw [if_neg h1]
      by_cases h3 : x.f0 = 3
      · rw [if_pos h3]; exact key 200 599 (fun v => by simp [valOk, h3]) c0'
      · rw [if_neg h3]
        by_cases h5 : x.f0 = 5
        · rw [if_pos h5]; exact key 0 1000000000 (fun v => by simp [valOk, h5]) c0'
        · rw [if_neg h5]; exact key 0 1000000 (fun v => by simp [valOk, h1, h3, h5]) c0'

theorem check_all (xs : List S128) (hn : xs.length ≤ 140737488351232) : ∀ (d i k : Nat), i + d = xs.length → 2 * d < k → world_checkTroubles.l0 k xs (xs.length : Int) (i : Int) = some (tfl (xs.drop i)) := by
  intro d
  induction d with
  | zero =>
    intro i k hi hk
    obtain ⟨k, rfl⟩ : ∃ m, k = m + 1 := ⟨k - 1, by omega⟩
    rw [world_checkTroubles.l0, if_neg (by omega), List.drop_of_length_le (by omega)]
    rfl
  | succ d ih =>
    intro i k hi hk
    obtain ⟨k, rfl⟩ : ∃ m, k = m + 2 := ⟨k - 2, by omega⟩
    rw [check_step k xs i (by omega) hn, List.drop_eq_getElem_cons (by omega), tfl, ih (i + 1) k (by omega) (by omega)]
    split <;> rfl
theorem fault_all (xs : List S128) (hn : xs.length ≤ 140737488351232) : ∀ (d i k : Nat), i + d = xs.length → 2 * d < k → dynamometerref8_troublesFault.l0 k xs (xs.length : Int) (i : Int) = some (tfl (xs.drop i)) := by
  intro d
  induction d with
  | zero =>
    intro i k hi hk
    obtain ⟨k, rfl⟩ : ∃ m, k = m + 1 := ⟨k - 1, by omega⟩
    rw [dynamometerref8_troublesFault.l0, if_neg (by omega), List.drop_of_length_le (by omega)]
    rfl
  | succ d ih =>
    intro i k hi hk
    obtain ⟨k, rfl⟩ : ∃ m, k = m + 2 := ⟨k - 2, by omega⟩
    rw [fault_step k xs i (by omega) hn, List.drop_eq_getElem_cons (by omega), tfl, ih (i + 1) k (by omega) (by omega)]
    split <;> rfl

theorem trouble_same : ∀ (k : Nat) (a b c : Int) (xs : List S128) (n i : Int), world_trouble.l0 k a b c xs n i = dynamometerref8_trouble.l0 k a b c xs n i
  | 0, _, _, _, _, _, _ => rfl
  | k + 1, a, b, c, xs, n, i => by
    rw [world_trouble.l0, dynamometerref8_trouble.l0, trouble_same k]
theorem trouble_some (a b c : Int) (xs : List S128) (hn : xs.length ≤ 140737488351232) : ∀ (d i k : Nat), i + d = xs.length → d < k → ∃ r, world_trouble.l0 k a b c xs (xs.length : Int) (i : Int) = some r := by
  intro d
  induction d with
  | zero =>
    intro i k hi hk
    obtain ⟨k, rfl⟩ : ∃ m, k = m + 1 := ⟨k - 1, by omega⟩
    rw [world_trouble.l0, if_neg (by omega)]
    exact ⟨_, rfl⟩
  | succ d ih =>
    intro i k hi hk
    obtain ⟨k, rfl⟩ : ∃ m, k = m + 1 := ⟨k - 1, by omega⟩
    have hw : wrap64 ((i : Int) + 1) = ((i + 1 : Nat) : Int) := by rw [wrap_i (by omega) (by omega)]; omega
    obtain ⟨r, hr⟩ := ih (i + 1) k (by omega) (by omega)
    rw [world_trouble.l0, if_pos (by omega), if_pos (by omega), if_pos (by omega), hw, hr]
    repeat' split
    all_goals exact ⟨_, rfl⟩

theorem pure_law (xs : List S128) (a1 a2 a3 : Int) : ∃ k, dynamometerlaw8_WorldTroubleMatchesSpec.f k xs a1 a2 a3 = some true := by
  refine ⟨2 * xs.length + 1, ?_⟩
  unfold dynamometerlaw8_WorldTroubleMatchesSpec.f world_Trouble.f dynamometerref8_Trouble.f world_checkTroubles.f dynamometerref8_troublesFault.f
  by_cases hn : (xs.length : Int) > 100
  · rw [if_pos hn, if_pos hn]
    simp [dynamometerlaw8_ran.f]
  · rw [if_neg hn, if_neg hn, show (0 : Int) = ((0 : Nat) : Int) from rfl, check_all xs (by omega) xs.length 0 _ (by omega) (by omega), fault_all xs (by omega) xs.length 0 _ (by omega) (by omega)]
    obtain ⟨r, hr⟩ := trouble_some a1 a2 a3 xs (by omega) xs.length 0 (2 * xs.length + 1) (by omega) (by omega)
    have hr2 := hr
    rw [trouble_same] at hr2
    simp only [Option.bind_some]
    by_cases h0 : tfl (xs.drop 0) = ((0 : Nat) : Int)
    · rw [if_pos h0, if_pos h0]
      simp only [world_troubleKind.f, inside_eq, outside_eq, Option.bind_some, decide_eq_true_eq, world_trouble.f, dynamometerref8_trouble.f]
      rw [show ((0 : Nat) : Int) = 0 from rfl] at hr hr2 ⊢
      rw [hr, hr2]
      by_cases c1 : 1 ≤ a1 ∧ a1 ≤ 5
      · rw [if_pos c1, if_neg (c := _ ∨ _) (by omega)]
        by_cases c2 : 0 ≤ a3 ∧ a3 ≤ 1000000000000
        · rw [if_pos c2, if_neg (c := _ ∨ _) (by omega)]
          simp [dynamometerlaw8_ran.f]
        · rw [if_neg c2, if_pos (c := _ ∨ _) (by omega)]
          simp [dynamometerlaw8_ran.f]
      · rw [if_neg c1, if_pos (c := _ ∨ _) (by omega)]
        simp [dynamometerlaw8_ran.f]
    · rw [if_neg h0, if_neg h0]
      simp [dynamometerlaw8_ran.f]
end Go.Proofs.YtgilfdgcimcohaaGreatDoor.PWorldTroubleMatchesSpec
