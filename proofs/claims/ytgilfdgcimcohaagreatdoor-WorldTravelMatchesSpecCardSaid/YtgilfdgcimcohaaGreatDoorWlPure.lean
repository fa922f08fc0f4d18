/- The plain law of Travel: what the program computes and what the reference computes is one. -/
import Derived.Test.YtgilfdgcimcohaaGreatDoorPWorldTravelMatchesSpecx2
namespace Go.Proofs.YtgilfdgcimcohaaGreatDoor.PWorldTravelMatchesSpec
open Go.RowKit Go.Proofs.YtgilfdgcimcohaaGreatDoorW.PrintWords Go.Proofs.YtgilfdgcimcohaaGreatDoorW.PrintLast Go.Proofs.YtgilfdgcimcohaaGreatDoorW.PrintMore

theorem wrap_i {i : Int} (h0 : -1000000000000000000 ≤ i) (h : i ≤ 1000000000000000000) : wrap64 i = i := by
  unfold wrap64
  omega
theorem inside_eq (a l h : Int) : world_inside.f a l h = some (decide (l ≤ a ∧ a ≤ h)) := by
  unfold world_inside.f
  split
  · rename_i h1; congr 1; simp; omega
  · rename_i h1; congr 1; symm; simp; omega
theorem outside_eq (a l h : Int) : dynamometerref8_Outside.f a l h = some (decide (a < l ∨ a > h)) := by
  unfold dynamometerref8_Outside.f
  split
  · rename_i h1; congr 1; symm; simp; omega
  · rename_i h1; congr 1; simp; omega
theorem draw_some (a b c d : Int) : ∃ r, api_Draw.f a b c d = some r := by
  unfold api_Draw.f
  simp only [api_Draw.l0, api_mixed.f, Option.bind_some]
  have e1 : wrap64 (0 + 1) = 1 := by unfold wrap64; omega
  have e2 : wrap64 (1 + 1) = 2 := by unfold wrap64; omega
  have e3 : wrap64 (2 + 1) = 3 := by unfold wrap64; omega
  rw [e1, e2, e3, if_pos (by decide), if_pos (by decide), if_pos (by decide), if_neg (by decide)]
  exact ⟨_, rfl⟩
theorem below_some (a b c d m : Int) : ∃ r, api_Below.f a b c d m = some r := by
  obtain ⟨r, h⟩ := draw_some a b c d
  unfold api_Below.f
  rw [h]
  exact ⟨_, rfl⟩
theorem wrap_u64 (n : Int) : IntKind.u64.wrap n = n % 18446744073709551616 := by simp [IntKind.wrap, IntKind.bits, IntKind.signed]
theorem and_mask {x : Int} (h0 : 0 ≤ x) (h1 : x < 4294967296) : Go.bits .and .u64 x 4294967295 = x := by
  have h := bits_mask .u64 63 (by decide) (fun n h0 h1 => by rw [wrap_u64]; omega) 32 (by decide) x h0 (by omega)
  have e : ((2 : Int) ^ 32) - 1 = 4294967295 := by decide
  have e2 : ((2 : Int) ^ 32) = 4294967296 := by decide
  rw [e, e2] at h
  rw [h]
  omega
theorem mul_eq (a : Int) (h0 : 0 ≤ a) (h1 : a ≤ 10000000) : bits_Mul64.f (IntKind.u64.wrap a) 1000000 = some (0, a * 1000000) := by
  have e0 : IntKind.u64.wrap a = a := by rw [wrap_u64]; omega
  have e1 : (1000000 : Int) / 4294967296 = 0 := by decide
  have e2 : a / 4294967296 = 0 := by omega
  have e3 : Go.bits .and .u64 a 4294967295 = a := and_mask h0 (by omega)
  have e4 : Go.bits .and .u64 1000000 4294967295 = 1000000 := and_mask (by decide) (by decide)
  have e5 : IntKind.u64.wrap (a * 1000000) = a * 1000000 := by rw [wrap_u64]; omega
  have e6 : IntKind.u64.wrap 0 = 0 := by decide
  have e7 : IntKind.u64.wrap (a * 1000000 / 4294967296) = a * 1000000 / 4294967296 := by rw [wrap_u64]; omega
  have e8 : Go.bits .and .u64 (a * 1000000 / 4294967296) 4294967295 = a * 1000000 / 4294967296 := and_mask (by omega) (by omega)
  have e9 : a * 1000000 / 4294967296 / 4294967296 = 0 := by omega
  unfold bits_Mul64.f
  rw [e0, e1, e2, e3, e4, e5]
  simp only [Int.zero_mul, Int.mul_zero, Int.zero_add, Int.add_zero, e6, e7, e8, e9]

theorem travel_eq (l0 l1 l2 l3 a1 a2 a3 a4 : Int) (hr : 0 ≤ l2 ∧ l2 ≤ 1000000000000) (hs : 0 ≤ a1 ∧ a1 ≤ 10000000) : ∃ r, world_travel.f l0 l1 l2 l3 a1 a2 a3 a4 = some r ∧ dynamometerref8_travel.f l0 l1 l2 l3 a1 a2 a3 a4 = some r := by
  unfold world_travel.f dynamometerref8_travel.f
  obtain ⟨x, hx⟩ := below_some a2 5 a3 a4 1000000
  obtain ⟨y, hy⟩ := below_some a2 5 a3 (wrap64 (a4 + 1)) (wrap64 ((wrap64 (l1 - l0)) + 1))
  rw [hx]
  simp only [Option.bind_some]
  by_cases c1 : x < l3
  · rw [if_pos c1, if_pos c1]; exact ⟨_, rfl, rfl⟩
  · rw [if_neg c1, if_neg c1, hy]
    simp only [Option.bind_some]
    by_cases c2 : l2 > 0
    · rw [if_pos c2, if_pos c2, if_neg (by omega), mul_eq a1 hs.1 hs.2]
      simp only [Option.bind_some]
      have e0 : IntKind.u64.wrap l2 = l2 := by rw [wrap_u64]; omega
      have hd : bits_Div64.f 0 (a1 * 1000000) l2 = some (a1 * 1000000 / l2, a1 * 1000000 % l2) := by
        unfold bits_Div64.f
        rw [if_pos rfl, if_pos (by omega), if_pos c2]
      rw [e0, hd]
      simp only [Option.bind_some]
      have e1 : wrap64 (wrap64 (wrap64 (a1 * 1000000) + l2) - 1) = a1 * 1000000 + l2 - 1 := by
        rw [wrap_i (i := a1 * 1000000) (by omega) (by omega), wrap_i (i := a1 * 1000000 + l2) (by omega) (by omega), wrap_i (by omega) (by omega)]
      have e2 : (a1 * 1000000 + l2 - 1).tdiv l2 = (a1 * 1000000 + l2 - 1) / l2 := Int.tdiv_eq_ediv_of_nonneg (by omega)
      rw [e1, e2]
      generalize hp : a1 * 1000000 = p
      have hp0 : 0 ≤ p ∧ p ≤ 10000000000000 := by omega
      -- the quotient, rounded up
      have hq := Int.mul_ediv_add_emod p l2
      have hm0 := Int.emod_nonneg p (b := l2) (by omega)
      have hm1 := Int.emod_lt_of_pos p c2
      have hqn : 0 ≤ p / l2 := Int.ediv_nonneg hp0.1 (by omega)
      have hqle : p / l2 ≤ p := Int.ediv_le_self l2 hp0.1
      generalize p / l2 = q at hq hqn hqle ⊢
      generalize p % l2 = m at hq hm0 hm1 ⊢
      by_cases c3 : m > 0
      · rw [if_pos c3]
        have e3 : (p + l2 - 1) / l2 = q + 1 := by
          have : p + l2 - 1 = (m - 1) + l2 * (q + 1) := by rw [← hq, Int.mul_add]; omega
          rw [this, Int.add_mul_ediv_left _ _ (by omega), Int.ediv_eq_zero_of_lt (by omega) (by omega)]
          omega
        rw [e3]
        refine ⟨_, rfl, ?_⟩
        congr 2
        unfold wrap64
        omega
      · rw [if_neg c3]
        have e3 : (p + l2 - 1) / l2 = q := by
          have : p + l2 - 1 = (l2 - 1) + l2 * q := by rw [← hq]; omega
          rw [this, Int.add_mul_ediv_left _ _ (by omega), Int.ediv_eq_zero_of_lt (by omega) (by omega)]
          omega
        rw [e3]
        exact ⟨_, rfl, rfl⟩
    · rw [if_neg c2, if_neg c2]; exact ⟨_, rfl, rfl⟩

theorem link_eq (l0 l1 l2 l3 : Int) : ∃ r, world_CheckLink.f l0 l1 l2 l3 = some r ∧ dynamometerref8_CheckLink.f l0 l1 l2 l3 = some r ∧ (r = 0 → 0 ≤ l2 ∧ l2 ≤ 1000000000000) := by
  unfold world_CheckLink.f dynamometerref8_CheckLink.f
  simp only [inside_eq, outside_eq, Option.bind_some, decide_eq_true_eq]
  by_cases c1 : l0 < 0
  · rw [if_pos c1, if_pos c1]; exact ⟨_, rfl, rfl, fun h => by cases h⟩
  · rw [if_neg c1, if_neg c1]
    by_cases c2 : l0 > l1
    · rw [if_pos c2, if_pos c2]; exact ⟨_, rfl, rfl, fun h => by cases h⟩
    · rw [if_neg c2, if_neg c2]
      by_cases c3 : l1 > 1000000000
      · rw [if_pos c3, if_pos c3]; exact ⟨_, rfl, rfl, fun h => by cases h⟩
      · rw [if_neg c3, if_neg c3]
        by_cases c4 : 0 ≤ l2 ∧ l2 ≤ 1000000000000
        · rw [if_pos c4, if_neg (c := _ ∨ _) (by omega)]
          by_cases c5 : 0 ≤ l3 ∧ l3 ≤ 1000000
          · rw [if_pos c5, if_neg (c := _ ∨ _) (by omega)]; exact ⟨_, rfl, rfl, fun _ => c4⟩
          · rw [if_neg c5, if_pos (c := _ ∨ _) (by omega)]; exact ⟨_, rfl, rfl, fun _ => c4⟩
        · rw [if_neg c4, if_pos (c := _ ∨ _) (by omega)]; exact ⟨_, rfl, rfl, fun h => by cases h⟩

theorem pure_law (l0 l1 l2 l3 a1 a2 a3 a4 : Int) : dynamometerlaw8_WorldTravelMatchesSpec.f l0 l1 l2 l3 a1 a2 a3 a4 = some true := by
  obtain ⟨r, h1, h2, h3⟩ := link_eq l0 l1 l2 l3
  have key : ∃ q, world_Travel.f l0 l1 l2 l3 a1 a2 a3 a4 = some q ∧ dynamometerref8_Travel.f l0 l1 l2 l3 a1 a2 a3 a4 = some q := by
    unfold world_Travel.f dynamometerref8_Travel.f
    rw [h1, h2]
    simp only [Option.bind_some, inside_eq, outside_eq, decide_eq_true_eq]
    by_cases c0 : r = 0
    · rw [if_pos c0, if_pos c0]
      by_cases c1 : 0 ≤ a1 ∧ a1 ≤ 10000000
      · rw [if_pos c1, if_neg (c := _ ∨ _) (by omega)]
        by_cases c2 : 0 ≤ a3 ∧ a3 ≤ 1000000000000
        · rw [if_pos c2, if_neg (c := _ ∨ _) (by omega)]
          by_cases c3 : 0 ≤ a4 ∧ a4 ≤ 1000000000000
          · rw [if_pos c3, if_neg (c := _ ∨ _) (by omega)]
            obtain ⟨q, e1, e2⟩ := travel_eq l0 l1 l2 l3 a1 a2 a3 a4 (h3 c0) c1
            rw [e1, e2]
            exact ⟨_, rfl, rfl⟩
          · rw [if_neg c3, if_pos (c := _ ∨ _) (by omega)]; exact ⟨_, rfl, rfl⟩
        · rw [if_neg c2, if_pos (c := _ ∨ _) (by omega)]; exact ⟨_, rfl, rfl⟩
      · rw [if_neg c1, if_pos (c := _ ∨ _) (by omega)]; exact ⟨_, rfl, rfl⟩
    · rw [if_neg c0, if_neg c0]; exact ⟨_, rfl, rfl⟩
  obtain ⟨q, e1, e2⟩ := key
  unfold dynamometerlaw8_WorldTravelMatchesSpec.f
  rw [e1, e2, h1, h2]
  simp [dynamometerlaw8_ran.f]
end Go.Proofs.YtgilfdgcimcohaaGreatDoor.PWorldTravelMatchesSpec
