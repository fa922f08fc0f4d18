/- The plain law of Area: what the program computes and what the reference computes is one, and the areas of two parts are together that of the whole. -/
import Derived.Test.YtgilfdgcimcohaaGreatDoorPWorldAreaMatchesSpecx2
namespace Go.Proofs.YtgilfdgcimcohaaGreatDoor.PWorldAreaMatchesSpec
open Go.RowKit Go.Proofs.YtgilfdgcimcohaaGreatDoorW.PrintWords Go.Proofs.YtgilfdgcimcohaaGreatDoorW.PrintLast Go.Proofs.YtgilfdgcimcohaaGreatDoorW.PrintMore

theorem wrap_i {i : Int} (h0 : -1000000000000000000 ≤ i) (h : i ≤ 1000000000000000000) : wrap64 i = i := by
  unfold wrap64
  omega
theorem inside_eq (a l h : Int) : world_inside.f a l h = some (decide (l ≤ a ∧ a ≤ h)) := by
  unfold world_inside.f
  split
  · rename_i h1; congr 1; simp; omega
  · rename_i h1; congr 1; symm; simp; omega
theorem outside_eq (a l h : Int) : dynamometerref8_Outside.f a l h = some (decide (a < l ∨ a > h)) := by
  unfold dynamometerref8_Outside.f
  split
  · rename_i h1; congr 1; symm; simp; omega
  · rename_i h1; congr 1; simp; omega
theorem rd_at (xs : List S94) (i : Nat) (h : i < xs.length) : rd_T94 xs (i : Int) = xs[i] := by
  simp [rd_T94, h]

def okC (x : S94) : Prop := 0 ≤ x.f0 ∧ x.f0 ≤ 1000000000000 ∧ 0 ≤ x.f1 ∧ x.f1 ≤ 40000
instance (x : S94) : Decidable (okC x) := by unfold okC; infer_instance
/-- The fault of a list behind a time. -/
def ck : Option Int → List S94 → Int
  | _, [] => 0
  | p, x :: xs => if okC x then (if (∃ q, p = some q ∧ x.f0 ≤ q) then 10 else ck (some x.f0) xs) else 9
def pv (xs : List S94) : Nat → Option Int
  | 0 => none
  | i + 1 => xs[i]?.map (·.f0)
/-- The area. -/
def ar (f t : Int) : List S94 → Int
  | [] => 0
  | [c] => c.f1 * mx 0 (t - mx c.f0 f)
  | c :: d :: r => c.f1 * mx 0 (mn t d.f0 - mx c.f0 f) + ar f t (d :: r)
def badR (f t : Int) : Prop := f < 0 ∨ f > t ∨ t > 1000000000000
instance (f t : Int) : Decidable (badR f t) := by unfold badR; infer_instance
def areaOf (xs : List S94) (f t : Int) : Int × Int := if (xs.length : Int) > 40000 then (0, 3) else if ck none xs = 0 then (if badR f t then (0, 9) else (wrap64 (ar f t xs), 0)) else (0, ck none xs)

theorem ck_ok : ∀ (xs : List S94) (p : Option Int), ck p xs = 0 → ∀ x ∈ xs, okC x
  | [], _, _, _, h => by cases h
  | y :: ys, p, h, x, hx => by
    unfold ck at h
    split at h
    · rename_i h1
      split at h
      · cases h
      · rcases List.mem_cons.1 hx with e | e
        · exact e ▸ h1
        · exact ck_ok ys _ h x e
    · cases h

theorem wrap_add (a p q : Int) : wrap64 (wrap64 (a + wrap64 p) + q) = wrap64 (a + (p + q)) := by
  unfold wrap64
  omega
theorem wrap_wrap (a : Int) : wrap64 (wrap64 a) = wrap64 a := by
  unfold wrap64
  omega
theorem wrap_add' (a p : Int) : wrap64 (a + wrap64 p) = wrap64 (a + p) := by
  unfold wrap64
  omega

theorem drop_two (xs : List S94) (i : Nat) (h : i < xs.length) (h2 : i + 1 < xs.length) (f t : Int) :
    ar f t (xs.drop i) = xs[i].f1 * mx 0 (mn t xs[i + 1].f0 - mx xs[i].f0 f) + ar f t (xs.drop (i + 1)) := by
  rw [List.drop_eq_getElem_cons h, List.drop_eq_getElem_cons h2, ar]
theorem drop_one (xs : List S94) (i : Nat) (h : i < xs.length) (h2 : ¬ i + 1 < xs.length) (f t : Int) :
    ar f t (xs.drop i) = xs[i].f1 * mx 0 (t - mx xs[i].f0 f) := by
  rw [List.drop_eq_getElem_cons h, List.drop_of_length_le (by omega), ar]

/-- The program's loop. -/
theorem area_loop (xs : List S94) (hn : (xs.length : Int) ≤ 40000) (hx : ∀ x ∈ xs, okC x) (f t : Int) (hb : ¬ badR f t) : ∀ (d i k : Nat) (acc : Int), i + d = xs.length → d < k →
    ∃ r, world_Area.l1 k xs f t (wrap64 acc) xs (xs.length : Int) (i : Int) = some (r, 0) ∧ r = wrap64 (acc + ar f t (xs.drop i)) := by
  unfold badR at hb
  intro d
  induction d with
  | zero =>
    intro i k acc hi hk
    obtain ⟨k, rfl⟩ : ∃ m, k = m + 1 := ⟨k - 1, by omega⟩
    rw [world_Area.l1, if_neg (by omega), List.drop_of_length_le (by omega), ar, Int.add_zero]
    exact ⟨_, rfl, rfl⟩
  | succ d ih =>
    intro i k acc hi hk
    obtain ⟨k, rfl⟩ : ∃ m, k = m + 1 := ⟨k - 1, by omega⟩
    have hlt : i < xs.length := by omega
    have hw : wrap64 ((i : Int) + 1) = ((i + 1 : Nat) : Int) := by rw [wrap_i (by omega) (by omega)]; omega
    have h1 : okC xs[i] := hx _ (List.getElem_mem hlt)
    rw [world_Area.l1, if_pos (by omega), if_pos (by omega), if_pos (by omega), hw, rd_at xs i hlt]
    by_cases h2 : i + 1 < xs.length
    · have h3 : okC xs[i + 1] := hx _ (List.getElem_mem h2)
      rw [if_pos (by omega), if_pos (by omega), rd_at xs (i + 1) h2]
      have e : wrap64 (mn t xs[i + 1].f0 - mx xs[i].f0 f) = mn t xs[i + 1].f0 - mx xs[i].f0 f := by
        unfold okC at h1 h3
        apply wrap_i <;> (unfold mn mx; omega)
      rw [e, wrap_add']
      have e2 : wrap64 (wrap64 acc + xs[i].f1 * mx 0 (mn t xs[i + 1].f0 - mx xs[i].f0 f)) = wrap64 (acc + xs[i].f1 * mx 0 (mn t xs[i + 1].f0 - mx xs[i].f0 f)) := by
        generalize xs[i].f1 * mx 0 (mn t xs[i + 1].f0 - mx xs[i].f0 f) = p
        unfold wrap64; omega
      rw [e2]
      obtain ⟨r, hr, e3⟩ := ih (i + 1) k (acc + xs[i].f1 * mx 0 (mn t xs[i + 1].f0 - mx xs[i].f0 f)) (by omega) (by omega)
      exact ⟨r, hr, by rw [e3, drop_two xs i hlt h2, Int.add_assoc]⟩
    · rw [if_neg (by omega)]
      have e : wrap64 (t - mx xs[i].f0 f) = t - mx xs[i].f0 f := by
        unfold okC at h1
        apply wrap_i <;> (unfold mx; omega)
      rw [e, wrap_add']
      have e2 : wrap64 (wrap64 acc + xs[i].f1 * mx 0 (t - mx xs[i].f0 f)) = wrap64 (acc + xs[i].f1 * mx 0 (t - mx xs[i].f0 f)) := by
        generalize xs[i].f1 * mx 0 (t - mx xs[i].f0 f) = p
        unfold wrap64; omega
      rw [e2]
      obtain ⟨r, hr, e3⟩ := ih (i + 1) k (acc + xs[i].f1 * mx 0 (t - mx xs[i].f0 f)) (by omega) (by omega)
      refine ⟨r, hr, ?_⟩
      rw [e3, drop_one xs i hlt h2, List.drop_of_length_le (by omega), ar, Int.add_zero]

theorem mx_pos {a b : Int} (h : a < b) : mx 0 (b - a) = b - a := by unfold mx; omega
theorem mx_neg {a b : Int} (h : ¬ a < b) : mx 0 (b - a) = 0 := by unfold mx; omega
/-- The reference's loop. -/
theorem ref_loop (xs : List S94) (hn : (xs.length : Int) ≤ 40000) (hx : ∀ x ∈ xs, okC x) (f t : Int) (hb : ¬ badR f t) : ∀ (d i k : Nat) (acc : Int), i + d = xs.length → d < k →
    ∃ r, dynamometerref8_area.l0 k xs f t (wrap64 acc) xs (xs.length : Int) (i : Int) = some r ∧ r = wrap64 (acc + ar f t (xs.drop i)) := by
  unfold badR at hb
  intro d
  induction d with
  | zero =>
    intro i k acc hi hk
    obtain ⟨k, rfl⟩ : ∃ m, k = m + 1 := ⟨k - 1, by omega⟩
    rw [dynamometerref8_area.l0, if_neg (by omega), List.drop_of_length_le (by omega), ar, Int.add_zero]
    exact ⟨_, rfl, rfl⟩
  | succ d ih =>
    intro i k acc hi hk
    obtain ⟨k, rfl⟩ : ∃ m, k = m + 1 := ⟨k - 1, by omega⟩
    have hlt : i < xs.length := by omega
    have hw : wrap64 ((i : Int) + 1) = ((i + 1 : Nat) : Int) := by rw [wrap_i (by omega) (by omega)]; omega
    have h1 : okC xs[i] := hx _ (List.getElem_mem hlt)
    rw [dynamometerref8_area.l0, if_pos (by omega), if_pos (by omega), if_pos (by omega), hw, rd_at xs i hlt]
    by_cases h2 : i + 1 < xs.length
    · have h3 : okC xs[i + 1] := hx _ (List.getElem_mem h2)
      rw [if_pos (by omega), if_pos (by omega), rd_at xs (i + 1) h2]
      have e : wrap64 (mn t xs[i + 1].f0 - mx xs[i].f0 f) = mn t xs[i + 1].f0 - mx xs[i].f0 f := by
        unfold okC at h1 h3
        apply wrap_i <;> (unfold mn mx; omega)
      rw [e, drop_two xs i hlt h2]
      by_cases h4 : mx xs[i].f0 f < mn t xs[i + 1].f0
      · rw [if_pos h4, mx_pos h4, Int.mul_comm, wrap_add']
        generalize xs[i].f1 * (mn t xs[i + 1].f0 - mx xs[i].f0 f) = p
        have e2 : wrap64 (wrap64 acc + p) = wrap64 (acc + p) := by unfold wrap64; omega
        rw [e2]
        obtain ⟨r, hr, e3⟩ := ih (i + 1) k (acc + p) (by omega) (by omega)
        exact ⟨r, hr, by rw [e3, Int.add_assoc]⟩
      · rw [if_neg h4, mx_neg h4, Int.mul_zero, Int.zero_add]
        exact ih (i + 1) k acc (by omega) (by omega)
    · rw [if_neg (by omega)]
      have e : wrap64 (t - mx xs[i].f0 f) = t - mx xs[i].f0 f := by
        unfold okC at h1
        apply wrap_i <;> (unfold mx; omega)
      have hd : ar f t (xs.drop (i + 1)) = 0 := by rw [List.drop_of_length_le (by omega), ar]
      rw [e, drop_one xs i hlt h2]
      by_cases h4 : mx xs[i].f0 f < t
      · rw [if_pos h4, mx_pos h4, Int.mul_comm, wrap_add']
        generalize xs[i].f1 * (t - mx xs[i].f0 f) = p
        have e2 : wrap64 (wrap64 acc + p) = wrap64 (acc + p) := by unfold wrap64; omega
        rw [e2]
        obtain ⟨r, hr, e3⟩ := ih (i + 1) k (acc + p) (by omega) (by omega)
        exact ⟨r, hr, by rw [e3, hd, Int.add_zero]⟩
      · rw [if_neg h4, mx_neg h4, Int.mul_zero, Int.add_zero]
        obtain ⟨r, hr, e3⟩ := ih (i + 1) k acc (by omega) (by omega)
        exact ⟨r, hr, by rw [e3, hd, Int.add_zero]⟩

theorem pv_at (xs : List S94) (i : Nat) (h0 : 0 < i) (h : i < xs.length) : pv xs i = some (xs[i - 1]'(by omega)).f0 := by
  obtain ⟨i, rfl⟩ : ∃ m, i = m + 1 := ⟨i - 1, by omega⟩
  have : i < xs.length := by omega
  simp [pv, this]
theorem pv_next (xs : List S94) (i : Nat) (h : i < xs.length) : pv xs (i + 1) = some xs[i].f0 := by
  simp [pv, h]
theorem ck_at (xs : List S94) (i : Nat) (h : i < xs.length) : ck (pv xs i) (xs.drop i) = if okC xs[i] then (if (∃ q, pv xs i = some q ∧ xs[i].f0 ≤ q) then 10 else ck (pv xs (i + 1)) (xs.drop (i + 1))) else 9 := by
  rw [List.drop_eq_getElem_cons h, ck, pv_next xs i h]

/-- The program's function. -/
theorem area_check (xs : List S94) (hn : (xs.length : Int) ≤ 40000) (f t : Int) (h0 : ck none xs = 0 → ∀ x ∈ xs, okC x) :
    ∀ (d i k : Nat), i + d = xs.length → (ck (pv xs i) (xs.drop i) = ck none xs) → 2 * d + xs.length + 2 < k →
    world_Area.l0 k xs f t xs (xs.length : Int) (i : Int) = some (if ck none xs = 0 then (if badR f t then (0, 9) else (wrap64 (ar f t xs), 0)) else (0, ck none xs)) := by
  intro d
  induction d with
  | zero =>
    intro i k hi hc hk
    obtain ⟨k, rfl⟩ : ∃ m, k = m + 2 := ⟨k - 2, by omega⟩
    have hz : ck none xs = 0 := by rw [← hc, List.drop_of_length_le (by omega), ck]
    rw [world_Area.l0, if_neg (by omega), if_pos hz]
    simp only [world_Area.j2]
    by_cases hb : badR f t
    · rw [if_pos hb]
      unfold badR at hb
      by_cases c1 : f < 0
      · simp [c1]
      · by_cases c2 : f > t
        · simp [c1, c2]
        · have c3 : t > 1000000000000 := by omega
          simp [c1, c2, c3]
    · rw [if_neg hb]
      have hb' := hb
      unfold badR at hb'
      rw [if_neg (by omega), if_neg (by omega), if_neg (c := decide (t > 1000000000000) = true) (by simp; omega)]
      obtain ⟨r, hr, e⟩ := area_loop xs hn (h0 hz) f t hb xs.length 0 k 0 (by omega) (by omega)
      rw [show wrap64 0 = 0 by unfold wrap64; omega] at hr
      rw [List.drop_zero, Int.zero_add] at e
      rw [← e]
      exact hr
  | succ d ih =>
    intro i k hi hc hk
    obtain ⟨k, rfl⟩ : ∃ m, k = m + 2 := ⟨k - 2, by omega⟩
    have hlt : i < xs.length := by omega
    have hw : wrap64 ((i : Int) + 1) = ((i + 1 : Nat) : Int) := by rw [wrap_i (by omega) (by omega)]; omega
    have hck := ck_at xs i hlt
    rw [hc] at hck
    rw [world_Area.l0, if_pos (by omega), if_pos (by omega), if_pos (by omega), rd_at xs i hlt]
    simp only [inside_eq, Option.bind_some, decide_eq_true_eq]
    have hj : ∀ b : Bool, (b = false ↔ okC xs[i]) → world_Area.j1 (k + 1) xs f t (i : Int) xs (xs.length : Int) (i : Int) b xs[i].f0 xs[i].f1 =
        some (if ck none xs = 0 then (if badR f t then (0, 9) else (wrap64 (ar f t xs), 0)) else (0, ck none xs)) := by
      intro b hb
      rw [world_Area.j1]
      by_cases hok : okC xs[i]
      · rw [hb.2 hok, if_neg (by decide)]
        rw [if_pos hok] at hck
        by_cases hi0 : 0 < i
        · have hw2 : wrap64 ((i : Int) - 1) = ((i - 1 : Nat) : Int) := by rw [wrap_i (by omega) (by omega)]; omega
          rw [if_pos (by omega), hw2, if_pos (by omega), if_pos (by omega), rd_at xs (i - 1) (by omega)]
          by_cases hle : xs[i].f0 ≤ (xs[i - 1]'(by omega)).f0
          · rw [if_pos hle]
            rw [if_pos ⟨_, pv_at xs i hi0 hlt, hle⟩] at hck
            rw [hck]; rfl
          · rw [if_neg hle, hw]
            rw [if_neg (by rintro ⟨q, h1, h2⟩; rw [pv_at xs i hi0 hlt] at h1; cases h1; exact hle h2)] at hck
            exact ih (i + 1) k (by omega) hck.symm (by omega)
        · rw [if_neg (by omega), hw]
          have hi0' : i = 0 := by omega
          rw [if_neg (by rintro ⟨q, h1, h2⟩; subst hi0'; cases h1)] at hck
          exact ih (i + 1) k (by omega) hck.symm (by omega)
      · have : b = true := by
          cases b with
          | true => rfl
          | false => exact absurd (hb.1 rfl) hok
        rw [this, if_pos rfl]
        rw [if_neg hok] at hck
        rw [hck]; rfl
    by_cases c1 : 0 ≤ xs[i].f0 ∧ xs[i].f0 ≤ 1000000000000
    · rw [if_pos c1]
      apply hj
      unfold okC
      simp
      omega
    · rw [if_neg c1]
      apply hj
      unfold okC
      simp
      omega
/-- The reference's. -/
theorem ref_check (xs : List S94) (hn : (xs.length : Int) ≤ 40000) (f t : Int) (h0 : ck none xs = 0 → ∀ x ∈ xs, okC x) :
    ∀ (d i k : Nat), i + d = xs.length → (ck (pv xs i) (xs.drop i) = ck none xs) → 2 * d + xs.length + 2 < k →
    dynamometerref8_Area.l0 k xs f t xs (xs.length : Int) (i : Int) = some (if ck none xs = 0 then (if badR f t then (0, 9) else (wrap64 (ar f t xs), 0)) else (0, ck none xs)) := by
  intro d
  induction d with
  | zero =>
    intro i k hi hc hk
    obtain ⟨k, rfl⟩ : ∃ m, k = m + 2 := ⟨k - 2, by omega⟩
    have hz : ck none xs = 0 := by rw [← hc, List.drop_of_length_le (by omega), ck]
    rw [dynamometerref8_Area.l0, if_neg (by omega), if_pos hz]
    by_cases hb : badR f t
    · rw [if_pos hb]
      unfold badR at hb
      by_cases c1 : f < 0
      · simp [c1]
      · by_cases c2 : f > t
        · simp [c1, c2]
        · have c3 : t > 1000000000000 := by omega
          simp [c1, c2, c3]
    · rw [if_neg hb]
      have hb' := hb
      unfold badR at hb'
      rw [if_neg (by omega), if_neg (by omega), if_neg (by omega)]
      obtain ⟨r, hr, e⟩ := ref_loop xs hn (h0 hz) f t hb xs.length 0 (k + 1) 0 (by omega) (by omega)
      rw [show wrap64 0 = 0 by unfold wrap64; omega] at hr
      rw [List.drop_zero, Int.zero_add] at e
      have hr' : dynamometerref8_area.f (k + 1) xs f t = some r := hr
      rw [hr', ← e]
      rfl
  | succ d ih =>
    intro i k hi hc hk
    obtain ⟨k, rfl⟩ : ∃ m, k = m + 2 := ⟨k - 2, by omega⟩
    have hlt : i < xs.length := by omega
    have hw : wrap64 ((i : Int) + 1) = ((i + 1 : Nat) : Int) := by rw [wrap_i (by omega) (by omega)]; omega
    have hck := ck_at xs i hlt
    rw [hc] at hck
    rw [dynamometerref8_Area.l0, if_pos (by omega), if_pos (by omega), if_pos (by omega), rd_at xs i hlt]
    simp only [outside_eq, Option.bind_some, decide_eq_true_eq]
    have hj : ∀ b : Bool, (b = false ↔ okC xs[i]) → dynamometerref8_Area.j1 (k + 1) xs f t (i : Int) xs (xs.length : Int) (i : Int) b xs[i].f0 xs[i].f1 =
        some (if ck none xs = 0 then (if badR f t then (0, 9) else (wrap64 (ar f t xs), 0)) else (0, ck none xs)) := by
      intro b hb
      rw [dynamometerref8_Area.j1]
      by_cases hok : okC xs[i]
      · rw [hb.2 hok, if_neg (by decide)]
        rw [if_pos hok] at hck
        by_cases hi0 : 0 < i
        · have hw2 : wrap64 ((i : Int) - 1) = ((i - 1 : Nat) : Int) := by rw [wrap_i (by omega) (by omega)]; omega
          rw [if_pos (by omega), hw2, if_pos (by omega), if_pos (by omega), rd_at xs (i - 1) (by omega)]
          by_cases hle : xs[i].f0 ≤ (xs[i - 1]'(by omega)).f0
          · rw [if_pos hle]
            rw [if_pos ⟨_, pv_at xs i hi0 hlt, hle⟩] at hck
            rw [hck]; rfl
          · rw [if_neg hle, hw]
            rw [if_neg (by rintro ⟨q, h1, h2⟩; rw [pv_at xs i hi0 hlt] at h1; cases h1; exact hle h2)] at hck
            exact ih (i + 1) k (by omega) hck.symm (by omega)
        · rw [if_neg (by omega), hw]
          have hi0' : i = 0 := by omega
          rw [if_neg (by rintro ⟨q, h1, h2⟩; subst hi0'; cases h1)] at hck
          exact ih (i + 1) k (by omega) hck.symm (by omega)
      · have : b = true := by
          cases b with
          | true => rfl
          | false => exact absurd (hb.1 rfl) hok
        rw [this, if_pos rfl]
        rw [if_neg hok] at hck
        rw [hck]; rfl
    by_cases c1 : xs[i].f0 < 0 ∨ xs[i].f0 > 1000000000000
    · rw [if_pos c1]
      apply hj
      unfold okC
      simp
      omega
    · rw [if_neg c1]
      apply hj
      unfold okC
      simp
      omega

theorem area_eq (xs : List S94) (f t : Int) (k : Nat) (hk : 3 * xs.length + 2 < k) : world_Area.f k xs f t = some (areaOf xs f t) := by
  unfold world_Area.f areaOf
  by_cases hn : (xs.length : Int) > 40000
  · rw [if_pos hn, if_pos hn]
  · rw [if_neg hn, if_neg hn]
    exact area_check xs (by omega) f t (fun h => ck_ok xs none h) xs.length 0 k (by omega) rfl (by omega)
theorem ref_eq (xs : List S94) (f t : Int) (k : Nat) (hk : 3 * xs.length + 2 < k) : dynamometerref8_Area.f k xs f t = some (areaOf xs f t) := by
  unfold dynamometerref8_Area.f areaOf
  by_cases hn : (xs.length : Int) > 40000
  · rw [if_pos hn, if_pos hn]
  · rw [if_neg hn, if_neg hn]
    exact ref_check xs (by omega) f t (fun h => ck_ok xs none h) xs.length 0 k (by omega) rfl (by omega)

/-- The areas of two parts are together that of the whole. -/
theorem ar_split (f m t : Int) (h1 : f ≤ m) (h2 : m ≤ t) : ∀ xs : List S94, ar f t xs = ar f m xs + ar m t xs
  | [] => rfl
  | [c] => by
    rw [ar, ar, ar, ← Int.mul_add]
    congr 1
    unfold mx
    omega
  | c :: d :: r => by
    have ih := ar_split f m t h1 h2 (d :: r)
    rw [ar, ar, ar, ih]
    have e : mx 0 (mn t d.f0 - mx c.f0 f) = mx 0 (mn m d.f0 - mx c.f0 f) + mx 0 (mn t d.f0 - mx c.f0 m) := by
      unfold mx mn
      omega
    rw [e, Int.mul_add]
    omega

theorem pure_law (xs : List S94) (f m t : Int) : ∃ k, dynamometerlaw8_WorldAreaMatchesSpec.f k xs f m t = some true := by
  refine ⟨3 * xs.length + 5, ?_⟩
  unfold dynamometerlaw8_WorldAreaMatchesSpec.f
  rw [area_eq xs f t _ (by omega), ref_eq xs f t _ (by omega)]
  simp only [Option.bind_some, if_true, bne_self_eq_false]
  rw [dynamometerlaw8_WorldAreaMatchesSpec.j0, if_neg (by decide), area_eq xs f m _ (by omega), area_eq xs m t _ (by omega)]
  simp only [Option.bind_some, dynamometerlaw8_ran.f]
  by_cases c1 : (areaOf xs f m).2 = 0
  · rw [if_pos c1]
    by_cases c2 : (areaOf xs m t).2 = 0
    · rw [if_pos c2]
      have key : wrap64 ((areaOf xs f m).1 + (areaOf xs m t).1) = (areaOf xs f t).1 := by
        unfold areaOf at c1 c2 ⊢
        by_cases hn : (xs.length : Int) > 40000
        · rw [if_pos hn] at c1; cases c1
        · rw [if_neg hn] at c1 c2
          rw [if_neg hn, if_neg hn, if_neg hn]
          by_cases hc : ck none xs = 0
          · rw [if_pos hc] at c1 c2
            rw [if_pos hc, if_pos hc, if_pos hc]
            by_cases b1 : badR f m
            · rw [if_pos b1] at c1; cases c1
            · by_cases b2 : badR m t
              · rw [if_pos b2] at c2; cases c2
              · have b3 : ¬ badR f t := by unfold badR at *; omega
                rw [if_neg b1, if_neg b2, if_neg b3, ar_split f m t (by unfold badR at *; omega) (by unfold badR at *; omega)]
                simp only []
                generalize ar f m xs = p
                generalize ar m t xs = q
                unfold wrap64
                omega
          · rw [if_neg hc] at c1
            exact absurd c1 hc
      rw [if_pos key]
    · rw [if_neg c2]
  · rw [if_neg c1]
end Go.Proofs.YtgilfdgcimcohaaGreatDoor.PWorldAreaMatchesSpec
