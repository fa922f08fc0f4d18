/- The law of breakers: its walk, and that the program and the reference answer alike, step by step. -/
import Derived.Test.YtlkimpjcgcacdaaGreatDoorPWorldBreakerMatchesSpecx0
import Derived.Test.YtlkimpjcgcacdaaGreatDoorPWorldBreakerMatchesSpecx4
namespace Go.Proofs.YtlkimpjcgcacdaaGreatDoor.PWorldBreakerMatchesSpec
open Go.RowKit Go.Proofs.YtlkimpjcgcacdaaGreatDoorW.PrintWords Go.Proofs.YtlkimpjcgcacdaaGreatDoorW.PrintLast Go.Proofs.YtlkimpjcgcacdaaGreatDoorW.PrintMore
attribute [local go_sem] max2_int min2_int max_two min_two max_three min_three max_four min_four
set_option linter.unusedVariables false
set_option linter.unusedSimpArgs false

theorem inside_eq (a l h : Int) : world_inside.f a l h = some (decide (l ≤ a ∧ a ≤ h)) := by
  unfold world_inside.f
  split
  · rename_i h1; congr 1; simp; omega
  · rename_i h1; congr 1; symm; simp; omega
theorem outside_eq (a l h : Int) : dynamometerref8_Outside.f a l h = some (decide (a < l ∨ a > h)) := by
  unfold dynamometerref8_Outside.f
  split
  · rename_i h1; congr 1; symm; simp; omega
  · rename_i h1; congr 1; simp; omega
/-- What both note of the time of a call. -/
theorem time_eq (f o st fa un la t : Int) : ∃ e la', world_Breaker_time.f f o st fa un la t = some (e, f, o, st, fa, un, la') ∧
    ∀ p0 p1 p2 p3 p4 p5, dynamometerref8_Breaker_moment.f p0 p1 p2 p3 p4 p5 f o st fa un la t = some (e, p0, p1, p2, p3, p4, p5, f, o, st, fa, un, la') := by
  unfold world_Breaker_time.f dynamometerref8_Breaker_moment.f
  simp only [inside_eq, outside_eq, Option.bind_some, decide_eq_true_eq]
  by_cases c : 0 ≤ t ∧ t ≤ 1000000000000
  · rw [if_pos c]
    by_cases c1 : t < la
    · rw [if_pos c1]
      refine ⟨_, _, rfl, fun _ _ _ _ _ _ => ?_⟩
      rw [if_neg (by omega), if_pos c1]
    · rw [if_neg c1]
      refine ⟨_, _, rfl, fun _ _ _ _ _ _ => ?_⟩
      rw [if_neg (by omega), if_neg c1]
  · rw [if_neg c]
    refine ⟨_, _, rfl, fun _ _ _ _ _ _ => ?_⟩
    rw [if_pos (by omega)]
theorem ask_eq (f o st fa un la t : Int) (h0 : f = 0 → st = 0) (k : Nat) : ∃ b e st' la', world_Breaker_Ask.f f o st fa un la t = some (b, e, f, o, st', fa, un, la') ∧ (f = 0 → st' = 0) ∧
    ∀ p0 p1 p2 p3 p4 p5, dynamometerref8_Breaker_Ask.f (k + 1) p0 p1 p2 p3 p4 p5 f o st fa un la t = some (b, e, p0, p1, p2, p3, p4, p5, f, o, st', fa, un, la') := by
  obtain ⟨e, la', h1, h2⟩ := time_eq f o st fa un la t
  unfold world_Breaker_Ask.f dynamometerref8_Breaker_Ask.f
  rw [h1]
  simp only [Option.bind_some]
  by_cases c : e = 0
  · rw [if_pos c]
    by_cases c1 : st = 1
    · have cf : f ≠ 0 := fun h => by have := h0 h; omega
      rw [if_pos c1]
      by_cases c2 : t ≥ un
      · rw [if_pos c2]
        refine ⟨_, _, _, _, rfl, fun h => absurd h cf, fun p0 p1 p2 p3 p4 p5 => ?_⟩
        rw [h2]
        simp only [Option.bind_some]
        rw [if_pos c, if_neg cf, dynamometerref8_Breaker_Ask.j0, if_neg (by simp [c1]), if_pos c1, if_pos c2]
      · rw [if_neg c2]
        refine ⟨_, _, _, _, rfl, fun h => absurd h cf, fun p0 p1 p2 p3 p4 p5 => ?_⟩
        rw [h2]
        simp only [Option.bind_some]
        rw [if_pos c, if_neg cf, dynamometerref8_Breaker_Ask.j0, if_neg (by simp [c1]), if_pos c1, if_neg c2]
        simp [c1]
    · rw [if_neg c1]
      refine ⟨_, _, _, _, rfl, h0, fun p0 p1 p2 p3 p4 p5 => ?_⟩
      rw [h2]
      simp only [Option.bind_some]
      rw [if_pos c]
      by_cases cf : f = 0
      · rw [if_pos cf, dynamometerref8_Breaker_Ask.j0, if_pos rfl]
        simp [h0 cf]
      · rw [if_neg cf, dynamometerref8_Breaker_Ask.j0]
        by_cases c3 : st = 0
        · rw [if_pos (by simp [c3])]
          simp [c3]
        · rw [if_neg (by simp [c3]), if_neg c1]
          have : (st == 0) = false := by rw [beq_eq_false_iff_ne]; exact c3
          rw [this]
  · rw [if_neg c]
    refine ⟨_, _, _, _, rfl, h0, fun p0 p1 p2 p3 p4 p5 => ?_⟩
    rw [h2]
    simp only [Option.bind_some]
    rw [if_neg c]
theorem tell_eq (f o st fa un la t : Int) (b : Bool) (h0 : f = 0 → st = 0) (k : Nat) : ∃ e st' fa' un' la', world_Breaker_Tell.f (k + 1) f o st fa un la t b = some (e, f, o, st', fa', un', la') ∧ (f = 0 → st' = 0) ∧
    ∀ p0 p1 p2 p3 p4 p5, dynamometerref8_Breaker_Tell.f (k + 1) p0 p1 p2 p3 p4 p5 f o st fa un la t b = some (e, p0, p1, p2, p3, p4, p5, f, o, st', fa', un', la') := by
  obtain ⟨e, la', h1, h2⟩ := time_eq f o st fa un la t
  unfold world_Breaker_Tell.f dynamometerref8_Breaker_Tell.f
  rw [h1]
  simp only [Option.bind_some]
  by_cases c : e = 0
  · rw [if_pos c]
    by_cases cf : f = 0
    · rw [if_pos cf, world_Breaker_Tell.j0, if_pos rfl]
      refine ⟨_, _, _, _, _, rfl, h0, fun p0 p1 p2 p3 p4 p5 => ?_⟩
      rw [h2]
      simp only [Option.bind_some]
      rw [if_pos c, if_pos cf, dynamometerref8_Breaker_Tell.j0, if_pos rfl]
    · rw [if_neg cf, world_Breaker_Tell.j0]
      have key : ∀ p0 p1 p2 p3 p4 p5, (dynamometerref8_Breaker_moment.f p0 p1 p2 p3 p4 p5 f o st fa un la t) = some (e, p0, p1, p2, p3, p4, p5, f, o, st, fa, un, la') := h2
      by_cases c1 : st = 1
      · rw [if_pos (by simp [c1])]
        refine ⟨_, _, _, _, _, rfl, fun h => absurd h cf, fun p0 p1 p2 p3 p4 p5 => ?_⟩
        rw [h2]
        simp only [Option.bind_some]
        rw [if_pos c, if_neg cf, dynamometerref8_Breaker_Tell.j0, if_pos (by simp [c1])]
      · rw [if_neg (by simp [c1])]
        by_cases c2 : b = true
        · rw [if_pos c2]
          refine ⟨_, _, _, _, _, rfl, fun h => absurd h cf, fun p0 p1 p2 p3 p4 p5 => ?_⟩
          rw [h2]
          simp only [Option.bind_some]
          rw [if_pos c, if_neg cf, dynamometerref8_Breaker_Tell.j0, if_neg (by simp [c1]), if_pos c2]
        · rw [if_neg c2]
          by_cases c3 : st = 2
          · rw [if_pos c3]
            refine ⟨_, _, _, _, _, rfl, fun h => absurd h cf, fun p0 p1 p2 p3 p4 p5 => ?_⟩
            rw [h2]
            simp only [Option.bind_some]
            rw [if_pos c, if_neg cf, dynamometerref8_Breaker_Tell.j0, if_neg (by simp [c1]), if_neg c2, if_pos c3]
          · rw [if_neg c3]
            by_cases c4 : wrap64 (fa + 1) = f
            · rw [if_pos c4]
              refine ⟨_, _, _, _, _, rfl, fun h => absurd h cf, fun p0 p1 p2 p3 p4 p5 => ?_⟩
              rw [h2]
              simp only [Option.bind_some]
              rw [if_pos c, if_neg cf, dynamometerref8_Breaker_Tell.j0, if_neg (by simp [c1]), if_neg c2, if_neg c3, if_pos c4]
            · rw [if_neg c4]
              refine ⟨_, _, _, _, _, rfl, fun h => absurd h cf, fun p0 p1 p2 p3 p4 p5 => ?_⟩
              rw [h2]
              simp only [Option.bind_some]
              rw [if_pos c, if_neg cf, dynamometerref8_Breaker_Tell.j0, if_neg (by simp [c1]), if_neg c2, if_neg c3, if_neg c4]
  · rw [if_neg c]
    refine ⟨_, _, _, _, _, rfl, h0, fun p0 p1 p2 p3 p4 p5 => ?_⟩
    rw [h2]
    simp only [Option.bind_some]
    rw [if_neg c]
/-- Whether all numbers of a policy lie in their ranges. -/
def okP (a b c d e f g h : Int) : Prop := (1 ≤ a ∧ a ≤ 1000000000) ∧ (1 ≤ b ∧ b ≤ 10) ∧ (0 ≤ c ∧ c ≤ 1000000000) ∧ (1 ≤ d ∧ d ≤ 10) ∧ (c ≤ e ∧ e ≤ 1000000000) ∧ (0 ≤ f ∧ f ≤ 10000) ∧ (0 ≤ g ∧ g ≤ 1000) ∧ (0 ≤ h ∧ h ≤ 1000000000)
instance (a b c d e f g h : Int) : Decidable (okP a b c d e f g h) := by unfold okP; infer_instance
def chk (a b c d e f g h : Int) : Int := if okP a b c d e f g h then (if g = 0 then (if h = 0 then 0 else 2) else 0) else 9

theorem not_true_ (b : Bool) (h : b = false) : (!b) = true := by rw [h]; rfl
theorem policy_eq (a b c d e f g h : Int) (k : Nat) : world_CheckPolicy.f (k + 2) a b c d e f g h = some (chk a b c d e f g h) := by
  unfold world_CheckPolicy.f chk
  have j1t : ∀ a b c d e f g h, world_CheckPolicy.j1 (k + 1) true a b c d e f g h = some 9 := fun _ _ _ _ _ _ _ _ => by rw [world_CheckPolicy.j1, if_pos rfl]
  have j0t : ∀ a b c d e f g h, world_CheckPolicy.j0 (k + 2) true a b c d e f g h = some 9 := fun _ _ _ _ _ _ _ _ => by rw [world_CheckPolicy.j0, if_pos rfl]
  simp only [inside_eq, Option.bind_some, decide_eq_true_eq]
  by_cases c0 : 1 ≤ a ∧ a ≤ 1000000000
  · rw [if_pos c0]
    by_cases c1 : 1 ≤ b ∧ b ≤ 10
    · rw [if_pos c1]
      by_cases c2 : 0 ≤ c ∧ c ≤ 1000000000
      · rw [if_pos c2]
        by_cases c3 : 1 ≤ d ∧ d ≤ 10
        · rw [decide_eq_true c3, Bool.not_true, world_CheckPolicy.j0, if_neg (by decide)]
          simp only [inside_eq, Option.bind_some, decide_eq_true_eq]
          by_cases c4 : c ≤ e ∧ e ≤ 1000000000
          · rw [if_pos c4]
            by_cases c5 : 0 ≤ f ∧ f ≤ 10000
            · rw [if_pos c5]
              by_cases c6 : 0 ≤ g ∧ g ≤ 1000
              · rw [if_pos c6]
                by_cases c7 : 0 ≤ h ∧ h ≤ 1000000000
                · have hok : okP a b c d e f g h := ⟨c0, c1, c2, c3, c4, c5, c6, c7⟩
                  rw [decide_eq_true c7, Bool.not_true, world_CheckPolicy.j1, if_neg (by decide), if_pos hok]
                  by_cases hg : g = 0
                  · rw [if_pos hg, if_pos hg]; split <;> rfl
                  · rw [if_neg hg, if_neg hg]
                · rw [decide_eq_false c7, Bool.not_false, j1t, if_neg (fun q => c7 q.2.2.2.2.2.2.2)]
              · rw [if_neg c6, decide_eq_false c6, Bool.not_false, j1t, if_neg (fun q => c6 q.2.2.2.2.2.2.1)]
            · rw [if_neg c5, decide_eq_false c5, Bool.not_false, j1t, if_neg (fun q => c5 q.2.2.2.2.2.1)]
          · rw [if_neg c4, decide_eq_false c4, Bool.not_false, j1t, if_neg (fun q => c4 q.2.2.2.2.1)]
        · rw [decide_eq_false c3, Bool.not_false, j0t, if_neg (fun q => c3 q.2.2.2.1)]
      · rw [if_neg c2, decide_eq_false c2, Bool.not_false, j0t, if_neg (fun q => c2 q.2.2.1)]
    · rw [if_neg c1, decide_eq_false c1, Bool.not_false, j0t, if_neg (fun q => c1 q.2.1)]
  · rw [if_neg c0, decide_eq_false c0, Bool.not_false, j0t, if_neg (fun q => c0 q.1)]
theorem refpol_eq (a b c d e f g h : Int) (k : Nat) : dynamometerref8_CheckPolicy.f (k + 1) a b c d e f g h = some (chk a b c d e f g h) := by
  unfold dynamometerref8_CheckPolicy.f chk
  have j0t : ∀ a b c d e f g h, dynamometerref8_CheckPolicy.j0 (k + 1) true a b c d e f g h = some 9 := fun _ _ _ _ _ _ _ _ => by rw [dynamometerref8_CheckPolicy.j0, if_pos rfl]
  simp only [outside_eq, Option.bind_some, decide_eq_true_eq]
  by_cases c0 : a < 1 ∨ a > 1000000000
  · rw [if_pos c0, j0t, if_neg (fun q => by have := q.1; omega)]
  · rw [if_neg c0]
    by_cases c1 : b < 1 ∨ b > 10
    · rw [if_pos c1, j0t, if_neg (fun q => by have := q.2.1; omega)]
    · rw [if_neg c1]
      by_cases c2 : c < 0 ∨ c > 1000000000
      · rw [if_pos c2, j0t, if_neg (fun q => by have := q.2.2.1; omega)]
      · rw [if_neg c2]
        by_cases c3 : d < 1 ∨ d > 10
        · rw [if_pos c3, j0t, if_neg (fun q => by have := q.2.2.2.1; omega)]
        · rw [if_neg c3]
          by_cases c4 : e < c ∨ e > 1000000000
          · rw [if_pos c4, j0t, if_neg (fun q => by have := q.2.2.2.2.1; omega)]
          · rw [if_neg c4]
            by_cases c5 : f < 0 ∨ f > 10000
            · rw [if_pos c5, j0t, if_neg (fun q => by have := q.2.2.2.2.2.1; omega)]
            · rw [if_neg c5]
              by_cases c6 : g < 0 ∨ g > 1000
              · rw [if_pos c6, j0t, if_neg (fun q => by have := q.2.2.2.2.2.2.1; omega)]
              · rw [if_neg c6]
                by_cases c7 : h < 0 ∨ h > 1000000000
                · rw [decide_eq_true c7, j0t, if_neg (fun q => by have := q.2.2.2.2.2.2.2; omega)]
                · have hok : okP a b c d e f g h := by unfold okP; omega
                  rw [decide_eq_false c7, dynamometerref8_CheckPolicy.j0, if_neg (by decide), if_pos hok]
                  by_cases hg : g = 0
                  · rw [if_pos hg, if_pos hg]; split <;> rfl
                  · rw [if_neg hg, if_neg hg]


theorem IsS56.weak {w0 w1 W : World} {g : Nat} {a b c d e f : Int} (h : IsS56 w1 W g a b c d e f) (hs : w0.heap.size ≤ w1.heap.size) : IsS56 w0 W g a b c d e f := ⟨h.1, Nat.le_trans hs h.2⟩
theorem IsS58.weak {w0 w1 W : World} {g : Nat} {p0 p1 p2 p3 p4 p5 a b c d e f : Int} (h : IsS58 w1 W g p0 p1 p2 p3 p4 p5 a b c d e f) (hs : w0.heap.size ≤ w1.heap.size) : IsS58 w0 W g p0 p1 p2 p3 p4 p5 a b c d e f := ⟨h.1, Nat.le_trans hs h.2⟩

/-- What holds from one round to the next: both breakers are in the same state. -/
def Rel (w : World) (ga gb : Nat) (p0 p1 p2 p3 p4 p5 p6 p7 : Int) (w' : World) : Prop :=
  ∃ st fa un la, (p6 = 0 → st = 0) ∧ IsS56 w w' ga p6 p7 st fa un la ∧ IsS58 w w' gb p0 p1 p2 p3 p4 p5 p6 p7 st fa un la ∧ ga ≠ gb ∧ Below w.heap.size w w'

set_option maxHeartbeats 8000000 in
set_option maxRecDepth 100000 in
theorem law_good (k : Nat) (a0_0 a0_1 a0_2 a0_3 a0_4 a0_5 a0_6 a0_7 : Int) (A1 : Option Addr) (c1 : Nat) (l1 : List Int) (A2 : Option Addr) (c2 : Nat) (l2 : List Bool) (w : World)
    (hr1 : Kd.C (Kd.int .i64) w A1 l1.length l1) (hc1 : l1.length ≤ c1) (hr2 : Kd.C Kd.bool w A2 l2.length l2) (hc2 : l2.length ≤ c2)
    (hn1 : (l1.length : Int) ≤ 9223372036854775807)
    (h1 : world_CheckPolicy.f k a0_0 a0_1 a0_2 a0_3 a0_4 a0_5 a0_6 a0_7 = some 0) (h2 : dynamometerref8_CheckPolicy.f k a0_0 a0_1 a0_2 a0_3 a0_4 a0_5 a0_6 a0_7 = some 0) :
    Calls Tryz.prog 3 #[.agg #[.int .i64 a0_0, .int .i64 a0_1, .int .i64 a0_2, .int .i64 a0_3, .int .i64 a0_4, .int .i64 a0_5, .int .i64 a0_6, .int .i64 a0_7], .slice A1 l1.length c1, .slice A2 l2.length c2] w fun e w' => e = .returned (.bool true) ∧ Below w.heap.size w w' := by
  have hu23 := Tryz.underlying23
  have HR1 := Aside0.mk hr1
  have HR2 := Aside0.mk hr2
  have HC1 := Aside0.mk hc1
  have HC2 := Aside0.mk hc2
  have X1 := Aside0.mk h1
  have X2 := Aside0.mk h2
  clear hr1 hr2 hc1 hc2 h1 h2
  have HB := Aside0.mk (Below.refl w.heap.size w)
  go_enter Tryz.func3, Tryz.ntmps3
  go_wp2_with (first
    | ((with_reducible refine gate_dst (N := 3) rfl ?_); refine box_event ?hg (N := 3) ?hd (cs := #[.int .i64 a0_0, .int .i64 a0_1, .int .i64 a0_2, .int .i64 a0_3, .int .i64 a0_4, .int .i64 a0_5, .int .i64 a0_6, .int .i64 a0_7]) (t := 23) ?hr ?_; (case hd => rfl); (case hg => rfl); (case hr => first | (go_simp; done) | (go_simp; rfl)); intro gp hg w9 hbox hb; have n0_ := Aside0.mk (below_step (by repeat (first | (with_reducible first | exact HB.out | apply below_alloc | apply pw_below_drewN | apply below_drew1) | exact HB.out)) hb); have n1_ := Aside0.mk (hbox); have n3_ := Aside0.mk ((by rw [hg]; exact (below_size (by repeat (first | (with_reducible first | exact HB.out | apply below_alloc | apply pw_below_drewN | apply below_drew1) | exact HB.out)))) : w.heap.size ≤ gp); clear HB; have HB := n0_; have BK := n1_; have GE := n3_; clear n0_ n1_ n3_; clear hb hbox hg; have hcw9_0 : w9.cell? ⟨gp, 0, none⟩ = some (.int .i64 a0_0) := (blk_cell BK.out 0).trans rfl; have hcw9_1 : w9.cell? ⟨gp, 1, none⟩ = some (.int .i64 a0_1) := (blk_cell BK.out 1).trans rfl; have hcw9_2 : w9.cell? ⟨gp, 2, none⟩ = some (.int .i64 a0_2) := (blk_cell BK.out 2).trans rfl; have hcw9_3 : w9.cell? ⟨gp, 3, none⟩ = some (.int .i64 a0_3) := (blk_cell BK.out 3).trans rfl; have hcw9_4 : w9.cell? ⟨gp, 4, none⟩ = some (.int .i64 a0_4) := (blk_cell BK.out 4).trans rfl; have hcw9_5 : w9.cell? ⟨gp, 5, none⟩ = some (.int .i64 a0_5) := (blk_cell BK.out 5).trans rfl; have hcw9_6 : w9.cell? ⟨gp, 6, none⟩ = some (.int .i64 a0_6) := (blk_cell BK.out 6).trans rfl; have hcw9_7 : w9.cell? ⟨gp, 7, none⟩ = some (.int .i64 a0_7) := (blk_cell BK.out 7).trans rfl)
    | ((with_reducible refine gate_callee (f := 6) rfl ?_); refine goesL_ (some 19) rfl rfl Tryz.func6 (by kernel_rfl) rfl #[.agg #[.int .i64 a0_0, .int .i64 a0_1, .int .i64 a0_2, .int .i64 a0_3, .int .i64 a0_4, .int .i64 a0_5, .int .i64 a0_6, .int .i64 a0_7]] rfl (by (try simp only [List.map_toArray, List.map_cons, List.map_nil]); first | done | rfl) ?_; (with_reducible refine (world_NewBreaker.good k a0_0 a0_1 a0_2 a0_3 a0_4 a0_5 a0_6 a0_7 _ X1.out).mono ?_); rintro e w19 ⟨ga, rfl, hi, hb⟩; refine ⟨_, rfl, ?_⟩; have n0_ := Aside0.mk (blk_below (g := gp) (o := .cells #[.int .i64 a0_0, .int .i64 a0_1, .int .i64 a0_2, .int .i64 a0_3, .int .i64 a0_4, .int .i64 a0_5, .int .i64 a0_6, .int .i64 a0_7] 23 (0, 0)) (by (with_reducible repeat (first | refine blk_drewN ?_ _ | refine blk_drew ?_ | refine blk_alloc ?_ _)); exact BK.out) hb); have nI_ := Aside0.mk (IsS56.weak (w0 := w) hi (below_size (by repeat (first | (with_reducible first | exact HB.out | apply below_alloc | apply pw_below_drewN | apply below_drew1) | exact HB.out)))); have n1_ := Aside0.mk (below_step (by repeat (first | (with_reducible first | exact HB.out | apply below_alloc | apply pw_below_drewN | apply below_drew1 | refine below_set ?_ GE.out) | exact HB.out)) hb); clear BK; clear HB; have BK := n0_; have HB := n1_; have HA := nI_; clear n0_ n1_ nI_; clear hb hi; have hcw19_0 : w19.cell? ⟨gp, 0, none⟩ = some (.int .i64 a0_0) := (blk_cell BK.out 0).trans rfl; have hcw19_1 : w19.cell? ⟨gp, 1, none⟩ = some (.int .i64 a0_1) := (blk_cell BK.out 1).trans rfl; have hcw19_2 : w19.cell? ⟨gp, 2, none⟩ = some (.int .i64 a0_2) := (blk_cell BK.out 2).trans rfl; have hcw19_3 : w19.cell? ⟨gp, 3, none⟩ = some (.int .i64 a0_3) := (blk_cell BK.out 3).trans rfl; have hcw19_4 : w19.cell? ⟨gp, 4, none⟩ = some (.int .i64 a0_4) := (blk_cell BK.out 4).trans rfl; have hcw19_5 : w19.cell? ⟨gp, 5, none⟩ = some (.int .i64 a0_5) := (blk_cell BK.out 5).trans rfl; have hcw19_6 : w19.cell? ⟨gp, 6, none⟩ = some (.int .i64 a0_6) := (blk_cell BK.out 6).trans rfl; have hcw19_7 : w19.cell? ⟨gp, 7, none⟩ = some (.int .i64 a0_7) := (blk_cell BK.out 7).trans rfl)
    | ((with_reducible refine gate_callee (f := 7) rfl ?_); refine goesL_ (some 24) rfl rfl Tryz.func7 (by kernel_rfl) rfl #[.agg #[.int .i64 a0_0, .int .i64 a0_1, .int .i64 a0_2, .int .i64 a0_3, .int .i64 a0_4, .int .i64 a0_5, .int .i64 a0_6, .int .i64 a0_7]] rfl (by (try simp only [List.map_toArray, List.map_cons, List.map_nil]); first | done | rfl) ?_; (with_reducible refine (dynamometerref8_NewBreaker.good k a0_0 a0_1 a0_2 a0_3 a0_4 a0_5 a0_6 a0_7 _ X2.out).mono ?_); rintro e w24 ⟨gb, rfl, hi, hb⟩; refine ⟨_, rfl, ?_⟩; have nA_ := Aside0.mk (IsS56.below (by repeat (first | exact HA.out | refine IsS56.drewN ?_ _ | refine IsS56.drew ?_ | refine IsS56.alloc ?_ _)) hb); have nN_ := Aside0.mk (Nat.ne_of_lt (Nat.lt_of_lt_of_le (IsS56.lt (by repeat (first | exact HA.out | refine IsS56.drewN ?_ _ | refine IsS56.drew ?_ | refine IsS56.alloc ?_ _))) (IsS58.ge hi))); have nI_ := Aside0.mk (IsS58.weak (w0 := w) hi (below_size (by repeat (first | (with_reducible first | exact HB.out | apply below_alloc | apply pw_below_drewN | apply below_drew1) | exact HB.out)))); have n1_ := Aside0.mk (below_step (by repeat (first | (with_reducible first | exact HB.out | apply below_alloc | apply pw_below_drewN | apply below_drew1 | refine below_set ?_ GE.out) | exact HB.out)) hb); clear BK; clear HB; clear HA; have HB := n1_; have HA := nA_; have HBB := nI_; have NE := nN_; clear n1_ nI_ nA_ nN_; clear hb hi))
  go_loopg [42] (l1.length + 1) (fun kq v42 w' => ∃ (i : Int), v42 = .int .i64 i ∧ Aside0 (0 ≤ i ∧ (kq : Int) + i = (l1.length : Int) + 1) ∧ Aside0 (Rel w ga gb a0_0 a0_1 a0_2 a0_3 a0_4 a0_5 a0_6 a0_7 w'))
  case atStart => exact ⟨0, rfl, ⟨⟨by omega, by omega⟩⟩, ⟨0, 0, 0, 0, fun _ => rfl, HA.out, HBB.out, NE.out, HB.out⟩⟩
  case round =>
    clear HA HBB HB NE
    obtain ⟨i, rfl, HN, ⟨st, fa, un, la, h0, hA, hB, hne, hb⟩⟩ := hrel
    have HA := Aside0.mk hA
    have HBB := Aside0.mk hB
    have NE := Aside0.mk hne
    have HB := Aside0.mk hb
    clear hA hB hne hb
    by_cases c : i < (l1.length : Int)
    · have c0 : decide (i < (l1.length : Int)) = true := decide_eq_true c
      have p1 : 0 ≤ i := HN.out.1
      obtain ⟨ad1, e1, hx1⟩ := Kd.at_int HR1.out i p1 c
      cases e1
      replace hx1 := (HB.out.cell (World.block_lt_of_cell? w _ hx1)).trans hx1
      obtain ⟨b, e, st1, la1, hf, h01, hr⟩ := ask_eq a0_6 a0_7 st fa un la (rd l1 i) h0 0
      replace hr := hr a0_0 a0_1 a0_2 a0_3 a0_4 a0_5
      replace p1 := eq_true p1
      replace c := eq_true c
      have XA := Aside0.mk hf
      have XB := Aside0.mk hr
      clear hf hr
      by_cases cA : i < (l2.length : Int)
      · have cA0 : decide (i < (l2.length : Int)) = true := decide_eq_true cA
        by_cases cB : 0 < i.tmod 3
        · have cB0 : decide (0 < i.tmod 3) = true := decide_eq_true cB
          obtain ⟨ad2, e2, hx2⟩ := Kd.at_bool HR2.out i HN.out.1 cA
          cases e2
          have HX2 := Aside0.mk hx2
          clear hx2
          obtain ⟨e3, st3, fa3, un3, la3, hf, h03, hr⟩ := tell_eq a0_6 a0_7 st1 fa un la1 (rd l1 i) (rdOf false l2 i) h01 0
          replace hr := hr a0_0 a0_1 a0_2 a0_3 a0_4 a0_5
          have XC := Aside0.mk hf
          have XD := Aside0.mk hr
          clear hf hr
          replace cA := eq_true cA
          replace cB := eq_true cB
          go_wp2_with (first
            | ((with_reducible refine gate_callee (f := 9) rfl ?_); refine goesL_ (some 50) rfl rfl Tryz.func9 (by kernel_rfl) rfl #[.pointer (some ⟨ga, 0, none⟩), .int .i64 (rd l1 i)] rfl (by (try simp only [List.map_toArray, List.map_cons, List.map_nil]); first | done | rfl) ?_; (with_reducible refine (world_Breaker_Ask.calls ga a0_6 a0_7 st fa un la (rd l1 i) b e a0_6 a0_7 st1 fa un la1 w _ ?sI ?sB XA.out).mono ?_); (case sI => exact HA.out); (case sB => repeat (first | (with_reducible first | exact HB.out | apply below_alloc | apply pw_below_drewN | apply below_drew1) | exact HB.out)); rintro e_ w50 ⟨rfl, hi, hb2, hk⟩; refine ⟨_, rfl, ?_⟩; have nB_ := Aside0.mk ((⟨hk.blk HBB.out.1 (Ne.symm NE.out) (by simp), HBB.out.2⟩) : IsS58 w w50 gb a0_0 a0_1 a0_2 a0_3 a0_4 a0_5 a0_6 a0_7 st fa un la); clear HA HBB HB; have HA := Aside0.mk hi; have HBB := nB_; have HB := Aside0.mk hb2; clear nB_ hi hb2 hk)
            | ((with_reducible refine gate_callee (f := 10) rfl ?_); refine goesL_ (some 56) rfl rfl Tryz.func10 (by kernel_rfl) rfl #[.pointer (some ⟨gb, 0, none⟩), .int .i64 (rd l1 i)] rfl (by (try simp only [List.map_toArray, List.map_cons, List.map_nil]); first | done | rfl) ?_; (with_reducible refine (dynamometerref8_Breaker_Ask.calls 1 gb a0_0 a0_1 a0_2 a0_3 a0_4 a0_5 a0_6 a0_7 st fa un la (rd l1 i) b e a0_0 a0_1 a0_2 a0_3 a0_4 a0_5 a0_6 a0_7 st1 fa un la1 w _ ?sI ?sB XB.out).mono ?_); (case sI => exact HBB.out); (case sB => repeat (first | (with_reducible first | exact HB.out | apply below_alloc | apply pw_below_drewN | apply below_drew1) | exact HB.out)); rintro e_ w56 ⟨rfl, hi, hb2, hk⟩; refine ⟨_, rfl, ?_⟩; have nB_ := Aside0.mk ((⟨hk.blk HA.out.1 NE.out (by simp), HA.out.2⟩) : IsS56 w w56 ga a0_6 a0_7 st1 fa un la1); clear HA HBB HB; have HA := nB_; have HBB := Aside0.mk hi; have HB := Aside0.mk hb2; clear nB_ hi hb2 hk))
          have hx3 := (HB.out.cell (World.block_lt_of_cell? w _ HX2.out)).trans HX2.out
          go_region_held3 (fun W => W.cell? (ad2.add i.toNat) = some (.bool (rdOf false l2 i))) (first | assumption) (first
            | (go_at_call 12; (with_reducible refine (dynamometerref8_Breaker_Tell.calls 1 gb a0_0 a0_1 a0_2 a0_3 a0_4 a0_5 a0_6 a0_7 st1 fa un la1 (rd l1 i) (rdOf false l2 i) e3 a0_0 a0_1 a0_2 a0_3 a0_4 a0_5 a0_6 a0_7 st3 fa3 un3 la3 w _ ?sI ?sB XD.out).mono ?_); (case sI => exact HBB.out); (case sB => repeat (first | (with_reducible first | exact HB.out | apply below_alloc | apply pw_below_drewN | apply below_drew1) | exact HB.out)); rintro e_ w89 ⟨rfl, hi, hb2, hk⟩; have nB_ := Aside0.mk ((⟨hk.blk HA.out.1 NE.out (by simp), HA.out.2⟩) : IsS56 w w89 ga a0_6 a0_7 st3 fa3 un3 la3); clear HA HBB HB; have HA := nB_; have HBB := Aside0.mk hi; have HB := Aside0.mk hb2; have hx89 := (hb2.cell (World.block_lt_of_cell? w _ HX2.out)).trans HX2.out; clear nB_ hi hb2 hk)
            | (go_at_call 11; (with_reducible refine (world_Breaker_Tell.calls 1 ga a0_6 a0_7 st1 fa un la1 (rd l1 i) (rdOf false l2 i) e3 a0_6 a0_7 st3 fa3 un3 la3 w _ ?sI ?sB XC.out).mono ?_); (case sI => exact HA.out); (case sB => repeat (first | (with_reducible first | exact HB.out | apply below_alloc | apply pw_below_drewN | apply below_drew1) | exact HB.out)); rintro e_ w82 ⟨rfl, hi, hb2, hk⟩; have nB_ := Aside0.mk ((⟨hk.blk HBB.out.1 (Ne.symm NE.out) (by simp), HBB.out.2⟩) : IsS58 w w82 gb a0_0 a0_1 a0_2 a0_3 a0_4 a0_5 a0_6 a0_7 st1 fa un la1); clear HA HBB HB; have HA := Aside0.mk hi; have HBB := nB_; have HB := Aside0.mk hb2; have hx82 := (hb2.cell (World.block_lt_of_cell? w _ HX2.out)).trans HX2.out; clear nB_ hi hb2 hk))
          go_wp2
          go_roundg (gk - 1)
          case measure => have h1_ := HN.out.1; have h2_ := HN.out.2; have h_ : i < (l1.length : Int) := of_eq_true c; omega
          case rel => exact ⟨wrap64 (i + 1), rfl, ⟨by have h1_ := HN.out.1; have h2_ := HN.out.2; have h_ : i < (l1.length : Int) := of_eq_true c; have h3_ : wrap64 (i + 1) = i + 1 := (by unfold wrap64; omega); rw [h3_]; constructor <;> omega⟩, ⟨st3, fa3, un3, la3, h03, HA.out, HBB.out, NE.out, HB.out⟩⟩
        · have cB0 : decide (0 < i.tmod 3) = false := decide_eq_false cB
          replace cA := eq_true cA
          replace cB := eq_false cB
          go_wp2_with (first
            | ((with_reducible refine gate_callee (f := 9) rfl ?_); refine goesL_ (some 50) rfl rfl Tryz.func9 (by kernel_rfl) rfl #[.pointer (some ⟨ga, 0, none⟩), .int .i64 (rd l1 i)] rfl (by (try simp only [List.map_toArray, List.map_cons, List.map_nil]); first | done | rfl) ?_; (with_reducible refine (world_Breaker_Ask.calls ga a0_6 a0_7 st fa un la (rd l1 i) b e a0_6 a0_7 st1 fa un la1 w _ ?sI ?sB XA.out).mono ?_); (case sI => exact HA.out); (case sB => repeat (first | (with_reducible first | exact HB.out | apply below_alloc | apply pw_below_drewN | apply below_drew1) | exact HB.out)); rintro e_ w50 ⟨rfl, hi, hb2, hk⟩; refine ⟨_, rfl, ?_⟩; have nB_ := Aside0.mk ((⟨hk.blk HBB.out.1 (Ne.symm NE.out) (by simp), HBB.out.2⟩) : IsS58 w w50 gb a0_0 a0_1 a0_2 a0_3 a0_4 a0_5 a0_6 a0_7 st fa un la); clear HA HBB HB; have HA := Aside0.mk hi; have HBB := nB_; have HB := Aside0.mk hb2; clear nB_ hi hb2 hk)
            | ((with_reducible refine gate_callee (f := 10) rfl ?_); refine goesL_ (some 56) rfl rfl Tryz.func10 (by kernel_rfl) rfl #[.pointer (some ⟨gb, 0, none⟩), .int .i64 (rd l1 i)] rfl (by (try simp only [List.map_toArray, List.map_cons, List.map_nil]); first | done | rfl) ?_; (with_reducible refine (dynamometerref8_Breaker_Ask.calls 1 gb a0_0 a0_1 a0_2 a0_3 a0_4 a0_5 a0_6 a0_7 st fa un la (rd l1 i) b e a0_0 a0_1 a0_2 a0_3 a0_4 a0_5 a0_6 a0_7 st1 fa un la1 w _ ?sI ?sB XB.out).mono ?_); (case sI => exact HBB.out); (case sB => repeat (first | (with_reducible first | exact HB.out | apply below_alloc | apply pw_below_drewN | apply below_drew1) | exact HB.out)); rintro e_ w56 ⟨rfl, hi, hb2, hk⟩; refine ⟨_, rfl, ?_⟩; have nB_ := Aside0.mk ((⟨hk.blk HA.out.1 NE.out (by simp), HA.out.2⟩) : IsS56 w w56 ga a0_6 a0_7 st1 fa un la1); clear HA HBB HB; have HA := nB_; have HBB := Aside0.mk hi; have HB := Aside0.mk hb2; clear nB_ hi hb2 hk))
          go_roundg (gk - 1)
          case measure => have h1_ := HN.out.1; have h2_ := HN.out.2; have h_ : i < (l1.length : Int) := of_eq_true c; omega
          case rel => exact ⟨wrap64 (i + 1), rfl, ⟨by have h1_ := HN.out.1; have h2_ := HN.out.2; have h_ : i < (l1.length : Int) := of_eq_true c; have h3_ : wrap64 (i + 1) = i + 1 := (by unfold wrap64; omega); rw [h3_]; constructor <;> omega⟩, ⟨st1, fa, un, la1, h01, HA.out, HBB.out, NE.out, HB.out⟩⟩
      · have cA0 : decide (i < (l2.length : Int)) = false := decide_eq_false cA
        replace cA := eq_false cA
        go_wp2_with (first
          | ((with_reducible refine gate_callee (f := 9) rfl ?_); refine goesL_ (some 50) rfl rfl Tryz.func9 (by kernel_rfl) rfl #[.pointer (some ⟨ga, 0, none⟩), .int .i64 (rd l1 i)] rfl (by (try simp only [List.map_toArray, List.map_cons, List.map_nil]); first | done | rfl) ?_; (with_reducible refine (world_Breaker_Ask.calls ga a0_6 a0_7 st fa un la (rd l1 i) b e a0_6 a0_7 st1 fa un la1 w _ ?sI ?sB XA.out).mono ?_); (case sI => exact HA.out); (case sB => repeat (first | (with_reducible first | exact HB.out | apply below_alloc | apply pw_below_drewN | apply below_drew1) | exact HB.out)); rintro e_ w50 ⟨rfl, hi, hb2, hk⟩; refine ⟨_, rfl, ?_⟩; have nB_ := Aside0.mk ((⟨hk.blk HBB.out.1 (Ne.symm NE.out) (by simp), HBB.out.2⟩) : IsS58 w w50 gb a0_0 a0_1 a0_2 a0_3 a0_4 a0_5 a0_6 a0_7 st fa un la); clear HA HBB HB; have HA := Aside0.mk hi; have HBB := nB_; have HB := Aside0.mk hb2; clear nB_ hi hb2 hk)
          | ((with_reducible refine gate_callee (f := 10) rfl ?_); refine goesL_ (some 56) rfl rfl Tryz.func10 (by kernel_rfl) rfl #[.pointer (some ⟨gb, 0, none⟩), .int .i64 (rd l1 i)] rfl (by (try simp only [List.map_toArray, List.map_cons, List.map_nil]); first | done | rfl) ?_; (with_reducible refine (dynamometerref8_Breaker_Ask.calls 1 gb a0_0 a0_1 a0_2 a0_3 a0_4 a0_5 a0_6 a0_7 st fa un la (rd l1 i) b e a0_0 a0_1 a0_2 a0_3 a0_4 a0_5 a0_6 a0_7 st1 fa un la1 w _ ?sI ?sB XB.out).mono ?_); (case sI => exact HBB.out); (case sB => repeat (first | (with_reducible first | exact HB.out | apply below_alloc | apply pw_below_drewN | apply below_drew1) | exact HB.out)); rintro e_ w56 ⟨rfl, hi, hb2, hk⟩; refine ⟨_, rfl, ?_⟩; have nB_ := Aside0.mk ((⟨hk.blk HA.out.1 NE.out (by simp), HA.out.2⟩) : IsS56 w w56 ga a0_6 a0_7 st1 fa un la1); clear HA HBB HB; have HA := nB_; have HBB := Aside0.mk hi; have HB := Aside0.mk hb2; clear nB_ hi hb2 hk))
        go_roundg (gk - 1)
        case measure => have h1_ := HN.out.1; have h2_ := HN.out.2; have h_ : i < (l1.length : Int) := of_eq_true c; omega
        case rel => exact ⟨wrap64 (i + 1), rfl, ⟨by have h1_ := HN.out.1; have h2_ := HN.out.2; have h_ : i < (l1.length : Int) := of_eq_true c; have h3_ : wrap64 (i + 1) = i + 1 := (by unfold wrap64; omega); rw [h3_]; constructor <;> omega⟩, ⟨st1, fa, un, la1, h01, HA.out, HBB.out, NE.out, HB.out⟩⟩
    · have c0 : decide (i < (l1.length : Int)) = false := decide_eq_false c
      go_wp2_with (first
        | ((with_reducible refine gate_callee (f := 8) rfl ?_); refine goesL_ (some 92) rfl rfl Tryz.func8 (by kernel_rfl) rfl #[] rfl (by (try simp only [List.map_toArray, List.map_cons, List.map_nil]); first | done | rfl) ?_; (with_reducible refine (dynamometerlaw8_ran.calls true _ rfl).mono ?_); rintro e_ w92 ⟨rfl, hb⟩; refine ⟨_, rfl, ?_⟩; have n1_ := Aside0.mk (below_step (by repeat (first | (with_reducible first | exact HB.out | apply below_alloc | apply pw_below_drewN | apply below_drew1) | exact HB.out)) hb); clear HB; have HB := n1_; clear n1_ hb))
      go_ret
      exact ⟨by first | rfl | (simp; done) | (simp [*]; done), by repeat (first | (with_reducible first | exact HB.out | apply below_alloc | apply pw_below_drewN | apply below_drew1) | exact HB.out)⟩
set_option maxHeartbeats 8000000 in
set_option maxRecDepth 100000 in
theorem law_bad (k : Nat) (a0_0 a0_1 a0_2 a0_3 a0_4 a0_5 a0_6 a0_7 : Int) (A1 : Option Addr) (c1 : Nat) (l1 : List Int) (A2 : Option Addr) (c2 : Nat) (l2 : List Bool) (w : World)
    (hr1 : Kd.C (Kd.int .i64) w A1 l1.length l1) (hc1 : l1.length ≤ c1) (hr2 : Kd.C Kd.bool w A2 l2.length l2) (hc2 : l2.length ≤ c2)
    (t : Int) (ht : t ≠ 0) (h1 : world_CheckPolicy.f k a0_0 a0_1 a0_2 a0_3 a0_4 a0_5 a0_6 a0_7 = some t) (h2 : dynamometerref8_CheckPolicy.f k a0_0 a0_1 a0_2 a0_3 a0_4 a0_5 a0_6 a0_7 = some t) :
    Calls Tryz.prog 3 #[.agg #[.int .i64 a0_0, .int .i64 a0_1, .int .i64 a0_2, .int .i64 a0_3, .int .i64 a0_4, .int .i64 a0_5, .int .i64 a0_6, .int .i64 a0_7], .slice A1 l1.length c1, .slice A2 l2.length c2] w fun e w' => e = .returned (.bool true) ∧ Below w.heap.size w w' := by
  have hu23 := Tryz.underlying23
  have HR1 := Aside0.mk hr1
  have HR2 := Aside0.mk hr2
  have HC1 := Aside0.mk hc1
  have HC2 := Aside0.mk hc2
  have X1 := Aside0.mk h1
  have X2 := Aside0.mk h2
  clear hr1 hr2 hc1 hc2 h1 h2
  have HB := Aside0.mk (Below.refl w.heap.size w)
  have c5b0 : (t == 0) = false := beq_eq_false_iff_ne.mpr ht
  have c5b1 : (t != 0) = true := bne_iff_ne.mpr ht
  go_enter Tryz.func3, Tryz.ntmps3
  go_wp2_with (first
    | ((with_reducible refine gate_dst (N := 3) rfl ?_); refine box_event ?hg (N := 3) ?hd (cs := #[.int .i64 a0_0, .int .i64 a0_1, .int .i64 a0_2, .int .i64 a0_3, .int .i64 a0_4, .int .i64 a0_5, .int .i64 a0_6, .int .i64 a0_7]) (t := 23) ?hr ?_; (case hd => rfl); (case hg => rfl); (case hr => first | (go_simp; done) | (go_simp; rfl)); intro gp hg w9 hbox hb; have n0_ := Aside0.mk (below_step (by repeat (first | (with_reducible first | exact HB.out | apply below_alloc | apply pw_below_drewN | apply below_drew1) | exact HB.out)) hb); have n1_ := Aside0.mk (hbox); have n3_ := Aside0.mk ((by rw [hg]; exact (below_size (by repeat (first | (with_reducible first | exact HB.out | apply below_alloc | apply pw_below_drewN | apply below_drew1) | exact HB.out)))) : w.heap.size ≤ gp); clear HB; have HB := n0_; have BK := n1_; have GE := n3_; clear n0_ n1_ n3_; clear hb hbox hg; have hcw9_0 : w9.cell? ⟨gp, 0, none⟩ = some (.int .i64 a0_0) := (blk_cell BK.out 0).trans rfl; have hcw9_1 : w9.cell? ⟨gp, 1, none⟩ = some (.int .i64 a0_1) := (blk_cell BK.out 1).trans rfl; have hcw9_2 : w9.cell? ⟨gp, 2, none⟩ = some (.int .i64 a0_2) := (blk_cell BK.out 2).trans rfl; have hcw9_3 : w9.cell? ⟨gp, 3, none⟩ = some (.int .i64 a0_3) := (blk_cell BK.out 3).trans rfl; have hcw9_4 : w9.cell? ⟨gp, 4, none⟩ = some (.int .i64 a0_4) := (blk_cell BK.out 4).trans rfl; have hcw9_5 : w9.cell? ⟨gp, 5, none⟩ = some (.int .i64 a0_5) := (blk_cell BK.out 5).trans rfl; have hcw9_6 : w9.cell? ⟨gp, 6, none⟩ = some (.int .i64 a0_6) := (blk_cell BK.out 6).trans rfl; have hcw9_7 : w9.cell? ⟨gp, 7, none⟩ = some (.int .i64 a0_7) := (blk_cell BK.out 7).trans rfl)
    | ((with_reducible refine gate_callee (f := 6) rfl ?_); refine goesL_ (some 19) rfl rfl Tryz.func6 (by kernel_rfl) rfl #[.agg #[.int .i64 a0_0, .int .i64 a0_1, .int .i64 a0_2, .int .i64 a0_3, .int .i64 a0_4, .int .i64 a0_5, .int .i64 a0_6, .int .i64 a0_7]] rfl (by (try simp only [List.map_toArray, List.map_cons, List.map_nil]); first | done | rfl) ?_; (with_reducible refine (world_NewBreaker.bad k a0_0 a0_1 a0_2 a0_3 a0_4 a0_5 a0_6 a0_7 t _ X1.out ht).mono ?_); rintro e w19 ⟨rfl, hb⟩; refine ⟨_, rfl, ?_⟩; have n0_ := Aside0.mk (blk_below (g := gp) (o := .cells #[.int .i64 a0_0, .int .i64 a0_1, .int .i64 a0_2, .int .i64 a0_3, .int .i64 a0_4, .int .i64 a0_5, .int .i64 a0_6, .int .i64 a0_7] 23 (0, 0)) (by (with_reducible repeat (first | refine blk_drewN ?_ _ | refine blk_drew ?_ | refine blk_alloc ?_ _)); exact BK.out) hb); have n1_ := Aside0.mk (below_step (by repeat (first | (with_reducible first | exact HB.out | apply below_alloc | apply pw_below_drewN | apply below_drew1 | refine below_set ?_ GE.out) | exact HB.out)) hb); clear BK; clear HB; have BK := n0_; have HB := n1_; clear n0_ n1_; clear hb; have hcw19_0 : w19.cell? ⟨gp, 0, none⟩ = some (.int .i64 a0_0) := (blk_cell BK.out 0).trans rfl; have hcw19_1 : w19.cell? ⟨gp, 1, none⟩ = some (.int .i64 a0_1) := (blk_cell BK.out 1).trans rfl; have hcw19_2 : w19.cell? ⟨gp, 2, none⟩ = some (.int .i64 a0_2) := (blk_cell BK.out 2).trans rfl; have hcw19_3 : w19.cell? ⟨gp, 3, none⟩ = some (.int .i64 a0_3) := (blk_cell BK.out 3).trans rfl; have hcw19_4 : w19.cell? ⟨gp, 4, none⟩ = some (.int .i64 a0_4) := (blk_cell BK.out 4).trans rfl; have hcw19_5 : w19.cell? ⟨gp, 5, none⟩ = some (.int .i64 a0_5) := (blk_cell BK.out 5).trans rfl; have hcw19_6 : w19.cell? ⟨gp, 6, none⟩ = some (.int .i64 a0_6) := (blk_cell BK.out 6).trans rfl; have hcw19_7 : w19.cell? ⟨gp, 7, none⟩ = some (.int .i64 a0_7) := (blk_cell BK.out 7).trans rfl)
    | ((with_reducible refine gate_callee (f := 7) rfl ?_); refine goesL_ (some 24) rfl rfl Tryz.func7 (by kernel_rfl) rfl #[.agg #[.int .i64 a0_0, .int .i64 a0_1, .int .i64 a0_2, .int .i64 a0_3, .int .i64 a0_4, .int .i64 a0_5, .int .i64 a0_6, .int .i64 a0_7]] rfl (by (try simp only [List.map_toArray, List.map_cons, List.map_nil]); first | done | rfl) ?_; (with_reducible refine (dynamometerref8_NewBreaker.bad k a0_0 a0_1 a0_2 a0_3 a0_4 a0_5 a0_6 a0_7 t _ X2.out ht).mono ?_); rintro e w24 ⟨rfl, hb⟩; refine ⟨_, rfl, ?_⟩; have n0_ := Aside0.mk (blk_below (g := gp) (o := .cells #[.int .i64 a0_0, .int .i64 a0_1, .int .i64 a0_2, .int .i64 a0_3, .int .i64 a0_4, .int .i64 a0_5, .int .i64 a0_6, .int .i64 a0_7] 23 (0, 0)) (by (with_reducible repeat (first | refine blk_drewN ?_ _ | refine blk_drew ?_ | refine blk_alloc ?_ _)); exact BK.out) hb); have n1_ := Aside0.mk (below_step (by repeat (first | (with_reducible first | exact HB.out | apply below_alloc | apply pw_below_drewN | apply below_drew1 | refine below_set ?_ GE.out) | exact HB.out)) hb); clear BK; clear HB; have BK := n0_; have HB := n1_; clear n0_ n1_; clear hb; have hcw24_0 : w24.cell? ⟨gp, 0, none⟩ = some (.int .i64 a0_0) := (blk_cell BK.out 0).trans rfl; have hcw24_1 : w24.cell? ⟨gp, 1, none⟩ = some (.int .i64 a0_1) := (blk_cell BK.out 1).trans rfl; have hcw24_2 : w24.cell? ⟨gp, 2, none⟩ = some (.int .i64 a0_2) := (blk_cell BK.out 2).trans rfl; have hcw24_3 : w24.cell? ⟨gp, 3, none⟩ = some (.int .i64 a0_3) := (blk_cell BK.out 3).trans rfl; have hcw24_4 : w24.cell? ⟨gp, 4, none⟩ = some (.int .i64 a0_4) := (blk_cell BK.out 4).trans rfl; have hcw24_5 : w24.cell? ⟨gp, 5, none⟩ = some (.int .i64 a0_5) := (blk_cell BK.out 5).trans rfl; have hcw24_6 : w24.cell? ⟨gp, 6, none⟩ = some (.int .i64 a0_6) := (blk_cell BK.out 6).trans rfl; have hcw24_7 : w24.cell? ⟨gp, 7, none⟩ = some (.int .i64 a0_7) := (blk_cell BK.out 7).trans rfl))
  refine (dynamometerlaw8_ran.calls true _ rfl).mono ?_
  rintro e_ w38 ⟨rfl, hb⟩
  have n1_ := Aside0.mk (below_step (by repeat (first | (with_reducible first | exact HB.out | apply below_alloc | apply pw_below_drewN | apply below_drew1) | exact HB.out)) hb)
  clear HB
  have HB := n1_
  clear n1_ hb
  dsimp only
  go_wp2
  go_ret
  exact ⟨by first | rfl | (simp; done) | (simp [*]; done), by repeat (first | (with_reducible first | exact HB.out | apply below_alloc | apply pw_below_drewN | apply below_drew1) | exact HB.out)⟩

/-- The law's contract: it answers true. -/
theorem dynamometerlaw8_WorldBreakerMatchesSpec.calls (k : Nat) (a0_0 a0_1 a0_2 a0_3 a0_4 a0_5 a0_6 a0_7 : Int) (A1 : Option Addr) (c1 : Nat) (l1 : List Int) (A2 : Option Addr) (c2 : Nat) (l2 : List Bool) (r : Bool) (w : World)
    (hr1 : Kd.C (Kd.int .i64) w A1 l1.length l1) (hc1 : l1.length ≤ c1) (hr2 : Kd.C Kd.bool w A2 l2.length l2) (hc2 : l2.length ≤ c2) (h : (l1.length : Int) ≤ 9223372036854775807 ∧ r = true) :
    Calls Tryz.prog 3 #[.agg #[.int .i64 a0_0, .int .i64 a0_1, .int .i64 a0_2, .int .i64 a0_3, .int .i64 a0_4, .int .i64 a0_5, .int .i64 a0_6, .int .i64 a0_7], .slice A1 l1.length c1, .slice A2 l2.length c2] w fun e w' => e = .returned (.bool r) ∧ Below w.heap.size w w' := by
  obtain ⟨hn, rfl⟩ := h
  have h1 := policy_eq a0_0 a0_1 a0_2 a0_3 a0_4 a0_5 a0_6 a0_7 0
  have h2 := refpol_eq a0_0 a0_1 a0_2 a0_3 a0_4 a0_5 a0_6 a0_7 1
  by_cases c : chk a0_0 a0_1 a0_2 a0_3 a0_4 a0_5 a0_6 a0_7 = 0
  · rw [c] at h1 h2
    exact law_good 2 a0_0 a0_1 a0_2 a0_3 a0_4 a0_5 a0_6 a0_7 A1 c1 l1 A2 c2 l2 w hr1 hc1 hr2 hc2 hn h1 h2
  · exact law_bad 2 a0_0 a0_1 a0_2 a0_3 a0_4 a0_5 a0_6 a0_7 A1 c1 l1 A2 c2 l2 w hr1 hc1 hr2 hc2 _ c h1 h2
theorem pure_law (a0_0 a0_1 a0_2 a0_3 a0_4 a0_5 a0_6 a0_7 : Int) (l1 : List Int) (l2 : List Bool) (h : l1.length ≤ maxLen) : ∃ k : Nat, (l1.length : Int) ≤ 9223372036854775807 ∧ true = true :=
  ⟨0, by unfold maxLen at h; omega, rfl⟩
end Go.Proofs.YtlkimpjcgcacdaaGreatDoor.PWorldBreakerMatchesSpec
