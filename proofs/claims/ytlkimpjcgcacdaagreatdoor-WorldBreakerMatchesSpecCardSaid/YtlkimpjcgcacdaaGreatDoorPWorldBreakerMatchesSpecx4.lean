/- What functions that the law reaches answer, each with its contract over the model, where its printed form gives a value. Written by a program of this work (myprint.py over print.py). -/
import Derived.Test.YtlkimpjcgcacdaaGreatDoorPWorldBreakerMatchesSpecx0
import Derived.Test.YtlkimpjcgcacdaaGreatDoorPWorldBreakerMatchesSpecx2
import Derived.Test.YtlkimpjcgcacdaaGreatDoorPWorldBreakerMatchesSpecx3
namespace Go.Proofs.YtlkimpjcgcacdaaGreatDoor.PWorldBreakerMatchesSpec
open Go.RowKit Go.Proofs.YtlkimpjcgcacdaaGreatDoorW.PrintWords Go.Proofs.YtlkimpjcgcacdaaGreatDoorW.PrintLast Go.Proofs.YtlkimpjcgcacdaaGreatDoorW.PrintMore
attribute [local go_sem] max2_int min2_int max_two min_two max_three min_three max_four min_four   -- for this text's walks alone
set_option linter.unusedVariables false
set_option linter.unusedSimpArgs false

/-! ### dynamometerref8_Breaker_Tell: function 12 -/
def dynamometerref8_Breaker_Tell.j0 : Nat → Int → Bool → Bool → Int → Int → Int → Int → Int → Int → Int → Int → Int → Int → Int → Int → Option (Int × Int × Int × Int × Int × Int × Int × Int × Int × Int × Int × Int × Int)
  | 0, _, _, _, _, _, _, _, _, _, _, _, _, _, _, _ => none
  | k + 1, x1, x2, x26, x1000, x1001, x1002, x1003, x1004, x1005, x1006, x1007, x1008, x1009, x1010, x1011 => if x26 = true then (some (0, x1000, x1001, x1002, x1003, x1004, x1005, x1006, x1007, x1008, x1009, x1010, x1011)) else (if x2 = true then (some (0, x1000, x1001, x1002, x1003, x1004, x1005, x1006, x1007, 0, 0, x1010, x1011)) else (if x1008 = 2 then (some (0, x1000, x1001, x1002, x1003, x1004, x1005, x1006, x1007, 1, 0, wrap64 (x1 + x1007), x1011)) else (if (wrap64 (x1009 + 1)) = x1006 then (some (0, x1000, x1001, x1002, x1003, x1004, x1005, x1006, x1007, 1, 0, wrap64 (x1 + x1007), x1011)) else (some (0, x1000, x1001, x1002, x1003, x1004, x1005, x1006, x1007, x1008, wrap64 (x1009 + 1), x1010, x1011)))))
def dynamometerref8_Breaker_Tell.f (k : Nat) (s0_0 : Int) (s0_1 : Int) (s0_2 : Int) (s0_3 : Int) (s0_4 : Int) (s0_5 : Int) (s0_6 : Int) (s0_7 : Int) (s0_8 : Int) (s0_9 : Int) (s0_10 : Int) (s0_11 : Int) (a1 : Int) (a2 : Bool) : Option (Int × Int × Int × Int × Int × Int × Int × Int × Int × Int × Int × Int × Int) := (dynamometerref8_Breaker_moment.f s0_0 s0_1 s0_2 s0_3 s0_4 s0_5 s0_6 s0_7 s0_8 s0_9 s0_10 s0_11 a1).bind fun bt160 => (if bt160.1 = 0 then (if bt160.2.2.2.2.2.2.2.1 = 0 then (dynamometerref8_Breaker_Tell.j0 k a1 a2 true bt160.2.1 bt160.2.2.1 bt160.2.2.2.1 bt160.2.2.2.2.1 bt160.2.2.2.2.2.1 bt160.2.2.2.2.2.2.1 bt160.2.2.2.2.2.2.2.1 bt160.2.2.2.2.2.2.2.2.1 bt160.2.2.2.2.2.2.2.2.2.1 bt160.2.2.2.2.2.2.2.2.2.2.1 bt160.2.2.2.2.2.2.2.2.2.2.2.1 bt160.2.2.2.2.2.2.2.2.2.2.2.2) else (dynamometerref8_Breaker_Tell.j0 k a1 a2 (bt160.2.2.2.2.2.2.2.2.2.1 == 1) bt160.2.1 bt160.2.2.1 bt160.2.2.2.1 bt160.2.2.2.2.1 bt160.2.2.2.2.2.1 bt160.2.2.2.2.2.2.1 bt160.2.2.2.2.2.2.2.1 bt160.2.2.2.2.2.2.2.2.1 bt160.2.2.2.2.2.2.2.2.2.1 bt160.2.2.2.2.2.2.2.2.2.2.1 bt160.2.2.2.2.2.2.2.2.2.2.2.1 bt160.2.2.2.2.2.2.2.2.2.2.2.2)) else (some (bt160.1, bt160.2.1, bt160.2.2.1, bt160.2.2.2.1, bt160.2.2.2.2.1, bt160.2.2.2.2.2.1, bt160.2.2.2.2.2.2.1, bt160.2.2.2.2.2.2.2.1, bt160.2.2.2.2.2.2.2.2.1, bt160.2.2.2.2.2.2.2.2.2.1, bt160.2.2.2.2.2.2.2.2.2.2.1, bt160.2.2.2.2.2.2.2.2.2.2.2.1, bt160.2.2.2.2.2.2.2.2.2.2.2.2)))
theorem dynamometerref8_Breaker_Tell.mono_l : ∀ k, (∀ y0 y1 y2 y3 y4 y5 y6 y7 y8 y9 y10 y11 y12 y13 y14, LeO (dynamometerref8_Breaker_Tell.j0 k y0 y1 y2 y3 y4 y5 y6 y7 y8 y9 y10 y11 y12 y13 y14) (dynamometerref8_Breaker_Tell.j0 (k + 1) y0 y1 y2 y3 y4 y5 y6 y7 y8 y9 y10 y11 y12 y13 y14))
  | 0 => fun _ _ _ _ _ _ _ _ _ _ _ _ _ _ _ r h => by simp [dynamometerref8_Breaker_Tell.j0] at h
  | k + 1 => by
    have ih0 := dynamometerref8_Breaker_Tell.mono_l k
    · intro y0 y1 y2 y3 y4 y5 y6 y7 y8 y9 y10 y11 y12 y13 y14
      unfold dynamometerref8_Breaker_Tell.j0
      repeat' first
      | (with_reducible exact ih0 _ _ _ _ _ _ _ _ _ _ _ _ _ _ _)
      | (with_reducible exact LeO.refl _)
      | (with_reducible exact LeO.none _)
      | (with_reducible refine LeO.ite ?_ ?_)
      | (with_reducible refine LeO.bind ?_ (fun _ => ?_))
      | exact ih0 _ _ _ _ _ _ _ _ _ _ _ _ _ _ _
      | exact LeO.none _
      | refine LeO.ite ?_ ?_
      | refine LeO.bind ?_ (fun _ => ?_)
theorem dynamometerref8_Breaker_Tell.mono : ∀ a0 a1 a2 a3 a4 a5 a6 a7 a8 a9 a10 a11 a12 a13 k, LeO (dynamometerref8_Breaker_Tell.f k a0 a1 a2 a3 a4 a5 a6 a7 a8 a9 a10 a11 a12 a13) (dynamometerref8_Breaker_Tell.f (k + 1) a0 a1 a2 a3 a4 a5 a6 a7 a8 a9 a10 a11 a12 a13) := by
  intro a0 a1 a2 a3 a4 a5 a6 a7 a8 a9 a10 a11 a12 a13 k
  have ih0 := dynamometerref8_Breaker_Tell.mono_l k
  unfold dynamometerref8_Breaker_Tell.f
  repeat' first
      | (with_reducible exact ih0 _ _ _ _ _ _ _ _ _ _ _ _ _ _ _)
      | (with_reducible exact LeO.refl _)
      | (with_reducible exact LeO.none _)
      | (with_reducible refine LeO.ite ?_ ?_)
      | (with_reducible refine LeO.bind ?_ (fun _ => ?_))
      | exact ih0 _ _ _ _ _ _ _ _ _ _ _ _ _ _ _
      | exact LeO.none _
      | refine LeO.ite ?_ ?_
      | refine LeO.bind ?_ (fun _ => ?_)
set_option maxHeartbeats 8000000 in
set_option maxRecDepth 100000 in
theorem dynamometerref8_Breaker_Tell.calls (k : Nat) (g : Nat) (s0_0 : Int) (s0_1 : Int) (s0_2 : Int) (s0_3 : Int) (s0_4 : Int) (s0_5 : Int) (s0_6 : Int) (s0_7 : Int) (s0_8 : Int) (s0_9 : Int) (s0_10 : Int) (s0_11 : Int) (a1 : Int) (a2 : Bool) (r1 : Int) (r2 : Int) (r3 : Int) (r4 : Int) (r5 : Int) (r6 : Int) (r7 : Int) (r8 : Int) (r9 : Int) (r10 : Int) (r11 : Int) (r12 : Int) (r13 : Int) (w0 w : World) (hI : IsS58 w0 w g s0_0 s0_1 s0_2 s0_3 s0_4 s0_5 s0_6 s0_7 s0_8 s0_9 s0_10 s0_11) (hB : Below w0.heap.size w0 w) (h : dynamometerref8_Breaker_Tell.f k s0_0 s0_1 s0_2 s0_3 s0_4 s0_5 s0_6 s0_7 s0_8 s0_9 s0_10 s0_11 a1 a2 = some (r1, r2, r3, r4, r5, r6, r7, r8, r9, r10, r11, r12, r13)) :
    Calls Tryz.prog 12 #[.pointer (some ⟨g, 0, none⟩), .int .i64 a1, .bool a2] w fun e w' => e = .returned (.int .i64 r1) ∧ IsS58 w0 w' g r2 r3 r4 r5 r6 r7 r8 r9 r10 r11 r12 r13 ∧ Below w0.heap.size w0 w' ∧ KeepBut w w' g none := by
  have HI0 := Aside0.mk hI
  have HK := Aside0.mk (KeepBut.refl w g none)
  have HL := Aside0.mk hB.size
  clear hI
  have HW0 := Aside0.mk hB.size
  have HB := Aside0.mk hB
  clear hB
  have H : ((dynamometerref8_Breaker_moment.f s0_0 s0_1 s0_2 s0_3 s0_4 s0_5 s0_6 s0_7 s0_8 s0_9 s0_10 s0_11 a1).bind fun bt160 => (if bt160.1 = 0 then (if bt160.2.2.2.2.2.2.2.1 = 0 then (dynamometerref8_Breaker_Tell.j0 k a1 a2 true bt160.2.1 bt160.2.2.1 bt160.2.2.2.1 bt160.2.2.2.2.1 bt160.2.2.2.2.2.1 bt160.2.2.2.2.2.2.1 bt160.2.2.2.2.2.2.2.1 bt160.2.2.2.2.2.2.2.2.1 bt160.2.2.2.2.2.2.2.2.2.1 bt160.2.2.2.2.2.2.2.2.2.2.1 bt160.2.2.2.2.2.2.2.2.2.2.2.1 bt160.2.2.2.2.2.2.2.2.2.2.2.2) else (dynamometerref8_Breaker_Tell.j0 k a1 a2 (bt160.2.2.2.2.2.2.2.2.2.1 == 1) bt160.2.1 bt160.2.2.1 bt160.2.2.2.1 bt160.2.2.2.2.1 bt160.2.2.2.2.2.1 bt160.2.2.2.2.2.2.1 bt160.2.2.2.2.2.2.2.1 bt160.2.2.2.2.2.2.2.2.1 bt160.2.2.2.2.2.2.2.2.2.1 bt160.2.2.2.2.2.2.2.2.2.2.1 bt160.2.2.2.2.2.2.2.2.2.2.2.1 bt160.2.2.2.2.2.2.2.2.2.2.2.2)) else (some (bt160.1, bt160.2.1, bt160.2.2.1, bt160.2.2.2.1, bt160.2.2.2.2.1, bt160.2.2.2.2.2.1, bt160.2.2.2.2.2.2.1, bt160.2.2.2.2.2.2.2.1, bt160.2.2.2.2.2.2.2.2.1, bt160.2.2.2.2.2.2.2.2.2.1, bt160.2.2.2.2.2.2.2.2.2.2.1, bt160.2.2.2.2.2.2.2.2.2.2.2.1, bt160.2.2.2.2.2.2.2.2.2.2.2.2)))) = some (r1, r2, r3, r4, r5, r6, r7, r8, r9, r10, r11, r12, r13) := h
  clear h
  replace H := Option.bind_eq_some_iff.mp H
  obtain ⟨⟨t160, t161, t162, t163, t164, t165, t166, t167, t168, t169, t170, t171, t172⟩, A40, H⟩ := H
  replace H : (if t160 = 0 then (if t167 = 0 then (dynamometerref8_Breaker_Tell.j0 k a1 a2 true t161 t162 t163 t164 t165 t166 t167 t168 t169 t170 t171 t172) else (dynamometerref8_Breaker_Tell.j0 k a1 a2 (t169 == 1) t161 t162 t163 t164 t165 t166 t167 t168 t169 t170 t171 t172)) else (some (t160, t161, t162, t163, t164, t165, t166, t167, t168, t169, t170, t171, t172))) = some (r1, r2, r3, r4, r5, r6, r7, r8, r9, r10, r11, r12, r13) := H
  have A4 := Aside0.mk A40
  clear A40
  by_cases c5 : t160 = 0
  · rw [if_pos c5] at H
    have c5b0 : (t160 == 0) = true := beq_iff_eq.mpr c5
    have c5b1 : (t160 != 0) = false := bne_eq_false_iff_eq.mpr c5
    clear c5
    have HC6 := Aside0.mk H
    clear H
    go_enter Tryz.func12, Tryz.ntmps12
    go_upto_region 4 with (first | (go_at_call 27; (with_reducible refine (dynamometerref8_Breaker_moment.calls g s0_0 s0_1 s0_2 s0_3 s0_4 s0_5 s0_6 s0_7 s0_8 s0_9 s0_10 s0_11 a1 t160 t161 t162 t163 t164 t165 t166 t167 t168 t169 t170 t171 t172 w0 _ ?side1 ?side2 A4.out).mono ?_); (case side1 => repeat (first | (with_reducible first | exact HI0.out | apply IsS58.alloc | apply IsS58.drewN | apply IsS58.drew | apply IsS58.set_0 | apply IsS58.set_1 | apply IsS58.set_2 | apply IsS58.set_3 | apply IsS58.set_4 | apply IsS58.set_5 | apply IsS58.set_6 | apply IsS58.set_7 | apply IsS58.set_8 | apply IsS58.set_9 | apply IsS58.set_10 | apply IsS58.set_11) | exact HI0.out)); (case side2 => repeat (first | (with_reducible first | exact HB.out | apply below_alloc | apply pw_below_drewN | apply below_drew1 | refine below_set ?_ (IsS58.ge HI0.out)) | exact HB.out)); rintro e w7 ⟨rfl, hi, hb, hk⟩; have n0_ := Aside0.mk (KeepBut.trans (by repeat (first | (with_reducible first | exact HK.out | apply KeepBut.set_ | apply keep_drewN | apply keep_drew | apply keep_alloc) | exact HK.out)) hk (.inl rfl)); have n1_ := Aside0.mk (hb); have n2_ := Aside0.mk (hi); clear HK; clear HB; clear HI0; have HK := n0_; have HB := n1_; have HI0 := n2_; clear n0_ n1_ n2_; (try clear hb); (try clear hb2); (try clear hk); (try clear hi)))
    repeat (go_quiet (first | (go_at_call 27; (with_reducible refine (dynamometerref8_Breaker_moment.calls g s0_0 s0_1 s0_2 s0_3 s0_4 s0_5 s0_6 s0_7 s0_8 s0_9 s0_10 s0_11 a1 t160 t161 t162 t163 t164 t165 t166 t167 t168 t169 t170 t171 t172 w0 _ ?side1 ?side2 A4.out).mono ?_); (case side1 => repeat (first | (with_reducible first | exact HI0.out | apply IsS58.alloc | apply IsS58.drewN | apply IsS58.drew | apply IsS58.set_0 | apply IsS58.set_1 | apply IsS58.set_2 | apply IsS58.set_3 | apply IsS58.set_4 | apply IsS58.set_5 | apply IsS58.set_6 | apply IsS58.set_7 | apply IsS58.set_8 | apply IsS58.set_9 | apply IsS58.set_10 | apply IsS58.set_11) | exact HI0.out)); (case side2 => repeat (first | (with_reducible first | exact HB.out | apply below_alloc | apply pw_below_drewN | apply below_drew1 | refine below_set ?_ (IsS58.ge HI0.out)) | exact HB.out)); rintro e w7 ⟨rfl, hi, hb, hk⟩; have n0_ := Aside0.mk (KeepBut.trans (by repeat (first | (with_reducible first | exact HK.out | apply KeepBut.set_ | apply keep_drewN | apply keep_drew | apply keep_alloc) | exact HK.out)) hk (.inl rfl)); have n1_ := Aside0.mk (hb); have n2_ := Aside0.mk (hi); clear HK; clear HB; clear HI0; have HK := n0_; have HB := n1_; have HI0 := n2_; clear n0_ n1_ n2_; (try clear hb); (try clear hb2); (try clear hk); (try clear hi))); go_upto_region 4 with (first | (go_at_call 27; (with_reducible refine (dynamometerref8_Breaker_moment.calls g s0_0 s0_1 s0_2 s0_3 s0_4 s0_5 s0_6 s0_7 s0_8 s0_9 s0_10 s0_11 a1 t160 t161 t162 t163 t164 t165 t166 t167 t168 t169 t170 t171 t172 w0 _ ?side1 ?side2 A4.out).mono ?_); (case side1 => repeat (first | (with_reducible first | exact HI0.out | apply IsS58.alloc | apply IsS58.drewN | apply IsS58.drew | apply IsS58.set_0 | apply IsS58.set_1 | apply IsS58.set_2 | apply IsS58.set_3 | apply IsS58.set_4 | apply IsS58.set_5 | apply IsS58.set_6 | apply IsS58.set_7 | apply IsS58.set_8 | apply IsS58.set_9 | apply IsS58.set_10 | apply IsS58.set_11) | exact HI0.out)); (case side2 => repeat (first | (with_reducible first | exact HB.out | apply below_alloc | apply pw_below_drewN | apply below_drew1 | refine below_set ?_ (IsS58.ge HI0.out)) | exact HB.out)); rintro e w7 ⟨rfl, hi, hb, hk⟩; have n0_ := Aside0.mk (KeepBut.trans (by repeat (first | (with_reducible first | exact HK.out | apply KeepBut.set_ | apply keep_drewN | apply keep_drew | apply keep_alloc) | exact HK.out)) hk (.inl rfl)); have n1_ := Aside0.mk (hb); have n2_ := Aside0.mk (hi); clear HK; clear HB; clear HI0; have HK := n0_; have HB := n1_; have HI0 := n2_; clear n0_ n1_ n2_; (try clear hb); (try clear hb2); (try clear hk); (try clear hi))))
    (try simp only [Act.put, List.setIfInBounds_toArray, List.set_cons_zero, List.set_cons_succ])
    go_cut [26] (fun v26 wc => ∃ (kq : Nat) (x26_5 : Bool), v26 = .bool x26_5 ∧ Aside0 (dynamometerref8_Breaker_Tell.j0 kq a1 a2 x26_5 t161 t162 t163 t164 t165 t166 t167 t168 t169 t170 t171 t172 = some (r1, r2, r3, r4, r5, r6, r7, r8, r9, r10, r11, r12, r13)) ∧ Aside0 (kq ≤ k) ∧ Aside0 (IsS58 w0 wc g t161 t162 t163 t164 t165 t166 t167 t168 t169 t170 t171 t172) ∧ Aside0 (KeepBut w wc g none) ∧ Aside0 (Below w0.heap.size w0 wc))
    case first =>
      have H := HC6.out
      clear HC6
      by_cases c8 : t167 = 0
      · rw [if_pos c8] at H
        have c8b0 : (t167 == 0) = true := beq_iff_eq.mpr c8
        have c8b1 : (t167 != 0) = false := bne_eq_false_iff_eq.mpr c8
        clear c8
        (first | rw [c8b0] | (simp only [i64_w, i32_w]; rw [c8b0]) | skip)
        have H' := Aside0.mk H
        clear H
        obtain ⟨HGz9, hgz9⟩ := HI0.out
        have hcz9_0 := cellS58_0 HGz9
        have hcz9_1 := cellS58_1 HGz9
        have hcz9_2 := cellS58_2 HGz9
        have hcz9_3 := cellS58_3 HGz9
        have hcz9_4 := cellS58_4 HGz9
        have hcz9_5 := cellS58_5 HGz9
        have hcz9_6 := cellS58_6 HGz9
        have hcz9_7 := cellS58_7 HGz9
        have hcz9_8 := cellS58_8 HGz9
        have hcz9_9 := cellS58_9 HGz9
        have hcz9_10 := cellS58_10 HGz9
        have hcz9_11 := cellS58_11 HGz9
        have hfz9_0 := blk_frozen HGz9 0
        have hfz9_1 := blk_frozen HGz9 1
        have hfz9_2 := blk_frozen HGz9 2
        have hfz9_3 := blk_frozen HGz9 3
        have hfz9_4 := blk_frozen HGz9 4
        have hfz9_5 := blk_frozen HGz9 5
        have hfz9_6 := blk_frozen HGz9 6
        have hfz9_7 := blk_frozen HGz9 7
        have hfz9_8 := blk_frozen HGz9 8
        have hfz9_9 := blk_frozen HGz9 9
        have hfz9_10 := blk_frozen HGz9 10
        have hfz9_11 := blk_frozen HGz9 11
        clear HGz9 hgz9
        go_wp2
        repeat (go_quiet (fail); try go_wp2)
        go_meet
        case rel => exact ⟨_, (true), (by first | rfl | (simp; done) | (simp [*]; done)), H', ⟨by first | omega | exact Nat.le_refl _⟩, ⟨by repeat (first | (with_reducible first | exact HI0.out | apply IsS58.alloc | apply IsS58.drewN | apply IsS58.drew | apply IsS58.set_0 | apply IsS58.set_1 | apply IsS58.set_2 | apply IsS58.set_3 | apply IsS58.set_4 | apply IsS58.set_5 | apply IsS58.set_6 | apply IsS58.set_7 | apply IsS58.set_8 | apply IsS58.set_9 | apply IsS58.set_10 | apply IsS58.set_11) | exact HI0.out)⟩, ⟨by repeat (first | (with_reducible first | exact HK.out | apply KeepBut.set_ | apply keep_drewN | apply keep_drew | apply keep_alloc) | exact HK.out)⟩, ⟨by repeat (first | (with_reducible first | exact HB.out | apply below_alloc | apply pw_below_drewN | apply below_drew1 | refine below_set ?_ (IsS58.ge HI0.out)) | exact HB.out)⟩⟩
      · rw [if_neg c8] at H
        have c8b0 : (t167 == 0) = false := beq_eq_false_iff_ne.mpr c8
        have c8b1 : (t167 != 0) = true := bne_iff_ne.mpr c8
        (first | rw [c8b0] | (simp only [i64_w, i32_w]; rw [c8b0]) | skip)
        have H' := Aside0.mk H
        clear H
        obtain ⟨HGz10, hgz10⟩ := HI0.out
        have hcz10_0 := cellS58_0 HGz10
        have hcz10_1 := cellS58_1 HGz10
        have hcz10_2 := cellS58_2 HGz10
        have hcz10_3 := cellS58_3 HGz10
        have hcz10_4 := cellS58_4 HGz10
        have hcz10_5 := cellS58_5 HGz10
        have hcz10_6 := cellS58_6 HGz10
        have hcz10_7 := cellS58_7 HGz10
        have hcz10_8 := cellS58_8 HGz10
        have hcz10_9 := cellS58_9 HGz10
        have hcz10_10 := cellS58_10 HGz10
        have hcz10_11 := cellS58_11 HGz10
        have hfz10_0 := blk_frozen HGz10 0
        have hfz10_1 := blk_frozen HGz10 1
        have hfz10_2 := blk_frozen HGz10 2
        have hfz10_3 := blk_frozen HGz10 3
        have hfz10_4 := blk_frozen HGz10 4
        have hfz10_5 := blk_frozen HGz10 5
        have hfz10_6 := blk_frozen HGz10 6
        have hfz10_7 := blk_frozen HGz10 7
        have hfz10_8 := blk_frozen HGz10 8
        have hfz10_9 := blk_frozen HGz10 9
        have hfz10_10 := blk_frozen HGz10 10
        have hfz10_11 := blk_frozen HGz10 11
        clear HGz10 hgz10
        go_wp2
        repeat (go_quiet (fail); try go_wp2)
        go_meet
        case rel => exact ⟨_, ((t169 == 1)), (by first | rfl | (simp; done) | (simp [*]; done)), H', ⟨by first | omega | exact Nat.le_refl _⟩, ⟨by repeat (first | (with_reducible first | exact HI0.out | apply IsS58.alloc | apply IsS58.drewN | apply IsS58.drew | apply IsS58.set_0 | apply IsS58.set_1 | apply IsS58.set_2 | apply IsS58.set_3 | apply IsS58.set_4 | apply IsS58.set_5 | apply IsS58.set_6 | apply IsS58.set_7 | apply IsS58.set_8 | apply IsS58.set_9 | apply IsS58.set_10 | apply IsS58.set_11) | exact HI0.out)⟩, ⟨by repeat (first | (with_reducible first | exact HK.out | apply KeepBut.set_ | apply keep_drewN | apply keep_drew | apply keep_alloc) | exact HK.out)⟩, ⟨by repeat (first | (with_reducible first | exact HB.out | apply below_alloc | apply pw_below_drewN | apply below_drew1 | refine below_set ?_ (IsS58.ge HI0.out)) | exact HB.out)⟩⟩
    case rest =>
      clear HC6
      try clear c1
      try clear p2
      try clear c5
      try clear c5b0
      try clear c5b1
      try clear c8
      try clear c8b0
      try clear c8b1
      try clear hcz10_0
      try clear hcz10_1
      try clear hcz10_10
      try clear hcz10_11
      try clear hcz10_2
      try clear hcz10_3
      try clear hcz10_4
      try clear hcz10_5
      try clear hcz10_6
      try clear hcz10_7
      try clear hcz10_8
      try clear hcz10_9
      try clear hcz9_0
      try clear hcz9_1
      try clear hcz9_10
      try clear hcz9_11
      try clear hcz9_2
      try clear hcz9_3
      try clear hcz9_4
      try clear hcz9_5
      try clear hcz9_6
      try clear hcz9_7
      try clear hcz9_8
      try clear hcz9_9
      try clear hfz10_0
      try clear hfz10_1
      try clear hfz10_10
      try clear hfz10_11
      try clear hfz10_2
      try clear hfz10_3
      try clear hfz10_4
      try clear hfz10_5
      try clear hfz10_6
      try clear hfz10_7
      try clear hfz10_8
      try clear hfz10_9
      try clear hfz9_0
      try clear hfz9_1
      try clear hfz9_10
      try clear hfz9_11
      try clear hfz9_2
      try clear hfz9_3
      try clear hfz9_4
      try clear hfz9_5
      try clear hfz9_6
      try clear hfz9_7
      try clear hfz9_8
      try clear hfz9_9
      obtain ⟨kq, x26_5, rfl, HA, HJ5, HI0, HK, HB⟩ := hcut
      cases kq with
      | zero => exact absurd HA.out (by simp [dynamometerref8_Breaker_Tell.j0])
      | succ kj5 =>
        have H := HA.out
        clear HA
        simp only [dynamometerref8_Breaker_Tell.j0] at H
        by_cases c11 : x26_5 = true
        · subst c11
          have H1 : (some (0, t161, t162, t163, t164, t165, t166, t167, t168, t169, t170, t171, t172)) = some (r1, r2, r3, r4, r5, r6, r7, r8, r9, r10, r11, r12, r13) := by rw [if_pos rfl] at H; exact H
          clear H
          have H := H1
          clear H1
          simp only [Option.some.injEq, Prod.mk.injEq] at H
          obtain ⟨rfl, rfl, rfl, rfl, rfl, rfl, rfl, rfl, rfl, rfl, rfl, rfl, rfl⟩ := H
          go_wp2
          repeat (go_quiet (fail); try go_wp2)
          go_ret
          exact ⟨by first | rfl | (simp [errW_none, errW_some] <;> rfl) | (simp [*, errW_none, errW_some] <;> rfl), by repeat (first | (with_reducible first | exact HI0.out | apply IsS58.alloc | apply IsS58.drewN | apply IsS58.drew | apply IsS58.set_0 | apply IsS58.set_1 | apply IsS58.set_2 | apply IsS58.set_3 | apply IsS58.set_4 | apply IsS58.set_5 | apply IsS58.set_6 | apply IsS58.set_7 | apply IsS58.set_8 | apply IsS58.set_9 | apply IsS58.set_10 | apply IsS58.set_11) | exact HI0.out), by repeat (first | (with_reducible first | exact HB.out | apply below_alloc | apply pw_below_drewN | apply below_drew1 | refine below_set ?_ (IsS58.ge HI0.out)) | exact HB.out), by repeat (first | (with_reducible first | exact HK.out | apply KeepBut.set_ | apply keep_drewN | apply keep_drew | apply keep_alloc) | exact HK.out)⟩
        · replace c11 := Bool.eq_false_iff.mpr c11
          subst c11
          have H1 : (if a2 = true then (some (0, t161, t162, t163, t164, t165, t166, t167, t168, 0, 0, t171, t172)) else (if t169 = 2 then (some (0, t161, t162, t163, t164, t165, t166, t167, t168, 1, 0, wrap64 (a1 + t168), t172)) else (if (wrap64 (t170 + 1)) = t167 then (some (0, t161, t162, t163, t164, t165, t166, t167, t168, 1, 0, wrap64 (a1 + t168), t172)) else (some (0, t161, t162, t163, t164, t165, t166, t167, t168, t169, wrap64 (t170 + 1), t171, t172))))) = some (r1, r2, r3, r4, r5, r6, r7, r8, r9, r10, r11, r12, r13) := by rw [if_neg (show ¬ (false = true) by decide)] at H; exact H
          clear H
          have H := H1
          clear H1
          by_cases c12 : a2 = true
          · subst c12
            have H1 : (some (0, t161, t162, t163, t164, t165, t166, t167, t168, 0, 0, t171, t172)) = some (r1, r2, r3, r4, r5, r6, r7, r8, r9, r10, r11, r12, r13) := by rw [if_pos rfl] at H; exact H
            clear H
            have H := H1
            clear H1
            simp only [Option.some.injEq, Prod.mk.injEq] at H
            obtain ⟨rfl, rfl, rfl, rfl, rfl, rfl, rfl, rfl, rfl, rfl, rfl, rfl, rfl⟩ := H
            obtain ⟨HGz13, hgz13⟩ := HI0.out
            have hcz13_0 := cellS58_0 HGz13
            have hcz13_1 := cellS58_1 HGz13
            have hcz13_2 := cellS58_2 HGz13
            have hcz13_3 := cellS58_3 HGz13
            have hcz13_4 := cellS58_4 HGz13
            have hcz13_5 := cellS58_5 HGz13
            have hcz13_6 := cellS58_6 HGz13
            have hcz13_7 := cellS58_7 HGz13
            have hcz13_8 := cellS58_8 HGz13
            have hcz13_9 := cellS58_9 HGz13
            have hcz13_10 := cellS58_10 HGz13
            have hcz13_11 := cellS58_11 HGz13
            have hfz13_0 := blk_frozen HGz13 0
            have hfz13_1 := blk_frozen HGz13 1
            have hfz13_2 := blk_frozen HGz13 2
            have hfz13_3 := blk_frozen HGz13 3
            have hfz13_4 := blk_frozen HGz13 4
            have hfz13_5 := blk_frozen HGz13 5
            have hfz13_6 := blk_frozen HGz13 6
            have hfz13_7 := blk_frozen HGz13 7
            have hfz13_8 := blk_frozen HGz13 8
            have hfz13_9 := blk_frozen HGz13 9
            have hfz13_10 := blk_frozen HGz13 10
            have hfz13_11 := blk_frozen HGz13 11
            clear HGz13 hgz13
            go_wp2
            repeat (go_quiet (fail); try go_wp2)
            go_ret
            exact ⟨by first | rfl | (simp [errW_none, errW_some] <;> rfl) | (simp [*, errW_none, errW_some] <;> rfl), by repeat (first | (with_reducible first | exact HI0.out | apply IsS58.alloc | apply IsS58.drewN | apply IsS58.drew | apply IsS58.set_0 | apply IsS58.set_1 | apply IsS58.set_2 | apply IsS58.set_3 | apply IsS58.set_4 | apply IsS58.set_5 | apply IsS58.set_6 | apply IsS58.set_7 | apply IsS58.set_8 | apply IsS58.set_9 | apply IsS58.set_10 | apply IsS58.set_11) | exact HI0.out), by repeat (first | (with_reducible first | exact HB.out | apply below_alloc | apply pw_below_drewN | apply below_drew1 | refine below_set ?_ (IsS58.ge HI0.out)) | exact HB.out), by repeat (first | (with_reducible first | exact HK.out | apply KeepBut.set_ | apply keep_drewN | apply keep_drew | apply keep_alloc) | exact HK.out)⟩
          · replace c12 := Bool.eq_false_iff.mpr c12
            subst c12
            have H1 : (if t169 = 2 then (some (0, t161, t162, t163, t164, t165, t166, t167, t168, 1, 0, wrap64 (a1 + t168), t172)) else (if (wrap64 (t170 + 1)) = t167 then (some (0, t161, t162, t163, t164, t165, t166, t167, t168, 1, 0, wrap64 (a1 + t168), t172)) else (some (0, t161, t162, t163, t164, t165, t166, t167, t168, t169, wrap64 (t170 + 1), t171, t172)))) = some (r1, r2, r3, r4, r5, r6, r7, r8, r9, r10, r11, r12, r13) := by rw [if_neg (show ¬ (false = true) by decide)] at H; exact H
            clear H
            have H := H1
            clear H1
            by_cases c14 : t169 = 2
            · rw [if_pos c14] at H
              have c14b0 : (t169 == 2) = true := beq_iff_eq.mpr c14
              have c14b1 : (t169 != 2) = false := bne_eq_false_iff_eq.mpr c14
              clear c14
              simp only [Option.some.injEq, Prod.mk.injEq] at H
              obtain ⟨rfl, rfl, rfl, rfl, rfl, rfl, rfl, rfl, rfl, rfl, rfl, rfl, rfl⟩ := H
              obtain ⟨HGz15, hgz15⟩ := HI0.out
              have hcz15_0 := cellS58_0 HGz15
              have hcz15_1 := cellS58_1 HGz15
              have hcz15_2 := cellS58_2 HGz15
              have hcz15_3 := cellS58_3 HGz15
              have hcz15_4 := cellS58_4 HGz15
              have hcz15_5 := cellS58_5 HGz15
              have hcz15_6 := cellS58_6 HGz15
              have hcz15_7 := cellS58_7 HGz15
              have hcz15_8 := cellS58_8 HGz15
              have hcz15_9 := cellS58_9 HGz15
              have hcz15_10 := cellS58_10 HGz15
              have hcz15_11 := cellS58_11 HGz15
              have hfz15_0 := blk_frozen HGz15 0
              have hfz15_1 := blk_frozen HGz15 1
              have hfz15_2 := blk_frozen HGz15 2
              have hfz15_3 := blk_frozen HGz15 3
              have hfz15_4 := blk_frozen HGz15 4
              have hfz15_5 := blk_frozen HGz15 5
              have hfz15_6 := blk_frozen HGz15 6
              have hfz15_7 := blk_frozen HGz15 7
              have hfz15_8 := blk_frozen HGz15 8
              have hfz15_9 := blk_frozen HGz15 9
              have hfz15_10 := blk_frozen HGz15 10
              have hfz15_11 := blk_frozen HGz15 11
              clear HGz15 hgz15
              go_wp2
              repeat (go_quiet (fail); try go_wp2)
              go_ret
              exact ⟨by first | rfl | (simp [errW_none, errW_some] <;> rfl) | (simp [*, errW_none, errW_some] <;> rfl), by repeat (first | (with_reducible first | exact HI0.out | apply IsS58.alloc | apply IsS58.drewN | apply IsS58.drew | apply IsS58.set_0 | apply IsS58.set_1 | apply IsS58.set_2 | apply IsS58.set_3 | apply IsS58.set_4 | apply IsS58.set_5 | apply IsS58.set_6 | apply IsS58.set_7 | apply IsS58.set_8 | apply IsS58.set_9 | apply IsS58.set_10 | apply IsS58.set_11) | exact HI0.out), by repeat (first | (with_reducible first | exact HB.out | apply below_alloc | apply pw_below_drewN | apply below_drew1 | refine below_set ?_ (IsS58.ge HI0.out)) | exact HB.out), by repeat (first | (with_reducible first | exact HK.out | apply KeepBut.set_ | apply keep_drewN | apply keep_drew | apply keep_alloc) | exact HK.out)⟩
            · rw [if_neg c14] at H
              have c14b0 : (t169 == 2) = false := beq_eq_false_iff_ne.mpr c14
              have c14b1 : (t169 != 2) = true := bne_iff_ne.mpr c14
              by_cases c16 : (wrap64 (t170 + 1)) = t167
              · rw [if_pos c16] at H
                have c16b0 : ((wrap64 (t170 + 1)) == t167) = true := beq_iff_eq.mpr c16
                have c16b1 : ((wrap64 (t170 + 1)) != t167) = false := bne_eq_false_iff_eq.mpr c16
                clear c16
                simp only [Option.some.injEq, Prod.mk.injEq] at H
                obtain ⟨rfl, rfl, rfl, rfl, rfl, rfl, rfl, rfl, rfl, rfl, rfl, rfl, rfl⟩ := H
                obtain ⟨HGz17, hgz17⟩ := HI0.out
                have hcz17_0 := cellS58_0 HGz17
                have hcz17_1 := cellS58_1 HGz17
                have hcz17_2 := cellS58_2 HGz17
                have hcz17_3 := cellS58_3 HGz17
                have hcz17_4 := cellS58_4 HGz17
                have hcz17_5 := cellS58_5 HGz17
                have hcz17_6 := cellS58_6 HGz17
                have hcz17_7 := cellS58_7 HGz17
                have hcz17_8 := cellS58_8 HGz17
                have hcz17_9 := cellS58_9 HGz17
                have hcz17_10 := cellS58_10 HGz17
                have hcz17_11 := cellS58_11 HGz17
                have hfz17_0 := blk_frozen HGz17 0
                have hfz17_1 := blk_frozen HGz17 1
                have hfz17_2 := blk_frozen HGz17 2
                have hfz17_3 := blk_frozen HGz17 3
                have hfz17_4 := blk_frozen HGz17 4
                have hfz17_5 := blk_frozen HGz17 5
                have hfz17_6 := blk_frozen HGz17 6
                have hfz17_7 := blk_frozen HGz17 7
                have hfz17_8 := blk_frozen HGz17 8
                have hfz17_9 := blk_frozen HGz17 9
                have hfz17_10 := blk_frozen HGz17 10
                have hfz17_11 := blk_frozen HGz17 11
                clear HGz17 hgz17
                go_wp2
                repeat (go_quiet (fail); try go_wp2)
                go_ret
                exact ⟨by first | rfl | (simp [errW_none, errW_some] <;> rfl) | (simp [*, errW_none, errW_some] <;> rfl), by repeat (first | (with_reducible first | exact HI0.out | apply IsS58.alloc | apply IsS58.drewN | apply IsS58.drew | apply IsS58.set_0 | apply IsS58.set_1 | apply IsS58.set_2 | apply IsS58.set_3 | apply IsS58.set_4 | apply IsS58.set_5 | apply IsS58.set_6 | apply IsS58.set_7 | apply IsS58.set_8 | apply IsS58.set_9 | apply IsS58.set_10 | apply IsS58.set_11) | exact HI0.out), by repeat (first | (with_reducible first | exact HB.out | apply below_alloc | apply pw_below_drewN | apply below_drew1 | refine below_set ?_ (IsS58.ge HI0.out)) | exact HB.out), by repeat (first | (with_reducible first | exact HK.out | apply KeepBut.set_ | apply keep_drewN | apply keep_drew | apply keep_alloc) | exact HK.out)⟩
              · rw [if_neg c16] at H
                have c16b0 : ((wrap64 (t170 + 1)) == t167) = false := beq_eq_false_iff_ne.mpr c16
                have c16b1 : ((wrap64 (t170 + 1)) != t167) = true := bne_iff_ne.mpr c16
                simp only [Option.some.injEq, Prod.mk.injEq] at H
                obtain ⟨rfl, rfl, rfl, rfl, rfl, rfl, rfl, rfl, rfl, rfl, rfl, rfl, rfl⟩ := H
                obtain ⟨HGz18, hgz18⟩ := HI0.out
                have hcz18_0 := cellS58_0 HGz18
                have hcz18_1 := cellS58_1 HGz18
                have hcz18_2 := cellS58_2 HGz18
                have hcz18_3 := cellS58_3 HGz18
                have hcz18_4 := cellS58_4 HGz18
                have hcz18_5 := cellS58_5 HGz18
                have hcz18_6 := cellS58_6 HGz18
                have hcz18_7 := cellS58_7 HGz18
                have hcz18_8 := cellS58_8 HGz18
                have hcz18_9 := cellS58_9 HGz18
                have hcz18_10 := cellS58_10 HGz18
                have hcz18_11 := cellS58_11 HGz18
                have hfz18_0 := blk_frozen HGz18 0
                have hfz18_1 := blk_frozen HGz18 1
                have hfz18_2 := blk_frozen HGz18 2
                have hfz18_3 := blk_frozen HGz18 3
                have hfz18_4 := blk_frozen HGz18 4
                have hfz18_5 := blk_frozen HGz18 5
                have hfz18_6 := blk_frozen HGz18 6
                have hfz18_7 := blk_frozen HGz18 7
                have hfz18_8 := blk_frozen HGz18 8
                have hfz18_9 := blk_frozen HGz18 9
                have hfz18_10 := blk_frozen HGz18 10
                have hfz18_11 := blk_frozen HGz18 11
                clear HGz18 hgz18
                go_wp2
                repeat (go_quiet (fail); try go_wp2)
                go_ret
                exact ⟨by first | rfl | (simp [errW_none, errW_some] <;> rfl) | (simp [*, errW_none, errW_some] <;> rfl), by repeat (first | (with_reducible first | exact HI0.out | apply IsS58.alloc | apply IsS58.drewN | apply IsS58.drew | apply IsS58.set_0 | apply IsS58.set_1 | apply IsS58.set_2 | apply IsS58.set_3 | apply IsS58.set_4 | apply IsS58.set_5 | apply IsS58.set_6 | apply IsS58.set_7 | apply IsS58.set_8 | apply IsS58.set_9 | apply IsS58.set_10 | apply IsS58.set_11) | exact HI0.out), by repeat (first | (with_reducible first | exact HB.out | apply below_alloc | apply pw_below_drewN | apply below_drew1 | refine below_set ?_ (IsS58.ge HI0.out)) | exact HB.out), by repeat (first | (with_reducible first | exact HK.out | apply KeepBut.set_ | apply keep_drewN | apply keep_drew | apply keep_alloc) | exact HK.out)⟩
  · rw [if_neg c5] at H
    have c5b0 : (t160 == 0) = false := beq_eq_false_iff_ne.mpr c5
    have c5b1 : (t160 != 0) = true := bne_iff_ne.mpr c5
    simp only [Option.some.injEq, Prod.mk.injEq] at H
    obtain ⟨rfl, rfl, rfl, rfl, rfl, rfl, rfl, rfl, rfl, rfl, rfl, rfl, rfl⟩ := H
    go_enter Tryz.func12, Tryz.ntmps12
    go_wp2_with (first | (go_at_call 27; (with_reducible refine (dynamometerref8_Breaker_moment.calls g s0_0 s0_1 s0_2 s0_3 s0_4 s0_5 s0_6 s0_7 s0_8 s0_9 s0_10 s0_11 a1 t160 t161 t162 t163 t164 t165 t166 t167 t168 t169 t170 t171 t172 w0 _ ?side1 ?side2 A4.out).mono ?_); (case side1 => repeat (first | (with_reducible first | exact HI0.out | apply IsS58.alloc | apply IsS58.drewN | apply IsS58.drew | apply IsS58.set_0 | apply IsS58.set_1 | apply IsS58.set_2 | apply IsS58.set_3 | apply IsS58.set_4 | apply IsS58.set_5 | apply IsS58.set_6 | apply IsS58.set_7 | apply IsS58.set_8 | apply IsS58.set_9 | apply IsS58.set_10 | apply IsS58.set_11) | exact HI0.out)); (case side2 => repeat (first | (with_reducible first | exact HB.out | apply below_alloc | apply pw_below_drewN | apply below_drew1 | refine below_set ?_ (IsS58.ge HI0.out)) | exact HB.out)); rintro e w19 ⟨rfl, hi, hb, hk⟩; have n0_ := Aside0.mk (KeepBut.trans (by repeat (first | (with_reducible first | exact HK.out | apply KeepBut.set_ | apply keep_drewN | apply keep_drew | apply keep_alloc) | exact HK.out)) hk (.inl rfl)); have n1_ := Aside0.mk (hb); have n2_ := Aside0.mk (hi); clear HK; clear HB; clear HI0; have HK := n0_; have HB := n1_; have HI0 := n2_; clear n0_ n1_ n2_; (try clear hb); (try clear hb2); (try clear hk); (try clear hi)))
    repeat (go_quiet (first | (go_at_call 27; (with_reducible refine (dynamometerref8_Breaker_moment.calls g s0_0 s0_1 s0_2 s0_3 s0_4 s0_5 s0_6 s0_7 s0_8 s0_9 s0_10 s0_11 a1 t160 t161 t162 t163 t164 t165 t166 t167 t168 t169 t170 t171 t172 w0 _ ?side1 ?side2 A4.out).mono ?_); (case side1 => repeat (first | (with_reducible first | exact HI0.out | apply IsS58.alloc | apply IsS58.drewN | apply IsS58.drew | apply IsS58.set_0 | apply IsS58.set_1 | apply IsS58.set_2 | apply IsS58.set_3 | apply IsS58.set_4 | apply IsS58.set_5 | apply IsS58.set_6 | apply IsS58.set_7 | apply IsS58.set_8 | apply IsS58.set_9 | apply IsS58.set_10 | apply IsS58.set_11) | exact HI0.out)); (case side2 => repeat (first | (with_reducible first | exact HB.out | apply below_alloc | apply pw_below_drewN | apply below_drew1 | refine below_set ?_ (IsS58.ge HI0.out)) | exact HB.out)); rintro e w19 ⟨rfl, hi, hb, hk⟩; have n0_ := Aside0.mk (KeepBut.trans (by repeat (first | (with_reducible first | exact HK.out | apply KeepBut.set_ | apply keep_drewN | apply keep_drew | apply keep_alloc) | exact HK.out)) hk (.inl rfl)); have n1_ := Aside0.mk (hb); have n2_ := Aside0.mk (hi); clear HK; clear HB; clear HI0; have HK := n0_; have HB := n1_; have HI0 := n2_; clear n0_ n1_ n2_; (try clear hb); (try clear hb2); (try clear hk); (try clear hi))); try go_wp2_with (first | (go_at_call 27; (with_reducible refine (dynamometerref8_Breaker_moment.calls g s0_0 s0_1 s0_2 s0_3 s0_4 s0_5 s0_6 s0_7 s0_8 s0_9 s0_10 s0_11 a1 t160 t161 t162 t163 t164 t165 t166 t167 t168 t169 t170 t171 t172 w0 _ ?side1 ?side2 A4.out).mono ?_); (case side1 => repeat (first | (with_reducible first | exact HI0.out | apply IsS58.alloc | apply IsS58.drewN | apply IsS58.drew | apply IsS58.set_0 | apply IsS58.set_1 | apply IsS58.set_2 | apply IsS58.set_3 | apply IsS58.set_4 | apply IsS58.set_5 | apply IsS58.set_6 | apply IsS58.set_7 | apply IsS58.set_8 | apply IsS58.set_9 | apply IsS58.set_10 | apply IsS58.set_11) | exact HI0.out)); (case side2 => repeat (first | (with_reducible first | exact HB.out | apply below_alloc | apply pw_below_drewN | apply below_drew1 | refine below_set ?_ (IsS58.ge HI0.out)) | exact HB.out)); rintro e w19 ⟨rfl, hi, hb, hk⟩; have n0_ := Aside0.mk (KeepBut.trans (by repeat (first | (with_reducible first | exact HK.out | apply KeepBut.set_ | apply keep_drewN | apply keep_drew | apply keep_alloc) | exact HK.out)) hk (.inl rfl)); have n1_ := Aside0.mk (hb); have n2_ := Aside0.mk (hi); clear HK; clear HB; clear HI0; have HK := n0_; have HB := n1_; have HI0 := n2_; clear n0_ n1_ n2_; (try clear hb); (try clear hb2); (try clear hk); (try clear hi))))
    go_ret
    exact ⟨by first | rfl | (simp [errW_none, errW_some] <;> rfl) | (simp [*, errW_none, errW_some] <;> rfl), by repeat (first | (with_reducible first | exact HI0.out | apply IsS58.alloc | apply IsS58.drewN | apply IsS58.drew | apply IsS58.set_0 | apply IsS58.set_1 | apply IsS58.set_2 | apply IsS58.set_3 | apply IsS58.set_4 | apply IsS58.set_5 | apply IsS58.set_6 | apply IsS58.set_7 | apply IsS58.set_8 | apply IsS58.set_9 | apply IsS58.set_10 | apply IsS58.set_11) | exact HI0.out), by repeat (first | (with_reducible first | exact HB.out | apply below_alloc | apply pw_below_drewN | apply below_drew1 | refine below_set ?_ (IsS58.ge HI0.out)) | exact HB.out), by repeat (first | (with_reducible first | exact HK.out | apply KeepBut.set_ | apply keep_drewN | apply keep_drew | apply keep_alloc) | exact HK.out)⟩

/-! ### dynamometerlaw8_WorldBreakerMatchesSpec: function 3 -/
-- DESCEND

end Go.Proofs.YtlkimpjcgcacdaaGreatDoor.PWorldBreakerMatchesSpec
