/- The law WorldBreakerMatchesSpec: proved of the program's translation for every argument, without a condition. -/
import Derived.Test.YtlkimpjcgcacdaaGreatDoorRows
import Derived.Test.YtlkimpjcgcacdaaGreatDoorWbPure
import Derived.Test.YtlkimpjcgcacdaaGreatDoorWOpen
import Derived.Test.YtlkimpjcgcacdaaGreatDoorLaidW
import Derived.Test.YtlkimpjcgcacdaaGreatDoorClosed
import Derived.Test.YtlkimpjcgcacdaaGreatDoorFacts
import Derived.Test.YtlkimpjcgcacdaaGreatDoorCards
import Derived.Test.YtlkimpjcgcacdaaGreatDoorTiJ
import Derived.WalkKit
import Derived.ProofKit
import Derived.OpenShut
import Derived.ShutString
import Derived.ChangeOld
import Derived.Below
import Derived.SizedLaws
import Derived.Deep.DeepHandedRow
import Derived.Deep.DeepWitnessRowRef
import Derived.JoinedCond
import Derived.SevenTiedAt
namespace Go.Proofs.YtlkimpjcgcacdaaGreatDoor.worldBreakerMatchesSpec
open Go.ChangeShapes Go.WideShapes Go.ChangeAt Go.RowKit Go.Proofs.YtlkimpjcgcacdaaGreatDoorW.PrintWords Go.Proofs.YtlkimpjcgcacdaaGreatDoorW.PrintLast Go.Proofs.YtlkimpjcgcacdaaGreatDoorW.PrintMore Go.Proofs.YtlkimpjcgcacdaaGreatDoorW.Open Go.Proofs.YtlkimpjcgcacdaaGreatDoor.PWorldBreakerMatchesSpec Go.Proofs.YtlkimpjcgcacdaaGreatDoor.LaidW Go.Proofs.YtlkimpjcgcacdaaGreatDoor.Closed
set_option linter.unusedVariables false
def k23 : Kd (Int × Int × Int × Int × Int × Int × Int × Int) := (Kd.pair (Kd.int .i64) (Kd.pair (Kd.int .i64) (Kd.pair (Kd.int .i64) (Kd.pair (Kd.int .i64) (Kd.pair (Kd.int .i64) (Kd.pair (Kd.int .i64) (Kd.pair (Kd.int .i64) (Kd.int .i64))))))))
theorem opens23 : Opens Tryz.prog 23 k23 (fun x => (fun n => (Lit.int .i64 n).wf = true) x.1 ∧ (fun x => (fun n => (Lit.int .i64 n).wf = true) x.1 ∧ (fun x => (fun n => (Lit.int .i64 n).wf = true) x.1 ∧ (fun x => (fun n => (Lit.int .i64 n).wf = true) x.1 ∧ (fun x => (fun n => (Lit.int .i64 n).wf = true) x.1 ∧ (fun x => (fun n => (Lit.int .i64 n).wf = true) x.1 ∧ (fun x => (fun n => (Lit.int .i64 n).wf = true) x.1 ∧ (fun n => (Lit.int .i64 n).wf = true) x.2) x.2) x.2) x.2) x.2) x.2) x.2) :=
  Opens.struct (tot := 8) Tryz.underlying23 (by kernel_rfl) (OpensF.cons (s := 1) rfl (by kernel_rfl) (Opens.int Tryz.underlying3) (OpensF.cons (s := 1) rfl (by kernel_rfl) (Opens.int Tryz.underlying3) (OpensF.cons (s := 1) rfl (by kernel_rfl) (Opens.int Tryz.underlying3) (OpensF.cons (s := 1) rfl (by kernel_rfl) (Opens.int Tryz.underlying3) (OpensF.cons (s := 1) rfl (by kernel_rfl) (Opens.int Tryz.underlying3) (OpensF.cons (s := 1) rfl (by kernel_rfl) (Opens.int Tryz.underlying3) (OpensF.cons (s := 1) rfl (by kernel_rfl) (Opens.int Tryz.underlying3) (OpensF.one rfl (by kernel_rfl) (Opens.int Tryz.underlying3)))))))))
theorem k23_open {w : World} {x : Int × Int × Int × Int × Int × Int × Int × Int} {cs : List Value} (h : k23.K w x cs) : cs = [.int .i64 x.1, .int .i64 x.2.1, .int .i64 x.2.2.1, .int .i64 x.2.2.2.1, .int .i64 x.2.2.2.2.1, .int .i64 x.2.2.2.2.2.1, .int .i64 x.2.2.2.2.2.2.1, .int .i64 x.2.2.2.2.2.2.2] := by
  obtain ⟨_, _, rfl, rfl, ⟨_, _, rfl, rfl, ⟨_, _, rfl, rfl, ⟨_, _, rfl, rfl, ⟨_, _, rfl, rfl, ⟨_, _, rfl, rfl, ⟨_, _, rfl, rfl, rfl⟩⟩⟩⟩⟩⟩⟩ := h
  exact rfl
theorem witness_row (os : Os) {H : Type} (enc : TypeId × Value → H) :
    (OpenSpec.ofChange Rows.worldBreakerMatchesSpecSpec).preRow enc Tryz.prog Tryz.f3 Rows.worldBreakerMatchesSpecRow.domain false Rows.worldBreakerMatchesSpecRow.laid ((laidWorld os).forCall (fun _ _ => 0) ⟨#[], #[.agg #[.int .i64 0, .int .i64 0, .int .i64 0, .int .i64 0, .int .i64 0, .int .i64 0, .int .i64 0, .int .i64 0], .slice none 0 0, .slice none 0 0], []⟩).memory #[.agg #[.int .i64 0, .int .i64 0, .int .i64 0, .int .i64 0, .int .i64 0, .int .i64 0, .int .i64 0, .int .i64 0], .slice none 0 0, .slice none 0 0] := by
  have hw : (DataW.whole enc Tryz.prog ((laidWorld os).forCall (fun _ _ => 0) ⟨#[], #[.agg #[.int .i64 0, .int .i64 0, .int .i64 0, .int .i64 0, .int .i64 0, .int .i64 0, .int .i64 0, .int .i64 0], .slice none 0 0, .slice none 0 0], []⟩).memory Tryz.f3.params.toList (OpenSpec.ofChange Rows.worldBreakerMatchesSpecSpec).vars false (#[.agg #[.int .i64 0, .int .i64 0, .int .i64 0, .int .i64 0, .int .i64 0, .int .i64 0, .int .i64 0, .int .i64 0], .slice none 0 0, .slice none 0 0] : Array Value).toList 8).map (fun x => (x.1, x.2.1)) = some ([.agg [.lit (.int .i64 0), .lit (.int .i64 0), .lit (.int .i64 0), .lit (.int .i64 0), .lit (.int .i64 0), .lit (.int .i64 0), .lit (.int .i64 0), .lit (.int .i64 0)], .nil, .nil], []) := by kernel_rfl
  obtain ⟨⟨x1, x2, x3⟩, hx, hx1⟩ := Option.map_eq_some_iff.1 hw
  simp only [Prod.mk.injEq] at hx1
  obtain ⟨rfl, rfl⟩ := hx1
  exact OpenSpec.preRow_of_cond 8 hx (by kernel_rfl) (fun k hk => by cases hk) (by kernel_rfl) (laid_met os _)
set_option maxRecDepth 100000 in
theorem lifted (os : Os) (started : os.Started) (H : Type) (enc : TypeId × Value → H) (F : Stop.Interp) :
    ReturnsInHanded {} Tryz.checked os 3 .any ((OpenSpec.ofChange Rows.worldBreakerMatchesSpecSpec).preRow enc Tryz.prog Tryz.f3 Rows.worldBreakerMatchesSpecRow.domain false Rows.worldBreakerMatchesSpecRow.laid) (((OpenSpec.ofChange Rows.worldBreakerMatchesSpecSpec).at F).post enc Tryz.prog Tryz.f3 false true false false) := by
  refine returnsInHanded_of_row (C := Tryz.checked) (s := (OpenSpec.ofChange Rows.worldBreakerMatchesSpecSpec)) own started (by kernel_rfl) Tryz.func3
    (witness_row_atRef (enc := enc) (C := Tryz.checked) false (laidWorld os) #[.agg #[.int .i64 0, .int .i64 0, .int .i64 0, .int .i64 0, .int .i64 0, .int .i64 0, .int .i64 0, .int .i64 0], .slice none 0 0, .slice none 0 0] rfl (vars_ok os _) (heap_ok os _) (by kernel_rfl) (witness_row os enc)) ?_
  intro W base args ds gs before hval0 hW0 hcnd hcond hsz0 hL hsh hh
  have hW : DataW.Whole enc Tryz.prog Tryz.f3.params.toList [] false W args.toList ds gs before := hW0
  clear hcnd hcond hsz0 hL hsh hh
  have hval : ∀ (j : Nat) t v, Tryz.f3.params[j]? = some t → args[j]? = some v → Value.okWide Tryz.prog W .any base t v := hval0
  have hW' := hW0
  obtain ⟨p, q, hA0, hV, rfl, hfz, hnd⟩ := hW
  have hA : DataW.TrodAll enc Tryz.prog W 0 (fun _ => true) true Tryz.f3.params.toList args.toList ds p := hA0
  rw [Tryz.params3] at hA hval
  obtain ⟨v0, vs0, d0, ds0, p0, q0, hargs, rfl, rfl, h0, r0⟩ := trodAll_cons hA
  obtain ⟨v1, vs1, d1, ds1, p1, q1, rfl, rfl, rfl, h1, r1⟩ := trodAll_cons r0
  obtain ⟨v2, vs2, d2, ds2, p2, q2, rfl, rfl, rfl, h2, r2⟩ := trodAll_cons r1
  obtain ⟨rfl, rfl, rfl⟩ := trodAll_nil r2
  obtain rfl : args = #[v0, v1, v2] := by cases args; simp_all
  obtain ⟨rfl, rfl⟩ := trodVars_none hV
  have k0 := h0
  have lt0 : ∀ x ∈ p0, x.block < W.heap.size := by obtain ⟨m, hm⟩ := k0; exact DataW.trod_lt m _ _ _ hm
  obtain ⟨cs0, rfl, _⟩ := okWide_struct Tryz.underlying23 (hval 0 23 v0 rfl rfl)
  obtain ⟨x0, hk0, hw0⟩ := Opens.arg_agg opens23 h0
  have e0 := k23_open hk0
  obtain rfl : cs0 = #[.int .i64 x0.1, .int .i64 x0.2.1, .int .i64 x0.2.2.1, .int .i64 x0.2.2.2.1, .int .i64 x0.2.2.2.2.1, .int .i64 x0.2.2.2.2.2.1, .int .i64 x0.2.2.2.2.2.2.1, .int .i64 x0.2.2.2.2.2.2.2] := by cases cs0; simpa using e0
  have k1 := h1
  have lt1 : ∀ x ∈ p1, x.block < W.heap.size := by obtain ⟨m, hm⟩ := k1; exact DataW.trod_lt m _ _ _ hm
  obtain ⟨a1, len1, cap1, rfl⟩ := okWide_slice Tryz.underlying24 (hval 1 24 v1 rfl rfl)
  obtain ⟨l1, rfl, hc1, hr1, hm1, hw1⟩ := Opens.arg_slice (Opens.slice Tryz.underlying24 (by kernel_rfl) (Opens.int Tryz.underlying3)) h1
  have k2 := h2
  have lt2 : ∀ x ∈ p2, x.block < W.heap.size := by obtain ⟨m, hm⟩ := k2; exact DataW.trod_lt m _ _ _ hm
  obtain ⟨a2, len2, cap2, rfl⟩ := okWide_slice Tryz.underlying25 (hval 2 25 v2 rfl rfl)
  obtain ⟨l2, rfl, hc2, hr2, hm2, hw2⟩ := Opens.arg_slice (Opens.slice Tryz.underlying25 (by kernel_rfl) (Opens.bool Tryz.underlying4)) h2
  clear hA0 hval0
  obtain ⟨k, hp⟩ := pure_law x0.1 x0.2.1 x0.2.2.1 x0.2.2.2.1 x0.2.2.2.2.1 x0.2.2.2.2.2.1 x0.2.2.2.2.2.2.1 x0.2.2.2.2.2.2.2 l1 l2 hm1
  refine (dynamometerlaw8_WorldBreakerMatchesSpec.calls k x0.1 x0.2.1 x0.2.2.1 x0.2.2.2.1 x0.2.2.2.2.1 x0.2.2.2.2.2.1 x0.2.2.2.2.2.2.1 x0.2.2.2.2.2.2.2 _ _ l1 _ _ l2 true W hr1 hc1 hr2 hc2 hp).mono fun e W' ⟨he, bel⟩ => ?_
  subst he
  exact ⟨_, rfl, _, _, _, [], _, [], hW', trodAll_mk1 (shut_bool Tryz.underlying4 _), (trodAll_cons_mk (Below.trod laidOut (by kernel_rfl) (of_decide_eq_true (by kernel_rfl)) k0 bel lt0) (trodAll_cons_mk (Below.trod laidOut (by kernel_rfl) (of_decide_eq_true (by kernel_rfl)) k1 bel lt1) (trodAll_cons_mk (Below.trod laidOut (by kernel_rfl) (of_decide_eq_true (by kernel_rfl)) k2 bel lt2) trodAll_mk0))), rfl, bel.frame _, fun h => by cases h⟩
theorem own_closure : Tryz.prog.closure 3 = [3, 6, 23, 29, 7, 24, 31, 8, 25, 47, 61, 78, 79, 84, 124, 161, 125, 162, 191, 192, 235, 295, 382, 461, 462, 512, 383, 556, 296, 557, 593, 560, 595, 390, 558, 220, 269, 366, 596, 619, 561, 559, 594, 513, 562, 384, 297, 386, 387, 463, 385, 236, 298, 299, 300, 388, 389, 391, 301, 304, 303, 302, 305, 392, 393, 394, 465, 466, 464, 497, 306, 395, 467, 468, 515, 514, 529, 469, 401, 163, 193, 194, 238, 237, 307, 195, 196, 239, 214, 257, 351, 315, 309, 250, 413, 308, 240, 197, 198, 241, 310, 396, 470, 447, 346, 430, 429, 407, 432, 408, 431, 434, 495, 543, 230, 285, 494, 405, 484, 369, 368, 433, 471, 516, 517, 563, 518, 276, 371, 274, 372, 277, 373, 460, 473, 472, 519, 564, 598, 510, 509, 555, 592, 165, 313, 409, 485, 272, 367, 531, 578, 222, 223, 224, 621, 446, 421, 502, 599, 622, 597, 620, 629, 520, 565, 397, 474, 521, 566, 522, 76, 106, 107, 567, 600, 601, 623, 602, 144, 145, 603, 624, 625, 630, 604, 605, 606, 607, 523, 524, 525, 568, 608, 475, 398, 476, 526, 569, 571, 478, 570, 609, 527, 572, 573, 574, 576, 575, 528, 577, 399, 477, 400, 479, 452, 311, 402, 480, 403, 481, 404, 482, 483, 530, 164, 199, 242, 225, 273, 370, 459, 312, 406, 314, 219, 268, 410, 411, 265, 360, 361, 450, 504, 552, 505, 553, 362, 451, 363, 80, 117, 119, 118, 152, 62, 81, 120, 153, 186, 190, 187, 232, 288, 289, 376, 188, 233, 234, 294, 290, 377, 292, 381, 221, 270, 271, 378, 379, 182, 231, 286, 287, 380, 293, 291, 154, 189, 156, 155, 121, 157, 127, 158, 159, 160, 122, 123, 63, 64, 82, 83, 48, 65, 66, 85, 126, 86, 67, 68, 49, 50, 52, 51, 69, 70, 87, 89, 129, 97, 130, 128, 134, 171, 206, 166, 200, 131, 88, 133, 132, 167, 172, 207, 249, 251, 252, 208, 253, 345, 209, 254, 210, 211, 255, 212, 201, 243, 316, 317, 412, 415, 321, 414, 486, 532, 533, 440, 498, 534, 487, 535, 579, 416, 324, 417, 318, 319, 418, 488, 320, 323, 322, 419, 420, 244, 325, 326, 327, 328, 174, 213, 256, 347, 348, 435, 436, 349, 350, 437, 438, 496, 422, 424, 489, 423, 168, 202, 246, 245, 169, 203, 204, 247, 329, 330, 425, 490, 331, 332, 333, 334, 426, 216, 259, 260, 261, 352, 262, 353, 439, 354, 441, 499, 501, 355, 356, 442, 500, 544, 545, 589, 546, 547, 590, 591, 618, 548, 549, 550, 551, 443, 357, 444, 445, 428, 492, 538, 586, 616, 617, 493, 539, 587, 540, 541, 588, 542, 263, 427, 491, 536, 580, 610, 581, 582, 583, 611, 584, 612, 613, 537, 585, 454, 506, 554, 507, 614, 626, 631, 632, 615, 627, 628, 170, 205, 179, 248, 335, 336, 337, 338, 339, 340, 341, 217, 264, 358, 448, 359, 449, 503, 266, 364, 453, 218, 267, 365, 455, 508, 456, 457, 458, 511, 342, 343, 344, 71, 72, 73, 11, 26, 28, 90, 135, 91, 136, 137, 173, 138, 175, 215, 258, 176, 177, 139, 140, 178, 180, 226, 275, 278, 92, 93, 94, 141, 181, 227, 279, 228, 229, 280, 374, 281, 282, 375, 283, 284, 95, 9, 142, 183, 74, 96, 53, 75, 98, 99, 143, 100, 101, 146, 147, 184, 102, 103, 104, 105, 54, 55, 56, 10, 27, 12] := Go.Facts.closure_of Go.Proofs.YtlkimpjcgcacdaaGreatDoor.Facts.has (by kernel_rfl)
theorem k1 : Rows.worldBreakerMatchesSpecRow.wf (OpenSpec.ofChange Rows.worldBreakerMatchesSpecSpec) = true := by kernel_rfl
theorem k10 : Tryz.prog.inPlace 3 = Rows.worldBreakerMatchesSpecRow.inPlace := (Go.Facts.inPlace_of Go.Proofs.YtlkimpjcgcacdaaGreatDoor.Facts.has own_closure).trans (by kernel_rfl)
theorem k11 : Tryz.prog.unfollowed 3 = Rows.worldBreakerMatchesSpecRow.unfollowed := (Go.Facts.unfollowed_of Go.Proofs.YtlkimpjcgcacdaaGreatDoor.Facts.has own_closure).trans (by kernel_rfl)
theorem k12 : Tryz.prog.recurses 3 = Rows.worldBreakerMatchesSpecRow.recurses := Go.Facts.recurses_of Go.Proofs.YtlkimpjcgcacdaaGreatDoor.Facts.has own_closure (by kernel_rfl)
theorem k13 : Tryz.prog.varsNamed 3 = Rows.worldBreakerMatchesSpecRow.named := (Go.Facts.varsNamed_of Go.Proofs.YtlkimpjcgcacdaaGreatDoor.Facts.has own_closure).trans (by kernel_rfl)
theorem k24b : Rows.worldBreakerMatchesSpecRow.lifted = Tryz.prog.liftsFinal := by kernel_rfl
theorem k24c : Tryz.prog.make = some Rows.worldBreakerMatchesSpecRow.make := by kernel_rfl
theorem joined : joinedFacts Tryz.prog 3 Tryz.f3 (OpenSpec.ofChange Rows.worldBreakerMatchesSpecSpec).bare Rows.worldBreakerMatchesSpecRow = true := by
  unfold joinedFacts
  rw [laidOut, Closed.mapsRowed, stops, stopKnobs, k10, k11, k12, k13, plainKeys, stopsHeard, mayEnter, ← k24b, k24c]
  kernel_rfl
theorem over : Rows.worldBreakerMatchesSpecRow.holds Tryz.pinned (OpenSpec.ofChange Rows.worldBreakerMatchesSpecSpec) :=
  OpenClaim.holds_of_cond 3 Tryz.f3 rfl rfl rfl rfl rfl rfl rfl ⟨rfl, rfl, rfl, rfl, rfl⟩ rfl rfl rfl rfl rfl (by kernel_rfl) Tryz.func3 joined
    (of_decide_eq_true (by kernel_rfl)) (by unfold Func.isWrapper; first | (rw [if_pos (by decide +kernel)]; kernel_rfl) | (rw [if_neg (by decide +kernel)]; exact ⟨rfl, rfl⟩))
    (fun os started H enc _ F => by rw [OpenClaim.pre_eq_preRow]; exact lifted os started H enc F)
theorem proved : Rows.WorldBreakerMatchesSpecSaid := over
theorem fits : Tryz.pinned.checked.prog.listedFits Rows.worldBreakerMatchesSpecRow.laid = true := by
  unfold Program.listedFits
  rw [Tied.noOwnUnsafe]
  kernel_rfl
theorem row_tie : Rows.worldBreakerMatchesSpecRow.laidByTextAt .later Tryz.pinned [.data, .pinned, .data, .data, .data, .pinned, .data, .data, .sentinel, .sentinel] true :=
  OpenClaim.laidByTextAt_pinned rfl rfl Tied.tie rfl rfl rfl rfl (fun y hy _e => by
    simp only [Rows.worldBreakerMatchesSpecRow, List.zip_cons_cons, List.zip_nil_right, List.mem_cons, List.mem_nil_iff, or_false] at hy
    rcases hy with rfl | rfl | rfl | rfl | rfl | rfl | rfl | rfl | rfl | rfl
    · cases _e
    · exact ⟨Tied.pin_first, by kernel_rfl⟩
    · cases _e
    · cases _e
    · cases _e
    · exact ⟨Tied.pin_case, by kernel_rfl⟩
    · cases _e
    · cases _e
    · cases _e
    · cases _e) fits
theorem wfText : Rows.worldBreakerMatchesSpecRow.wfByText (OpenSpec.ofChange Rows.worldBreakerMatchesSpecSpec) = true := by kernel_rfl
theorem main_is : Tryz.pinned.checked.prog.mainIs = some (true, "247250f0754abaee9f4b511b68cb15aebfc2e36d76600153222e173edc14848e".toList) := by kernel_rfl
theorem looks_on : true = Tryz.pinned.checked.prog.looks [] := by kernel_rfl
theorem no_standIns : (([23, 24, 25] : List Nat).all fun t => Tryz.pinned.checked.prog.wantsStandIn t == false) = true := by kernel_rfl
theorem plain (f : FuncId) (fn : Func) (hf : Tryz.pinned.checked.prog.funcNamed Rows.worldBreakerMatchesSpecRow.func = some f) (hfn : Tryz.pinned.checked.prog.funcs[f]? = some fn) :
    true = Tryz.pinned.checked.prog.looks [] ∧ ∀ (j : Nat) t, fn.params[j]? = some t → Tryz.pinned.checked.prog.wantsStandIn t = false := by
  obtain rfl : f = 3 := Option.some.inj ((show Tryz.prog.funcNamed Rows.worldBreakerMatchesSpecRow.func = some 3 by kernel_rfl).symm.trans hf) |>.symm
  obtain rfl : fn = Tryz.f3 := (Option.some.inj (Tryz.func3.symm.trans hfn)).symm
  refine ⟨looks_on, fun j t ht => ?_⟩
  rw [Tryz.params3] at ht
  have hm := List.all_eq_true.1 no_standIns t (Array.mem_toList_iff.2 (Array.mem_of_getElem? ht))
  exact eq_of_beq hm
/-- The card. -/
theorem card : Rows.WorldBreakerMatchesSpecCardSaid :=
  Claim7.holds_tied_plain_at .later [] _ _ _ _ over (fun _ h => by cases h) wfText (fun _ h => by cases h) row_tie rfl ⟨rfl, rfl⟩ main_is rfl plain (Go.Facts.goesBy_of noGo rfl)
end Go.Proofs.YtlkimpjcgcacdaaGreatDoor.worldBreakerMatchesSpec
namespace Go.Proofs.YtlkimpjcgcacdaaGreatDoor
theorem worldBreakerMatchesSpec_holds : Rows.WorldBreakerMatchesSpecCardSaid := worldBreakerMatchesSpec.card
end Go.Proofs.YtlkimpjcgcacdaaGreatDoor
