/- The law WorldAreaMatchesSpec: proved of the program's translation for every argument, without a condition. -/
import Derived.Test.YtgilfdgcimcohaaGreatDoorRows
import Derived.Test.YtgilfdgcimcohaaGreatDoorWaPure
import Derived.Test.YtgilfdgcimcohaaGreatDoorWOpen
import Derived.Test.YtgilfdgcimcohaaGreatDoorLaidW
import Derived.Test.YtgilfdgcimcohaaGreatDoorClosed
import Derived.Test.YtgilfdgcimcohaaGreatDoorFacts
import Derived.Test.YtgilfdgcimcohaaGreatDoorCards
import Derived.Test.YtgilfdgcimcohaaGreatDoorTiJ
import Derived.WalkKit
import Derived.ProofKit
import Derived.OpenShut
import Derived.ShutString
import Derived.ChangeOld
import Derived.Below
import Derived.SizedLaws
import Derived.Deep.DeepHandedRow
import Derived.Deep.DeepWitnessRowRef
import Derived.JoinedCond
import Derived.SevenTiedAt
namespace Go.Proofs.YtgilfdgcimcohaaGreatDoor.worldAreaMatchesSpec
open Go.ChangeShapes Go.WideShapes Go.ChangeAt Go.RowKit Go.Proofs.YtgilfdgcimcohaaGreatDoorW.PrintWords Go.Proofs.YtgilfdgcimcohaaGreatDoorW.PrintLast Go.Proofs.YtgilfdgcimcohaaGreatDoorW.PrintMore Go.Proofs.YtgilfdgcimcohaaGreatDoorW.Open Go.Proofs.YtgilfdgcimcohaaGreatDoor.PWorldAreaMatchesSpec Go.Proofs.YtgilfdgcimcohaaGreatDoor.LaidW Go.Proofs.YtgilfdgcimcohaaGreatDoor.Closed
set_option linter.unusedVariables false
def W94 : S94 → Prop := fun x => (fun x => (fun n => (Lit.int .i64 n).wf = true) x.1 ∧ (fun n => (Lit.int .i64 n).wf = true) x.2) (x.f0, x.f1)
theorem opens94 : Opens Tryz.prog 94 k94 W94 :=
  Opens.iso (fun x : S94 => (x.f0, x.f1)) (fun p => ⟨p.1, p.2⟩) (fun _ => rfl) (Opens.struct (tot := 2) Tryz.underlying94 (by kernel_rfl) (OpensF.cons (s := 1) rfl (by kernel_rfl) (Opens.int Tryz.underlying3) (OpensF.one rfl (by kernel_rfl) (Opens.int Tryz.underlying3))))
theorem witness_row (os : Os) {H : Type} (enc : TypeId × Value → H) :
    (OpenSpec.ofChange Rows.worldAreaMatchesSpecSpec).preRow enc Tryz.prog Tryz.f5 Rows.worldAreaMatchesSpecRow.domain false Rows.worldAreaMatchesSpecRow.laid ((laidWorld os).forCall (fun _ _ => 0) ⟨#[], #[.slice none 0 0, .int .i64 0, .int .i64 0, .int .i64 0], []⟩).memory #[.slice none 0 0, .int .i64 0, .int .i64 0, .int .i64 0] := by
  have hw : (DataW.whole enc Tryz.prog ((laidWorld os).forCall (fun _ _ => 0) ⟨#[], #[.slice none 0 0, .int .i64 0, .int .i64 0, .int .i64 0], []⟩).memory Tryz.f5.params.toList (OpenSpec.ofChange Rows.worldAreaMatchesSpecSpec).vars false (#[.slice none 0 0, .int .i64 0, .int .i64 0, .int .i64 0] : Array Value).toList 8).map (fun x => (x.1, x.2.1)) = some ([.nil, .lit (.int .i64 0), .lit (.int .i64 0), .lit (.int .i64 0)], []) := by kernel_rfl
  obtain ⟨⟨x1, x2, x3⟩, hx, hx1⟩ := Option.map_eq_some_iff.1 hw
  simp only [Prod.mk.injEq] at hx1
  obtain ⟨rfl, rfl⟩ := hx1
  exact OpenSpec.preRow_of_cond 8 hx (by kernel_rfl) (fun k hk => by cases hk) (by kernel_rfl) (laid_met os _)
set_option maxRecDepth 100000 in
theorem lifted (os : Os) (started : os.Started) (H : Type) (enc : TypeId × Value → H) (F : Stop.Interp) :
    ReturnsInHanded {} Tryz.checked os 5 .any ((OpenSpec.ofChange Rows.worldAreaMatchesSpecSpec).preRow enc Tryz.prog Tryz.f5 Rows.worldAreaMatchesSpecRow.domain false Rows.worldAreaMatchesSpecRow.laid) (((OpenSpec.ofChange Rows.worldAreaMatchesSpecSpec).at F).post enc Tryz.prog Tryz.f5 false true false false) := by
  refine returnsInHanded_of_row (C := Tryz.checked) (s := (OpenSpec.ofChange Rows.worldAreaMatchesSpecSpec)) own started (by kernel_rfl) Tryz.func5
    (witness_row_atRef (enc := enc) (C := Tryz.checked) false (laidWorld os) #[.slice none 0 0, .int .i64 0, .int .i64 0, .int .i64 0] rfl (vars_ok os _) (heap_ok os _) (by kernel_rfl) (witness_row os enc)) ?_
  intro W base args ds gs before hval0 hW0 hcnd hcond hsz0 hL hsh hh
  have hW : DataW.Whole enc Tryz.prog Tryz.f5.params.toList [] false W args.toList ds gs before := hW0
  clear hcnd hcond hsz0 hL hsh hh
  have hval : ∀ (j : Nat) t v, Tryz.f5.params[j]? = some t → args[j]? = some v → Value.okWide Tryz.prog W .any base t v := hval0
  have hW' := hW0
  obtain ⟨p, q, hA0, hV, rfl, hfz, hnd⟩ := hW
  have hA : DataW.TrodAll enc Tryz.prog W 0 (fun _ => true) true Tryz.f5.params.toList args.toList ds p := hA0
  rw [Tryz.params5] at hA hval
  obtain ⟨v0, vs0, d0, ds0, p0, q0, hargs, rfl, rfl, h0, r0⟩ := trodAll_cons hA
  obtain ⟨v1, vs1, d1, ds1, p1, q1, rfl, rfl, rfl, h1, r1⟩ := trodAll_cons r0
  obtain ⟨v2, vs2, d2, ds2, p2, q2, rfl, rfl, rfl, h2, r2⟩ := trodAll_cons r1
  obtain ⟨v3, vs3, d3, ds3, p3, q3, rfl, rfl, rfl, h3, r3⟩ := trodAll_cons r2
  obtain ⟨rfl, rfl, rfl⟩ := trodAll_nil r3
  obtain rfl : args = #[v0, v1, v2, v3] := by cases args; simp_all
  obtain ⟨rfl, rfl⟩ := trodVars_none hV
  have k0 := h0
  have lt0 : ∀ x ∈ p0, x.block < W.heap.size := by obtain ⟨m, hm⟩ := k0; exact DataW.trod_lt m _ _ _ hm
  obtain ⟨a0, len0, cap0, rfl⟩ := okWide_slice Tryz.underlying33 (hval 0 33 v0 rfl rfl)
  obtain ⟨l0, rfl, hc0, hr0, hm0, hw0⟩ := Opens.arg_slice (Opens.slice Tryz.underlying33 (by kernel_rfl) opens94) h0
  obtain ⟨a1, rfl, rfl, rfl, w1⟩ := open_int Tryz.underlying3 (hval 1 3 v1 rfl rfl) h1
  obtain ⟨a2, rfl, rfl, rfl, w2⟩ := open_int Tryz.underlying3 (hval 2 3 v2 rfl rfl) h2
  obtain ⟨a3, rfl, rfl, rfl, w3⟩ := open_int Tryz.underlying3 (hval 3 3 v3 rfl rfl) h3
  clear hA0 hval0
  obtain ⟨k, hp⟩ := pure_law l0 a1 a2 a3
  refine (dynamometerlaw8_WorldAreaMatchesSpec.calls k _ _ l0 a1 a2 a3 true W hr0 hc0 hp).mono fun e W' ⟨he, bel⟩ => ?_
  subst he
  exact ⟨_, rfl, _, _, _, [], _, [], hW', trodAll_mk1 (shut_bool Tryz.underlying4 _), (trodAll_cons_mk (Below.trod laidOut (by kernel_rfl) (of_decide_eq_true (by kernel_rfl)) k0 bel lt0) (trodAll_cons_mk (shut_int Tryz.underlying3 w1) (trodAll_cons_mk (shut_int Tryz.underlying3 w2) (trodAll_cons_mk (shut_int Tryz.underlying3 w3) trodAll_mk0)))), rfl, bel.frame _, fun h => by cases h⟩
theorem own_closure : Tryz.prog.closure 5 = [5, 14, 23, 15, 25, 33, 11, 27, 40, 54, 9, 70, 73, 103, 136, 104, 137, 162, 163, 204, 264, 351, 430, 431, 481, 352, 525, 265, 526, 562, 529, 564, 359, 527, 189, 238, 335, 565, 588, 530, 528, 563, 482, 531, 353, 266, 355, 356, 432, 354, 205, 267, 268, 269, 357, 358, 360, 270, 273, 272, 271, 274, 361, 362, 363, 434, 435, 433, 466, 275, 364, 436, 437, 484, 483, 498, 438, 370, 138, 164, 165, 207, 206, 276, 166, 167, 208, 183, 226, 320, 284, 278, 219, 382, 277, 209, 168, 169, 210, 279, 365, 439, 416, 315, 399, 398, 376, 401, 377, 400, 403, 464, 512, 199, 254, 463, 374, 453, 338, 337, 402, 440, 485, 486, 532, 487, 245, 340, 243, 341, 246, 342, 429, 442, 441, 488, 533, 567, 479, 478, 524, 561, 38, 282, 378, 454, 241, 336, 500, 547, 191, 192, 193, 590, 415, 390, 471, 568, 591, 566, 589, 598, 489, 534, 366, 443, 490, 535, 491, 67, 95, 69, 536, 569, 570, 592, 571, 123, 124, 572, 593, 594, 599, 573, 574, 575, 576, 492, 493, 494, 537, 577, 444, 367, 445, 495, 538, 540, 447, 539, 578, 496, 541, 542, 543, 545, 544, 497, 546, 368, 446, 369, 448, 421, 280, 371, 449, 372, 450, 373, 451, 452, 499, 139, 170, 211, 194, 242, 339, 428, 281, 375, 283, 188, 237, 379, 380, 234, 329, 330, 419, 473, 521, 474, 522, 331, 420, 332, 71, 96, 98, 97, 127, 55, 72, 99, 128, 157, 161, 158, 201, 257, 258, 345, 159, 202, 203, 263, 259, 346, 261, 350, 190, 239, 240, 347, 348, 154, 200, 255, 256, 349, 262, 260, 129, 160, 131, 130, 100, 132, 106, 133, 134, 135, 101, 102, 18, 28, 50, 29, 51, 41, 56, 57, 74, 105, 75, 58, 35, 59, 42, 43, 45, 44, 60, 61, 76, 30, 107, 86, 108, 24, 37, 52, 68, 39, 53, 109, 77, 111, 110, 140, 144, 176, 218, 220, 221, 177, 222, 314, 178, 223, 179, 180, 224, 181, 171, 212, 285, 286, 381, 384, 290, 383, 455, 501, 502, 409, 467, 503, 456, 504, 548, 385, 293, 386, 287, 288, 387, 457, 289, 292, 291, 388, 389, 213, 294, 295, 296, 297, 146, 182, 225, 316, 317, 404, 405, 318, 319, 406, 407, 465, 391, 393, 458, 392, 141, 172, 215, 214, 142, 173, 174, 216, 298, 299, 394, 459, 300, 301, 302, 303, 395, 185, 228, 229, 230, 321, 231, 322, 408, 323, 410, 468, 470, 324, 325, 411, 469, 513, 514, 558, 515, 516, 559, 560, 587, 517, 518, 519, 520, 412, 326, 413, 414, 397, 461, 507, 555, 585, 586, 462, 508, 556, 509, 510, 557, 511, 232, 396, 460, 505, 549, 579, 550, 551, 552, 580, 553, 581, 582, 506, 554, 423, 475, 523, 476, 583, 595, 600, 601, 584, 596, 597, 143, 175, 151, 217, 304, 305, 306, 307, 308, 309, 310, 186, 233, 327, 417, 328, 418, 472, 235, 333, 422, 187, 236, 334, 424, 477, 425, 426, 427, 480, 311, 312, 313, 62, 63, 64, 78, 112, 113, 79, 36, 80, 114, 115, 145, 116, 147, 184, 227, 148, 149, 117, 118, 150, 152, 195, 244, 247, 81, 82, 83, 119, 153, 196, 248, 197, 198, 249, 343, 250, 251, 344, 252, 253, 84, 120, 121, 155, 65, 85, 46, 66, 87, 88, 122, 89, 90, 125, 126, 156, 91, 92, 93, 94, 47, 48, 49] := Go.Facts.closure_of Go.Proofs.YtgilfdgcimcohaaGreatDoor.Facts.has (by kernel_rfl)
theorem k1 : Rows.worldAreaMatchesSpecRow.wf (OpenSpec.ofChange Rows.worldAreaMatchesSpecSpec) = true := by kernel_rfl
theorem k10 : Tryz.prog.inPlace 5 = Rows.worldAreaMatchesSpecRow.inPlace := (Go.Facts.inPlace_of Go.Proofs.YtgilfdgcimcohaaGreatDoor.Facts.has own_closure).trans (by kernel_rfl)
theorem k11 : Tryz.prog.unfollowed 5 = Rows.worldAreaMatchesSpecRow.unfollowed := (Go.Facts.unfollowed_of Go.Proofs.YtgilfdgcimcohaaGreatDoor.Facts.has own_closure).trans (by kernel_rfl)
theorem k12 : Tryz.prog.recurses 5 = Rows.worldAreaMatchesSpecRow.recurses := Go.Facts.recurses_of Go.Proofs.YtgilfdgcimcohaaGreatDoor.Facts.has own_closure (by kernel_rfl)
theorem k13 : Tryz.prog.varsNamed 5 = Rows.worldAreaMatchesSpecRow.named := (Go.Facts.varsNamed_of Go.Proofs.YtgilfdgcimcohaaGreatDoor.Facts.has own_closure).trans (by kernel_rfl)
theorem k24b : Rows.worldAreaMatchesSpecRow.lifted = Tryz.prog.liftsFinal := by kernel_rfl
theorem k24c : Tryz.prog.make = some Rows.worldAreaMatchesSpecRow.make := by kernel_rfl
theorem joined : joinedFacts Tryz.prog 5 Tryz.f5 (OpenSpec.ofChange Rows.worldAreaMatchesSpecSpec).bare Rows.worldAreaMatchesSpecRow = true := by
  unfold joinedFacts
  rw [laidOut, Closed.mapsRowed, stops, stopKnobs, k10, k11, k12, k13, plainKeys, stopsHeard, mayEnter, ← k24b, k24c]
  kernel_rfl
theorem over : Rows.worldAreaMatchesSpecRow.holds Tryz.pinned (OpenSpec.ofChange Rows.worldAreaMatchesSpecSpec) :=
  OpenClaim.holds_of_cond 5 Tryz.f5 rfl rfl rfl rfl rfl rfl rfl ⟨rfl, rfl, rfl, rfl, rfl⟩ rfl rfl rfl rfl rfl (by kernel_rfl) Tryz.func5 joined
    (of_decide_eq_true (by kernel_rfl)) (by unfold Func.isWrapper; first | (rw [if_pos (by decide +kernel)]; kernel_rfl) | (rw [if_neg (by decide +kernel)]; exact ⟨rfl, rfl⟩))
    (fun os started H enc _ F => by rw [OpenClaim.pre_eq_preRow]; exact lifted os started H enc F)
theorem proved : Rows.WorldAreaMatchesSpecSaid := over
theorem fits : Tryz.pinned.checked.prog.listedFits Rows.worldAreaMatchesSpecRow.laid = true := by
  unfold Program.listedFits
  rw [Tied.noOwnUnsafe]
  kernel_rfl
theorem row_tie : Rows.worldAreaMatchesSpecRow.laidByTextAt .later Tryz.pinned [.data, .pinned, .data, .data, .data, .pinned, .data, .data, .sentinel, .sentinel] true :=
  OpenClaim.laidByTextAt_pinned rfl rfl Tied.tie rfl rfl rfl rfl (fun y hy _e => by
    simp only [Rows.worldAreaMatchesSpecRow, List.zip_cons_cons, List.zip_nil_right, List.mem_cons, List.mem_nil_iff, or_false] at hy
    rcases hy with rfl | rfl | rfl | rfl | rfl | rfl | rfl | rfl | rfl | rfl
    · cases _e
    · exact ⟨Tied.pin_first, by kernel_rfl⟩
    · cases _e
    · cases _e
    · cases _e
    · exact ⟨Tied.pin_case, by kernel_rfl⟩
    · cases _e
    · cases _e
    · cases _e
    · cases _e) fits
theorem wfText : Rows.worldAreaMatchesSpecRow.wfByText (OpenSpec.ofChange Rows.worldAreaMatchesSpecSpec) = true := by kernel_rfl
theorem main_is : Tryz.pinned.checked.prog.mainIs = some (true, "01b95afd9ec3d68d6b75b967a7a070d573566656a4c4194680ab5c70beec7d27".toList) := by kernel_rfl
theorem looks_on : true = Tryz.pinned.checked.prog.looks [] := by kernel_rfl
theorem no_standIns : (([33, 3, 3, 3] : List Nat).all fun t => Tryz.pinned.checked.prog.wantsStandIn t == false) = true := by kernel_rfl
theorem plain (f : FuncId) (fn : Func) (hf : Tryz.pinned.checked.prog.funcNamed Rows.worldAreaMatchesSpecRow.func = some f) (hfn : Tryz.pinned.checked.prog.funcs[f]? = some fn) :
    true = Tryz.pinned.checked.prog.looks [] ∧ ∀ (j : Nat) t, fn.params[j]? = some t → Tryz.pinned.checked.prog.wantsStandIn t = false := by
  obtain rfl : f = 5 := Option.some.inj ((show Tryz.prog.funcNamed Rows.worldAreaMatchesSpecRow.func = some 5 by kernel_rfl).symm.trans hf) |>.symm
  obtain rfl : fn = Tryz.f5 := (Option.some.inj (Tryz.func5.symm.trans hfn)).symm
  refine ⟨looks_on, fun j t ht => ?_⟩
  rw [Tryz.params5] at ht
  have hm := List.all_eq_true.1 no_standIns t (Array.mem_toList_iff.2 (Array.mem_of_getElem? ht))
  exact eq_of_beq hm
/-- The card. -/
theorem card : Rows.WorldAreaMatchesSpecCardSaid :=
  Claim7.holds_tied_plain_at .later [] _ _ _ _ over (fun _ h => by cases h) wfText (fun _ h => by cases h) row_tie rfl ⟨rfl, rfl⟩ main_is rfl plain (Go.Facts.goesBy_of noGo rfl)
end Go.Proofs.YtgilfdgcimcohaaGreatDoor.worldAreaMatchesSpec
namespace Go.Proofs.YtgilfdgcimcohaaGreatDoor
theorem worldAreaMatchesSpec_holds : Rows.WorldAreaMatchesSpecCardSaid := worldAreaMatchesSpec.card
end Go.Proofs.YtgilfdgcimcohaaGreatDoor
