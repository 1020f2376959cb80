/- The proof that the law's row holds, part 5: the kit's words, the printed walks and the plain law. No conditions beyond the card's own. -/
import Derived.Test.YtipjmlcbbimfpaaGreatDoorM0
import Derived.Test.YtipjmlcbbimfpaaGreatDoorM1
import Derived.Test.YtipjmlcbbimfpaaGreatDoorM2
import Derived.Test.YtipjmlcbbimfpaaGreatDoorM3
import Derived.Test.YtipjmlcbbimfpaaGreatDoorM4
namespace Go.Proofs.YtipjmlcbbimfpaaGreatDoor.F
open Go.Proofs.YtipjmlcbbimfpaaGreatDoor
open Go.RowKit Go.Proofs.YtipjmlcbbimfpaaGreatDoorW.PrintWords Go.Proofs.YtipjmlcbbimfpaaGreatDoorW.PrintLast Go.Proofs.YtipjmlcbbimfpaaGreatDoorW.PrintMore
attribute [local go_sem] max2_int min2_int max_two min_two max_three min_three max_four min_four   -- for this text's walks alone
set_option linter.unusedVariables false
set_option linter.unusedSimpArgs false
mutual
def laws_FnTraysTurned.j0 : Nat → List Int → ByteArray → ByteArray → Bool → Int → ByteArray → ByteArray → ByteArray → Bool → Option (Bool)
 | 0, _, _, _, _, _, _, _, _, _ => none
 | k + 1, x1, x5, x6, x7, x10, x14, x18, x22, x195 => if x195 = true then (some false) else (if x7 = true then ((impl_SizeOf.f k x5).bind fun bt126 => ((impl_SizeOf.f k x14).bind fun bt129 => (if bt126.2.2 = true then (if bt129.2.2 = true then (if bt129.1 = bt126.2.1 then (if bt129.2.1 = bt126.1 then ((laws_yMoved.f k x18 4).bind fun t132 => (if t132.toList = x5.toList then ((laws_yMoved.f k x14 3).bind fun t133 => (if t133.toList = x5.toList then ((laws_yMoved.f k x14 4).bind fun t134 => (laws_FnTraysTurned.j1 k x1 x5 x6 x10 x14 (x22.toList != t134.toList))) else (laws_FnTraysTurned.j1 k x1 x5 x6 x10 x14 true))) else (laws_FnTraysTurned.j1 k x1 x5 x6 x10 x14 true))) else (laws_FnTraysTurned.j1 k x1 x5 x6 x10 x14 true)) else (laws_FnTraysTurned.j1 k x1 x5 x6 x10 x14 true)) else (laws_FnTraysTurned.j1 k x1 x5 x6 x10 x14 true)) else (laws_FnTraysTurned.j1 k x1 x5 x6 x10 x14 true)))) else (laws_FnTraysTurned.j6 k x1))
def laws_FnTraysTurned.j6 : Nat → List Int → Option (Bool)
 | 0, _ => none
 | k + 1, x1 => (spec_DrawCountCells.f k x1).bind fun bt146 => ((impl_CountCells.f k bt146.1 bt146.2).bind fun bt148 => ((spec_CountCells.f k bt146.1 bt146.2).bind fun bt150 => ((spec_DrawPlaceOf.f k x1).bind fun bt152 => ((impl_PlaceOf.f k bt152.1 bt152.2).bind fun bt154 => ((spec_PlaceOf.f k bt152.1 bt152.2).bind fun bt157 => (if (bt148.2 != bt150.2) = true then (laws_FnTraysTurned.j7 k bt152.1 bt152.2 bt154.1 bt154.2.1 bt154.2.2 true) else (if bt148.1 = bt150.1 then (if (bt154.2.2 != bt157.2.2) = true then (laws_FnTraysTurned.j7 k bt152.1 bt152.2 bt154.1 bt154.2.1 bt154.2.2 true) else (if bt154.1 = bt157.1 then (laws_FnTraysTurned.j7 k bt152.1 bt152.2 bt154.1 bt154.2.1 bt154.2.2 (bt154.2.1 != bt157.2.1)) else (laws_FnTraysTurned.j7 k bt152.1 bt152.2 bt154.1 bt154.2.1 bt154.2.2 true))) else (laws_FnTraysTurned.j7 k bt152.1 bt152.2 bt154.1 bt154.2.1 bt154.2.2 true))))))))
def laws_FnTraysTurned.j7 : Nat → ByteArray → ByteArray → Int → Int → Bool → Bool → Option (Bool)
 | 0, _, _, _, _, _, _ => none
 | k + 1, x50, x51, x52, x53, x54, x378 => if x378 = true then (some false) else (if x54 = true then ((impl_CellAt.f k x50 x52 x53).bind fun bt160 => (if bt160.2 = true then (some (bt160.1.toList == x51.toList)) else (some false))) else (some true))
def laws_FnTraysTurned.j1 : Nat → List Int → ByteArray → ByteArray → Int → ByteArray → Bool → Option (Bool)
 | 0, _, _, _, _, _, _ => none
 | k + 1, x1, x5, x6, x10, x14, x242 => if x242 = true then (some false) else (laws_FnTraysTurned.l0 k x1 x5 x6 x10 x14 0 false 0)
def laws_FnTraysTurned.l0 : Nat → List Int → ByteArray → ByteArray → Int → ByteArray → Int → Bool → Int → Option (Bool)
 | 0, _, _, _, _, _, _, _, _ => none
 | k + 1, x1, x5, x6, x10, x14, x32, x33, x34 => if x34 < 8 then ((laws_yMoved.f k x5 x34).bind fun t135 => ((impl_LeastTray.f k t135).bind fun bt136 => (if bt136.2 = true then (if bt136.1.toList = x6.toList then (laws_FnTraysTurned.j3 k x1 x5 x6 x10 x14 x32 x33 x34 t135 (Op.bytesLess t135.toList x6.toList)) else (laws_FnTraysTurned.j3 k x1 x5 x6 x10 x14 x32 x33 x34 t135 true)) else (laws_FnTraysTurned.j3 k x1 x5 x6 x10 x14 x32 x33 x34 t135 true)))) else (if x33 = true then (if x32 = x10 then (if x10 = 0 then (none) else (laws_FnTraysTurned.j4 k x1 x5 x14 (((8 : Int) % x10) != 0))) else (laws_FnTraysTurned.j4 k x1 x5 x14 true)) else (laws_FnTraysTurned.j4 k x1 x5 x14 true))
def laws_FnTraysTurned.j3 : Nat → List Int → ByteArray → ByteArray → Int → ByteArray → Int → Bool → Int → ByteArray → Bool → Option (Bool)
 | 0, _, _, _, _, _, _, _, _, _, _ => none
 | k + 1, x1, x5, x6, x10, x14, x32, x33, x34, x35, x266 => if x266 = true then (some false) else (if x33 = true then (if x35.toList = x5.toList then (laws_FnTraysTurned.l0 k x1 x5 x6 x10 x14 (wrap64 (x32 + 1)) true (wrap64 (x34 + 1))) else (laws_FnTraysTurned.l0 k x1 x5 x6 x10 x14 x32 true (wrap64 (x34 + 1)))) else (if x35.toList = x5.toList then (laws_FnTraysTurned.l0 k x1 x5 x6 x10 x14 (wrap64 (x32 + 1)) (x35.toList == x6.toList) (wrap64 (x34 + 1))) else (laws_FnTraysTurned.l0 k x1 x5 x6 x10 x14 x32 (x35.toList == x6.toList) (wrap64 (x34 + 1)))))
def laws_FnTraysTurned.j4 : Nat → List Int → ByteArray → ByteArray → Bool → Option (Bool)
 | 0, _, _, _, _ => none
 | k + 1, x1, x5, x14, x289 => if x289 = true then (some false) else ((some (([(⟨#[35]⟩ : ByteArray), (⟨#[46]⟩ : ByteArray), (⟨#[111]⟩ : ByteArray), (⟨#[97]⟩ : ByteArray)] : List ByteArray) : List ByteArray)).bind fun y138 => (laws_FnTraysTurned.l1 k x1 x5 x14 y138 (y138.length : Int) 0))
def laws_FnTraysTurned.l1 : Nat → List Int → ByteArray → ByteArray → List ByteArray → Int → Int → Option (Bool)
 | 0, _, _, _, _, _, _ => none
 | k + 1, x1, x5, x14, x290, x291, x292 => if x292 < x291 then (if 0 ≤ x292 then (if x292 < (x290.length : Int) then ((impl_CountCells.f k x5 (rdOf ByteArray.empty x290 x292)).bind fun bt142 => ((impl_CountCells.f k x14 (rdOf ByteArray.empty x290 x292)).bind fun bt144 => (if bt142.2 = true then (if bt144.2 = true then (if bt142.1 = bt144.1 then (laws_FnTraysTurned.l1 k x1 x5 x14 x290 x291 (wrap64 (x292 + 1))) else (some false)) else (some false)) else (some false)))) else (none)) else (none)) else (laws_FnTraysTurned.j6 k x1)
end
def laws_FnTraysTurned.f (k : Nat) (l0 : List Int) (l1 : List Int) : Option (Bool) := (laws_big.f l0 l1).bind fun t101 => (if t101 = true then (some true) else ((spec_DrawLeastTray.f k l0).bind fun t102 => ((impl_LeastTray.f k t102).bind fun bt103 => ((spec_LeastTray.f k t102).bind fun bt105 => ((impl_KeepersOf.f k t102).bind fun bt107 => ((spec_KeepersOf.f k t102).bind fun bt109 => ((impl_TurnTray.f k t102).bind fun bt111 => ((spec_TurnTray.f k t102).bind fun bt113 => ((impl_MirrorTray.f k t102).bind fun bt115 => ((spec_MirrorTray.f k t102).bind fun bt117 => ((impl_TransposeTray.f k t102).bind fun bt119 => ((spec_TransposeTray.f k t102).bind fun bt121 => (if (bt103.2 != bt105.2) = true then (laws_FnTraysTurned.j0 k l1 t102 bt103.1 bt103.2 bt107.1 bt111.1 bt115.1 bt119.1 true) else (if bt103.1.toList = bt105.1.toList then (if (bt107.2 != bt109.2) = true then (laws_FnTraysTurned.j0 k l1 t102 bt103.1 bt103.2 bt107.1 bt111.1 bt115.1 bt119.1 true) else (if bt107.1 = bt109.1 then (if (bt111.2 != bt113.2) = true then (laws_FnTraysTurned.j0 k l1 t102 bt103.1 bt103.2 bt107.1 bt111.1 bt115.1 bt119.1 true) else (if bt111.1.toList = bt113.1.toList then (if (bt115.2 != bt117.2) = true then (laws_FnTraysTurned.j0 k l1 t102 bt103.1 bt103.2 bt107.1 bt111.1 bt115.1 bt119.1 true) else (if bt115.1.toList = bt117.1.toList then (if (bt119.2 != bt121.2) = true then (laws_FnTraysTurned.j0 k l1 t102 bt103.1 bt103.2 bt107.1 bt111.1 bt115.1 bt119.1 true) else (if bt119.1.toList = bt121.1.toList then ((impl_IsTray.f k t102).bind fun t123 => (if (bt103.2 != t123) = true then (laws_FnTraysTurned.j0 k l1 t102 bt103.1 bt103.2 bt107.1 bt111.1 bt115.1 bt119.1 true) else ((impl_IsTray.f k t102).bind fun t124 => ((spec_IsTray.f k t102).bind fun t125 => (if (t124 != t125) = true then (laws_FnTraysTurned.j0 k l1 t102 bt103.1 bt103.2 bt107.1 bt111.1 bt115.1 bt119.1 true) else (if (bt107.2 != bt103.2) = true then (laws_FnTraysTurned.j0 k l1 t102 bt103.1 bt103.2 bt107.1 bt111.1 bt115.1 bt119.1 true) else (if (bt111.2 != bt103.2) = true then (laws_FnTraysTurned.j0 k l1 t102 bt103.1 bt103.2 bt107.1 bt111.1 bt115.1 bt119.1 true) else (if (bt115.2 != bt103.2) = true then (laws_FnTraysTurned.j0 k l1 t102 bt103.1 bt103.2 bt107.1 bt111.1 bt115.1 bt119.1 true) else (laws_FnTraysTurned.j0 k l1 t102 bt103.1 bt103.2 bt107.1 bt111.1 bt115.1 bt119.1 (bt119.2 != bt103.2)))))))))) else (laws_FnTraysTurned.j0 k l1 t102 bt103.1 bt103.2 bt107.1 bt111.1 bt115.1 bt119.1 true))) else (laws_FnTraysTurned.j0 k l1 t102 bt103.1 bt103.2 bt107.1 bt111.1 bt115.1 bt119.1 true))) else (laws_FnTraysTurned.j0 k l1 t102 bt103.1 bt103.2 bt107.1 bt111.1 bt115.1 bt119.1 true))) else (laws_FnTraysTurned.j0 k l1 t102 bt103.1 bt103.2 bt107.1 bt111.1 bt115.1 bt119.1 true))) else (laws_FnTraysTurned.j0 k l1 t102 bt103.1 bt103.2 bt107.1 bt111.1 bt115.1 bt119.1 true)))))))))))))))
theorem laws_FnTraysTurned.j0_no {k : Nat} {x1 x5 x6 x7 x10 x14 x18 x22 : _} {r : Bool} (h : laws_FnTraysTurned.j0 k x1 x5 x6 x7 x10 x14 x18 x22 true = some r) : r = false := by
 cases k with
 | zero => simp [laws_FnTraysTurned.j0] at h
 | succ k => rw [laws_FnTraysTurned.j0, if_pos rfl] at h; exact (Option.some.inj h).symm
theorem laws_FnTraysTurned.j7_no {k : Nat} {x50 x51 x52 x53 x54 : _} {r : Bool} (h : laws_FnTraysTurned.j7 k x50 x51 x52 x53 x54 true = some r) : r = false := by
 cases k with
 | zero => simp [laws_FnTraysTurned.j7] at h
 | succ k => rw [laws_FnTraysTurned.j7, if_pos rfl] at h; exact (Option.some.inj h).symm
theorem laws_FnTraysTurned.j1_no {k : Nat} {x1 x5 x6 x10 x14 : _} {r : Bool} (h : laws_FnTraysTurned.j1 k x1 x5 x6 x10 x14 true = some r) : r = false := by
 cases k with
 | zero => simp [laws_FnTraysTurned.j1] at h
 | succ k => rw [laws_FnTraysTurned.j1, if_pos rfl] at h; exact (Option.some.inj h).symm
theorem laws_FnTraysTurned.j3_no {k : Nat} {x1 x5 x6 x10 x14 x32 x33 x34 x35 : _} {r : Bool} (h : laws_FnTraysTurned.j3 k x1 x5 x6 x10 x14 x32 x33 x34 x35 true = some r) : r = false := by
 cases k with
 | zero => simp [laws_FnTraysTurned.j3] at h
 | succ k => rw [laws_FnTraysTurned.j3, if_pos rfl] at h; exact (Option.some.inj h).symm
theorem laws_FnTraysTurned.j4_no {k : Nat} {x1 x5 x14 : _} {r : Bool} (h : laws_FnTraysTurned.j4 k x1 x5 x14 true = some r) : r = false := by
 cases k with
 | zero => simp [laws_FnTraysTurned.j4] at h
 | succ k => rw [laws_FnTraysTurned.j4, if_pos rfl] at h; exact (Option.some.inj h).symm
set_option maxHeartbeats 64000000 in
set_option maxRecDepth 100000 in
theorem laws_FnTraysTurned.calls (k : Nat) (A0 : Option Addr) (c0 : Nat) (l0 : List Int) (A1 : Option Addr) (c1 : Nat) (l1 : List Int) (r : Bool) (w : World) (hr0 : Kd.C (Kd.int .u8) w A0 l0.length l0) (hc0 : l0.length ≤ c0) (hr1 : Kd.C (Kd.int .u8) w A1 l1.length l1) (hc1 : l1.length ≤ c1) (h : laws_FnTraysTurned.f k l0 l1 = some r) (hr_ : r = true) :
  Calls Tryz.prog 3 #[.slice A0 l0.length c0, .slice A1 l1.length c1] w fun e w' => e = .returned (.bool r) ∧ Below w.heap.size w w' := by
 have HR_ := Aside0.mk hr_
 clear hr_
 have HR0 := Aside0.mk hr0
 have HC0 := Aside0.mk hc0
 clear hr0 hc0
 have HR1 := Aside0.mk hr1
 have HC1 := Aside0.mk hc1
 clear hr1 hc1
 have HB := Aside0.mk (Below.refl w.heap.size w)
 have H : ((laws_big.f l0 l1).bind fun t101 => (if t101 = true then (some true) else ((spec_DrawLeastTray.f k l0).bind fun t102 => ((impl_LeastTray.f k t102).bind fun bt103 => ((spec_LeastTray.f k t102).bind fun bt105 => ((impl_KeepersOf.f k t102).bind fun bt107 => ((spec_KeepersOf.f k t102).bind fun bt109 => ((impl_TurnTray.f k t102).bind fun bt111 => ((spec_TurnTray.f k t102).bind fun bt113 => ((impl_MirrorTray.f k t102).bind fun bt115 => ((spec_MirrorTray.f k t102).bind fun bt117 => ((impl_TransposeTray.f k t102).bind fun bt119 => ((spec_TransposeTray.f k t102).bind fun bt121 => (if (bt103.2 != bt105.2) = true then (laws_FnTraysTurned.j0 k l1 t102 bt103.1 bt103.2 bt107.1 bt111.1 bt115.1 bt119.1 true) else (if bt103.1.toList = bt105.1.toList then (if (bt107.2 != bt109.2) = true then (laws_FnTraysTurned.j0 k l1 t102 bt103.1 bt103.2 bt107.1 bt111.1 bt115.1 bt119.1 true) else (if bt107.1 = bt109.1 then (if (bt111.2 != bt113.2) = true then (laws_FnTraysTurned.j0 k l1 t102 bt103.1 bt103.2 bt107.1 bt111.1 bt115.1 bt119.1 true) else (if bt111.1.toList = bt113.1.toList then (if (bt115.2 != bt117.2) = true then (laws_FnTraysTurned.j0 k l1 t102 bt103.1 bt103.2 bt107.1 bt111.1 bt115.1 bt119.1 true) else (if bt115.1.toList = bt117.1.toList then (if (bt119.2 != bt121.2) = true then (laws_FnTraysTurned.j0 k l1 t102 bt103.1 bt103.2 bt107.1 bt111.1 bt115.1 bt119.1 true) else (if bt119.1.toList = bt121.1.toList then ((impl_IsTray.f k t102).bind fun t123 => (if (bt103.2 != t123) = true then (laws_FnTraysTurned.j0 k l1 t102 bt103.1 bt103.2 bt107.1 bt111.1 bt115.1 bt119.1 true) else ((impl_IsTray.f k t102).bind fun t124 => ((spec_IsTray.f k t102).bind fun t125 => (if (t124 != t125) = true then (laws_FnTraysTurned.j0 k l1 t102 bt103.1 bt103.2 bt107.1 bt111.1 bt115.1 bt119.1 true) else (if (bt107.2 != bt103.2) = true then (laws_FnTraysTurned.j0 k l1 t102 bt103.1 bt103.2 bt107.1 bt111.1 bt115.1 bt119.1 true) else (if (bt111.2 != bt103.2) = true then (laws_FnTraysTurned.j0 k l1 t102 bt103.1 bt103.2 bt107.1 bt111.1 bt115.1 bt119.1 true) else (if (bt115.2 != bt103.2) = true then (laws_FnTraysTurned.j0 k l1 t102 bt103.1 bt103.2 bt107.1 bt111.1 bt115.1 bt119.1 true) else (laws_FnTraysTurned.j0 k l1 t102 bt103.1 bt103.2 bt107.1 bt111.1 bt115.1 bt119.1 (bt119.2 != bt103.2)))))))))) else (laws_FnTraysTurned.j0 k l1 t102 bt103.1 bt103.2 bt107.1 bt111.1 bt115.1 bt119.1 true))) else (laws_FnTraysTurned.j0 k l1 t102 bt103.1 bt103.2 bt107.1 bt111.1 bt115.1 bt119.1 true))) else (laws_FnTraysTurned.j0 k l1 t102 bt103.1 bt103.2 bt107.1 bt111.1 bt115.1 bt119.1 true))) else (laws_FnTraysTurned.j0 k l1 t102 bt103.1 bt103.2 bt107.1 bt111.1 bt115.1 bt119.1 true))) else (laws_FnTraysTurned.j0 k l1 t102 bt103.1 bt103.2 bt107.1 bt111.1 bt115.1 bt119.1 true)))))))))))))))) = some r := h
 clear h
 replace H := Option.bind_eq_some_iff.mp H
 obtain ⟨t101, A30, H⟩ := H
 replace H : (if t101 = true then (some true) else ((spec_DrawLeastTray.f k l0).bind fun t102 => ((impl_LeastTray.f k t102).bind fun bt103 => ((spec_LeastTray.f k t102).bind fun bt105 => ((impl_KeepersOf.f k t102).bind fun bt107 => ((spec_KeepersOf.f k t102).bind fun bt109 => ((impl_TurnTray.f k t102).bind fun bt111 => ((spec_TurnTray.f k t102).bind fun bt113 => ((impl_MirrorTray.f k t102).bind fun bt115 => ((spec_MirrorTray.f k t102).bind fun bt117 => ((impl_TransposeTray.f k t102).bind fun bt119 => ((spec_TransposeTray.f k t102).bind fun bt121 => (if (bt103.2 != bt105.2) = true then (laws_FnTraysTurned.j0 k l1 t102 bt103.1 bt103.2 bt107.1 bt111.1 bt115.1 bt119.1 true) else (if bt103.1.toList = bt105.1.toList then (if (bt107.2 != bt109.2) = true then (laws_FnTraysTurned.j0 k l1 t102 bt103.1 bt103.2 bt107.1 bt111.1 bt115.1 bt119.1 true) else (if bt107.1 = bt109.1 then (if (bt111.2 != bt113.2) = true then (laws_FnTraysTurned.j0 k l1 t102 bt103.1 bt103.2 bt107.1 bt111.1 bt115.1 bt119.1 true) else (if bt111.1.toList = bt113.1.toList then (if (bt115.2 != bt117.2) = true then (laws_FnTraysTurned.j0 k l1 t102 bt103.1 bt103.2 bt107.1 bt111.1 bt115.1 bt119.1 true) else (if bt115.1.toList = bt117.1.toList then (if (bt119.2 != bt121.2) = true then (laws_FnTraysTurned.j0 k l1 t102 bt103.1 bt103.2 bt107.1 bt111.1 bt115.1 bt119.1 true) else (if bt119.1.toList = bt121.1.toList then ((impl_IsTray.f k t102).bind fun t123 => (if (bt103.2 != t123) = true then (laws_FnTraysTurned.j0 k l1 t102 bt103.1 bt103.2 bt107.1 bt111.1 bt115.1 bt119.1 true) else ((impl_IsTray.f k t102).bind fun t124 => ((spec_IsTray.f k t102).bind fun t125 => (if (t124 != t125) = true then (laws_FnTraysTurned.j0 k l1 t102 bt103.1 bt103.2 bt107.1 bt111.1 bt115.1 bt119.1 true) else (if (bt107.2 != bt103.2) = true then (laws_FnTraysTurned.j0 k l1 t102 bt103.1 bt103.2 bt107.1 bt111.1 bt115.1 bt119.1 true) else (if (bt111.2 != bt103.2) = true then (laws_FnTraysTurned.j0 k l1 t102 bt103.1 bt103.2 bt107.1 bt111.1 bt115.1 bt119.1 true) else (if (bt115.2 != bt103.2) = true then (laws_FnTraysTurned.j0 k l1 t102 bt103.1 bt103.2 bt107.1 bt111.1 bt115.1 bt119.1 true) else (laws_FnTraysTurned.j0 k l1 t102 bt103.1 bt103.2 bt107.1 bt111.1 bt115.1 bt119.1 (bt119.2 != bt103.2)))))))))) else (laws_FnTraysTurned.j0 k l1 t102 bt103.1 bt103.2 bt107.1 bt111.1 bt115.1 bt119.1 true))) else (laws_FnTraysTurned.j0 k l1 t102 bt103.1 bt103.2 bt107.1 bt111.1 bt115.1 bt119.1 true))) else (laws_FnTraysTurned.j0 k l1 t102 bt103.1 bt103.2 bt107.1 bt111.1 bt115.1 bt119.1 true))) else (laws_FnTraysTurned.j0 k l1 t102 bt103.1 bt103.2 bt107.1 bt111.1 bt115.1 bt119.1 true))) else (laws_FnTraysTurned.j0 k l1 t102 bt103.1 bt103.2 bt107.1 bt111.1 bt115.1 bt119.1 true))))))))))))))) = some r := H
 have A3 := Aside0.mk A30
 clear A30
 by_cases c4 : t101 = true
 ·subst c4
  have H1 : (some true) = some r := by rw [if_pos rfl] at H; exact H
  clear H
  have H := H1
  clear H1
  obtain rfl := Option.some.inj H
  go_enter Tryz.func3, Tryz.ntmps3
  go_wp2_with (first | ((with_reducible refine gate_callee (f := 6) rfl ?_); refine goesL_ (some 62) rfl rfl Tryz.func6 (by kernel_rfl) rfl #[.slice A0 l0.length c0, .slice A1 l1.length c1] rfl aq1 ?_; (with_reducible refine (laws_big.calls _ _ l0 _ _ l1 true _ ?side1 ?side2 ?side3 ?side4 A3.out).mono ?_); (case side1 => exact aq64); (case side2 => exact HC0.out); (case side3 => exact aq102); (case side4 => exact HC1.out); rintro e w' ⟨rfl, ⟨nd, rfl⟩⟩; refine ⟨_, rfl, ?_⟩))
  go_ret
  exact ⟨aq8, aq0⟩
 ·replace c4 := Bool.eq_false_iff.mpr c4
  subst c4
  have H1 : ((spec_DrawLeastTray.f k l0).bind fun t102 => ((impl_LeastTray.f k t102).bind fun bt103 => ((spec_LeastTray.f k t102).bind fun bt105 => ((impl_KeepersOf.f k t102).bind fun bt107 => ((spec_KeepersOf.f k t102).bind fun bt109 => ((impl_TurnTray.f k t102).bind fun bt111 => ((spec_TurnTray.f k t102).bind fun bt113 => ((impl_MirrorTray.f k t102).bind fun bt115 => ((spec_MirrorTray.f k t102).bind fun bt117 => ((impl_TransposeTray.f k t102).bind fun bt119 => ((spec_TransposeTray.f k t102).bind fun bt121 => (if (bt103.2 != bt105.2) = true then (laws_FnTraysTurned.j0 k l1 t102 bt103.1 bt103.2 bt107.1 bt111.1 bt115.1 bt119.1 true) else (if bt103.1.toList = bt105.1.toList then (if (bt107.2 != bt109.2) = true then (laws_FnTraysTurned.j0 k l1 t102 bt103.1 bt103.2 bt107.1 bt111.1 bt115.1 bt119.1 true) else (if bt107.1 = bt109.1 then (if (bt111.2 != bt113.2) = true then (laws_FnTraysTurned.j0 k l1 t102 bt103.1 bt103.2 bt107.1 bt111.1 bt115.1 bt119.1 true) else (if bt111.1.toList = bt113.1.toList then (if (bt115.2 != bt117.2) = true then (laws_FnTraysTurned.j0 k l1 t102 bt103.1 bt103.2 bt107.1 bt111.1 bt115.1 bt119.1 true) else (if bt115.1.toList = bt117.1.toList then (if (bt119.2 != bt121.2) = true then (laws_FnTraysTurned.j0 k l1 t102 bt103.1 bt103.2 bt107.1 bt111.1 bt115.1 bt119.1 true) else (if bt119.1.toList = bt121.1.toList then ((impl_IsTray.f k t102).bind fun t123 => (if (bt103.2 != t123) = true then (laws_FnTraysTurned.j0 k l1 t102 bt103.1 bt103.2 bt107.1 bt111.1 bt115.1 bt119.1 true) else ((impl_IsTray.f k t102).bind fun t124 => ((spec_IsTray.f k t102).bind fun t125 => (if (t124 != t125) = true then (laws_FnTraysTurned.j0 k l1 t102 bt103.1 bt103.2 bt107.1 bt111.1 bt115.1 bt119.1 true) else (if (bt107.2 != bt103.2) = true then (laws_FnTraysTurned.j0 k l1 t102 bt103.1 bt103.2 bt107.1 bt111.1 bt115.1 bt119.1 true) else (if (bt111.2 != bt103.2) = true then (laws_FnTraysTurned.j0 k l1 t102 bt103.1 bt103.2 bt107.1 bt111.1 bt115.1 bt119.1 true) else (if (bt115.2 != bt103.2) = true then (laws_FnTraysTurned.j0 k l1 t102 bt103.1 bt103.2 bt107.1 bt111.1 bt115.1 bt119.1 true) else (laws_FnTraysTurned.j0 k l1 t102 bt103.1 bt103.2 bt107.1 bt111.1 bt115.1 bt119.1 (bt119.2 != bt103.2)))))))))) else (laws_FnTraysTurned.j0 k l1 t102 bt103.1 bt103.2 bt107.1 bt111.1 bt115.1 bt119.1 true))) else (laws_FnTraysTurned.j0 k l1 t102 bt103.1 bt103.2 bt107.1 bt111.1 bt115.1 bt119.1 true))) else (laws_FnTraysTurned.j0 k l1 t102 bt103.1 bt103.2 bt107.1 bt111.1 bt115.1 bt119.1 true))) else (laws_FnTraysTurned.j0 k l1 t102 bt103.1 bt103.2 bt107.1 bt111.1 bt115.1 bt119.1 true))) else (laws_FnTraysTurned.j0 k l1 t102 bt103.1 bt103.2 bt107.1 bt111.1 bt115.1 bt119.1 true)))))))))))))) = some r := by rw [if_neg (show ¬ (false = true) by decide)] at H; exact H
  clear H
  have H := H1
  clear H1
  replace H := Option.bind_eq_some_iff.mp H
  obtain ⟨t102, A50, H⟩ := H
  replace H : ((impl_LeastTray.f k t102).bind fun bt103 => ((spec_LeastTray.f k t102).bind fun bt105 => ((impl_KeepersOf.f k t102).bind fun bt107 => ((spec_KeepersOf.f k t102).bind fun bt109 => ((impl_TurnTray.f k t102).bind fun bt111 => ((spec_TurnTray.f k t102).bind fun bt113 => ((impl_MirrorTray.f k t102).bind fun bt115 => ((spec_MirrorTray.f k t102).bind fun bt117 => ((impl_TransposeTray.f k t102).bind fun bt119 => ((spec_TransposeTray.f k t102).bind fun bt121 => (if (bt103.2 != bt105.2) = true then (laws_FnTraysTurned.j0 k l1 t102 bt103.1 bt103.2 bt107.1 bt111.1 bt115.1 bt119.1 true) else (if bt103.1.toList = bt105.1.toList then (if (bt107.2 != bt109.2) = true then (laws_FnTraysTurned.j0 k l1 t102 bt103.1 bt103.2 bt107.1 bt111.1 bt115.1 bt119.1 true) else (if bt107.1 = bt109.1 then (if (bt111.2 != bt113.2) = true then (laws_FnTraysTurned.j0 k l1 t102 bt103.1 bt103.2 bt107.1 bt111.1 bt115.1 bt119.1 true) else (if bt111.1.toList = bt113.1.toList then (if (bt115.2 != bt117.2) = true then (laws_FnTraysTurned.j0 k l1 t102 bt103.1 bt103.2 bt107.1 bt111.1 bt115.1 bt119.1 true) else (if bt115.1.toList = bt117.1.toList then (if (bt119.2 != bt121.2) = true then (laws_FnTraysTurned.j0 k l1 t102 bt103.1 bt103.2 bt107.1 bt111.1 bt115.1 bt119.1 true) else (if bt119.1.toList = bt121.1.toList then ((impl_IsTray.f k t102).bind fun t123 => (if (bt103.2 != t123) = true then (laws_FnTraysTurned.j0 k l1 t102 bt103.1 bt103.2 bt107.1 bt111.1 bt115.1 bt119.1 true) else ((impl_IsTray.f k t102).bind fun t124 => ((spec_IsTray.f k t102).bind fun t125 => (if (t124 != t125) = true then (laws_FnTraysTurned.j0 k l1 t102 bt103.1 bt103.2 bt107.1 bt111.1 bt115.1 bt119.1 true) else (if (bt107.2 != bt103.2) = true then (laws_FnTraysTurned.j0 k l1 t102 bt103.1 bt103.2 bt107.1 bt111.1 bt115.1 bt119.1 true) else (if (bt111.2 != bt103.2) = true then (laws_FnTraysTurned.j0 k l1 t102 bt103.1 bt103.2 bt107.1 bt111.1 bt115.1 bt119.1 true) else (if (bt115.2 != bt103.2) = true then (laws_FnTraysTurned.j0 k l1 t102 bt103.1 bt103.2 bt107.1 bt111.1 bt115.1 bt119.1 true) else (laws_FnTraysTurned.j0 k l1 t102 bt103.1 bt103.2 bt107.1 bt111.1 bt115.1 bt119.1 (bt119.2 != bt103.2)))))))))) else (laws_FnTraysTurned.j0 k l1 t102 bt103.1 bt103.2 bt107.1 bt111.1 bt115.1 bt119.1 true))) else (laws_FnTraysTurned.j0 k l1 t102 bt103.1 bt103.2 bt107.1 bt111.1 bt115.1 bt119.1 true))) else (laws_FnTraysTurned.j0 k l1 t102 bt103.1 bt103.2 bt107.1 bt111.1 bt115.1 bt119.1 true))) else (laws_FnTraysTurned.j0 k l1 t102 bt103.1 bt103.2 bt107.1 bt111.1 bt115.1 bt119.1 true))) else (laws_FnTraysTurned.j0 k l1 t102 bt103.1 bt103.2 bt107.1 bt111.1 bt115.1 bt119.1 true))))))))))))) = some r := H
  have A5 := Aside0.mk A50
  clear A50
  replace H := Option.bind_eq_some_iff.mp H
  obtain ⟨⟨t103, t104⟩, A60, H⟩ := H
  replace H : ((spec_LeastTray.f k t102).bind fun bt105 => ((impl_KeepersOf.f k t102).bind fun bt107 => ((spec_KeepersOf.f k t102).bind fun bt109 => ((impl_TurnTray.f k t102).bind fun bt111 => ((spec_TurnTray.f k t102).bind fun bt113 => ((impl_MirrorTray.f k t102).bind fun bt115 => ((spec_MirrorTray.f k t102).bind fun bt117 => ((impl_TransposeTray.f k t102).bind fun bt119 => ((spec_TransposeTray.f k t102).bind fun bt121 => (if (t104 != bt105.2) = true then (laws_FnTraysTurned.j0 k l1 t102 t103 t104 bt107.1 bt111.1 bt115.1 bt119.1 true) else (if t103.toList = bt105.1.toList then (if (bt107.2 != bt109.2) = true then (laws_FnTraysTurned.j0 k l1 t102 t103 t104 bt107.1 bt111.1 bt115.1 bt119.1 true) else (if bt107.1 = bt109.1 then (if (bt111.2 != bt113.2) = true then (laws_FnTraysTurned.j0 k l1 t102 t103 t104 bt107.1 bt111.1 bt115.1 bt119.1 true) else (if bt111.1.toList = bt113.1.toList then (if (bt115.2 != bt117.2) = true then (laws_FnTraysTurned.j0 k l1 t102 t103 t104 bt107.1 bt111.1 bt115.1 bt119.1 true) else (if bt115.1.toList = bt117.1.toList then (if (bt119.2 != bt121.2) = true then (laws_FnTraysTurned.j0 k l1 t102 t103 t104 bt107.1 bt111.1 bt115.1 bt119.1 true) else (if bt119.1.toList = bt121.1.toList then ((impl_IsTray.f k t102).bind fun t123 => (if (t104 != t123) = true then (laws_FnTraysTurned.j0 k l1 t102 t103 t104 bt107.1 bt111.1 bt115.1 bt119.1 true) else ((impl_IsTray.f k t102).bind fun t124 => ((spec_IsTray.f k t102).bind fun t125 => (if (t124 != t125) = true then (laws_FnTraysTurned.j0 k l1 t102 t103 t104 bt107.1 bt111.1 bt115.1 bt119.1 true) else (if (bt107.2 != t104) = true then (laws_FnTraysTurned.j0 k l1 t102 t103 t104 bt107.1 bt111.1 bt115.1 bt119.1 true) else (if (bt111.2 != t104) = true then (laws_FnTraysTurned.j0 k l1 t102 t103 t104 bt107.1 bt111.1 bt115.1 bt119.1 true) else (if (bt115.2 != t104) = true then (laws_FnTraysTurned.j0 k l1 t102 t103 t104 bt107.1 bt111.1 bt115.1 bt119.1 true) else (laws_FnTraysTurned.j0 k l1 t102 t103 t104 bt107.1 bt111.1 bt115.1 bt119.1 (bt119.2 != t104)))))))))) else (laws_FnTraysTurned.j0 k l1 t102 t103 t104 bt107.1 bt111.1 bt115.1 bt119.1 true))) else (laws_FnTraysTurned.j0 k l1 t102 t103 t104 bt107.1 bt111.1 bt115.1 bt119.1 true))) else (laws_FnTraysTurned.j0 k l1 t102 t103 t104 bt107.1 bt111.1 bt115.1 bt119.1 true))) else (laws_FnTraysTurned.j0 k l1 t102 t103 t104 bt107.1 bt111.1 bt115.1 bt119.1 true))) else (laws_FnTraysTurned.j0 k l1 t102 t103 t104 bt107.1 bt111.1 bt115.1 bt119.1 true)))))))))))) = some r := H
  have A6 := Aside0.mk A60
  clear A60
  replace H := Option.bind_eq_some_iff.mp H
  obtain ⟨⟨t105, t106⟩, A70, H⟩ := H
  replace H : ((impl_KeepersOf.f k t102).bind fun bt107 => ((spec_KeepersOf.f k t102).bind fun bt109 => ((impl_TurnTray.f k t102).bind fun bt111 => ((spec_TurnTray.f k t102).bind fun bt113 => ((impl_MirrorTray.f k t102).bind fun bt115 => ((spec_MirrorTray.f k t102).bind fun bt117 => ((impl_TransposeTray.f k t102).bind fun bt119 => ((spec_TransposeTray.f k t102).bind fun bt121 => (if (t104 != t106) = true then (laws_FnTraysTurned.j0 k l1 t102 t103 t104 bt107.1 bt111.1 bt115.1 bt119.1 true) else (if t103.toList = t105.toList then (if (bt107.2 != bt109.2) = true then (laws_FnTraysTurned.j0 k l1 t102 t103 t104 bt107.1 bt111.1 bt115.1 bt119.1 true) else (if bt107.1 = bt109.1 then (if (bt111.2 != bt113.2) = true then (laws_FnTraysTurned.j0 k l1 t102 t103 t104 bt107.1 bt111.1 bt115.1 bt119.1 true) else (if bt111.1.toList = bt113.1.toList then (if (bt115.2 != bt117.2) = true then (laws_FnTraysTurned.j0 k l1 t102 t103 t104 bt107.1 bt111.1 bt115.1 bt119.1 true) else (if bt115.1.toList = bt117.1.toList then (if (bt119.2 != bt121.2) = true then (laws_FnTraysTurned.j0 k l1 t102 t103 t104 bt107.1 bt111.1 bt115.1 bt119.1 true) else (if bt119.1.toList = bt121.1.toList then ((impl_IsTray.f k t102).bind fun t123 => (if (t104 != t123) = true then (laws_FnTraysTurned.j0 k l1 t102 t103 t104 bt107.1 bt111.1 bt115.1 bt119.1 true) else ((impl_IsTray.f k t102).bind fun t124 => ((spec_IsTray.f k t102).bind fun t125 => (if (t124 != t125) = true then (laws_FnTraysTurned.j0 k l1 t102 t103 t104 bt107.1 bt111.1 bt115.1 bt119.1 true) else (if (bt107.2 != t104) = true then (laws_FnTraysTurned.j0 k l1 t102 t103 t104 bt107.1 bt111.1 bt115.1 bt119.1 true) else (if (bt111.2 != t104) = true then (laws_FnTraysTurned.j0 k l1 t102 t103 t104 bt107.1 bt111.1 bt115.1 bt119.1 true) else (if (bt115.2 != t104) = true then (laws_FnTraysTurned.j0 k l1 t102 t103 t104 bt107.1 bt111.1 bt115.1 bt119.1 true) else (laws_FnTraysTurned.j0 k l1 t102 t103 t104 bt107.1 bt111.1 bt115.1 bt119.1 (bt119.2 != t104)))))))))) else (laws_FnTraysTurned.j0 k l1 t102 t103 t104 bt107.1 bt111.1 bt115.1 bt119.1 true))) else (laws_FnTraysTurned.j0 k l1 t102 t103 t104 bt107.1 bt111.1 bt115.1 bt119.1 true))) else (laws_FnTraysTurned.j0 k l1 t102 t103 t104 bt107.1 bt111.1 bt115.1 bt119.1 true))) else (laws_FnTraysTurned.j0 k l1 t102 t103 t104 bt107.1 bt111.1 bt115.1 bt119.1 true))) else (laws_FnTraysTurned.j0 k l1 t102 t103 t104 bt107.1 bt111.1 bt115.1 bt119.1 true))))))))))) = some r := H
  have A7 := Aside0.mk A70
  clear A70
  replace H := Option.bind_eq_some_iff.mp H
  obtain ⟨⟨t107, t108⟩, A80, H⟩ := H
  replace H : ((spec_KeepersOf.f k t102).bind fun bt109 => ((impl_TurnTray.f k t102).bind fun bt111 => ((spec_TurnTray.f k t102).bind fun bt113 => ((impl_MirrorTray.f k t102).bind fun bt115 => ((spec_MirrorTray.f k t102).bind fun bt117 => ((impl_TransposeTray.f k t102).bind fun bt119 => ((spec_TransposeTray.f k t102).bind fun bt121 => (if (t104 != t106) = true then (laws_FnTraysTurned.j0 k l1 t102 t103 t104 t107 bt111.1 bt115.1 bt119.1 true) else (if t103.toList = t105.toList then (if (t108 != bt109.2) = true then (laws_FnTraysTurned.j0 k l1 t102 t103 t104 t107 bt111.1 bt115.1 bt119.1 true) else (if t107 = bt109.1 then (if (bt111.2 != bt113.2) = true then (laws_FnTraysTurned.j0 k l1 t102 t103 t104 t107 bt111.1 bt115.1 bt119.1 true) else (if bt111.1.toList = bt113.1.toList then (if (bt115.2 != bt117.2) = true then (laws_FnTraysTurned.j0 k l1 t102 t103 t104 t107 bt111.1 bt115.1 bt119.1 true) else (if bt115.1.toList = bt117.1.toList then (if (bt119.2 != bt121.2) = true then (laws_FnTraysTurned.j0 k l1 t102 t103 t104 t107 bt111.1 bt115.1 bt119.1 true) else (if bt119.1.toList = bt121.1.toList then ((impl_IsTray.f k t102).bind fun t123 => (if (t104 != t123) = true then (laws_FnTraysTurned.j0 k l1 t102 t103 t104 t107 bt111.1 bt115.1 bt119.1 true) else ((impl_IsTray.f k t102).bind fun t124 => ((spec_IsTray.f k t102).bind fun t125 => (if (t124 != t125) = true then (laws_FnTraysTurned.j0 k l1 t102 t103 t104 t107 bt111.1 bt115.1 bt119.1 true) else (if (t108 != t104) = true then (laws_FnTraysTurned.j0 k l1 t102 t103 t104 t107 bt111.1 bt115.1 bt119.1 true) else (if (bt111.2 != t104) = true then (laws_FnTraysTurned.j0 k l1 t102 t103 t104 t107 bt111.1 bt115.1 bt119.1 true) else (if (bt115.2 != t104) = true then (laws_FnTraysTurned.j0 k l1 t102 t103 t104 t107 bt111.1 bt115.1 bt119.1 true) else (laws_FnTraysTurned.j0 k l1 t102 t103 t104 t107 bt111.1 bt115.1 bt119.1 (bt119.2 != t104)))))))))) else (laws_FnTraysTurned.j0 k l1 t102 t103 t104 t107 bt111.1 bt115.1 bt119.1 true))) else (laws_FnTraysTurned.j0 k l1 t102 t103 t104 t107 bt111.1 bt115.1 bt119.1 true))) else (laws_FnTraysTurned.j0 k l1 t102 t103 t104 t107 bt111.1 bt115.1 bt119.1 true))) else (laws_FnTraysTurned.j0 k l1 t102 t103 t104 t107 bt111.1 bt115.1 bt119.1 true))) else (laws_FnTraysTurned.j0 k l1 t102 t103 t104 t107 bt111.1 bt115.1 bt119.1 true)))))))))) = some r := H
  have A8 := Aside0.mk A80
  clear A80
  replace H := Option.bind_eq_some_iff.mp H
  obtain ⟨⟨t109, t110⟩, A90, H⟩ := H
  replace H : ((impl_TurnTray.f k t102).bind fun bt111 => ((spec_TurnTray.f k t102).bind fun bt113 => ((impl_MirrorTray.f k t102).bind fun bt115 => ((spec_MirrorTray.f k t102).bind fun bt117 => ((impl_TransposeTray.f k t102).bind fun bt119 => ((spec_TransposeTray.f k t102).bind fun bt121 => (if (t104 != t106) = true then (laws_FnTraysTurned.j0 k l1 t102 t103 t104 t107 bt111.1 bt115.1 bt119.1 true) else (if t103.toList = t105.toList then (if (t108 != t110) = true then (laws_FnTraysTurned.j0 k l1 t102 t103 t104 t107 bt111.1 bt115.1 bt119.1 true) else (if t107 = t109 then (if (bt111.2 != bt113.2) = true then (laws_FnTraysTurned.j0 k l1 t102 t103 t104 t107 bt111.1 bt115.1 bt119.1 true) else (if bt111.1.toList = bt113.1.toList then (if (bt115.2 != bt117.2) = true then (laws_FnTraysTurned.j0 k l1 t102 t103 t104 t107 bt111.1 bt115.1 bt119.1 true) else (if bt115.1.toList = bt117.1.toList then (if (bt119.2 != bt121.2) = true then (laws_FnTraysTurned.j0 k l1 t102 t103 t104 t107 bt111.1 bt115.1 bt119.1 true) else (if bt119.1.toList = bt121.1.toList then ((impl_IsTray.f k t102).bind fun t123 => (if (t104 != t123) = true then (laws_FnTraysTurned.j0 k l1 t102 t103 t104 t107 bt111.1 bt115.1 bt119.1 true) else ((impl_IsTray.f k t102).bind fun t124 => ((spec_IsTray.f k t102).bind fun t125 => (if (t124 != t125) = true then (laws_FnTraysTurned.j0 k l1 t102 t103 t104 t107 bt111.1 bt115.1 bt119.1 true) else (if (t108 != t104) = true then (laws_FnTraysTurned.j0 k l1 t102 t103 t104 t107 bt111.1 bt115.1 bt119.1 true) else (if (bt111.2 != t104) = true then (laws_FnTraysTurned.j0 k l1 t102 t103 t104 t107 bt111.1 bt115.1 bt119.1 true) else (if (bt115.2 != t104) = true then (laws_FnTraysTurned.j0 k l1 t102 t103 t104 t107 bt111.1 bt115.1 bt119.1 true) else (laws_FnTraysTurned.j0 k l1 t102 t103 t104 t107 bt111.1 bt115.1 bt119.1 (bt119.2 != t104)))))))))) else (laws_FnTraysTurned.j0 k l1 t102 t103 t104 t107 bt111.1 bt115.1 bt119.1 true))) else (laws_FnTraysTurned.j0 k l1 t102 t103 t104 t107 bt111.1 bt115.1 bt119.1 true))) else (laws_FnTraysTurned.j0 k l1 t102 t103 t104 t107 bt111.1 bt115.1 bt119.1 true))) else (laws_FnTraysTurned.j0 k l1 t102 t103 t104 t107 bt111.1 bt115.1 bt119.1 true))) else (laws_FnTraysTurned.j0 k l1 t102 t103 t104 t107 bt111.1 bt115.1 bt119.1 true))))))))) = some r := H
  have A9 := Aside0.mk A90
  clear A90
  replace H := Option.bind_eq_some_iff.mp H
  obtain ⟨⟨t111, t112⟩, A100, H⟩ := H
  replace H : ((spec_TurnTray.f k t102).bind fun bt113 => ((impl_MirrorTray.f k t102).bind fun bt115 => ((spec_MirrorTray.f k t102).bind fun bt117 => ((impl_TransposeTray.f k t102).bind fun bt119 => ((spec_TransposeTray.f k t102).bind fun bt121 => (if (t104 != t106) = true then (laws_FnTraysTurned.j0 k l1 t102 t103 t104 t107 t111 bt115.1 bt119.1 true) else (if t103.toList = t105.toList then (if (t108 != t110) = true then (laws_FnTraysTurned.j0 k l1 t102 t103 t104 t107 t111 bt115.1 bt119.1 true) else (if t107 = t109 then (if (t112 != bt113.2) = true then (laws_FnTraysTurned.j0 k l1 t102 t103 t104 t107 t111 bt115.1 bt119.1 true) else (if t111.toList = bt113.1.toList then (if (bt115.2 != bt117.2) = true then (laws_FnTraysTurned.j0 k l1 t102 t103 t104 t107 t111 bt115.1 bt119.1 true) else (if bt115.1.toList = bt117.1.toList then (if (bt119.2 != bt121.2) = true then (laws_FnTraysTurned.j0 k l1 t102 t103 t104 t107 t111 bt115.1 bt119.1 true) else (if bt119.1.toList = bt121.1.toList then ((impl_IsTray.f k t102).bind fun t123 => (if (t104 != t123) = true then (laws_FnTraysTurned.j0 k l1 t102 t103 t104 t107 t111 bt115.1 bt119.1 true) else ((impl_IsTray.f k t102).bind fun t124 => ((spec_IsTray.f k t102).bind fun t125 => (if (t124 != t125) = true then (laws_FnTraysTurned.j0 k l1 t102 t103 t104 t107 t111 bt115.1 bt119.1 true) else (if (t108 != t104) = true then (laws_FnTraysTurned.j0 k l1 t102 t103 t104 t107 t111 bt115.1 bt119.1 true) else (if (t112 != t104) = true then (laws_FnTraysTurned.j0 k l1 t102 t103 t104 t107 t111 bt115.1 bt119.1 true) else (if (bt115.2 != t104) = true then (laws_FnTraysTurned.j0 k l1 t102 t103 t104 t107 t111 bt115.1 bt119.1 true) else (laws_FnTraysTurned.j0 k l1 t102 t103 t104 t107 t111 bt115.1 bt119.1 (bt119.2 != t104)))))))))) else (laws_FnTraysTurned.j0 k l1 t102 t103 t104 t107 t111 bt115.1 bt119.1 true))) else (laws_FnTraysTurned.j0 k l1 t102 t103 t104 t107 t111 bt115.1 bt119.1 true))) else (laws_FnTraysTurned.j0 k l1 t102 t103 t104 t107 t111 bt115.1 bt119.1 true))) else (laws_FnTraysTurned.j0 k l1 t102 t103 t104 t107 t111 bt115.1 bt119.1 true))) else (laws_FnTraysTurned.j0 k l1 t102 t103 t104 t107 t111 bt115.1 bt119.1 true)))))))) = some r := H
  have A10 := Aside0.mk A100
  clear A100
  replace H := Option.bind_eq_some_iff.mp H
  obtain ⟨⟨t113, t114⟩, A110, H⟩ := H
  replace H : ((impl_MirrorTray.f k t102).bind fun bt115 => ((spec_MirrorTray.f k t102).bind fun bt117 => ((impl_TransposeTray.f k t102).bind fun bt119 => ((spec_TransposeTray.f k t102).bind fun bt121 => (if (t104 != t106) = true then (laws_FnTraysTurned.j0 k l1 t102 t103 t104 t107 t111 bt115.1 bt119.1 true) else (if t103.toList = t105.toList then (if (t108 != t110) = true then (laws_FnTraysTurned.j0 k l1 t102 t103 t104 t107 t111 bt115.1 bt119.1 true) else (if t107 = t109 then (if (t112 != t114) = true then (laws_FnTraysTurned.j0 k l1 t102 t103 t104 t107 t111 bt115.1 bt119.1 true) else (if t111.toList = t113.toList then (if (bt115.2 != bt117.2) = true then (laws_FnTraysTurned.j0 k l1 t102 t103 t104 t107 t111 bt115.1 bt119.1 true) else (if bt115.1.toList = bt117.1.toList then (if (bt119.2 != bt121.2) = true then (laws_FnTraysTurned.j0 k l1 t102 t103 t104 t107 t111 bt115.1 bt119.1 true) else (if bt119.1.toList = bt121.1.toList then ((impl_IsTray.f k t102).bind fun t123 => (if (t104 != t123) = true then (laws_FnTraysTurned.j0 k l1 t102 t103 t104 t107 t111 bt115.1 bt119.1 true) else ((impl_IsTray.f k t102).bind fun t124 => ((spec_IsTray.f k t102).bind fun t125 => (if (t124 != t125) = true then (laws_FnTraysTurned.j0 k l1 t102 t103 t104 t107 t111 bt115.1 bt119.1 true) else (if (t108 != t104) = true then (laws_FnTraysTurned.j0 k l1 t102 t103 t104 t107 t111 bt115.1 bt119.1 true) else (if (t112 != t104) = true then (laws_FnTraysTurned.j0 k l1 t102 t103 t104 t107 t111 bt115.1 bt119.1 true) else (if (bt115.2 != t104) = true then (laws_FnTraysTurned.j0 k l1 t102 t103 t104 t107 t111 bt115.1 bt119.1 true) else (laws_FnTraysTurned.j0 k l1 t102 t103 t104 t107 t111 bt115.1 bt119.1 (bt119.2 != t104)))))))))) else (laws_FnTraysTurned.j0 k l1 t102 t103 t104 t107 t111 bt115.1 bt119.1 true))) else (laws_FnTraysTurned.j0 k l1 t102 t103 t104 t107 t111 bt115.1 bt119.1 true))) else (laws_FnTraysTurned.j0 k l1 t102 t103 t104 t107 t111 bt115.1 bt119.1 true))) else (laws_FnTraysTurned.j0 k l1 t102 t103 t104 t107 t111 bt115.1 bt119.1 true))) else (laws_FnTraysTurned.j0 k l1 t102 t103 t104 t107 t111 bt115.1 bt119.1 true))))))) = some r := H
  have A11 := Aside0.mk A110
  clear A110
  replace H := Option.bind_eq_some_iff.mp H
  obtain ⟨⟨t115, t116⟩, A120, H⟩ := H
  replace H : ((spec_MirrorTray.f k t102).bind fun bt117 => ((impl_TransposeTray.f k t102).bind fun bt119 => ((spec_TransposeTray.f k t102).bind fun bt121 => (if (t104 != t106) = true then (laws_FnTraysTurned.j0 k l1 t102 t103 t104 t107 t111 t115 bt119.1 true) else (if t103.toList = t105.toList then (if (t108 != t110) = true then (laws_FnTraysTurned.j0 k l1 t102 t103 t104 t107 t111 t115 bt119.1 true) else (if t107 = t109 then (if (t112 != t114) = true then (laws_FnTraysTurned.j0 k l1 t102 t103 t104 t107 t111 t115 bt119.1 true) else (if t111.toList = t113.toList then (if (t116 != bt117.2) = true then (laws_FnTraysTurned.j0 k l1 t102 t103 t104 t107 t111 t115 bt119.1 true) else (if t115.toList = bt117.1.toList then (if (bt119.2 != bt121.2) = true then (laws_FnTraysTurned.j0 k l1 t102 t103 t104 t107 t111 t115 bt119.1 true) else (if bt119.1.toList = bt121.1.toList then ((impl_IsTray.f k t102).bind fun t123 => (if (t104 != t123) = true then (laws_FnTraysTurned.j0 k l1 t102 t103 t104 t107 t111 t115 bt119.1 true) else ((impl_IsTray.f k t102).bind fun t124 => ((spec_IsTray.f k t102).bind fun t125 => (if (t124 != t125) = true then (laws_FnTraysTurned.j0 k l1 t102 t103 t104 t107 t111 t115 bt119.1 true) else (if (t108 != t104) = true then (laws_FnTraysTurned.j0 k l1 t102 t103 t104 t107 t111 t115 bt119.1 true) else (if (t112 != t104) = true then (laws_FnTraysTurned.j0 k l1 t102 t103 t104 t107 t111 t115 bt119.1 true) else (if (t116 != t104) = true then (laws_FnTraysTurned.j0 k l1 t102 t103 t104 t107 t111 t115 bt119.1 true) else (laws_FnTraysTurned.j0 k l1 t102 t103 t104 t107 t111 t115 bt119.1 (bt119.2 != t104)))))))))) else (laws_FnTraysTurned.j0 k l1 t102 t103 t104 t107 t111 t115 bt119.1 true))) else (laws_FnTraysTurned.j0 k l1 t102 t103 t104 t107 t111 t115 bt119.1 true))) else (laws_FnTraysTurned.j0 k l1 t102 t103 t104 t107 t111 t115 bt119.1 true))) else (laws_FnTraysTurned.j0 k l1 t102 t103 t104 t107 t111 t115 bt119.1 true))) else (laws_FnTraysTurned.j0 k l1 t102 t103 t104 t107 t111 t115 bt119.1 true)))))) = some r := H
  have A12 := Aside0.mk A120
  clear A120
  replace H := Option.bind_eq_some_iff.mp H
  obtain ⟨⟨t117, t118⟩, A130, H⟩ := H
  replace H : ((impl_TransposeTray.f k t102).bind fun bt119 => ((spec_TransposeTray.f k t102).bind fun bt121 => (if (t104 != t106) = true then (laws_FnTraysTurned.j0 k l1 t102 t103 t104 t107 t111 t115 bt119.1 true) else (if t103.toList = t105.toList then (if (t108 != t110) = true then (laws_FnTraysTurned.j0 k l1 t102 t103 t104 t107 t111 t115 bt119.1 true) else (if t107 = t109 then (if (t112 != t114) = true then (laws_FnTraysTurned.j0 k l1 t102 t103 t104 t107 t111 t115 bt119.1 true) else (if t111.toList = t113.toList then (if (t116 != t118) = true then (laws_FnTraysTurned.j0 k l1 t102 t103 t104 t107 t111 t115 bt119.1 true) else (if t115.toList = t117.toList then (if (bt119.2 != bt121.2) = true then (laws_FnTraysTurned.j0 k l1 t102 t103 t104 t107 t111 t115 bt119.1 true) else (if bt119.1.toList = bt121.1.toList then ((impl_IsTray.f k t102).bind fun t123 => (if (t104 != t123) = true then (laws_FnTraysTurned.j0 k l1 t102 t103 t104 t107 t111 t115 bt119.1 true) else ((impl_IsTray.f k t102).bind fun t124 => ((spec_IsTray.f k t102).bind fun t125 => (if (t124 != t125) = true then (laws_FnTraysTurned.j0 k l1 t102 t103 t104 t107 t111 t115 bt119.1 true) else (if (t108 != t104) = true then (laws_FnTraysTurned.j0 k l1 t102 t103 t104 t107 t111 t115 bt119.1 true) else (if (t112 != t104) = true then (laws_FnTraysTurned.j0 k l1 t102 t103 t104 t107 t111 t115 bt119.1 true) else (if (t116 != t104) = true then (laws_FnTraysTurned.j0 k l1 t102 t103 t104 t107 t111 t115 bt119.1 true) else (laws_FnTraysTurned.j0 k l1 t102 t103 t104 t107 t111 t115 bt119.1 (bt119.2 != t104)))))))))) else (laws_FnTraysTurned.j0 k l1 t102 t103 t104 t107 t111 t115 bt119.1 true))) else (laws_FnTraysTurned.j0 k l1 t102 t103 t104 t107 t111 t115 bt119.1 true))) else (laws_FnTraysTurned.j0 k l1 t102 t103 t104 t107 t111 t115 bt119.1 true))) else (laws_FnTraysTurned.j0 k l1 t102 t103 t104 t107 t111 t115 bt119.1 true))) else (laws_FnTraysTurned.j0 k l1 t102 t103 t104 t107 t111 t115 bt119.1 true))))) = some r := H
  have A13 := Aside0.mk A130
  clear A130
  replace H := Option.bind_eq_some_iff.mp H
  obtain ⟨⟨t119, t120⟩, A140, H⟩ := H
  replace H : ((spec_TransposeTray.f k t102).bind fun bt121 => (if (t104 != t106) = true then (laws_FnTraysTurned.j0 k l1 t102 t103 t104 t107 t111 t115 t119 true) else (if t103.toList = t105.toList then (if (t108 != t110) = true then (laws_FnTraysTurned.j0 k l1 t102 t103 t104 t107 t111 t115 t119 true) else (if t107 = t109 then (if (t112 != t114) = true then (laws_FnTraysTurned.j0 k l1 t102 t103 t104 t107 t111 t115 t119 true) else (if t111.toList = t113.toList then (if (t116 != t118) = true then (laws_FnTraysTurned.j0 k l1 t102 t103 t104 t107 t111 t115 t119 true) else (if t115.toList = t117.toList then (if (t120 != bt121.2) = true then (laws_FnTraysTurned.j0 k l1 t102 t103 t104 t107 t111 t115 t119 true) else (if t119.toList = bt121.1.toList then ((impl_IsTray.f k t102).bind fun t123 => (if (t104 != t123) = true then (laws_FnTraysTurned.j0 k l1 t102 t103 t104 t107 t111 t115 t119 true) else ((impl_IsTray.f k t102).bind fun t124 => ((spec_IsTray.f k t102).bind fun t125 => (if (t124 != t125) = true then (laws_FnTraysTurned.j0 k l1 t102 t103 t104 t107 t111 t115 t119 true) else (if (t108 != t104) = true then (laws_FnTraysTurned.j0 k l1 t102 t103 t104 t107 t111 t115 t119 true) else (if (t112 != t104) = true then (laws_FnTraysTurned.j0 k l1 t102 t103 t104 t107 t111 t115 t119 true) else (if (t116 != t104) = true then (laws_FnTraysTurned.j0 k l1 t102 t103 t104 t107 t111 t115 t119 true) else (laws_FnTraysTurned.j0 k l1 t102 t103 t104 t107 t111 t115 t119 (t120 != t104)))))))))) else (laws_FnTraysTurned.j0 k l1 t102 t103 t104 t107 t111 t115 t119 true))) else (laws_FnTraysTurned.j0 k l1 t102 t103 t104 t107 t111 t115 t119 true))) else (laws_FnTraysTurned.j0 k l1 t102 t103 t104 t107 t111 t115 t119 true))) else (laws_FnTraysTurned.j0 k l1 t102 t103 t104 t107 t111 t115 t119 true))) else (laws_FnTraysTurned.j0 k l1 t102 t103 t104 t107 t111 t115 t119 true)))) = some r := H
  have A14 := Aside0.mk A140
  clear A140
  replace H := Option.bind_eq_some_iff.mp H
  obtain ⟨⟨t121, t122⟩, A150, H⟩ := H
  replace H : (if (t104 != t106) = true then (laws_FnTraysTurned.j0 k l1 t102 t103 t104 t107 t111 t115 t119 true) else (if t103.toList = t105.toList then (if (t108 != t110) = true then (laws_FnTraysTurned.j0 k l1 t102 t103 t104 t107 t111 t115 t119 true) else (if t107 = t109 then (if (t112 != t114) = true then (laws_FnTraysTurned.j0 k l1 t102 t103 t104 t107 t111 t115 t119 true) else (if t111.toList = t113.toList then (if (t116 != t118) = true then (laws_FnTraysTurned.j0 k l1 t102 t103 t104 t107 t111 t115 t119 true) else (if t115.toList = t117.toList then (if (t120 != t122) = true then (laws_FnTraysTurned.j0 k l1 t102 t103 t104 t107 t111 t115 t119 true) else (if t119.toList = t121.toList then ((impl_IsTray.f k t102).bind fun t123 => (if (t104 != t123) = true then (laws_FnTraysTurned.j0 k l1 t102 t103 t104 t107 t111 t115 t119 true) else ((impl_IsTray.f k t102).bind fun t124 => ((spec_IsTray.f k t102).bind fun t125 => (if (t124 != t125) = true then (laws_FnTraysTurned.j0 k l1 t102 t103 t104 t107 t111 t115 t119 true) else (if (t108 != t104) = true then (laws_FnTraysTurned.j0 k l1 t102 t103 t104 t107 t111 t115 t119 true) else (if (t112 != t104) = true then (laws_FnTraysTurned.j0 k l1 t102 t103 t104 t107 t111 t115 t119 true) else (if (t116 != t104) = true then (laws_FnTraysTurned.j0 k l1 t102 t103 t104 t107 t111 t115 t119 true) else (laws_FnTraysTurned.j0 k l1 t102 t103 t104 t107 t111 t115 t119 (t120 != t104)))))))))) else (laws_FnTraysTurned.j0 k l1 t102 t103 t104 t107 t111 t115 t119 true))) else (laws_FnTraysTurned.j0 k l1 t102 t103 t104 t107 t111 t115 t119 true))) else (laws_FnTraysTurned.j0 k l1 t102 t103 t104 t107 t111 t115 t119 true))) else (laws_FnTraysTurned.j0 k l1 t102 t103 t104 t107 t111 t115 t119 true))) else (laws_FnTraysTurned.j0 k l1 t102 t103 t104 t107 t111 t115 t119 true))) = some r := H
  have A15 := Aside0.mk A150
  clear A150
  have HC16 := Aside0.mk H
  clear H
  go_enter Tryz.func3, Tryz.ntmps3
  go_upto_region 14 with (first | ((with_reducible refine gate_callee (f := 6) rfl ?_); refine goesL_ (some 62) rfl rfl Tryz.func6 (by kernel_rfl) rfl #[.slice A0 l0.length c0, .slice A1 l1.length c1] rfl aq1 ?_; (with_reducible refine (laws_big.calls _ _ l0 _ _ l1 false _ ?side1 ?side2 ?side3 ?side4 A3.out).mono ?_); (case side1 => exact aq64); (case side2 => exact HC0.out); (case side3 => exact aq102); (case side4 => exact HC1.out); rintro e w' ⟨rfl, ⟨nd, rfl⟩⟩; refine ⟨_, rfl, ?_⟩) | ((with_reducible refine gate_callee (f := 7) rfl ?_); refine goesL_ (some 64) rfl rfl Tryz.func7 (by kernel_rfl) rfl #[.slice A0 l0.length c0] rfl aq1 ?_; (with_reducible refine (spec_DrawLeastTray.calls k _ _ l0 t102 _ ?side1 ?side2 A5.out).mono ?_); (case side1 => exact aq64); (case side2 => exact HC0.out); rintro e w17 ⟨rfl, hb⟩; refine ⟨_, rfl, ?_⟩; have n0_ := Aside0.mk (below_step aq0 hb); clear HB; have HB := n0_; clear n0_; (try clear hb); (try clear hb2); (try clear hk); (try clear hi)) | ((with_reducible refine gate_callee (f := 8) rfl ?_); refine goesL_ (some 67) rfl rfl Tryz.func8 (by kernel_rfl) rfl #[.string t102] rfl aq1 ?_; (with_reducible refine (impl_LeastTray.calls k t102 t103 t104 _ A6.out).mono ?_); rintro e w18 ⟨rfl, hb⟩; refine ⟨_, rfl, ?_⟩; have n0_ := Aside0.mk (below_step aq0 hb); clear HB; have HB := n0_; clear n0_; (try clear hb); (try clear hb2); (try clear hk); (try clear hi)) | ((with_reducible refine gate_callee (f := 9) rfl ?_); refine goesL_ (some 72) rfl rfl Tryz.func9 (by kernel_rfl) rfl #[.string t102] rfl aq1 ?_; (with_reducible refine (spec_LeastTray.calls k t102 t105 t106 _ A7.out).mono ?_); rintro e w19 ⟨rfl, hb⟩; refine ⟨_, rfl, ?_⟩; have n0_ := Aside0.mk (below_step aq0 hb); clear HB; have HB := n0_; clear n0_; (try clear hb); (try clear hb2); (try clear hk); (try clear hi)) | ((with_reducible refine gate_callee (f := 10) rfl ?_); refine goesL_ (some 77) rfl rfl Tryz.func10 (by kernel_rfl) rfl #[.string t102] rfl aq1 ?_; (with_reducible refine (impl_KeepersOf.calls k t102 t107 t108 _ A8.out).mono ?_); rintro e w20 ⟨rfl, hb⟩; refine ⟨_, rfl, ?_⟩; have n0_ := Aside0.mk (below_step aq0 hb); clear HB; have HB := n0_; clear n0_; (try clear hb); (try clear hb2); (try clear hk); (try clear hi)) | ((with_reducible refine gate_callee (f := 11) rfl ?_); refine goesL_ (some 82) rfl rfl Tryz.func11 (by kernel_rfl) rfl #[.string t102] rfl aq1 ?_; (with_reducible refine (spec_KeepersOf.calls k t102 t109 t110 _ A9.out).mono ?_); rintro e w21 ⟨rfl, hb⟩; refine ⟨_, rfl, ?_⟩; have n0_ := Aside0.mk (below_step aq0 hb); clear HB; have HB := n0_; clear n0_; (try clear hb); (try clear hb2); (try clear hk); (try clear hi)) | ((with_reducible refine gate_callee (f := 12) rfl ?_); refine goesL_ (some 87) rfl rfl Tryz.func12 (by kernel_rfl) rfl #[.string t102] rfl aq1 ?_; (with_reducible refine (impl_TurnTray.calls k t102 t111 t112 _ A10.out).mono ?_); rintro e w22 ⟨rfl, hb⟩; refine ⟨_, rfl, ?_⟩; have n0_ := Aside0.mk (below_step aq0 hb); clear HB; have HB := n0_; clear n0_; (try clear hb); (try clear hb2); (try clear hk); (try clear hi)) | ((with_reducible refine gate_callee (f := 13) rfl ?_); refine goesL_ (some 92) rfl rfl Tryz.func13 (by kernel_rfl) rfl #[.string t102] rfl aq1 ?_; (with_reducible refine (spec_TurnTray.calls k t102 t113 t114 _ A11.out).mono ?_); rintro e w23 ⟨rfl, hb⟩; refine ⟨_, rfl, ?_⟩; have n0_ := Aside0.mk (below_step aq0 hb); clear HB; have HB := n0_; clear n0_; (try clear hb); (try clear hb2); (try clear hk); (try clear hi)) | ((with_reducible refine gate_callee (f := 14) rfl ?_); refine goesL_ (some 97) rfl rfl Tryz.func14 (by kernel_rfl) rfl #[.string t102] rfl aq1 ?_; (with_reducible refine (impl_MirrorTray.calls k t102 t115 t116 _ A12.out).mono ?_); rintro e w24 ⟨rfl, hb⟩; refine ⟨_, rfl, ?_⟩; have n0_ := Aside0.mk (below_step aq0 hb); clear HB; have HB := n0_; clear n0_; (try clear hb); (try clear hb2); (try clear hk); (try clear hi)) | ((with_reducible refine gate_callee (f := 15) rfl ?_); refine goesL_ (some 102) rfl rfl Tryz.func15 (by kernel_rfl) rfl #[.string t102] rfl aq1 ?_; (with_reducible refine (spec_MirrorTray.calls k t102 t117 t118 _ A13.out).mono ?_); rintro e w25 ⟨rfl, hb⟩; refine ⟨_, rfl, ?_⟩; have n0_ := Aside0.mk (below_step aq0 hb); clear HB; have HB := n0_; clear n0_; (try clear hb); (try clear hb2); (try clear hk); (try clear hi)) | ((with_reducible refine gate_callee (f := 16) rfl ?_); refine goesL_ (some 107) rfl rfl Tryz.func16 (by kernel_rfl) rfl #[.string t102] rfl aq1 ?_; (with_reducible refine (impl_TransposeTray.calls k t102 t119 t120 _ A14.out).mono ?_); rintro e w26 ⟨rfl, hb⟩; refine ⟨_, rfl, ?_⟩; have n0_ := Aside0.mk (below_step aq0 hb); clear HB; have HB := n0_; clear n0_; (try clear hb); (try clear hb2); (try clear hk); (try clear hi)) | ((with_reducible refine gate_callee (f := 17) rfl ?_); refine goesL_ (some 112) rfl rfl Tryz.func17 (by kernel_rfl) rfl #[.string t102] rfl aq1 ?_; (with_reducible refine (spec_TransposeTray.calls k t102 t121 t122 _ A15.out).mono ?_); rintro e w27 ⟨rfl, hb⟩; refine ⟨_, rfl, ?_⟩; have n0_ := Aside0.mk (below_step aq0 hb); clear HB; have HB := n0_; clear n0_; (try clear hb); (try clear hb2); (try clear hk); (try clear hi)))
  (try simp only [Act.put, List.setIfInBounds_toArray, List.set_cons_zero, List.set_cons_succ])
  go_cut [195] (fun v195 wc => ∃ (kq : Nat) (x195_15 : Bool), v195 = .bool x195_15 ∧ Aside0 (laws_FnTraysTurned.j0 kq l1 t102 t103 t104 t107 t111 t115 t119 x195_15 = some r) ∧ Aside0 (kq ≤ k) ∧ Aside0 (Below w.heap.size w wc))
  case first => as_aux_lemma =>
   have H := HC16.out
   clear HC16
   by_cases c28 : (t104 != t106) = true
   ·rw [if_pos c28] at H
    have c28b0 : (t104 != t106) = true := c28
    (try (have c28b1 : decide (t104 = t106) = false := by simpa using c28))
    (try (have c28b2 : (t104 == t106) = false := by simpa using c28))
    (try (have c28b3 : ¬ (t104 = t106) := by simpa using c28))
    clear c28
    (first | rw [c28b0] | (simp only [i64_w, i32_w]; rw [c28b0]) | skip)
    exact absurd aq13 (show ¬ (r = false) by rw [HR_.out]; decide)
   ·rw [if_neg c28] at H
    have c28b0 : (t104 != t106) = false := by simpa using c28
    (try (have c28b1 : decide (t104 = t106) = true := by simpa using c28))
    (try (have c28b2 : (t104 == t106) = true := by simpa using c28))
    clear c28
    (first | rw [c28b0] | (simp only [i64_w, i32_w]; rw [c28b0]) | skip)
    by_cases c29 : t103.toList = t105.toList
    ·rw [if_pos c29] at H
     have c29b0 : (t103.toList == t105.toList) = true := beq_iff_eq.mpr c29
     have c29b1 : (t103.toList != t105.toList) = false := bne_eq_false_iff_eq.mpr c29
     clear c29
     by_cases c30 : (t108 != t110) = true
     ·rw [if_pos c30] at H
      have c30b0 : (t108 != t110) = true := c30
      (try (have c30b1 : decide (t108 = t110) = false := by simpa using c30))
      (try (have c30b2 : (t108 == t110) = false := by simpa using c30))
      (try (have c30b3 : ¬ (t108 = t110) := by simpa using c30))
      clear c30
      exact absurd aq13 (show ¬ (r = false) by rw [HR_.out]; decide)
     ·rw [if_neg c30] at H
      have c30b0 : (t108 != t110) = false := by simpa using c30
      (try (have c30b1 : decide (t108 = t110) = true := by simpa using c30))
      (try (have c30b2 : (t108 == t110) = true := by simpa using c30))
      clear c30
      by_cases c31 : t107 = t109
      ·rw [if_pos c31] at H
       have c31b0 : (t107 == t109) = true := beq_iff_eq.mpr c31
       have c31b1 : (t107 != t109) = false := bne_eq_false_iff_eq.mpr c31
       clear c31
       by_cases c32 : (t112 != t114) = true
       ·rw [if_pos c32] at H
        have c32b0 : (t112 != t114) = true := c32
        (try (have c32b1 : decide (t112 = t114) = false := by simpa using c32))
        (try (have c32b2 : (t112 == t114) = false := by simpa using c32))
        (try (have c32b3 : ¬ (t112 = t114) := by simpa using c32))
        clear c32
        exact absurd aq13 (show ¬ (r = false) by rw [HR_.out]; decide)
       ·rw [if_neg c32] at H
        have c32b0 : (t112 != t114) = false := by simpa using c32
        (try (have c32b1 : decide (t112 = t114) = true := by simpa using c32))
        (try (have c32b2 : (t112 == t114) = true := by simpa using c32))
        clear c32
        by_cases c33 : t111.toList = t113.toList
        ·rw [if_pos c33] at H
         have c33b0 : (t111.toList == t113.toList) = true := beq_iff_eq.mpr c33
         have c33b1 : (t111.toList != t113.toList) = false := bne_eq_false_iff_eq.mpr c33
         clear c33
         by_cases c34 : (t116 != t118) = true
         ·rw [if_pos c34] at H
          have c34b0 : (t116 != t118) = true := c34
          (try (have c34b1 : decide (t116 = t118) = false := by simpa using c34))
          (try (have c34b2 : (t116 == t118) = false := by simpa using c34))
          (try (have c34b3 : ¬ (t116 = t118) := by simpa using c34))
          clear c34
          exact absurd aq13 (show ¬ (r = false) by rw [HR_.out]; decide)
         ·rw [if_neg c34] at H
          have c34b0 : (t116 != t118) = false := by simpa using c34
          (try (have c34b1 : decide (t116 = t118) = true := by simpa using c34))
          (try (have c34b2 : (t116 == t118) = true := by simpa using c34))
          clear c34
          by_cases c35 : t115.toList = t117.toList
          ·rw [if_pos c35] at H
           have c35b0 : (t115.toList == t117.toList) = true := beq_iff_eq.mpr c35
           have c35b1 : (t115.toList != t117.toList) = false := bne_eq_false_iff_eq.mpr c35
           clear c35
           by_cases c36 : (t120 != t122) = true
           ·rw [if_pos c36] at H
            have c36b0 : (t120 != t122) = true := c36
            (try (have c36b1 : decide (t120 = t122) = false := by simpa using c36))
            (try (have c36b2 : (t120 == t122) = false := by simpa using c36))
            (try (have c36b3 : ¬ (t120 = t122) := by simpa using c36))
            clear c36
            exact absurd aq13 (show ¬ (r = false) by rw [HR_.out]; decide)
           ·rw [if_neg c36] at H
            have c36b0 : (t120 != t122) = false := by simpa using c36
            (try (have c36b1 : decide (t120 = t122) = true := by simpa using c36))
            (try (have c36b2 : (t120 == t122) = true := by simpa using c36))
            clear c36
            by_cases c37 : t119.toList = t121.toList
            ·rw [if_pos c37] at H
             have c37b0 : (t119.toList == t121.toList) = true := beq_iff_eq.mpr c37
             have c37b1 : (t119.toList != t121.toList) = false := bne_eq_false_iff_eq.mpr c37
             clear c37
             replace H := Option.bind_eq_some_iff.mp H
             obtain ⟨t123, A380, H⟩ := H
             replace H : (if (t104 != t123) = true then (laws_FnTraysTurned.j0 k l1 t102 t103 t104 t107 t111 t115 t119 true) else ((impl_IsTray.f k t102).bind fun t124 => ((spec_IsTray.f k t102).bind fun t125 => (if (t124 != t125) = true then (laws_FnTraysTurned.j0 k l1 t102 t103 t104 t107 t111 t115 t119 true) else (if (t108 != t104) = true then (laws_FnTraysTurned.j0 k l1 t102 t103 t104 t107 t111 t115 t119 true) else (if (t112 != t104) = true then (laws_FnTraysTurned.j0 k l1 t102 t103 t104 t107 t111 t115 t119 true) else (if (t116 != t104) = true then (laws_FnTraysTurned.j0 k l1 t102 t103 t104 t107 t111 t115 t119 true) else (laws_FnTraysTurned.j0 k l1 t102 t103 t104 t107 t111 t115 t119 (t120 != t104))))))))) = some r := H
             have A38 := Aside0.mk A380
             clear A380
             by_cases c39 : (t104 != t123) = true
             ·rw [if_pos c39] at H
              have c39b0 : (t104 != t123) = true := c39
              (try (have c39b1 : decide (t104 = t123) = false := by simpa using c39))
              (try (have c39b2 : (t104 == t123) = false := by simpa using c39))
              (try (have c39b3 : ¬ (t104 = t123) := by simpa using c39))
              clear c39
              exact absurd aq13 (show ¬ (r = false) by rw [HR_.out]; decide)
             ·rw [if_neg c39] at H
              have c39b0 : (t104 != t123) = false := by simpa using c39
              (try (have c39b1 : decide (t104 = t123) = true := by simpa using c39))
              (try (have c39b2 : (t104 == t123) = true := by simpa using c39))
              clear c39
              replace H := Option.bind_eq_some_iff.mp H
              obtain ⟨t124, A410, H⟩ := H
              replace H : ((spec_IsTray.f k t102).bind fun t125 => (if (t124 != t125) = true then (laws_FnTraysTurned.j0 k l1 t102 t103 t104 t107 t111 t115 t119 true) else (if (t108 != t104) = true then (laws_FnTraysTurned.j0 k l1 t102 t103 t104 t107 t111 t115 t119 true) else (if (t112 != t104) = true then (laws_FnTraysTurned.j0 k l1 t102 t103 t104 t107 t111 t115 t119 true) else (if (t116 != t104) = true then (laws_FnTraysTurned.j0 k l1 t102 t103 t104 t107 t111 t115 t119 true) else (laws_FnTraysTurned.j0 k l1 t102 t103 t104 t107 t111 t115 t119 (t120 != t104))))))) = some r := H
              have A41 := Aside0.mk A410
              clear A410
              replace H := Option.bind_eq_some_iff.mp H
              obtain ⟨t125, A420, H⟩ := H
              replace H : (if (t124 != t125) = true then (laws_FnTraysTurned.j0 k l1 t102 t103 t104 t107 t111 t115 t119 true) else (if (t108 != t104) = true then (laws_FnTraysTurned.j0 k l1 t102 t103 t104 t107 t111 t115 t119 true) else (if (t112 != t104) = true then (laws_FnTraysTurned.j0 k l1 t102 t103 t104 t107 t111 t115 t119 true) else (if (t116 != t104) = true then (laws_FnTraysTurned.j0 k l1 t102 t103 t104 t107 t111 t115 t119 true) else (laws_FnTraysTurned.j0 k l1 t102 t103 t104 t107 t111 t115 t119 (t120 != t104)))))) = some r := H
              have A42 := Aside0.mk A420
              clear A420
              by_cases c43 : (t124 != t125) = true
              ·rw [if_pos c43] at H
               have c43b0 : (t124 != t125) = true := c43
               (try (have c43b1 : decide (t124 = t125) = false := by simpa using c43))
               (try (have c43b2 : (t124 == t125) = false := by simpa using c43))
               (try (have c43b3 : ¬ (t124 = t125) := by simpa using c43))
               clear c43
               exact absurd aq13 (show ¬ (r = false) by rw [HR_.out]; decide)
              ·rw [if_neg c43] at H
               have c43b0 : (t124 != t125) = false := by simpa using c43
               (try (have c43b1 : decide (t124 = t125) = true := by simpa using c43))
               (try (have c43b2 : (t124 == t125) = true := by simpa using c43))
               clear c43
               by_cases c47 : (t108 != t104) = true
               ·rw [if_pos c47] at H
                have c47b0 : (t108 != t104) = true := c47
                (try (have c47b1 : decide (t108 = t104) = false := by simpa using c47))
                (try (have c47b2 : (t108 == t104) = false := by simpa using c47))
                (try (have c47b3 : ¬ (t108 = t104) := by simpa using c47))
                clear c47
                exact absurd aq13 (show ¬ (r = false) by rw [HR_.out]; decide)
               ·rw [if_neg c47] at H
                have c47b0 : (t108 != t104) = false := by simpa using c47
                (try (have c47b1 : decide (t108 = t104) = true := by simpa using c47))
                (try (have c47b2 : (t108 == t104) = true := by simpa using c47))
                clear c47
                by_cases c51 : (t112 != t104) = true
                ·rw [if_pos c51] at H
                 have c51b0 : (t112 != t104) = true := c51
                 (try (have c51b1 : decide (t112 = t104) = false := by simpa using c51))
                 (try (have c51b2 : (t112 == t104) = false := by simpa using c51))
                 (try (have c51b3 : ¬ (t112 = t104) := by simpa using c51))
                 clear c51
                 exact absurd aq13 (show ¬ (r = false) by rw [HR_.out]; decide)
                ·rw [if_neg c51] at H
                 have c51b0 : (t112 != t104) = false := by simpa using c51
                 (try (have c51b1 : decide (t112 = t104) = true := by simpa using c51))
                 (try (have c51b2 : (t112 == t104) = true := by simpa using c51))
                 clear c51
                 by_cases c55 : (t116 != t104) = true
                 ·rw [if_pos c55] at H
                  have c55b0 : (t116 != t104) = true := c55
                  (try (have c55b1 : decide (t116 = t104) = false := by simpa using c55))
                  (try (have c55b2 : (t116 == t104) = false := by simpa using c55))
                  (try (have c55b3 : ¬ (t116 = t104) := by simpa using c55))
                  clear c55
                  exact absurd aq13 (show ¬ (r = false) by rw [HR_.out]; decide)
                 ·rw [if_neg c55] at H
                  have c55b0 : (t116 != t104) = false := by simpa using c55
                  (try (have c55b1 : decide (t116 = t104) = true := by simpa using c55))
                  (try (have c55b2 : (t116 == t104) = true := by simpa using c55))
                  clear c55
                  have H' := Aside0.mk H
                  clear H
                  go_wp2_with (first | (go_at_call 18; (with_reducible refine (impl_IsTray.calls k t102 t123 _ A38.out).mono ?_); rintro e w59 ⟨rfl, hb⟩; have n0_ := Aside0.mk (below_step aq0 hb); clear HB; have HB := n0_; clear n0_; (try clear hb); (try clear hb2); (try clear hk); (try clear hi); (try clear A38)) | (go_at_call 18; (with_reducible refine (impl_IsTray.calls k t102 t124 _ A41.out).mono ?_); rintro e w60 ⟨rfl, hb⟩; have n0_ := Aside0.mk (below_step aq0 hb); clear HB; have HB := n0_; clear n0_; (try clear hb); (try clear hb2); (try clear hk); (try clear hi); (try clear A41)) | (go_at_call 19; (with_reducible refine (spec_IsTray.calls k t102 t125 _ A42.out).mono ?_); rintro e w61 ⟨rfl, hb⟩; have n0_ := Aside0.mk (below_step aq0 hb); clear HB; have HB := n0_; clear n0_; (try clear hb); (try clear hb2); (try clear hk); (try clear hi)))
                  go_meet
                  case rel => exact ⟨_, ((t120 != t104)), aq11, H', ⟨aq68⟩, ⟨aq0⟩⟩
            ·rw [if_neg c37] at H
             have c37b0 : (t119.toList == t121.toList) = false := beq_eq_false_iff_ne.mpr c37
             have c37b1 : (t119.toList != t121.toList) = true := bne_iff_ne.mpr c37
             exact absurd aq13 (show ¬ (r = false) by rw [HR_.out]; decide)
          ·rw [if_neg c35] at H
           have c35b0 : (t115.toList == t117.toList) = false := beq_eq_false_iff_ne.mpr c35
           have c35b1 : (t115.toList != t117.toList) = true := bne_iff_ne.mpr c35
           exact absurd aq13 (show ¬ (r = false) by rw [HR_.out]; decide)
        ·rw [if_neg c33] at H
         have c33b0 : (t111.toList == t113.toList) = false := beq_eq_false_iff_ne.mpr c33
         have c33b1 : (t111.toList != t113.toList) = true := bne_iff_ne.mpr c33
         exact absurd aq13 (show ¬ (r = false) by rw [HR_.out]; decide)
      ·rw [if_neg c31] at H
       have c31b0 : (t107 == t109) = false := beq_eq_false_iff_ne.mpr c31
       have c31b1 : (t107 != t109) = true := bne_iff_ne.mpr c31
       exact absurd aq13 (show ¬ (r = false) by rw [HR_.out]; decide)
    ·rw [if_neg c29] at H
     have c29b0 : (t103.toList == t105.toList) = false := beq_eq_false_iff_ne.mpr c29
     have c29b1 : (t103.toList != t105.toList) = true := bne_iff_ne.mpr c29
     exact absurd aq13 (show ¬ (r = false) by rw [HR_.out]; decide)
  case rest => as_aux_lemma =>
   clear HC16
   try clear c1
   try clear c2
   try clear p2
   try clear c3
   try clear c4
   try clear c5
   try clear c6
   try clear c7
   try clear c8
   try clear c9
   try clear c10
   try clear c11
   try clear c12
   try clear c13
   try clear c14
   try clear c15
   try clear c16
   try clear c17
   try clear c28
   try clear c28b0
   try clear c28b1
   try clear c28b2
   try clear c29
   try clear c29b0
   try clear c29b1
   try clear c30
   try clear c30b0
   try clear c30b1
   try clear c30b2
   try clear c31
   try clear c31b0
   try clear c31b1
   try clear c32
   try clear c32b0
   try clear c32b1
   try clear c32b2
   try clear c33
   try clear c33b0
   try clear c33b1
   try clear c34
   try clear c34b0
   try clear c34b1
   try clear c34b2
   try clear c35
   try clear c35b0
   try clear c35b1
   try clear c36
   try clear c36b0
   try clear c36b1
   try clear c36b2
   try clear c37
   try clear c37b0
   try clear c37b1
   try clear c39
   try clear c39b0
   try clear c39b1
   try clear c39b2
   try clear c43
   try clear c43b0
   try clear c43b1
   try clear c43b2
   try clear c47
   try clear c47b0
   try clear c47b1
   try clear c47b2
   try clear c51
   try clear c51b0
   try clear c51b1
   try clear c51b2
   try clear c55
   try clear c55b0
   try clear c55b1
   try clear c55b2
   obtain ⟨kq, x195_15, rfl, HA, HJ15, HB⟩ := hcut
   cases kq with
   | zero => exact absurd HA.out (by simp [laws_FnTraysTurned.j0])
   | succ kj15 =>
    have H := HA.out
    clear HA
    simp only [laws_FnTraysTurned.j0] at H
    by_cases c62 : x195_15 = true
    ·subst c62
     have H1 : (some false) = some r := by rw [if_pos rfl] at H; exact H
     clear H
     have H := H1
     clear H1
     obtain rfl := Option.some.inj H
     go_wp2
     go_ret
     exact ⟨aq8, aq0⟩
    ·replace c62 := Bool.eq_false_iff.mpr c62
     subst c62
     have H1 : (if t104 = true then ((impl_SizeOf.f kj15 t102).bind fun bt126 => ((impl_SizeOf.f kj15 t111).bind fun bt129 => (if bt126.2.2 = true then (if bt129.2.2 = true then (if bt129.1 = bt126.2.1 then (if bt129.2.1 = bt126.1 then ((laws_yMoved.f kj15 t115 4).bind fun t132 => (if t132.toList = t102.toList then ((laws_yMoved.f kj15 t111 3).bind fun t133 => (if t133.toList = t102.toList then ((laws_yMoved.f kj15 t111 4).bind fun t134 => (laws_FnTraysTurned.j1 kj15 l1 t102 t103 t107 t111 (t119.toList != t134.toList))) else (laws_FnTraysTurned.j1 kj15 l1 t102 t103 t107 t111 true))) else (laws_FnTraysTurned.j1 kj15 l1 t102 t103 t107 t111 true))) else (laws_FnTraysTurned.j1 kj15 l1 t102 t103 t107 t111 true)) else (laws_FnTraysTurned.j1 kj15 l1 t102 t103 t107 t111 true)) else (laws_FnTraysTurned.j1 kj15 l1 t102 t103 t107 t111 true)) else (laws_FnTraysTurned.j1 kj15 l1 t102 t103 t107 t111 true)))) else (laws_FnTraysTurned.j6 kj15 l1)) = some r := by rw [if_neg (show ¬ (false = true) by decide)] at H; exact H
     clear H
     have H := H1
     clear H1
     have HC63 := Aside0.mk H
     clear H
     go_upto_if 196 with (fail)
     go_cut [] (fun wc => ∃ (kq : Nat), Aside0 (laws_FnTraysTurned.j6 kq l1 = some r) ∧ Aside0 (kq ≤ kj15) ∧ Aside0 (Below w.heap.size w wc))
     case first => as_aux_lemma =>
      have H := HC63.out
      clear HC63
      by_cases c64 : t104 = true
      ·subst c64
       have H1 : ((impl_SizeOf.f kj15 t102).bind fun bt126 => ((impl_SizeOf.f kj15 t111).bind fun bt129 => (if bt126.2.2 = true then (if bt129.2.2 = true then (if bt129.1 = bt126.2.1 then (if bt129.2.1 = bt126.1 then ((laws_yMoved.f kj15 t115 4).bind fun t132 => (if t132.toList = t102.toList then ((laws_yMoved.f kj15 t111 3).bind fun t133 => (if t133.toList = t102.toList then ((laws_yMoved.f kj15 t111 4).bind fun t134 => (laws_FnTraysTurned.j1 kj15 l1 t102 t103 t107 t111 (t119.toList != t134.toList))) else (laws_FnTraysTurned.j1 kj15 l1 t102 t103 t107 t111 true))) else (laws_FnTraysTurned.j1 kj15 l1 t102 t103 t107 t111 true))) else (laws_FnTraysTurned.j1 kj15 l1 t102 t103 t107 t111 true)) else (laws_FnTraysTurned.j1 kj15 l1 t102 t103 t107 t111 true)) else (laws_FnTraysTurned.j1 kj15 l1 t102 t103 t107 t111 true)) else (laws_FnTraysTurned.j1 kj15 l1 t102 t103 t107 t111 true)))) = some r := by rw [if_pos rfl] at H; exact H
       clear H
       have H := H1
       clear H1
       replace H := Option.bind_eq_some_iff.mp H
       obtain ⟨⟨t126, t127, t128⟩, A650, H⟩ := H
       replace H : ((impl_SizeOf.f kj15 t111).bind fun bt129 => (if t128 = true then (if bt129.2.2 = true then (if bt129.1 = t127 then (if bt129.2.1 = t126 then ((laws_yMoved.f kj15 t115 4).bind fun t132 => (if t132.toList = t102.toList then ((laws_yMoved.f kj15 t111 3).bind fun t133 => (if t133.toList = t102.toList then ((laws_yMoved.f kj15 t111 4).bind fun t134 => (laws_FnTraysTurned.j1 kj15 l1 t102 t103 t107 t111 (t119.toList != t134.toList))) else (laws_FnTraysTurned.j1 kj15 l1 t102 t103 t107 t111 true))) else (laws_FnTraysTurned.j1 kj15 l1 t102 t103 t107 t111 true))) else (laws_FnTraysTurned.j1 kj15 l1 t102 t103 t107 t111 true)) else (laws_FnTraysTurned.j1 kj15 l1 t102 t103 t107 t111 true)) else (laws_FnTraysTurned.j1 kj15 l1 t102 t103 t107 t111 true)) else (laws_FnTraysTurned.j1 kj15 l1 t102 t103 t107 t111 true))) = some r := H
       have A65 := Aside0.mk A650
       clear A650
       replace H := Option.bind_eq_some_iff.mp H
       obtain ⟨⟨t129, t130, t131⟩, A660, H⟩ := H
       replace H : (if t128 = true then (if t131 = true then (if t129 = t127 then (if t130 = t126 then ((laws_yMoved.f kj15 t115 4).bind fun t132 => (if t132.toList = t102.toList then ((laws_yMoved.f kj15 t111 3).bind fun t133 => (if t133.toList = t102.toList then ((laws_yMoved.f kj15 t111 4).bind fun t134 => (laws_FnTraysTurned.j1 kj15 l1 t102 t103 t107 t111 (t119.toList != t134.toList))) else (laws_FnTraysTurned.j1 kj15 l1 t102 t103 t107 t111 true))) else (laws_FnTraysTurned.j1 kj15 l1 t102 t103 t107 t111 true))) else (laws_FnTraysTurned.j1 kj15 l1 t102 t103 t107 t111 true)) else (laws_FnTraysTurned.j1 kj15 l1 t102 t103 t107 t111 true)) else (laws_FnTraysTurned.j1 kj15 l1 t102 t103 t107 t111 true)) else (laws_FnTraysTurned.j1 kj15 l1 t102 t103 t107 t111 true)) = some r := H
       have A66 := Aside0.mk A660
       clear A660
       have HC67 := Aside0.mk H
       clear H
       go_upto_region 19 with (first | ((with_reducible refine gate_callee (f := 20) rfl ?_); refine goesL_ (some 199) rfl rfl Tryz.func20 (by kernel_rfl) rfl #[.string t102] rfl aq1 ?_; (with_reducible refine (impl_SizeOf.calls kj15 t102 t126 t127 t128 _ A65.out).mono ?_); rintro e w68 ⟨rfl, hb⟩; refine ⟨_, rfl, ?_⟩; have n0_ := Aside0.mk (below_step aq0 hb); clear HB; have HB := n0_; clear n0_; (try clear hb); (try clear hb2); (try clear hk); (try clear hi)) | ((with_reducible refine gate_callee (f := 20) rfl ?_); refine goesL_ (some 205) rfl rfl Tryz.func20 (by kernel_rfl) rfl #[.string t111] rfl aq1 ?_; (with_reducible refine (impl_SizeOf.calls kj15 t111 t129 t130 t131 _ A66.out).mono ?_); rintro e w69 ⟨rfl, hb⟩; refine ⟨_, rfl, ?_⟩; have n0_ := Aside0.mk (below_step aq0 hb); clear HB; have HB := n0_; clear n0_; (try clear hb); (try clear hb2); (try clear hk); (try clear hi)))
       (try simp only [Act.put, List.setIfInBounds_toArray, List.set_cons_zero, List.set_cons_succ])
       go_cut [242] (fun v242 wc => ∃ (kq : Nat) (x242_66 : Bool), v242 = .bool x242_66 ∧ Aside0 (laws_FnTraysTurned.j1 kq l1 t102 t103 t107 t111 x242_66 = some r) ∧ Aside0 (kq ≤ kj15) ∧ Aside0 (Below w.heap.size w wc))
       case first => as_aux_lemma =>
        have H := HC67.out
        clear HC67
        by_cases c70 : t128 = true
        ·subst c70
         have H1 : (if t131 = true then (if t129 = t127 then (if t130 = t126 then ((laws_yMoved.f kj15 t115 4).bind fun t132 => (if t132.toList = t102.toList then ((laws_yMoved.f kj15 t111 3).bind fun t133 => (if t133.toList = t102.toList then ((laws_yMoved.f kj15 t111 4).bind fun t134 => (laws_FnTraysTurned.j1 kj15 l1 t102 t103 t107 t111 (t119.toList != t134.toList))) else (laws_FnTraysTurned.j1 kj15 l1 t102 t103 t107 t111 true))) else (laws_FnTraysTurned.j1 kj15 l1 t102 t103 t107 t111 true))) else (laws_FnTraysTurned.j1 kj15 l1 t102 t103 t107 t111 true)) else (laws_FnTraysTurned.j1 kj15 l1 t102 t103 t107 t111 true)) else (laws_FnTraysTurned.j1 kj15 l1 t102 t103 t107 t111 true)) = some r := by rw [if_pos rfl] at H; exact H
         clear H
         have H := H1
         clear H1
         by_cases c71 : t131 = true
         ·subst c71
          have H1 : (if t129 = t127 then (if t130 = t126 then ((laws_yMoved.f kj15 t115 4).bind fun t132 => (if t132.toList = t102.toList then ((laws_yMoved.f kj15 t111 3).bind fun t133 => (if t133.toList = t102.toList then ((laws_yMoved.f kj15 t111 4).bind fun t134 => (laws_FnTraysTurned.j1 kj15 l1 t102 t103 t107 t111 (t119.toList != t134.toList))) else (laws_FnTraysTurned.j1 kj15 l1 t102 t103 t107 t111 true))) else (laws_FnTraysTurned.j1 kj15 l1 t102 t103 t107 t111 true))) else (laws_FnTraysTurned.j1 kj15 l1 t102 t103 t107 t111 true)) else (laws_FnTraysTurned.j1 kj15 l1 t102 t103 t107 t111 true)) = some r := by rw [if_pos rfl] at H; exact H
          clear H
          have H := H1
          clear H1
          by_cases c72 : t129 = t127
          ·rw [if_pos c72] at H
           have c72b0 : (t129 == t127) = true := beq_iff_eq.mpr c72
           have c72b1 : (t129 != t127) = false := bne_eq_false_iff_eq.mpr c72
           clear c72
           (first | rw [c72b0] | (simp only [i64_w, i32_w]; rw [c72b0]) | skip)
           by_cases c73 : t130 = t126
           ·rw [if_pos c73] at H
            have c73b0 : (t130 == t126) = true := beq_iff_eq.mpr c73
            have c73b1 : (t130 != t126) = false := bne_eq_false_iff_eq.mpr c73
            clear c73
            replace H := Option.bind_eq_some_iff.mp H
            obtain ⟨t132, A740, H⟩ := H
            replace H : (if t132.toList = t102.toList then ((laws_yMoved.f kj15 t111 3).bind fun t133 => (if t133.toList = t102.toList then ((laws_yMoved.f kj15 t111 4).bind fun t134 => (laws_FnTraysTurned.j1 kj15 l1 t102 t103 t107 t111 (t119.toList != t134.toList))) else (laws_FnTraysTurned.j1 kj15 l1 t102 t103 t107 t111 true))) else (laws_FnTraysTurned.j1 kj15 l1 t102 t103 t107 t111 true)) = some r := H
            have A74 := Aside0.mk A740
            clear A740
            by_cases c75 : t132.toList = t102.toList
            ·rw [if_pos c75] at H
             have c75b0 : (t132.toList == t102.toList) = true := beq_iff_eq.mpr c75
             have c75b1 : (t132.toList != t102.toList) = false := bne_eq_false_iff_eq.mpr c75
             clear c75
             replace H := Option.bind_eq_some_iff.mp H
             obtain ⟨t133, A760, H⟩ := H
             replace H : (if t133.toList = t102.toList then ((laws_yMoved.f kj15 t111 4).bind fun t134 => (laws_FnTraysTurned.j1 kj15 l1 t102 t103 t107 t111 (t119.toList != t134.toList))) else (laws_FnTraysTurned.j1 kj15 l1 t102 t103 t107 t111 true)) = some r := H
             have A76 := Aside0.mk A760
             clear A760
             by_cases c77 : t133.toList = t102.toList
             ·rw [if_pos c77] at H
              have c77b0 : (t133.toList == t102.toList) = true := beq_iff_eq.mpr c77
              have c77b1 : (t133.toList != t102.toList) = false := bne_eq_false_iff_eq.mpr c77
              clear c77
              replace H := Option.bind_eq_some_iff.mp H
              obtain ⟨t134, A780, H⟩ := H
              replace H : (laws_FnTraysTurned.j1 kj15 l1 t102 t103 t107 t111 (t119.toList != t134.toList)) = some r := H
              have A78 := Aside0.mk A780
              clear A780
              have H' := Aside0.mk H
              clear H
              go_wp2_with (first | (go_at_call 21; (with_reducible refine (laws_yMoved.calls kj15 t115 4 t132 _ A74.out).mono ?_); rintro e w79 ⟨rfl, hb⟩; have n0_ := Aside0.mk (below_step aq0 hb); clear HB; have HB := n0_; clear n0_; (try clear hb); (try clear hb2); (try clear hk); (try clear hi); (try clear A74)) | (go_at_call 21; (with_reducible refine (laws_yMoved.calls kj15 t111 3 t133 _ A76.out).mono ?_); rintro e w80 ⟨rfl, hb⟩; have n0_ := Aside0.mk (below_step aq0 hb); clear HB; have HB := n0_; clear n0_; (try clear hb); (try clear hb2); (try clear hk); (try clear hi); (try clear A76)) | (go_at_call 21; (with_reducible refine (laws_yMoved.calls kj15 t111 4 t134 _ A78.out).mono ?_); rintro e w81 ⟨rfl, hb⟩; have n0_ := Aside0.mk (below_step aq0 hb); clear HB; have HB := n0_; clear n0_; (try clear hb); (try clear hb2); (try clear hk); (try clear hi); (try clear A78)))
              go_meet
              case rel => exact ⟨_, ((t119.toList != t134.toList)), aq11, H', ⟨by have := HJ15.out; first | omega | exact Nat.le_refl _⟩, ⟨aq0⟩⟩
             ·rw [if_neg c77] at H
              have c77b0 : (t133.toList == t102.toList) = false := beq_eq_false_iff_ne.mpr c77
              have c77b1 : (t133.toList != t102.toList) = true := bne_iff_ne.mpr c77
              exact absurd aq13 (show ¬ (r = false) by rw [HR_.out]; decide)
            ·rw [if_neg c75] at H
             have c75b0 : (t132.toList == t102.toList) = false := beq_eq_false_iff_ne.mpr c75
             have c75b1 : (t132.toList != t102.toList) = true := bne_iff_ne.mpr c75
             exact absurd aq13 (show ¬ (r = false) by rw [HR_.out]; decide)
           ·rw [if_neg c73] at H
            have c73b0 : (t130 == t126) = false := beq_eq_false_iff_ne.mpr c73
            have c73b1 : (t130 != t126) = true := bne_iff_ne.mpr c73
            exact absurd aq13 (show ¬ (r = false) by rw [HR_.out]; decide)
          ·rw [if_neg c72] at H
           have c72b0 : (t129 == t127) = false := beq_eq_false_iff_ne.mpr c72
           have c72b1 : (t129 != t127) = true := bne_iff_ne.mpr c72
           (first | rw [c72b0] | (simp only [i64_w, i32_w]; rw [c72b0]) | skip)
           exact absurd aq13 (show ¬ (r = false) by rw [HR_.out]; decide)
         ·replace c71 := Bool.eq_false_iff.mpr c71
          subst c71
          have H1 : (laws_FnTraysTurned.j1 kj15 l1 t102 t103 t107 t111 true) = some r := by rw [if_neg (show ¬ (false = true) by decide)] at H; exact H
          clear H
          have H := H1
          clear H1
          exact absurd aq13 (show ¬ (r = false) by rw [HR_.out]; decide)
        ·replace c70 := Bool.eq_false_iff.mpr c70
         subst c70
         have H1 : (laws_FnTraysTurned.j1 kj15 l1 t102 t103 t107 t111 true) = some r := by rw [if_neg (show ¬ (false = true) by decide)] at H; exact H
         clear H
         have H := H1
         clear H1
         exact absurd aq13 (show ¬ (r = false) by rw [HR_.out]; decide)
       case rest => as_aux_lemma =>
        clear HC67
        try clear c1
        try clear c2
        try clear p2
        try clear c3
        try clear c4
        try clear c5
        try clear c6
        try clear c7
        try clear c8
        try clear c9
        try clear c10
        try clear c11
        try clear c12
        try clear c13
        try clear c14
        try clear c15
        try clear c16
        try clear c17
        try clear c20
        try clear c28
        try clear c28b0
        try clear c28b1
        try clear c28b2
        try clear c29
        try clear c29b0
        try clear c29b1
        try clear c30
        try clear c30b0
        try clear c30b1
        try clear c30b2
        try clear c31
        try clear c31b0
        try clear c31b1
        try clear c32
        try clear c32b0
        try clear c32b1
        try clear c32b2
        try clear c33
        try clear c33b0
        try clear c33b1
        try clear c34
        try clear c34b0
        try clear c34b1
        try clear c34b2
        try clear c35
        try clear c35b0
        try clear c35b1
        try clear c36
        try clear c36b0
        try clear c36b1
        try clear c36b2
        try clear c37
        try clear c37b0
        try clear c37b1
        try clear c39
        try clear c39b0
        try clear c39b1
        try clear c39b2
        try clear c43
        try clear c43b0
        try clear c43b1
        try clear c43b2
        try clear c47
        try clear c47b0
        try clear c47b1
        try clear c47b2
        try clear c51
        try clear c51b0
        try clear c51b1
        try clear c51b2
        try clear c55
        try clear c55b0
        try clear c55b1
        try clear c55b2
        try clear c62
        try clear c64
        try clear c70
        try clear c71
        try clear c72
        try clear c72b0
        try clear c72b1
        try clear c73
        try clear c73b0
        try clear c73b1
        try clear c75
        try clear c75b0
        try clear c75b1
        try clear c77
        try clear c77b0
        try clear c77b1
        try clear p2
        obtain ⟨kq, x242_66, rfl, HA, HJ66, HB⟩ := hcut
        cases kq with
        | zero => exact absurd HA.out (by simp [laws_FnTraysTurned.j1])
        | succ kj66 =>
         have H := HA.out
         clear HA
         simp only [laws_FnTraysTurned.j1] at H
         by_cases c85 : x242_66 = true
         ·subst c85
          have H1 : (some false) = some r := by rw [if_pos rfl] at H; exact H
          clear H
          have H := H1
          clear H1
          obtain rfl := Option.some.inj H
          go_wp2
          go_ret
          exact ⟨aq8, aq0⟩
         ·replace c85 := Bool.eq_false_iff.mpr c85
          subst c85
          have H1 : (laws_FnTraysTurned.l0 kj66 l1 t102 t103 t107 t111 0 false 0) = some r := by rw [if_neg (show ¬ (false = true) by decide)] at H; exact H
          clear H
          have H := H1
          clear H1
          have H' := Aside0.mk H
          clear H
          go_wp2
          go_loopg [32, 33, 34] kj66 (fun kq v32 v33 v34 w' => ∃ (x32_3 : Int) (x33_3 : Bool) (x34_3 : Int), v32 = .int .i64 x32_3 ∧ v33 = .bool x33_3 ∧ v34 = .int .i64 x34_3 ∧ Aside0 (laws_FnTraysTurned.l0 kq l1 t102 t103 t107 t111 x32_3 x33_3 x34_3 = some r) ∧ Aside0 (kq ≤ kj66) ∧ Aside0 (Below w.heap.size w w'))
          case atStart => exact ⟨(0), (false), (0), aq11, aq11, aq11, H', ⟨Nat.le_refl _⟩, ⟨aq0⟩⟩
          case round => as_aux_lemma =>
           clear H'
           try clear c1
           try clear c2
           try clear p2
           try clear c3
           try clear c4
           try clear c5
           try clear c6
           try clear c7
           try clear c8
           try clear c9
           try clear c10
           try clear c11
           try clear c12
           try clear c13
           try clear c14
           try clear c15
           try clear c16
           try clear c17
           try clear c20
           try clear c28
           try clear c28b0
           try clear c28b1
           try clear c28b2
           try clear c29
           try clear c29b0
           try clear c29b1
           try clear c30
           try clear c30b0
           try clear c30b1
           try clear c30b2
           try clear c31
           try clear c31b0
           try clear c31b1
           try clear c32
           try clear c32b0
           try clear c32b1
           try clear c32b2
           try clear c33
           try clear c33b0
           try clear c33b1
           try clear c34
           try clear c34b0
           try clear c34b1
           try clear c34b2
           try clear c35
           try clear c35b0
           try clear c35b1
           try clear c36
           try clear c36b0
           try clear c36b1
           try clear c36b2
           try clear c37
           try clear c37b0
           try clear c37b1
           try clear c39
           try clear c39b0
           try clear c39b1
           try clear c39b2
           try clear c43
           try clear c43b0
           try clear c43b1
           try clear c43b2
           try clear c47
           try clear c47b0
           try clear c47b1
           try clear c47b2
           try clear c51
           try clear c51b0
           try clear c51b1
           try clear c51b2
           try clear c55
           try clear c55b0
           try clear c55b1
           try clear c55b2
           try clear c62
           try clear c64
           try clear c70
           try clear c71
           try clear c72
           try clear c72b0
           try clear c72b1
           try clear c73
           try clear c73b0
           try clear c73b1
           try clear c75
           try clear c75b0
           try clear c75b1
           try clear c77
           try clear c77b0
           try clear c77b1
           try clear c85
           try clear p2
           obtain ⟨x32_3, x33_3, x34_3, rfl, rfl, rfl, HA, HK3, HB⟩ := hrel
           cases gk with
           | zero => exact absurd HA.out (by simp [laws_FnTraysTurned.l0])
           | succ k3 =>
            have H := HA.out
            clear HA
            simp only [laws_FnTraysTurned.l0] at H
            by_cases c86 : x34_3 < 8
            ·rw [if_pos c86] at H
             have c86b0 : decide (x34_3 < 8) = true := decide_eq_true c86
             clear c86
             replace H := Option.bind_eq_some_iff.mp H
             obtain ⟨t135, A870, H⟩ := H
             replace H : ((impl_LeastTray.f k3 t135).bind fun bt136 => (if bt136.2 = true then (if bt136.1.toList = t103.toList then (laws_FnTraysTurned.j3 k3 l1 t102 t103 t107 t111 x32_3 x33_3 x34_3 t135 (Op.bytesLess t135.toList t103.toList)) else (laws_FnTraysTurned.j3 k3 l1 t102 t103 t107 t111 x32_3 x33_3 x34_3 t135 true)) else (laws_FnTraysTurned.j3 k3 l1 t102 t103 t107 t111 x32_3 x33_3 x34_3 t135 true))) = some r := H
             have A87 := Aside0.mk A870
             clear A870
             replace H := Option.bind_eq_some_iff.mp H
             obtain ⟨⟨t136, t137⟩, A880, H⟩ := H
             replace H : (if t137 = true then (if t136.toList = t103.toList then (laws_FnTraysTurned.j3 k3 l1 t102 t103 t107 t111 x32_3 x33_3 x34_3 t135 (Op.bytesLess t135.toList t103.toList)) else (laws_FnTraysTurned.j3 k3 l1 t102 t103 t107 t111 x32_3 x33_3 x34_3 t135 true)) else (laws_FnTraysTurned.j3 k3 l1 t102 t103 t107 t111 x32_3 x33_3 x34_3 t135 true)) = some r := H
             have A88 := Aside0.mk A880
             clear A880
             have HC89 := Aside0.mk H
             clear H
             go_upto_region 28 with (first | ((with_reducible refine gate_callee (f := 21) rfl ?_); refine goesL_ (some 249) rfl rfl Tryz.func21 (by kernel_rfl) rfl #[.string t102, .int .i64 x34_3] rfl aq1 ?_; (with_reducible refine (laws_yMoved.calls k3 t102 x34_3 t135 _ A87.out).mono ?_); rintro e w90 ⟨rfl, hb⟩; refine ⟨_, rfl, ?_⟩; have n0_ := Aside0.mk (below_step aq0 hb); clear HB; have HB := n0_; clear n0_; (try clear hb); (try clear hb2); (try clear hk); (try clear hi)) | ((with_reducible refine gate_callee (f := 8) rfl ?_); refine goesL_ (some 252) rfl rfl Tryz.func8 (by kernel_rfl) rfl #[.string t135] rfl aq1 ?_; (with_reducible refine (impl_LeastTray.calls k3 t135 t136 t137 _ A88.out).mono ?_); rintro e w91 ⟨rfl, hb⟩; refine ⟨_, rfl, ?_⟩; have n0_ := Aside0.mk (below_step aq0 hb); clear HB; have HB := n0_; clear n0_; (try clear hb); (try clear hb2); (try clear hk); (try clear hi)))
             (try simp only [Act.put, List.setIfInBounds_toArray, List.set_cons_zero, List.set_cons_succ])
             go_cut [266] (fun v266 wc => ∃ (kq : Nat) (x266_88 : Bool), v266 = .bool x266_88 ∧ Aside0 (laws_FnTraysTurned.j3 kq l1 t102 t103 t107 t111 x32_3 x33_3 x34_3 t135 x266_88 = some r) ∧ Aside0 (kq ≤ k3) ∧ Aside0 (Below w.heap.size w wc))
             case first => as_aux_lemma =>
              have H := HC89.out
              clear HC89
              by_cases c92 : t137 = true
              ·subst c92
               have H1 : (if t136.toList = t103.toList then (laws_FnTraysTurned.j3 k3 l1 t102 t103 t107 t111 x32_3 x33_3 x34_3 t135 (Op.bytesLess t135.toList t103.toList)) else (laws_FnTraysTurned.j3 k3 l1 t102 t103 t107 t111 x32_3 x33_3 x34_3 t135 true)) = some r := by rw [if_pos rfl] at H; exact H
               clear H
               have H := H1
               clear H1
               by_cases c93 : t136.toList = t103.toList
               ·rw [if_pos c93] at H
                have c93b0 : (t136.toList == t103.toList) = true := beq_iff_eq.mpr c93
                have c93b1 : (t136.toList != t103.toList) = false := bne_eq_false_iff_eq.mpr c93
                clear c93
                (first | rw [c93b0] | (simp only [i64_w, i32_w]; rw [c93b0]) | skip)
                have H' := Aside0.mk H
                clear H
                go_wp2
                go_meet
                case rel => exact ⟨_, ((Op.bytesLess t135.toList t103.toList)), aq11, H', ⟨by have := HJ15.out; have := HJ66.out; have := HK3.out; first | omega | exact Nat.le_refl _⟩, ⟨aq0⟩⟩
               ·rw [if_neg c93] at H
                have c93b0 : (t136.toList == t103.toList) = false := beq_eq_false_iff_ne.mpr c93
                have c93b1 : (t136.toList != t103.toList) = true := bne_iff_ne.mpr c93
                (first | rw [c93b0] | (simp only [i64_w, i32_w]; rw [c93b0]) | skip)
                exact absurd aq13 (show ¬ (r = false) by rw [HR_.out]; decide)
              ·replace c92 := Bool.eq_false_iff.mpr c92
               subst c92
               have H1 : (laws_FnTraysTurned.j3 k3 l1 t102 t103 t107 t111 x32_3 x33_3 x34_3 t135 true) = some r := by rw [if_neg (show ¬ (false = true) by decide)] at H; exact H
               clear H
               have H := H1
               clear H1
               exact absurd aq13 (show ¬ (r = false) by rw [HR_.out]; decide)
             case rest => as_aux_lemma =>
              clear HC89
              try clear c1
              try clear c2
              try clear p2
              try clear c3
              try clear c4
              try clear c5
              try clear c6
              try clear c7
              try clear c8
              try clear c9
              try clear c10
              try clear c11
              try clear c12
              try clear c13
              try clear c14
              try clear c15
              try clear c16
              try clear c17
              try clear c20
              try clear c21
              try clear c28
              try clear c28b0
              try clear c28b1
              try clear c28b2
              try clear c29
              try clear c29b0
              try clear c29b1
              try clear c30
              try clear c30b0
              try clear c30b1
              try clear c30b2
              try clear c31
              try clear c31b0
              try clear c31b1
              try clear c32
              try clear c32b0
              try clear c32b1
              try clear c32b2
              try clear c33
              try clear c33b0
              try clear c33b1
              try clear c34
              try clear c34b0
              try clear c34b1
              try clear c34b2
              try clear c35
              try clear c35b0
              try clear c35b1
              try clear c36
              try clear c36b0
              try clear c36b1
              try clear c36b2
              try clear c37
              try clear c37b0
              try clear c37b1
              try clear c39
              try clear c39b0
              try clear c39b1
              try clear c39b2
              try clear c43
              try clear c43b0
              try clear c43b1
              try clear c43b2
              try clear c47
              try clear c47b0
              try clear c47b1
              try clear c47b2
              try clear c51
              try clear c51b0
              try clear c51b1
              try clear c51b2
              try clear c55
              try clear c55b0
              try clear c55b1
              try clear c55b2
              try clear c62
              try clear c64
              try clear c70
              try clear c71
              try clear c72
              try clear c72b0
              try clear c72b1
              try clear c73
              try clear c73b0
              try clear c73b1
              try clear c75
              try clear c75b0
              try clear c75b1
              try clear c77
              try clear c77b0
              try clear c77b1
              try clear c85
              try clear c86
              try clear c86b0
              try clear c92
              try clear c93
              try clear c93b0
              try clear c93b1
              try clear p2
              obtain ⟨kq, x266_88, rfl, HA, HJ88, HB⟩ := hcut
              cases kq with
              | zero => exact absurd HA.out (by simp [laws_FnTraysTurned.j3])
              | succ kj88 =>
               have H := HA.out
               clear HA
               simp only [laws_FnTraysTurned.j3] at H
               by_cases c94 : x266_88 = true
               ·subst c94
                have H1 : (some false) = some r := by rw [if_pos rfl] at H; exact H
                clear H
                have H := H1
                clear H1
                obtain rfl := Option.some.inj H
                go_wp2
                go_ret
                exact ⟨aq8, aq0⟩
               ·replace c94 := Bool.eq_false_iff.mpr c94
                subst c94
                have H1 : (if x33_3 = true then (if t135.toList = t102.toList then (laws_FnTraysTurned.l0 kj88 l1 t102 t103 t107 t111 (wrap64 (x32_3 + 1)) true (wrap64 (x34_3 + 1))) else (laws_FnTraysTurned.l0 kj88 l1 t102 t103 t107 t111 x32_3 true (wrap64 (x34_3 + 1)))) else (if t135.toList = t102.toList then (laws_FnTraysTurned.l0 kj88 l1 t102 t103 t107 t111 (wrap64 (x32_3 + 1)) (t135.toList == t103.toList) (wrap64 (x34_3 + 1))) else (laws_FnTraysTurned.l0 kj88 l1 t102 t103 t107 t111 x32_3 (t135.toList == t103.toList) (wrap64 (x34_3 + 1))))) = some r := by rw [if_neg (show ¬ (false = true) by decide)] at H; exact H
                clear H
                have H := H1
                clear H1
                by_cases c95 : x33_3 = true
                ·subst c95
                 have H1 : (if t135.toList = t102.toList then (laws_FnTraysTurned.l0 kj88 l1 t102 t103 t107 t111 (wrap64 (x32_3 + 1)) true (wrap64 (x34_3 + 1))) else (laws_FnTraysTurned.l0 kj88 l1 t102 t103 t107 t111 x32_3 true (wrap64 (x34_3 + 1)))) = some r := by rw [if_pos rfl] at H; exact H
                 clear H
                 have H := H1
                 clear H1
                 by_cases c96 : t135.toList = t102.toList
                 ·rw [if_pos c96] at H
                  have c96b0 : (t135.toList == t102.toList) = true := beq_iff_eq.mpr c96
                  have c96b1 : (t135.toList != t102.toList) = false := bne_eq_false_iff_eq.mpr c96
                  clear c96
                  have H' := Aside0.mk H
                  clear H
                  go_wp2
                  go_roundg kj88
                  case measure => have := HJ15.out; have := HJ66.out; have := HK3.out; have := HJ88.out; omega
                  case rel => exact ⟨(wrap64 (x32_3 + 1)), (true), (wrap64 (x34_3 + 1)), aq11, aq11, aq11, H', ⟨aq87⟩, ⟨aq0⟩⟩
                 ·rw [if_neg c96] at H
                  have c96b0 : (t135.toList == t102.toList) = false := beq_eq_false_iff_ne.mpr c96
                  have c96b1 : (t135.toList != t102.toList) = true := bne_iff_ne.mpr c96
                  have H' := Aside0.mk H
                  clear H
                  go_wp2
                  go_roundg kj88
                  case measure => have := HJ15.out; have := HJ66.out; have := HK3.out; have := HJ88.out; omega
                  case rel => exact ⟨(x32_3), (true), (wrap64 (x34_3 + 1)), aq11, aq11, aq11, H', ⟨aq87⟩, ⟨aq0⟩⟩
                ·replace c95 := Bool.eq_false_iff.mpr c95
                 subst c95
                 have H1 : (if t135.toList = t102.toList then (laws_FnTraysTurned.l0 kj88 l1 t102 t103 t107 t111 (wrap64 (x32_3 + 1)) (t135.toList == t103.toList) (wrap64 (x34_3 + 1))) else (laws_FnTraysTurned.l0 kj88 l1 t102 t103 t107 t111 x32_3 (t135.toList == t103.toList) (wrap64 (x34_3 + 1)))) = some r := by rw [if_neg (show ¬ (false = true) by decide)] at H; exact H
                 clear H
                 have H := H1
                 clear H1
                 by_cases c97 : t135.toList = t102.toList
                 ·rw [if_pos c97] at H
                  have c97b0 : (t135.toList == t102.toList) = true := beq_iff_eq.mpr c97
                  have c97b1 : (t135.toList != t102.toList) = false := bne_eq_false_iff_eq.mpr c97
                  clear c97
                  have H' := Aside0.mk H
                  clear H
                  go_wp2
                  go_roundg kj88
                  case measure => have := HJ15.out; have := HJ66.out; have := HK3.out; have := HJ88.out; omega
                  case rel => exact ⟨(wrap64 (x32_3 + 1)), ((t135.toList == t103.toList)), (wrap64 (x34_3 + 1)), aq11, aq11, aq11, H', ⟨aq87⟩, ⟨aq0⟩⟩
                 ·rw [if_neg c97] at H
                  have c97b0 : (t135.toList == t102.toList) = false := beq_eq_false_iff_ne.mpr c97
                  have c97b1 : (t135.toList != t102.toList) = true := bne_iff_ne.mpr c97
                  have H' := Aside0.mk H
                  clear H
                  go_wp2
                  go_roundg kj88
                  case measure => have := HJ15.out; have := HJ66.out; have := HK3.out; have := HJ88.out; omega
                  case rel => exact ⟨(x32_3), ((t135.toList == t103.toList)), (wrap64 (x34_3 + 1)), aq11, aq11, aq11, H', ⟨aq87⟩, ⟨aq0⟩⟩
            ·rw [if_neg c86] at H
             have c86b0 : decide (x34_3 < 8) = false := decide_eq_false c86
             clear c86
             have HC98 := Aside0.mk H
             clear H
             go_upto_region 33 with (fail)
             go_cut [289] (fun v289 wc => ∃ (kq : Nat) (x289_97 : Bool), v289 = .bool x289_97 ∧ Aside0 (laws_FnTraysTurned.j4 kq l1 t102 t111 x289_97 = some r) ∧ Aside0 (kq ≤ k3) ∧ Aside0 (Below w.heap.size w wc))
             case first => as_aux_lemma =>
              have H := HC98.out
              clear HC98
              by_cases c99 : x33_3 = true
              ·subst c99
               have H1 : (if x32_3 = t107 then (if t107 = 0 then (none) else (laws_FnTraysTurned.j4 k3 l1 t102 t111 (((8 : Int) % t107) != 0))) else (laws_FnTraysTurned.j4 k3 l1 t102 t111 true)) = some r := by rw [if_pos rfl] at H; exact H
               clear H
               have H := H1
               clear H1
               by_cases c100 : x32_3 = t107
               ·rw [if_pos c100] at H
                have c100b0 : (x32_3 == t107) = true := beq_iff_eq.mpr c100
                have c100b1 : (x32_3 != t107) = false := bne_eq_false_iff_eq.mpr c100
                clear c100
                (first | rw [c100b0] | (simp only [i64_w, i32_w]; rw [c100b0]) | skip)
                by_cases c101 : t107 = 0
                ·rw [if_pos c101] at H
                 exact absurd H (by simp)
                ·rw [if_neg c101] at H
                 have c101b0 : (t107 == 0) = false := beq_eq_false_iff_ne.mpr c101
                 have c101b1 : (t107 != 0) = true := bne_iff_ne.mpr c101
                 have H' := Aside0.mk H
                 clear H
                 go_wp2
                 go_meet
                 case rel => exact ⟨_, ((((8 : Int) % t107) != 0)), aq11, H', ⟨by have := HJ15.out; have := HJ66.out; have := HK3.out; first | omega | exact Nat.le_refl _⟩, ⟨aq0⟩⟩
               ·rw [if_neg c100] at H
                have c100b0 : (x32_3 == t107) = false := beq_eq_false_iff_ne.mpr c100
                have c100b1 : (x32_3 != t107) = true := bne_iff_ne.mpr c100
                (first | rw [c100b0] | (simp only [i64_w, i32_w]; rw [c100b0]) | skip)
                exact absurd aq13 (show ¬ (r = false) by rw [HR_.out]; decide)
              ·replace c99 := Bool.eq_false_iff.mpr c99
               subst c99
               have H1 : (laws_FnTraysTurned.j4 k3 l1 t102 t111 true) = some r := by rw [if_neg (show ¬ (false = true) by decide)] at H; exact H
               clear H
               have H := H1
               clear H1
               exact absurd aq13 (show ¬ (r = false) by rw [HR_.out]; decide)
             case rest => as_aux_lemma =>
              clear HC98
              try clear c1
              try clear c2
              try clear p2
              try clear c3
              try clear c4
              try clear c5
              try clear c6
              try clear p6
              try clear c7
              try clear c8
              try clear c9
              try clear c10
              try clear c11
              try clear c12
              try clear c13
              try clear c14
              try clear c15
              try clear c16
              try clear c17
              try clear c20
              try clear c21
              try clear c28
              try clear c28b0
              try clear c28b1
              try clear c28b2
              try clear c29
              try clear c29b0
              try clear c29b1
              try clear c30
              try clear c30b0
              try clear c30b1
              try clear c30b2
              try clear c31
              try clear c31b0
              try clear c31b1
              try clear c32
              try clear c32b0
              try clear c32b1
              try clear c32b2
              try clear c33
              try clear c33b0
              try clear c33b1
              try clear c34
              try clear c34b0
              try clear c34b1
              try clear c34b2
              try clear c35
              try clear c35b0
              try clear c35b1
              try clear c36
              try clear c36b0
              try clear c36b1
              try clear c36b2
              try clear c37
              try clear c37b0
              try clear c37b1
              try clear c39
              try clear c39b0
              try clear c39b1
              try clear c39b2
              try clear c43
              try clear c43b0
              try clear c43b1
              try clear c43b2
              try clear c47
              try clear c47b0
              try clear c47b1
              try clear c47b2
              try clear c51
              try clear c51b0
              try clear c51b1
              try clear c51b2
              try clear c55
              try clear c55b0
              try clear c55b1
              try clear c55b2
              try clear c62
              try clear c64
              try clear p64
              try clear c70
              try clear c71
              try clear c72
              try clear c72b0
              try clear c72b1
              try clear c73
              try clear c73b0
              try clear c73b1
              try clear c75
              try clear c75b0
              try clear c75b1
              try clear c77
              try clear c77b0
              try clear c77b1
              try clear c85
              try clear c86
              try clear c86b0
              try clear c92
              try clear c93
              try clear c93b0
              try clear c93b1
              try clear c94
              try clear c95
              try clear c96
              try clear c96b0
              try clear c96b1
              try clear c97
              try clear c97b0
              try clear c97b1
              try clear c99
              try clear c100
              try clear c100b0
              try clear c100b1
              try clear c101
              try clear c101b0
              try clear c101b1
              try clear p2
              obtain ⟨kq, x289_97, rfl, HA, HJ97, HB⟩ := hcut
              cases kq with
              | zero => exact absurd HA.out (by simp [laws_FnTraysTurned.j4])
              | succ kj97 =>
               have H := HA.out
               clear HA
               simp only [laws_FnTraysTurned.j4] at H
               by_cases c102 : x289_97 = true
               ·subst c102
                have H1 : (some false) = some r := by rw [if_pos rfl] at H; exact H
                clear H
                have H := H1
                clear H1
                obtain rfl := Option.some.inj H
                go_wp2
                go_ret
                exact ⟨aq8, aq0⟩
               ·replace c102 := Bool.eq_false_iff.mpr c102
                subst c102
                have H1 : ((some (([(⟨#[35]⟩ : ByteArray), (⟨#[46]⟩ : ByteArray), (⟨#[111]⟩ : ByteArray), (⟨#[97]⟩ : ByteArray)] : List ByteArray) : List ByteArray)).bind fun y138 => (laws_FnTraysTurned.l1 kj97 l1 t102 t111 y138 (y138.length : Int) 0)) = some r := by rw [if_neg (show ¬ (false = true) by decide)] at H; exact H
                clear H
                have H := H1
                clear H1
                obtain ⟨y138, hy138⟩ : ∃ y_ : List ByteArray, y_ = (([(⟨#[35]⟩ : ByteArray), (⟨#[46]⟩ : ByteArray), (⟨#[111]⟩ : ByteArray), (⟨#[97]⟩ : ByteArray)] : List ByteArray)) := ⟨_, rfl⟩
                replace H : (laws_FnTraysTurned.l1 kj97 l1 t102 t111 y138 (y138.length : Int) 0) = some r := by first | (rw [hy138]; with_reducible exact H) | (have H2_ := (Option.bind_some _ _).symm.trans H; rw [hy138]; with_reducible exact H2_) | (have H2_ := (Option.bind_some _ _).symm.trans H; with_reducible exact H2_) | with_reducible exact H | (rw [hy138]; exact H) | exact H
                have Ny138 := Aside0.mk hy138
                clear hy138
                have H' := Aside0.mk H
                clear H
                go_wp2_with (first | ((with_reducible refine gate_dst (N := 290) rfl ?_); refine Kd.R_lit Kd.string _ 9 ?hg (N := 290) ?hd (xs := ([(⟨#[35]⟩ : ByteArray), (⟨#[46]⟩ : ByteArray), (⟨#[111]⟩ : ByteArray), (⟨#[97]⟩ : ByteArray)] : List ByteArray)) (inner := [.string (⟨#[35]⟩ : ByteArray), .string (⟨#[46]⟩ : ByteArray), .string (⟨#[111]⟩ : ByteArray), .string (⟨#[97]⟩ : ByteArray)]) (ok := fun _ => True) (okp := fun _ => True) ?hr ?hp (fun _ hk => hk) trivial (Below.refl _ _) (Nat.le_refl _) (by simp) ?_; (case hd => rfl); (case hg => rfl); (case hr => exact aq23); (case hp => exact (Reps.one (show Kd.M Kd.string _ _ _ (⟨#[35]⟩ : ByteArray) [.string (⟨#[35]⟩ : ByteArray)] from rfl) (Reps.one (show Kd.M Kd.string _ _ _ (⟨#[46]⟩ : ByteArray) [.string (⟨#[46]⟩ : ByteArray)] from rfl) (Reps.one (show Kd.M Kd.string _ _ _ (⟨#[111]⟩ : ByteArray) [.string (⟨#[111]⟩ : ByteArray)] from rfl) (Reps.one (show Kd.M Kd.string _ _ _ (⟨#[97]⟩ : ByteArray) [.string (⟨#[97]⟩ : ByteArray)] from rfl) (Reps.none _ _)))))); intro v139 w103 ho104 hb hg_ hnew_; clear hg_ hnew_; (first | rw [← Ny138.out] at ho104 | (simp only [Int.reduceToNat] at ho104; rw [← Ny138.out] at ho104)); have n0_ := Aside0.mk (Kd.R_lower ho104 (below_size aq0)); have n1_ := Aside0.mk (below_step aq0 hb); clear HB; have HO140 := n0_; have HB := n1_; clear n0_ n1_; clear hb ho104; obtain ⟨Ao105, co105, eo105⟩ := Kd.R_slice HO140.out; subst eo105))
                go_loopg [292] kj97 (fun kq v292 w' => ∃ (x292_5 : Int), v292 = .int .i64 x292_5 ∧ Aside0 (laws_FnTraysTurned.l1 kq l1 t102 t111 y138 (y138.length : Int) x292_5 = some r) ∧ Aside0 (kq ≤ kj97) ∧ Aside0 (Kd.R Kd.string 9 w' w.heap.size (fun _ => True) (.slice Ao105 y138.length co105) y138) ∧ Aside0 (Below w.heap.size w w'))
                case atStart => exact ⟨(0), aq11, H', ⟨Nat.le_refl _⟩, ⟨by (with_reducible repeat (first | apply Kd.R_alloc | apply Kd.R_drewN | apply Kd.R_drew)); exact HO140.out⟩, ⟨aq0⟩⟩
                case round => as_aux_lemma =>
                 clear H'
                 try clear c1
                 try clear c2
                 try clear p2
                 try clear c3
                 try clear c4
                 try clear c5
                 try clear c6
                 try clear p6
                 try clear c7
                 try clear c8
                 try clear c9
                 try clear c10
                 try clear c11
                 try clear c12
                 try clear c13
                 try clear c14
                 try clear c15
                 try clear c16
                 try clear c17
                 try clear c20
                 try clear c21
                 try clear c28
                 try clear c28b0
                 try clear c28b1
                 try clear c28b2
                 try clear c29
                 try clear c29b0
                 try clear c29b1
                 try clear c30
                 try clear c30b0
                 try clear c30b1
                 try clear c30b2
                 try clear c31
                 try clear c31b0
                 try clear c31b1
                 try clear c32
                 try clear c32b0
                 try clear c32b1
                 try clear c32b2
                 try clear c33
                 try clear c33b0
                 try clear c33b1
                 try clear c34
                 try clear c34b0
                 try clear c34b1
                 try clear c34b2
                 try clear c35
                 try clear c35b0
                 try clear c35b1
                 try clear c36
                 try clear c36b0
                 try clear c36b1
                 try clear c36b2
                 try clear c37
                 try clear c37b0
                 try clear c37b1
                 try clear c39
                 try clear c39b0
                 try clear c39b1
                 try clear c39b2
                 try clear c43
                 try clear c43b0
                 try clear c43b1
                 try clear c43b2
                 try clear c47
                 try clear c47b0
                 try clear c47b1
                 try clear c47b2
                 try clear c51
                 try clear c51b0
                 try clear c51b1
                 try clear c51b2
                 try clear c55
                 try clear c55b0
                 try clear c55b1
                 try clear c55b2
                 try clear c62
                 try clear c64
                 try clear p64
                 try clear c70
                 try clear c71
                 try clear c72
                 try clear c72b0
                 try clear c72b1
                 try clear c73
                 try clear c73b0
                 try clear c73b1
                 try clear c75
                 try clear c75b0
                 try clear c75b1
                 try clear c77
                 try clear c77b0
                 try clear c77b1
                 try clear c85
                 try clear c86
                 try clear c86b0
                 try clear c92
                 try clear c93
                 try clear c93b0
                 try clear c93b1
                 try clear c94
                 try clear c95
                 try clear c96
                 try clear c96b0
                 try clear c96b1
                 try clear c97
                 try clear c97b0
                 try clear c97b1
                 try clear c99
                 try clear c100
                 try clear c100b0
                 try clear c100b1
                 try clear c101
                 try clear c101b0
                 try clear c101b1
                 try clear c102
                 try clear p2
                 try clear p6
                 try clear p64
                 obtain ⟨x292_5, rfl, HA, HK5, HO_290, HB⟩ := hrel
                 cases gk with
                 | zero => exact absurd HA.out (by simp [laws_FnTraysTurned.l1])
                 | succ k5 =>
                  have H := HA.out
                  clear HA
                  simp only [laws_FnTraysTurned.l1] at H
                  by_cases c106 : x292_5 < (y138.length : Int)
                  ·rw [if_pos c106] at H
                   have c106b0 : decide (x292_5 < (y138.length : Int)) = true := decide_eq_true c106
                   clear c106
                   by_cases c107 : 0 ≤ x292_5
                   ·rw [if_pos c107] at H
                    have c107b0 : decide (0 ≤ x292_5) = true := decide_eq_true c107
                    clear c107
                    by_cases c108 : x292_5 < (y138.length : Int)
                    ·rw [if_pos c108] at H
                     have c108b0 : decide (x292_5 < (y138.length : Int)) = true := decide_eq_true c108
                     clear c108
                     replace H := Option.bind_eq_some_iff.mp H
                     obtain ⟨⟨t142, t143⟩, A1090, H⟩ := H
                     replace H : ((impl_CountCells.f k5 t111 (rdOf ByteArray.empty y138 x292_5)).bind fun bt144 => (if t143 = true then (if bt144.2 = true then (if t142 = bt144.1 then (laws_FnTraysTurned.l1 k5 l1 t102 t111 y138 (y138.length : Int) (wrap64 (x292_5 + 1))) else (some false)) else (some false)) else (some false))) = some r := H
                     have A109 := Aside0.mk A1090
                     clear A1090
                     replace H := Option.bind_eq_some_iff.mp H
                     obtain ⟨⟨t144, t145⟩, A1100, H⟩ := H
                     replace H : (if t143 = true then (if t145 = true then (if t142 = t144 then (laws_FnTraysTurned.l1 k5 l1 t102 t111 y138 (y138.length : Int) (wrap64 (x292_5 + 1))) else (some false)) else (some false)) else (some false)) = some r := H
                     have A110 := Aside0.mk A1100
                     clear A1100
                     by_cases c111 : t143 = true
                     ·subst c111
                      have H1 : (if t145 = true then (if t142 = t144 then (laws_FnTraysTurned.l1 k5 l1 t102 t111 y138 (y138.length : Int) (wrap64 (x292_5 + 1))) else (some false)) else (some false)) = some r := by rw [if_pos rfl] at H; exact H
                      clear H
                      have H := H1
                      clear H1
                      by_cases c112 : t145 = true
                      ·subst c112
                       have H1 : (if t142 = t144 then (laws_FnTraysTurned.l1 k5 l1 t102 t111 y138 (y138.length : Int) (wrap64 (x292_5 + 1))) else (some false)) = some r := by rw [if_pos rfl] at H; exact H
                       clear H
                       have H := H1
                       clear H1
                       by_cases c113 : t142 = t144
                       ·rw [if_pos c113] at H
                        have c113b0 : (t142 == t144) = true := beq_iff_eq.mpr c113
                        have c113b1 : (t142 != t144) = false := bne_eq_false_iff_eq.mpr c113
                        clear c113
                        have H' := Aside0.mk H
                        clear H
                        have p141 : 0 ≤ (x292_5 : Int) := of_decide_eq_true aq9
                        have q141 : x292_5 < (y138.length : Int) := of_decide_eq_true aq9
                        obtain ⟨ad141, e141, hx141_0⟩ := Kd.at_string (Kd.R_reads' HO_290.out).2.2 x292_5 p141 q141
                        cases e141
                        replace p141 := eq_true p141
                        replace q141 := eq_true q141
                        go_wp2_with (first | ((with_reducible refine gate_callee (f := 22) rfl ?_); refine goesL_ (some 299) rfl rfl Tryz.func22 (by kernel_rfl) rfl #[.string t102, .string (rdOf ByteArray.empty y138 x292_5)] rfl aq1 ?_; (with_reducible refine (impl_CountCells.calls k5 t102 (rdOf ByteArray.empty y138 x292_5) t142 true _ A109.out).mono ?_); rintro e w114 ⟨rfl, hb⟩; refine ⟨_, rfl, ?_⟩; have n0_ := Aside0.mk (Kd.R_below aq37 hb); have n1_ := Aside0.mk (below_step aq0 hb); clear HO_290; clear HB; have HO_290 := n0_; have HB := n1_; clear n0_ n1_; (try clear hb); (try clear hb2); (try clear hk); (try clear hi)) | ((with_reducible refine gate_callee (f := 22) rfl ?_); refine goesL_ (some 305) rfl rfl Tryz.func22 (by kernel_rfl) rfl #[.string t111, .string (rdOf ByteArray.empty y138 x292_5)] rfl aq1 ?_; (with_reducible refine (impl_CountCells.calls k5 t111 (rdOf ByteArray.empty y138 x292_5) t144 true _ A110.out).mono ?_); rintro e w115 ⟨rfl, hb⟩; refine ⟨_, rfl, ?_⟩; have n0_ := Aside0.mk (Kd.R_below aq37 hb); have n1_ := Aside0.mk (below_step aq0 hb); clear HO_290; clear HB; have HO_290 := n0_; have HB := n1_; clear n0_ n1_; (try clear hb); (try clear hb2); (try clear hk); (try clear hi)))
                        go_roundg k5
                        case measure => have := HJ15.out; have := HJ66.out; have := HK3.out; have := HJ97.out; have := HK5.out; omega
                        case rel => exact ⟨(wrap64 (x292_5 + 1)), aq11, H', ⟨by have := HJ15.out; have := HJ66.out; have := HK3.out; have := HJ97.out; have := HK5.out; omega⟩, ⟨aq37⟩, ⟨aq0⟩⟩
                       ·rw [if_neg c113] at H
                        have c113b0 : (t142 == t144) = false := beq_eq_false_iff_ne.mpr c113
                        have c113b1 : (t142 != t144) = true := bne_iff_ne.mpr c113
                        obtain rfl := Option.some.inj H
                        have p141 : 0 ≤ (x292_5 : Int) := of_decide_eq_true aq9
                        have q141 : x292_5 < (y138.length : Int) := of_decide_eq_true aq9
                        obtain ⟨ad141, e141, hx141_0⟩ := Kd.at_string (Kd.R_reads' HO_290.out).2.2 x292_5 p141 q141
                        cases e141
                        replace p141 := eq_true p141
                        replace q141 := eq_true q141
                        go_wp2_with (first | ((with_reducible refine gate_callee (f := 22) rfl ?_); refine goesL_ (some 299) rfl rfl Tryz.func22 (by kernel_rfl) rfl #[.string t102, .string (rdOf ByteArray.empty y138 x292_5)] rfl aq1 ?_; (with_reducible refine (impl_CountCells.calls k5 t102 (rdOf ByteArray.empty y138 x292_5) t142 true _ A109.out).mono ?_); rintro e w116 ⟨rfl, hb⟩; refine ⟨_, rfl, ?_⟩; have n0_ := Aside0.mk (Kd.R_below aq37 hb); have n1_ := Aside0.mk (below_step aq0 hb); clear HO_290; clear HB; have HO_290 := n0_; have HB := n1_; clear n0_ n1_; (try clear hb); (try clear hb2); (try clear hk); (try clear hi)) | ((with_reducible refine gate_callee (f := 22) rfl ?_); refine goesL_ (some 305) rfl rfl Tryz.func22 (by kernel_rfl) rfl #[.string t111, .string (rdOf ByteArray.empty y138 x292_5)] rfl aq1 ?_; (with_reducible refine (impl_CountCells.calls k5 t111 (rdOf ByteArray.empty y138 x292_5) t144 true _ A110.out).mono ?_); rintro e w117 ⟨rfl, hb⟩; refine ⟨_, rfl, ?_⟩; have n0_ := Aside0.mk (Kd.R_below aq37 hb); have n1_ := Aside0.mk (below_step aq0 hb); clear HO_290; clear HB; have HO_290 := n0_; have HB := n1_; clear n0_ n1_; (try clear hb); (try clear hb2); (try clear hk); (try clear hi)))
                        go_ret
                        exact ⟨aq8, aq0⟩
                      ·replace c112 := Bool.eq_false_iff.mpr c112
                       subst c112
                       have H1 : (some false) = some r := by rw [if_neg (show ¬ (false = true) by decide)] at H; exact H
                       clear H
                       have H := H1
                       clear H1
                       obtain rfl := Option.some.inj H
                       have p141 : 0 ≤ (x292_5 : Int) := of_decide_eq_true aq9
                       have q141 : x292_5 < (y138.length : Int) := of_decide_eq_true aq9
                       obtain ⟨ad141, e141, hx141_0⟩ := Kd.at_string (Kd.R_reads' HO_290.out).2.2 x292_5 p141 q141
                       cases e141
                       replace p141 := eq_true p141
                       replace q141 := eq_true q141
                       go_wp2_with (first | ((with_reducible refine gate_callee (f := 22) rfl ?_); refine goesL_ (some 299) rfl rfl Tryz.func22 (by kernel_rfl) rfl #[.string t102, .string (rdOf ByteArray.empty y138 x292_5)] rfl aq1 ?_; (with_reducible refine (impl_CountCells.calls k5 t102 (rdOf ByteArray.empty y138 x292_5) t142 true _ A109.out).mono ?_); rintro e w118 ⟨rfl, hb⟩; refine ⟨_, rfl, ?_⟩; have n0_ := Aside0.mk (Kd.R_below aq37 hb); have n1_ := Aside0.mk (below_step aq0 hb); clear HO_290; clear HB; have HO_290 := n0_; have HB := n1_; clear n0_ n1_; (try clear hb); (try clear hb2); (try clear hk); (try clear hi)) | ((with_reducible refine gate_callee (f := 22) rfl ?_); refine goesL_ (some 305) rfl rfl Tryz.func22 (by kernel_rfl) rfl #[.string t111, .string (rdOf ByteArray.empty y138 x292_5)] rfl aq1 ?_; (with_reducible refine (impl_CountCells.calls k5 t111 (rdOf ByteArray.empty y138 x292_5) t144 false _ A110.out).mono ?_); rintro e w119 ⟨rfl, hb⟩; refine ⟨_, rfl, ?_⟩; have n0_ := Aside0.mk (Kd.R_below aq37 hb); have n1_ := Aside0.mk (below_step aq0 hb); clear HO_290; clear HB; have HO_290 := n0_; have HB := n1_; clear n0_ n1_; (try clear hb); (try clear hb2); (try clear hk); (try clear hi)))
                       go_ret
                       exact ⟨aq8, aq0⟩
                     ·replace c111 := Bool.eq_false_iff.mpr c111
                      subst c111
                      have H1 : (some false) = some r := by rw [if_neg (show ¬ (false = true) by decide)] at H; exact H
                      clear H
                      have H := H1
                      clear H1
                      obtain rfl := Option.some.inj H
                      have p141 : 0 ≤ (x292_5 : Int) := of_decide_eq_true aq9
                      have q141 : x292_5 < (y138.length : Int) := of_decide_eq_true aq9
                      obtain ⟨ad141, e141, hx141_0⟩ := Kd.at_string (Kd.R_reads' HO_290.out).2.2 x292_5 p141 q141
                      cases e141
                      replace p141 := eq_true p141
                      replace q141 := eq_true q141
                      go_wp2_with (first | ((with_reducible refine gate_callee (f := 22) rfl ?_); refine goesL_ (some 299) rfl rfl Tryz.func22 (by kernel_rfl) rfl #[.string t102, .string (rdOf ByteArray.empty y138 x292_5)] rfl aq1 ?_; (with_reducible refine (impl_CountCells.calls k5 t102 (rdOf ByteArray.empty y138 x292_5) t142 false _ A109.out).mono ?_); rintro e w120 ⟨rfl, hb⟩; refine ⟨_, rfl, ?_⟩; have n0_ := Aside0.mk (Kd.R_below aq37 hb); have n1_ := Aside0.mk (below_step aq0 hb); clear HO_290; clear HB; have HO_290 := n0_; have HB := n1_; clear n0_ n1_; (try clear hb); (try clear hb2); (try clear hk); (try clear hi)) | ((with_reducible refine gate_callee (f := 22) rfl ?_); refine goesL_ (some 305) rfl rfl Tryz.func22 (by kernel_rfl) rfl #[.string t111, .string (rdOf ByteArray.empty y138 x292_5)] rfl aq1 ?_; (with_reducible refine (impl_CountCells.calls k5 t111 (rdOf ByteArray.empty y138 x292_5) t144 t145 _ A110.out).mono ?_); rintro e w121 ⟨rfl, hb⟩; refine ⟨_, rfl, ?_⟩; have n0_ := Aside0.mk (Kd.R_below aq37 hb); have n1_ := Aside0.mk (below_step aq0 hb); clear HO_290; clear HB; have HO_290 := n0_; have HB := n1_; clear n0_ n1_; (try clear hb); (try clear hb2); (try clear hk); (try clear hi)))
                      go_ret
                      exact ⟨aq8, aq0⟩
                    ·rw [if_neg c108] at H
                     exact absurd H (by simp)
                   ·rw [if_neg c107] at H
                    exact absurd H (by simp)
                  ·rw [if_neg c106] at H
                   have c106b0 : decide (x292_5 < (y138.length : Int)) = false := decide_eq_false c106
                   clear c106
                   have H' := Aside0.mk H
                   clear H
                   go_wp2
                   go_meet
                   case rel => exact ⟨_, H', ⟨by have := HJ15.out; have := HJ66.out; have := HK3.out; have := HJ97.out; have := HK5.out; first | omega | exact Nat.le_refl _⟩, ⟨aq0⟩⟩
      ·replace c64 := Bool.eq_false_iff.mpr c64
       subst c64
       have H1 : (laws_FnTraysTurned.j6 kj15 l1) = some r := by rw [if_neg (show ¬ (false = true) by decide)] at H; exact H
       clear H
       have H := H1
       clear H1
       have H' := Aside0.mk H
       clear H
       go_wp2
       go_meet
       case rel => exact ⟨_, H', ⟨by have := HJ15.out; first | omega | exact Nat.le_refl _⟩, ⟨aq0⟩⟩
     case rest => as_aux_lemma =>
      clear HC63
      try clear c1
      try clear p1
      try clear q1
      try clear hx1
      try clear c2
      try clear p2
      try clear c3
      try clear c4
      try clear c5
      try clear c6
      try clear p6
      try clear c7
      try clear c8
      try clear c9
      try clear c10
      try clear c11
      try clear c12
      try clear c13
      try clear c14
      try clear p14
      try clear q14
      try clear hx14
      try clear c15
      try clear c16
      try clear c17
      try clear c20
      try clear c21
      try clear c22
      try clear c28
      try clear c28b0
      try clear c28b1
      try clear c28b2
      try clear c29
      try clear c29b0
      try clear c29b1
      try clear c30
      try clear c30b0
      try clear c30b1
      try clear c30b2
      try clear c31
      try clear c31b0
      try clear c31b1
      try clear c32
      try clear c32b0
      try clear c32b1
      try clear c32b2
      try clear c33
      try clear c33b0
      try clear c33b1
      try clear c34
      try clear c34b0
      try clear c34b1
      try clear c34b2
      try clear c35
      try clear c35b0
      try clear c35b1
      try clear c36
      try clear c36b0
      try clear c36b1
      try clear c36b2
      try clear c37
      try clear c37b0
      try clear c37b1
      try clear c39
      try clear c39b0
      try clear c39b1
      try clear c39b2
      try clear c43
      try clear c43b0
      try clear c43b1
      try clear c43b2
      try clear c47
      try clear c47b0
      try clear c47b1
      try clear c47b2
      try clear c51
      try clear c51b0
      try clear c51b1
      try clear c51b2
      try clear c55
      try clear c55b0
      try clear c55b1
      try clear c55b2
      try clear c62
      try clear c64
      try clear p64
      try clear c70
      try clear c71
      try clear c72
      try clear c72b0
      try clear c72b1
      try clear c73
      try clear c73b0
      try clear c73b1
      try clear c75
      try clear c75b0
      try clear c75b1
      try clear c77
      try clear c77b0
      try clear c77b1
      try clear c85
      try clear c86
      try clear c86b0
      try clear c92
      try clear c93
      try clear c93b0
      try clear c93b1
      try clear c94
      try clear c95
      try clear c96
      try clear c96b0
      try clear c96b1
      try clear c97
      try clear c97b0
      try clear c97b1
      try clear c99
      try clear c100
      try clear c100b0
      try clear c100b1
      try clear c101
      try clear c101b0
      try clear c101b1
      try clear c102
      try clear c106
      try clear c106b0
      try clear c107
      try clear c107b0
      try clear c108
      try clear c108b0
      try clear c111
      try clear c112
      try clear c113
      try clear c113b0
      try clear c113b1
      try clear hx141_0
      try clear p141
      try clear p2
      try clear p6
      try clear p64
      try clear q141
      obtain ⟨kq, HA, HJ62, HB⟩ := hcut
      cases kq with
      | zero => exact absurd HA.out (by simp [laws_FnTraysTurned.j6])
      | succ kj62 =>
       have H := HA.out
       clear HA
       simp only [laws_FnTraysTurned.j6] at H
       replace H := Option.bind_eq_some_iff.mp H
       obtain ⟨⟨t146, t147⟩, A1220, H⟩ := H
       replace H : ((impl_CountCells.f kj62 t146 t147).bind fun bt148 => ((spec_CountCells.f kj62 t146 t147).bind fun bt150 => ((spec_DrawPlaceOf.f kj62 l1).bind fun bt152 => ((impl_PlaceOf.f kj62 bt152.1 bt152.2).bind fun bt154 => ((spec_PlaceOf.f kj62 bt152.1 bt152.2).bind fun bt157 => (if (bt148.2 != bt150.2) = true then (laws_FnTraysTurned.j7 kj62 bt152.1 bt152.2 bt154.1 bt154.2.1 bt154.2.2 true) else (if bt148.1 = bt150.1 then (if (bt154.2.2 != bt157.2.2) = true then (laws_FnTraysTurned.j7 kj62 bt152.1 bt152.2 bt154.1 bt154.2.1 bt154.2.2 true) else (if bt154.1 = bt157.1 then (laws_FnTraysTurned.j7 kj62 bt152.1 bt152.2 bt154.1 bt154.2.1 bt154.2.2 (bt154.2.1 != bt157.2.1)) else (laws_FnTraysTurned.j7 kj62 bt152.1 bt152.2 bt154.1 bt154.2.1 bt154.2.2 true))) else (laws_FnTraysTurned.j7 kj62 bt152.1 bt152.2 bt154.1 bt154.2.1 bt154.2.2 true)))))))) = some r := H
       have A122 := Aside0.mk A1220
       clear A1220
       replace H := Option.bind_eq_some_iff.mp H
       obtain ⟨⟨t148, t149⟩, A1230, H⟩ := H
       replace H : ((spec_CountCells.f kj62 t146 t147).bind fun bt150 => ((spec_DrawPlaceOf.f kj62 l1).bind fun bt152 => ((impl_PlaceOf.f kj62 bt152.1 bt152.2).bind fun bt154 => ((spec_PlaceOf.f kj62 bt152.1 bt152.2).bind fun bt157 => (if (t149 != bt150.2) = true then (laws_FnTraysTurned.j7 kj62 bt152.1 bt152.2 bt154.1 bt154.2.1 bt154.2.2 true) else (if t148 = bt150.1 then (if (bt154.2.2 != bt157.2.2) = true then (laws_FnTraysTurned.j7 kj62 bt152.1 bt152.2 bt154.1 bt154.2.1 bt154.2.2 true) else (if bt154.1 = bt157.1 then (laws_FnTraysTurned.j7 kj62 bt152.1 bt152.2 bt154.1 bt154.2.1 bt154.2.2 (bt154.2.1 != bt157.2.1)) else (laws_FnTraysTurned.j7 kj62 bt152.1 bt152.2 bt154.1 bt154.2.1 bt154.2.2 true))) else (laws_FnTraysTurned.j7 kj62 bt152.1 bt152.2 bt154.1 bt154.2.1 bt154.2.2 true))))))) = some r := H
       have A123 := Aside0.mk A1230
       clear A1230
       replace H := Option.bind_eq_some_iff.mp H
       obtain ⟨⟨t150, t151⟩, A1240, H⟩ := H
       replace H : ((spec_DrawPlaceOf.f kj62 l1).bind fun bt152 => ((impl_PlaceOf.f kj62 bt152.1 bt152.2).bind fun bt154 => ((spec_PlaceOf.f kj62 bt152.1 bt152.2).bind fun bt157 => (if (t149 != t151) = true then (laws_FnTraysTurned.j7 kj62 bt152.1 bt152.2 bt154.1 bt154.2.1 bt154.2.2 true) else (if t148 = t150 then (if (bt154.2.2 != bt157.2.2) = true then (laws_FnTraysTurned.j7 kj62 bt152.1 bt152.2 bt154.1 bt154.2.1 bt154.2.2 true) else (if bt154.1 = bt157.1 then (laws_FnTraysTurned.j7 kj62 bt152.1 bt152.2 bt154.1 bt154.2.1 bt154.2.2 (bt154.2.1 != bt157.2.1)) else (laws_FnTraysTurned.j7 kj62 bt152.1 bt152.2 bt154.1 bt154.2.1 bt154.2.2 true))) else (laws_FnTraysTurned.j7 kj62 bt152.1 bt152.2 bt154.1 bt154.2.1 bt154.2.2 true)))))) = some r := H
       have A124 := Aside0.mk A1240
       clear A1240
       replace H := Option.bind_eq_some_iff.mp H
       obtain ⟨⟨t152, t153⟩, A1250, H⟩ := H
       replace H : ((impl_PlaceOf.f kj62 t152 t153).bind fun bt154 => ((spec_PlaceOf.f kj62 t152 t153).bind fun bt157 => (if (t149 != t151) = true then (laws_FnTraysTurned.j7 kj62 t152 t153 bt154.1 bt154.2.1 bt154.2.2 true) else (if t148 = t150 then (if (bt154.2.2 != bt157.2.2) = true then (laws_FnTraysTurned.j7 kj62 t152 t153 bt154.1 bt154.2.1 bt154.2.2 true) else (if bt154.1 = bt157.1 then (laws_FnTraysTurned.j7 kj62 t152 t153 bt154.1 bt154.2.1 bt154.2.2 (bt154.2.1 != bt157.2.1)) else (laws_FnTraysTurned.j7 kj62 t152 t153 bt154.1 bt154.2.1 bt154.2.2 true))) else (laws_FnTraysTurned.j7 kj62 t152 t153 bt154.1 bt154.2.1 bt154.2.2 true))))) = some r := H
       have A125 := Aside0.mk A1250
       clear A1250
       replace H := Option.bind_eq_some_iff.mp H
       obtain ⟨⟨t154, t155, t156⟩, A1260, H⟩ := H
       replace H : ((spec_PlaceOf.f kj62 t152 t153).bind fun bt157 => (if (t149 != t151) = true then (laws_FnTraysTurned.j7 kj62 t152 t153 t154 t155 t156 true) else (if t148 = t150 then (if (t156 != bt157.2.2) = true then (laws_FnTraysTurned.j7 kj62 t152 t153 t154 t155 t156 true) else (if t154 = bt157.1 then (laws_FnTraysTurned.j7 kj62 t152 t153 t154 t155 t156 (t155 != bt157.2.1)) else (laws_FnTraysTurned.j7 kj62 t152 t153 t154 t155 t156 true))) else (laws_FnTraysTurned.j7 kj62 t152 t153 t154 t155 t156 true)))) = some r := H
       have A126 := Aside0.mk A1260
       clear A1260
       replace H := Option.bind_eq_some_iff.mp H
       obtain ⟨⟨t157, t158, t159⟩, A1270, H⟩ := H
       replace H : (if (t149 != t151) = true then (laws_FnTraysTurned.j7 kj62 t152 t153 t154 t155 t156 true) else (if t148 = t150 then (if (t156 != t159) = true then (laws_FnTraysTurned.j7 kj62 t152 t153 t154 t155 t156 true) else (if t154 = t157 then (laws_FnTraysTurned.j7 kj62 t152 t153 t154 t155 t156 (t155 != t158)) else (laws_FnTraysTurned.j7 kj62 t152 t153 t154 t155 t156 true))) else (laws_FnTraysTurned.j7 kj62 t152 t153 t154 t155 t156 true))) = some r := H
       have A127 := Aside0.mk A1270
       clear A1270
       have HC128 := Aside0.mk H
       clear H
       go_upto_region 49 with (first | ((with_reducible refine gate_callee (f := 23) rfl ?_); refine goesL_ (some 322) rfl rfl Tryz.func23 (by kernel_rfl) rfl #[.slice A1 l1.length c1] rfl aq1 ?_; (with_reducible refine (spec_DrawCountCells.calls kj62 _ _ l1 t146 t147 _ ?side1 ?side2 A122.out).mono ?_); (case side1 => exact aq97); (case side2 => exact HC1.out); rintro e w129 ⟨rfl, hb⟩; refine ⟨_, rfl, ?_⟩; have n0_ := Aside0.mk (below_step aq0 hb); clear HB; have HB := n0_; clear n0_; (try clear hb); (try clear hb2); (try clear hk); (try clear hi)) | ((with_reducible refine gate_callee (f := 22) rfl ?_); refine goesL_ (some 328) rfl rfl Tryz.func22 (by kernel_rfl) rfl #[.string t146, .string t147] rfl aq1 ?_; (with_reducible refine (impl_CountCells.calls kj62 t146 t147 t148 t149 _ A123.out).mono ?_); rintro e w130 ⟨rfl, hb⟩; refine ⟨_, rfl, ?_⟩; have n0_ := Aside0.mk (below_step aq0 hb); clear HB; have HB := n0_; clear n0_; (try clear hb); (try clear hb2); (try clear hk); (try clear hi)) | ((with_reducible refine gate_callee (f := 24) rfl ?_); refine goesL_ (some 334) rfl rfl Tryz.func24 (by kernel_rfl) rfl #[.string t146, .string t147] rfl aq1 ?_; (with_reducible refine (spec_CountCells.calls kj62 t146 t147 t150 t151 _ A124.out).mono ?_); rintro e w131 ⟨rfl, hb⟩; refine ⟨_, rfl, ?_⟩; have n0_ := Aside0.mk (below_step aq0 hb); clear HB; have HB := n0_; clear n0_; (try clear hb); (try clear hb2); (try clear hk); (try clear hi)) | ((with_reducible refine gate_callee (f := 25) rfl ?_); refine goesL_ (some 339) rfl rfl Tryz.func25 (by kernel_rfl) rfl #[.slice A1 l1.length c1] rfl aq1 ?_; (with_reducible refine (spec_DrawPlaceOf.calls kj62 _ _ l1 t152 t153 _ ?side1 ?side2 A125.out).mono ?_); (case side1 => exact aq97); (case side2 => exact HC1.out); rintro e w132 ⟨rfl, hb⟩; refine ⟨_, rfl, ?_⟩; have n0_ := Aside0.mk (below_step aq0 hb); clear HB; have HB := n0_; clear n0_; (try clear hb); (try clear hb2); (try clear hk); (try clear hi)) | ((with_reducible refine gate_callee (f := 26) rfl ?_); refine goesL_ (some 345) rfl rfl Tryz.func26 (by kernel_rfl) rfl #[.string t152, .string t153] rfl aq1 ?_; (with_reducible refine (impl_PlaceOf.calls kj62 t152 t153 t154 t155 t156 _ A126.out).mono ?_); rintro e w133 ⟨rfl, hb⟩; refine ⟨_, rfl, ?_⟩; have n0_ := Aside0.mk (below_step aq0 hb); clear HB; have HB := n0_; clear n0_; (try clear hb); (try clear hb2); (try clear hk); (try clear hi)) | ((with_reducible refine gate_callee (f := 27) rfl ?_); refine goesL_ (some 352) rfl rfl Tryz.func27 (by kernel_rfl) rfl #[.string t152, .string t153] rfl aq1 ?_; (with_reducible refine (spec_PlaceOf.calls kj62 t152 t153 t157 t158 t159 _ A127.out).mono ?_); rintro e w134 ⟨rfl, hb⟩; refine ⟨_, rfl, ?_⟩; have n0_ := Aside0.mk (below_step aq0 hb); clear HB; have HB := n0_; clear n0_; (try clear hb); (try clear hb2); (try clear hk); (try clear hi)))
       (try simp only [Act.put, List.setIfInBounds_toArray, List.set_cons_zero, List.set_cons_succ])
       go_cut [378] (fun v378 wc => ∃ (kq : Nat) (x378_127 : Bool), v378 = .bool x378_127 ∧ Aside0 (laws_FnTraysTurned.j7 kq t152 t153 t154 t155 t156 x378_127 = some r) ∧ Aside0 (kq ≤ kj62) ∧ Aside0 (Below w.heap.size w wc))
       case first => as_aux_lemma =>
        have H := HC128.out
        clear HC128
        by_cases c135 : (t149 != t151) = true
        ·rw [if_pos c135] at H
         have c135b0 : (t149 != t151) = true := c135
         (try (have c135b1 : decide (t149 = t151) = false := by simpa using c135))
         (try (have c135b2 : (t149 == t151) = false := by simpa using c135))
         (try (have c135b3 : ¬ (t149 = t151) := by simpa using c135))
         clear c135
         (first | rw [c135b0] | (simp only [i64_w, i32_w]; rw [c135b0]) | skip)
         exact absurd aq13 (show ¬ (r = false) by rw [HR_.out]; decide)
        ·rw [if_neg c135] at H
         have c135b0 : (t149 != t151) = false := by simpa using c135
         (try (have c135b1 : decide (t149 = t151) = true := by simpa using c135))
         (try (have c135b2 : (t149 == t151) = true := by simpa using c135))
         clear c135
         (first | rw [c135b0] | (simp only [i64_w, i32_w]; rw [c135b0]) | skip)
         by_cases c136 : t148 = t150
         ·rw [if_pos c136] at H
          have c136b0 : (t148 == t150) = true := beq_iff_eq.mpr c136
          have c136b1 : (t148 != t150) = false := bne_eq_false_iff_eq.mpr c136
          clear c136
          by_cases c137 : (t156 != t159) = true
          ·rw [if_pos c137] at H
           have c137b0 : (t156 != t159) = true := c137
           (try (have c137b1 : decide (t156 = t159) = false := by simpa using c137))
           (try (have c137b2 : (t156 == t159) = false := by simpa using c137))
           (try (have c137b3 : ¬ (t156 = t159) := by simpa using c137))
           clear c137
           exact absurd aq13 (show ¬ (r = false) by rw [HR_.out]; decide)
          ·rw [if_neg c137] at H
           have c137b0 : (t156 != t159) = false := by simpa using c137
           (try (have c137b1 : decide (t156 = t159) = true := by simpa using c137))
           (try (have c137b2 : (t156 == t159) = true := by simpa using c137))
           clear c137
           by_cases c138 : t154 = t157
           ·rw [if_pos c138] at H
            have c138b0 : (t154 == t157) = true := beq_iff_eq.mpr c138
            have c138b1 : (t154 != t157) = false := bne_eq_false_iff_eq.mpr c138
            clear c138
            have H' := Aside0.mk H
            clear H
            go_wp2
            go_meet
            case rel => exact ⟨_, ((t155 != t158)), aq11, H', ⟨by have := HJ15.out; have := HJ62.out; first | omega | exact Nat.le_refl _⟩, ⟨aq0⟩⟩
           ·rw [if_neg c138] at H
            have c138b0 : (t154 == t157) = false := beq_eq_false_iff_ne.mpr c138
            have c138b1 : (t154 != t157) = true := bne_iff_ne.mpr c138
            exact absurd aq13 (show ¬ (r = false) by rw [HR_.out]; decide)
         ·rw [if_neg c136] at H
          have c136b0 : (t148 == t150) = false := beq_eq_false_iff_ne.mpr c136
          have c136b1 : (t148 != t150) = true := bne_iff_ne.mpr c136
          exact absurd aq13 (show ¬ (r = false) by rw [HR_.out]; decide)
       case rest => as_aux_lemma =>
        clear HC128
        try clear c1
        try clear p1
        try clear q1
        try clear hx1
        try clear c2
        try clear p2
        try clear c3
        try clear c4
        try clear c5
        try clear c6
        try clear p6
        try clear c7
        try clear c8
        try clear c9
        try clear c10
        try clear c11
        try clear c12
        try clear c13
        try clear c14
        try clear p14
        try clear q14
        try clear hx14
        try clear c15
        try clear c16
        try clear c17
        try clear c20
        try clear c21
        try clear c22
        try clear c23
        try clear c24
        try clear c25
        try clear c26
        try clear c27
        try clear c28
        try clear c28b0
        try clear c28b1
        try clear c28b2
        try clear c29
        try clear c29b0
        try clear c29b1
        try clear c30
        try clear c30b0
        try clear c30b1
        try clear c30b2
        try clear c31
        try clear c31b0
        try clear c31b1
        try clear c32
        try clear c32b0
        try clear c32b1
        try clear c32b2
        try clear c33
        try clear c33b0
        try clear c33b1
        try clear c34
        try clear c34b0
        try clear c34b1
        try clear c34b2
        try clear c35
        try clear c35b0
        try clear c35b1
        try clear c36
        try clear c36b0
        try clear c36b1
        try clear c36b2
        try clear c37
        try clear c37b0
        try clear c37b1
        try clear c39
        try clear c39b0
        try clear c39b1
        try clear c39b2
        try clear c43
        try clear c43b0
        try clear c43b1
        try clear c43b2
        try clear c47
        try clear c47b0
        try clear c47b1
        try clear c47b2
        try clear c51
        try clear c51b0
        try clear c51b1
        try clear c51b2
        try clear c55
        try clear c55b0
        try clear c55b1
        try clear c55b2
        try clear c62
        try clear c64
        try clear p64
        try clear c70
        try clear c71
        try clear c72
        try clear c72b0
        try clear c72b1
        try clear c73
        try clear c73b0
        try clear c73b1
        try clear c75
        try clear c75b0
        try clear c75b1
        try clear c77
        try clear c77b0
        try clear c77b1
        try clear c85
        try clear c86
        try clear c86b0
        try clear c92
        try clear c93
        try clear c93b0
        try clear c93b1
        try clear c94
        try clear c95
        try clear c96
        try clear c96b0
        try clear c96b1
        try clear c97
        try clear c97b0
        try clear c97b1
        try clear c99
        try clear c100
        try clear c100b0
        try clear c100b1
        try clear c101
        try clear c101b0
        try clear c101b1
        try clear c102
        try clear c106
        try clear c106b0
        try clear c107
        try clear c107b0
        try clear c108
        try clear c108b0
        try clear c111
        try clear c112
        try clear c113
        try clear c113b0
        try clear c113b1
        try clear c135
        try clear c135b0
        try clear c135b1
        try clear c135b2
        try clear c136
        try clear c136b0
        try clear c136b1
        try clear c137
        try clear c137b0
        try clear c137b1
        try clear c137b2
        try clear c138
        try clear c138b0
        try clear c138b1
        try clear hx141_0
        try clear p1
        try clear p14
        try clear p141
        try clear p2
        try clear p6
        try clear p64
        try clear q1
        try clear q14
        try clear q141
        obtain ⟨kq, x378_127, rfl, HA, HJ127, HB⟩ := hcut
        cases kq with
        | zero => exact absurd HA.out (by simp [laws_FnTraysTurned.j7])
        | succ kj127 =>
         have H := HA.out
         clear HA
         simp only [laws_FnTraysTurned.j7] at H
         by_cases c139 : x378_127 = true
         ·subst c139
          have H1 : (some false) = some r := by rw [if_pos rfl] at H; exact H
          clear H
          have H := H1
          clear H1
          obtain rfl := Option.some.inj H
          go_wp2
          go_ret
          exact ⟨aq8, aq0⟩
         ·replace c139 := Bool.eq_false_iff.mpr c139
          subst c139
          have H1 : (if t156 = true then ((impl_CellAt.f kj127 t152 t154 t155).bind fun bt160 => (if bt160.2 = true then (some (bt160.1.toList == t153.toList)) else (some false))) else (some true)) = some r := by rw [if_neg (show ¬ (false = true) by decide)] at H; exact H
          clear H
          have H := H1
          clear H1
          by_cases c140 : t156 = true
          ·subst c140
           have H1 : ((impl_CellAt.f kj127 t152 t154 t155).bind fun bt160 => (if bt160.2 = true then (some (bt160.1.toList == t153.toList)) else (some false))) = some r := by rw [if_pos rfl] at H; exact H
           clear H
           have H := H1
           clear H1
           replace H := Option.bind_eq_some_iff.mp H
           obtain ⟨⟨t160, t161⟩, A1410, H⟩ := H
           replace H : (if t161 = true then (some (t160.toList == t153.toList)) else (some false)) = some r := H
           have A141 := Aside0.mk A1410
           clear A1410
           by_cases c142 : t161 = true
           ·subst c142
            have H1 : (some (t160.toList == t153.toList)) = some r := by rw [if_pos rfl] at H; exact H
            clear H
            have H := H1
            clear H1
            obtain rfl := Option.some.inj H
            go_wp2_with (first | ((with_reducible refine gate_callee (f := 28) rfl ?_); refine goesL_ (some 384) rfl rfl Tryz.func28 (by kernel_rfl) rfl #[.string t152, .int .i64 t154, .int .i64 t155] rfl aq1 ?_; (with_reducible refine (impl_CellAt.calls kj127 t152 t154 t155 t160 true _ A141.out).mono ?_); rintro e w143 ⟨rfl, hb⟩; refine ⟨_, rfl, ?_⟩; have n0_ := Aside0.mk (below_step aq0 hb); clear HB; have HB := n0_; clear n0_; (try clear hb); (try clear hb2); (try clear hk); (try clear hi)))
            go_ret
            exact ⟨aq8, aq0⟩
           ·replace c142 := Bool.eq_false_iff.mpr c142
            subst c142
            have H1 : (some false) = some r := by rw [if_neg (show ¬ (false = true) by decide)] at H; exact H
            clear H
            have H := H1
            clear H1
            obtain rfl := Option.some.inj H
            go_wp2_with (first | ((with_reducible refine gate_callee (f := 28) rfl ?_); refine goesL_ (some 384) rfl rfl Tryz.func28 (by kernel_rfl) rfl #[.string t152, .int .i64 t154, .int .i64 t155] rfl aq1 ?_; (with_reducible refine (impl_CellAt.calls kj127 t152 t154 t155 t160 false _ A141.out).mono ?_); rintro e w144 ⟨rfl, hb⟩; refine ⟨_, rfl, ?_⟩; have n0_ := Aside0.mk (below_step aq0 hb); clear HB; have HB := n0_; clear n0_; (try clear hb); (try clear hb2); (try clear hk); (try clear hi)))
            go_ret
            exact ⟨aq8, aq0⟩
          ·replace c140 := Bool.eq_false_iff.mpr c140
           subst c140
           have H1 : (some true) = some r := by rw [if_neg (show ¬ (false = true) by decide)] at H; exact H
           clear H
           have H := H1
           clear H1
           obtain rfl := Option.some.inj H
           go_wp2
           go_ret
           exact ⟨aq8, aq0⟩
end Go.Proofs.YtipjmlcbbimfpaaGreatDoor.F

namespace Go.Proofs.YtipjmlcbbimfpaaGreatDoor.F
open Go.RowKit Go.Proofs.YtipjmlcbbimfpaaGreatDoor Go.Proofs.YtipjmlcbbimfpaaGreatDoorW.PrintWords
set_option linter.unusedVariables false
set_option linter.unusedSimpArgs false
theorem wf_bytes {l : List Int} (h : ∀ x ∈ l, (Lit.int .u8 x).wf = true) : Bytes l := fun x hx => by
  have h1 := h x hx
  unfold Lit.wf at h1
  simp only [Bool.and_eq_true, decide_eq_true_iff] at h1
  have e1 : IntKind.u8.min = 0 := by decide
  have e2 : IntKind.u8.max = 255 := by decide
  omega
theorem of_ok {l : List Int} (hl : Bytes l) (s1 s2 : Int) (q : List ByteArray) (hq : 0 < q.length) (hq2 : q.length ≤ 1000) (h0 : 0 ≤ s1) (h1 : s1 ≤ 900000000) :
    ∃ r, spec_l1Cur_of.f l s1 s2 q = some r := by
  obtain ⟨r, e, ⟨hv, hv2⟩, h⟩ := pick_ok hl s1 s2 (q.length : Int) h0 h1 (by omega)
  unfold spec_l1Cur_of.f
  rw [e, Option.bind_some, if_pos hv, if_pos (by omega)]
  exact ⟨_, rfl⟩
theorem drawTray_tot {l : List Int} (hl : Bytes l) : Tot (fun k => spec_DrawLeastTray.f k l) (fun r => r.size ≤ 1000) := by
  refine Tot.bind (P := fun r => r.size ≤ 1000) ?_ (fun r hr => Tot.now hr)
  refine Tot.bind (tray_tot hl 0 0 (by decide) (by decide)) ?_
  rintro ⟨t, a1, a2⟩ ⟨ht, _⟩
  exact Tot.now ht
theorem drawCount_tot {l : List Int} (hl : Bytes l) : Tot (fun k => spec_DrawCountCells.f k l) (fun r => r.1.size ≤ 1000) := by
  refine Tot.bind (tray_tot hl 0 0 (by decide) (by decide)) ?_
  rintro ⟨t, a1, a2⟩ ⟨ht, h1, h2⟩
  obtain ⟨r, hr⟩ := of_ok hl a1 a2 [(⟨#[35]⟩ : ByteArray), (⟨#[46]⟩ : ByteArray), (⟨#[111]⟩ : ByteArray), (⟨#[97]⟩ : ByteArray), (⟨#[98]⟩ : ByteArray), (⟨#[103]⟩ : ByteArray), (⟨#[]⟩ : ByteArray), (⟨#[47]⟩ : ByteArray)] (by decide) (by decide) (by simp only at h1; omega) (by simp only at h2; omega)
  exact Tot.congr (fun k => by rw [hr, Option.bind_some]) (Tot.now ht)
theorem drawPlace_tot {l : List Int} (hl : Bytes l) : Tot (fun k => spec_DrawPlaceOf.f k l) (fun r => r.1.size ≤ 1000) := by
  refine Tot.bind (tray_tot hl 0 0 (by decide) (by decide)) ?_
  rintro ⟨t, a1, a2⟩ ⟨ht, h1, h2⟩
  obtain ⟨r, hr⟩ := of_ok hl a1 a2 [(⟨#[97]⟩ : ByteArray), (⟨#[98]⟩ : ByteArray), (⟨#[99]⟩ : ByteArray), (⟨#[97]⟩ : ByteArray), (⟨#[111]⟩ : ByteArray), (⟨#[]⟩ : ByteArray)] (by decide) (by decide) (by simp only at h1; omega) (by simp only at h2; omega)
  exact Tot.congr (fun k => by rw [hr, Option.bind_some]) (Tot.now ht)
theorem law_j7 (u nm : ByteArray) (hu : u.size < 4294967281) : Ev (fun k => laws_FnTraysTurned.j7 k u nm (placeAns u nm).1 (placeAns u nm).2.1 (placeAns u nm).2.2 false) true := by
  cases hg : tyGrid (bytesOf u) with
  | none =>
    have e : placeAns u nm = (0, 0, false) := by unfold placeAns; rw [hg]
    rw [e]
    refine Ev.step (f := fun _ => some true) (fun k => ?_) (Ev.now _)
    rw [laws_FnTraysTurned.j7, if_neg Bool.false_ne_true]
    exact if_neg Bool.false_ne_true
  | some g =>
    by_cases hc : oneName nm = true ∧ firstAt g.2.2 (bt nm 0) < g.2.2.length
    · have e : placeAns u nm = (((firstAt g.2.2 (bt nm 0) % g.1 : Nat) : Int), ((firstAt g.2.2 (bt nm 0) / g.1 : Nat) : Int), true) := by unfold placeAns; rw [hg]; exact if_pos hc
      rw [e]
      have h1 := impl_cellAt_ev hg hu hc.2
      have hn : strOfNums [g.2.2.getD (firstAt g.2.2 (bt nm 0)) 0] = nm := by
        have hsz : nm.size = 1 := by
          have := hc.1
          unfold oneName at this
          rw [Bool.and_eq_true, decide_eq_true_iff] at this
          exact this.1
        obtain ⟨b, eb, ebt⟩ := one_byte hsz
        have hv : g.2.2.getD (firstAt g.2.2 (bt nm 0)) 0 = bt nm 0 := by
          rw [List.getD_eq_getElem?_getD, List.getElem?_eq_getElem hc.2]
          have h9 : g.2.2[List.findIdx (· == bt nm 0) g.2.2]'hc.2 = bt nm 0 := by
            have := List.findIdx_getElem (w := hc.2)
            simpa using this
          exact h9
        rw [hv, ebt, eb]
        unfold strOfNums
        simp
      refine Ev.step (f := fun k => (impl_CellAt.f k u ((firstAt g.2.2 (bt nm 0) % g.1 : Nat) : Int) ((firstAt g.2.2 (bt nm 0) / g.1 : Nat) : Int)).bind fun bt160 => (if bt160.2 = true then (some (bt160.1.toList == nm.toList)) else (some false))) (fun k => ?_) ?_
      · rw [laws_FnTraysTurned.j7, if_neg Bool.false_ne_true]
        exact if_pos rfl
      · refine Ev.bind h1 ?_
        refine Ev.congr (fun k => ?_) (Ev.now _)
        rw [if_pos rfl, hn, beq_self_eq_true]
    · have e : placeAns u nm = (0, 0, false) := by unfold placeAns; rw [hg]; exact if_neg hc
      rw [e]
      refine Ev.step (f := fun _ => some true) (fun k => ?_) (Ev.now _)
      rw [laws_FnTraysTurned.j7, if_neg Bool.false_ne_true]
      exact if_neg Bool.false_ne_true
theorem law_j6 {l1 : List Int} (by1 : Bytes l1) : Ev (fun k => laws_FnTraysTurned.j6 k l1) true := by
  obtain ⟨⟨s, c⟩, hs1, hs2⟩ := drawCount_tot by1
  obtain ⟨⟨u, nm⟩, hu1, hu2⟩ := drawPlace_tot by1
  simp only at hs2 hu2
  have e1 : ((countAns s c).2 != (countAns s c).2) = false := by simp
  have e2 : ((placeAns u nm).2.2 != (placeAns u nm).2.2) = false := by simp
  have e3 : ((placeAns u nm).2.1 != (placeAns u nm).2.1) = false := by simp
  refine Ev.step (f := fun k => _) (fun k => by rw [laws_FnTraysTurned.j6]) ?_
  refine Ev.bind hs1 (Ev.bind (impl_count_ev s c (by omega)) (Ev.bind (spec_count_ev s c) (Ev.bind hu1 (Ev.bind (impl_place_ev u nm (by omega)) (Ev.bind (spec_place_ev u nm) ?_)))))
  simp only [e1, e2, e3, if_neg Bool.false_ne_true, if_true]
  exact law_j7 u nm (by omega)
theorem count_turned {g : (Nat × Nat × List Int)} (v : Vg g) {c : ByteArray} (hc : oneCell c = true) : countAns (textB (Tg g)) c = countAns (textB g) c ∧ (countAns (textB g) c).2 = true := by
  unfold countAns
  rw [grid_textB v, grid_textB v.T]
  simp only [hc, if_true]
  refine ⟨?_, trivial⟩
  rw [show (Tg g).2.2.count (bt c 0) = g.2.2.count (bt c 0) from (turnL_perm v.len).count_eq _]
theorem law_l1 {l1 : List Int} (by1 : Bytes l1) {g : (Nat × Nat × List Int)} (v : Vg g) {cells : List ByteArray} (hcs : ∀ c ∈ cells, oneCell c = true) (hl : cells.length ≤ 10) : ∀ (d i : Nat), i + d = cells.length →
    Ev (fun k => laws_FnTraysTurned.l1 k l1 (textB g) (textB (Tg g)) cells (cells.length : Int) i) true
  | 0, i, hi => by
    obtain rfl : i = cells.length := by omega
    refine Ev.step (fun k => ?_) (law_j6 by1)
    rw [laws_FnTraysTurned.l1, if_neg (by omega)]
  | d + 1, i, hi => by
    have ih := law_l1 by1 v hcs hl d (i + 1) (by omega)
    have hlt : i < cells.length := by omega
    have hrd : rdOf ByteArray.empty cells (i : Int) = cells[i] := by
      unfold rdOf; rw [Int.toNat_natCast, List.getD_eq_getElem?_getD, List.getElem?_eq_getElem hlt]; rfl
    obtain ⟨e1, e2⟩ := count_turned v (hcs _ (List.getElem_mem hlt))
    have h1 := impl_count_ev (textB g) cells[i] (textB_short v)
    have h2 := impl_count_ev (textB (Tg g)) cells[i] (textB_short v.T)
    rw [e1] at h2
    refine Ev.step (f := fun k => (impl_CountCells.f k (textB g) cells[i]).bind fun bt142 => ((impl_CountCells.f k (textB (Tg g)) cells[i]).bind fun bt144 => (if bt142.2 = true then (if bt144.2 = true then (if bt142.1 = bt144.1 then (laws_FnTraysTurned.l1 k l1 (textB g) (textB (Tg g)) cells (cells.length : Int) ((i + 1 : Nat) : Int)) else (some false)) else (some false)) else (some false)))) (fun k => ?_) (Ev.bind h1 (Ev.bind h2 ?_))
    · rw [laws_FnTraysTurned.l1, if_pos (by omega), if_pos (by omega), if_pos (by omega), hrd, show (i : Int) + 1 = ((i + 1 : Nat) : Int) by omega, w64t (by omega)]
    · simp only [e2, if_true]
      exact ih
theorem law_j4 {l1 : List Int} (by1 : Bytes l1) {g : (Nat × Nat × List Int)} (v : Vg g) : Ev (fun k => laws_FnTraysTurned.j4 k l1 (textB g) (textB (Tg g)) false) true := by
  have h1 := law_l1 by1 v (cells := [(⟨#[35]⟩ : ByteArray), (⟨#[46]⟩ : ByteArray), (⟨#[111]⟩ : ByteArray), (⟨#[97]⟩ : ByteArray)]) (by
    intro c hc
    simp only [List.mem_cons, List.not_mem_nil, or_false] at hc
    rcases hc with rfl | rfl | rfl | rfl <;> rfl) (by decide) 4 0 (by decide)
  refine Ev.step (fun k => ?_) h1
  rw [laws_FnTraysTurned.j4, if_neg Bool.false_ne_true]
  rfl
def fnd (g : (Nat × Nat × List Int)) (i : Nat) : Bool := (List.range i).any fun m => decide (textB (mv m g) = leastG g)
theorem fnd_succ (g : (Nat × Nat × List Int)) (i : Nat) : fnd g (i + 1) = (fnd g i || decide (textB (mv i g) = leastG g)) := by
  unfold fnd; rw [List.range_succ, List.any_append]; simp
theorem fnd_all (g : (Nat × Nat × List Int)) : fnd g 8 = true := by
  unfold fnd
  rw [List.any_eq_true]
  obtain ⟨i, hi, e⟩ := mem_texts.1 (leastG_mem g).1
  exact ⟨i, List.mem_range.2 hi, decide_eq_true e.symm⟩
theorem law_l0 {l1 : List Int} (by1 : Bytes l1) {g : (Nat × Nat × List Int)} (v : Vg g) : ∀ (d i : Nat), i + d = 8 →
    Ev (fun k => laws_FnTraysTurned.l0 k l1 (textB g) (leastG g) (keepN g) (textB (Tg g)) (((List.range i).countP (keeps g) : Nat) : Int) (fnd g i) i) true
  | 0, i, hi => by
    obtain rfl : i = 8 := by omega
    obtain ⟨h8, h1⟩ := keepN_eight v
    have e8 : (((8 : Int) % (keepN g : Int)) != 0) = false := by
      rw [bne_eq_false_iff_eq, show (8 : Int) = ((8 : Nat) : Int) from rfl, ← Int.natCast_emod, h8]; rfl
    refine Ev.step (fun k => ?_) (law_j4 by1 v)
    rw [laws_FnTraysTurned.l0, if_neg (by omega), if_pos (fnd_all g), if_pos (show (((List.range 8).countP (keeps g) : Nat) : Int) = (keepN g : Int) from rfl), if_neg (by omega), e8]
  | d + 1, i, hi => by
    have ih := law_l0 by1 v d (i + 1) (by omega)
    have hlt : i < 8 := by omega
    have h1 := yMoved_ev v hlt
    have vm := v.mv i
    have h2 := impl_leastTray_ev (textB (mv i g)) (textB_short vm)
    have e2 : leastAns (textB (mv i g)) = (leastG g, true) := by
      unfold leastAns; rw [grid_textB vm]
      show (leastG (mv i g), true) = _
      rw [leastG_moved v hlt]
    rw [e2] at h2
    have e3 : Op.bytesLess (textB (mv i g)).toList (leastG g).toList = false := by
      have := (leastG_mem g).2 _ (mem_texts.2 ⟨i, hlt, rfl⟩)
      unfold lessB at this
      rw [Proofs.bytesLess_eq, Lib.toList_data, Lib.toList_data, decide_eq_false_iff_not]
      exact this
    have hcnt : (List.range (i + 1)).countP (keeps g) = (List.range i).countP (keeps g) + if keeps g i = true then 1 else 0 := by
      rw [List.range_succ, List.countP_append]; simp [List.countP_cons]
    have hle : (List.range i).countP (keeps g) ≤ 8 := Nat.le_trans List.countP_le_length (by simp; omega)
    have hj3 : Ev (fun k => laws_FnTraysTurned.j3 k l1 (textB g) (leastG g) (keepN g) (textB (Tg g)) (((List.range i).countP (keeps g) : Nat) : Int) (fnd g i) i (textB (mv i g)) false) true := by
      refine Ev.step (fun k => ?_) ih
      have ei : wrap64 ((i : Int) + 1) = ((i + 1 : Nat) : Int) := by rw [show (i : Int) + 1 = ((i + 1 : Nat) : Int) by omega]; exact w64t (by omega)
      have hbe : ((textB (mv i g)).toList == (leastG g).toList) = decide (textB (mv i g) = leastG g) := by
        rw [Bool.eq_iff_iff, beq_iff_eq, decide_eq_true_iff]; exact toList_iff
      rw [laws_FnTraysTurned.j3, if_neg Bool.false_ne_true, ei, hbe, fnd_succ, hcnt]
      clear ei
      cases hk : keeps g i with
      | true =>
        have e := (text_keeps v i).2 hk
        have ec : wrap64 ((((List.range i).countP (keeps g) : Nat) : Int) + 1) = (((List.range i).countP (keeps g) + 1 : Nat) : Int) := by
          rw [show (((List.range i).countP (keeps g) : Nat) : Int) + 1 = (((List.range i).countP (keeps g) + 1 : Nat) : Int) by omega]; exact w64t (by omega)
        rw [if_pos e, if_pos e, ec, if_pos rfl]
        cases fnd g i with
        | true => rw [if_pos rfl, Bool.true_or]
        | false => rw [if_neg Bool.false_ne_true, Bool.false_or]
      | false =>
        have e : ¬ (textB (mv i g)).toList = (textB g).toList := fun h => by rw [(text_keeps v i).1 h] at hk; cases hk
        rw [if_neg e, if_neg e, if_neg Bool.false_ne_true]
        cases fnd g i with
        | true => rw [if_pos rfl, Bool.true_or]; rfl
        | false => rw [if_neg Bool.false_ne_true, Bool.false_or]; rfl
    refine Ev.step (f := fun k => (laws_yMoved.f k (textB g) i).bind fun t135 => ((impl_LeastTray.f k t135).bind fun bt136 => (if bt136.2 = true then (if bt136.1.toList = (leastG g).toList then (laws_FnTraysTurned.j3 k l1 (textB g) (leastG g) (keepN g) (textB (Tg g)) (((List.range i).countP (keeps g) : Nat) : Int) (fnd g i) i t135 (Op.bytesLess t135.toList (leastG g).toList)) else (laws_FnTraysTurned.j3 k l1 (textB g) (leastG g) (keepN g) (textB (Tg g)) (((List.range i).countP (keeps g) : Nat) : Int) (fnd g i) i t135 true)) else (laws_FnTraysTurned.j3 k l1 (textB g) (leastG g) (keepN g) (textB (Tg g)) (((List.range i).countP (keeps g) : Nat) : Int) (fnd g i) i t135 true)))) (fun k => ?_) (Ev.bind h1 (Ev.bind h2 ?_))
    · rw [laws_FnTraysTurned.l0, if_pos (by omega)]
    · refine Ev.congr (fun k => ?_) hj3
      rw [if_pos rfl, if_pos rfl, e3]
theorem size_text {g : (Nat × Nat × List Int)} (v : Vg g) : Ev (fun k => impl_SizeOf.f k (textB g)) ((g.1 : Int), (g.2.1 : Int), true) := by
  have h1 := impl_size_ev (textB g) (textB_short v)
  rw [grid_textB v] at h1
  exact h1
theorem law_j0 {l1 : List Int} (by1 : Bytes l1) {g : (Nat × Nat × List Int)} (v : Vg g) : Ev (fun k => laws_FnTraysTurned.j0 k l1 (textB g) (leastG g) true (keepN g) (textB (Tg g)) (textB (Mg g)) (textB (Mg (Tg g))) false) true := by
  have h1 := size_text v
  have h2 := size_text v.T
  have m1 := yMoved_ev v.M (m := 4) (by decide)
  have m2 := yMoved_ev v.T (m := 3) (by decide)
  have m3 := yMoved_ev v.T (m := 4) (by decide)
  have q1 : mv 4 (Mg g) = g := by show Mg (Mg g) = g; exact MM v.len
  have q2 : mv 3 (Tg g) = g := by show Tg (Tg (Tg (Tg g))) = g; exact TTTT v.len
  have q3 : mv 4 (Tg g) = Mg (Tg g) := rfl
  rw [q1] at m1
  rw [q2] at m2
  rw [q3] at m3
  have hl0 := law_l0 by1 v 8 0 (by omega)
  have hj1 : Ev (fun k => laws_FnTraysTurned.j1 k l1 (textB g) (leastG g) (keepN g) (textB (Tg g)) false) true := by
    refine Ev.step (fun k => ?_) hl0
    rw [laws_FnTraysTurned.j1, if_neg Bool.false_ne_true]
    rfl
  refine Ev.step (f := fun k => _) (fun k => by rw [laws_FnTraysTurned.j0, if_neg Bool.false_ne_true, if_pos rfl]) ?_
  refine Ev.bind h1 (Ev.bind h2 ?_)
  refine Ev.congr (fun k => if_pos rfl) (Ev.congr (fun k => if_pos rfl) (Ev.congr (fun k => if_pos rfl) (Ev.congr (fun k => if_pos rfl) ?_)))
  refine Ev.bind m1 (Ev.congr (fun k => if_pos rfl) ?_)
  refine Ev.bind m2 (Ev.congr (fun k => if_pos rfl) ?_)
  refine Ev.bind m3 ?_
  refine Ev.congr (fun k => ?_) hj1
  rw [bne_self_eq_false]
theorem leastAns_some {t : ByteArray} {g : (Nat × Nat × List Int)} (hg : tyGrid (bytesOf t) = some g) : leastAns t = (leastG g, true) := by unfold leastAns; rw [hg]
theorem keepAns_some {t : ByteArray} {g : (Nat × Nat × List Int)} (hg : tyGrid (bytesOf t) = some g) : keepAns t = ((keepN g : Int), true) := by unfold keepAns; rw [hg]
theorem mapAns_some {f : (Nat × Nat × List Int) → (Nat × Nat × List Int)} {t : ByteArray} {g : (Nat × Nat × List Int)} (hg : tyGrid (bytesOf t) = some g) : mapAns f t = (textB (f g), true) := by unfold mapAns; rw [hg]
theorem leastAns_two (t : ByteArray) : (leastAns t).2 = (tyGrid (bytesOf t)).isSome := by unfold leastAns; cases tyGrid (bytesOf t) <;> rfl
theorem keepAns_two (t : ByteArray) : (keepAns t).2 = (tyGrid (bytesOf t)).isSome := by unfold keepAns; cases tyGrid (bytesOf t) <;> rfl
theorem mapAns_two (f : (Nat × Nat × List Int) → (Nat × Nat × List Int)) (t : ByteArray) : (mapAns f t).2 = (tyGrid (bytesOf t)).isSome := by unfold mapAns; cases tyGrid (bytesOf t) <;> rfl
theorem FnTraysTurned (l0 l1 : List Int) (hw0 : ∀ x ∈ l0, (Lit.int .u8 x).wf = true) (hw1 : ∀ x ∈ l1, (Lit.int .u8 x).wf = true) : ∃ k, laws_FnTraysTurned.f k l0 l1 = some true := by
  have by0 : Bytes l0 := wf_bytes hw0
  have by1 : Bytes l1 := wf_bytes hw1
  refine Ev.rounds ?_
  have hbig : ∃ b, laws_big.f l0 l1 = some b := by unfold laws_big.f; split <;> exact ⟨_, rfl⟩
  obtain ⟨b, hb⟩ := hbig
  refine Ev.congr (fun k => by rw [laws_FnTraysTurned.f, hb, Option.bind_some]) ?_
  cases b with
  | true => exact Ev.congr (fun k => by rw [if_pos rfl]) (Ev.now _)
  | false =>
    refine Ev.congr (fun k => if_neg Bool.false_ne_true) ?_
    obtain ⟨t, ht1, ht2⟩ := drawTray_tot by0
    have ht : t.size < 4294967281 := by omega
    have hI := impl_IsTray_ev t ht
    have hS : Ev (fun k => spec_IsTray.f k t) (tyGrid (bytesOf t)).isSome := by
      have h1 := spec_tyRead_ev t
      have h2 : Ev (fun k => spec_tyGood.f k t) (tyGrid (bytesOf t)).isSome := by
        refine Ev.bind h1 ?_
        refine Ev.congr (fun k => ?_) (Ev.now _)
        cases tyGrid (bytesOf t) <;> rfl
      exact Ev.bind h2 (Ev.now _)
    have n0 : ((tyGrid (bytesOf t)).isSome != (tyGrid (bytesOf t)).isSome) = false := bne_self_eq_false _
    have hj0 : Ev (fun k => laws_FnTraysTurned.j0 k l1 t (leastAns t).1 (tyGrid (bytesOf t)).isSome (keepAns t).1 (mapAns Tg t).1 (mapAns Mg t).1 (mapAns (fun g => Mg (Tg g)) t).1 false) true := by
      cases hg : tyGrid (bytesOf t) with
      | none =>
        refine Ev.step (fun k => ?_) (law_j6 by1)
        rw [laws_FnTraysTurned.j0, if_neg Bool.false_ne_true]
        exact if_neg Bool.false_ne_true
      | some g =>
        obtain ⟨v, e⟩ := textB_grid hg
        rw [leastAns_some hg, keepAns_some hg, mapAns_some hg, mapAns_some hg, mapAns_some hg]
        have hj := law_j0 by1 v
        rw [e] at hj
        simp only [Option.isSome_some]
        exact hj
    have k1 := leastAns_two t
    have k2 := keepAns_two t
    have k3 := mapAns_two Tg t
    have k4 := mapAns_two Mg t
    have k5 := mapAns_two (fun g => Mg (Tg g)) t
    have E1 := impl_leastTray_ev t ht
    have E2 := spec_leastTray_ev t
    have E3 := impl_keepers_ev t ht
    have E4 := spec_keepers_ev t
    have E5 := impl_turnTray_ev t ht
    have E6 := spec_turnTray_ev t
    have E7 := impl_mirrorTray_ev t ht
    have E8 := spec_mirrorTray_ev t
    have E9 := impl_transTray_ev t ht
    have E10 := spec_transTray_ev t
    generalize leastAns t = A1 at *
    generalize keepAns t = A2 at *
    generalize mapAns Tg t = A3 at *
    generalize mapAns Mg t = A4 at *
    generalize mapAns (fun g => Mg (Tg g)) t = A5 at *
    generalize (tyGrid (bytesOf t)).isSome = okT at *
    have nb : ∀ b : Bool, (b != b) = false := fun b => bne_self_eq_false b
    refine Ev.bind ht1 (Ev.bind E1 (Ev.bind E2 (Ev.bind E3 (Ev.bind E4 (Ev.bind E5 (Ev.bind E6 (Ev.bind E7 (Ev.bind E8 (Ev.bind E9 (Ev.bind E10 ?_))))))))))
    rw [k1, k2, k3, k4, k5]
    simp only [nb, if_neg Bool.false_ne_true, if_true]
    refine Ev.bind hI ?_
    simp only [nb, if_neg Bool.false_ne_true]
    refine Ev.bind hI (Ev.bind hS ?_)
    simp only [nb, if_neg Bool.false_ne_true]
    exact hj0
end Go.Proofs.YtipjmlcbbimfpaaGreatDoor.F
