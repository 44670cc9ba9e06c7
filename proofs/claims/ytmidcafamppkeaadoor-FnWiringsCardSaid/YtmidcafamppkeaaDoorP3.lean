-- Printed by a program of this session (wip/tools/myprint.py, over the kit's print.py); not trusted: Lean checks it.
import Derived.Test.YtmidcafamppkeaaDoorWAll2
import Derived.Test.YtmidcafamppkeaaDoorP0
import Derived.Test.YtmidcafamppkeaaDoorOPars
import Derived.Test.YtmidcafamppkeaaDoorOSwaps
import Derived.Test.YtmidcafamppkeaaDoorP10
import Derived.Test.YtmidcafamppkeaaDoorP15
import Derived.Test.YtmidcafamppkeaaDoorP35
import Derived.Test.YtmidcafamppkeaaDoorP4
import Derived.Test.YtmidcafamppkeaaDoorP51
import Derived.Test.YtmidcafamppkeaaDoorP9
namespace Go.Proofs.YtmidcafamppkeaaDoor.P
open Go.RowKit Go.Proofs.YtmidcafamppkeaaDoorW.PrintWords Go.Proofs.YtmidcafamppkeaaDoorW.PrintLast Go.Proofs.YtmidcafamppkeaaDoorW.PrintMore
attribute [local go_sem] max2_int min2_int max_two min_two max_three min_three max_four min_four   -- for this text's walks alone
set_option linter.unusedVariables false
set_option linter.unusedSimpArgs false

/-! ### laws_FnWirings: function 3 -/
abbrev T : Bool := true
abbrev F : Bool := false
mutual
def laws_FnWirings.j0 : Nat → Int → List Int → Bool → Int → List (List Int) → List Int → Bool → List Int → Bool → List Int → Bool → Bool → Option (Bool)
 | 0, _, _, _, _, _, _, _, _, _, _, _, _ => none
 | k + 1, x3, x4, x5, x9, x10, x11, x12, x22, x23, x26, x27, x186 => if x186 = true then (some false) else ((impl_WiringText.f k x3 x4).bind fun t587 => ((impl_ParseWiring.f k t587).bind fun bt588 => ((spec_WiringText.f k x3 x4).bind fun t593 => (if t587.toList = t593.toList then (if (bt588.2.2 != x5) = true then (laws_FnWirings.j1 k x3 x4 x5 x9 x10 x11 x12 x22 x26 true) else (if bt588.2.2 = true then (if bt588.1 = x3 then ((laws_sameInts.f k bt588.2.1 x4).bind fun t594 => (if t594 = true then (if (x23 != x5) = true then (laws_FnWirings.j1 k x3 x4 x5 x9 x10 x11 x12 x22 x26 true) else (laws_FnWirings.j1 k x3 x4 x5 x9 x10 x11 x12 x22 x26 (x27 != x5))) else (laws_FnWirings.j1 k x3 x4 x5 x9 x10 x11 x12 x22 x26 true))) else (laws_FnWirings.j1 k x3 x4 x5 x9 x10 x11 x12 x22 x26 true)) else (if (x23 != x5) = true then (laws_FnWirings.j1 k x3 x4 x5 x9 x10 x11 x12 x22 x26 true) else (laws_FnWirings.j1 k x3 x4 x5 x9 x10 x11 x12 x22 x26 (x27 != x5))))) else (laws_FnWirings.j1 k x3 x4 x5 x9 x10 x11 x12 x22 x26 true)))))
def laws_FnWirings.j1 : Nat → Int → List Int → Bool → Int → List (List Int) → List Int → Bool → List Int → List Int → Bool → Option (Bool)
 | 0, _, _, _, _, _, _, _, _, _, _ => none
 | k + 1, x3, x4, x5, x9, x10, x11, x12, x22, x26, x229 => if x229 = true then (some false) else (if x12 = true then ((impl_SwapsOf.f k x9 x11).bind fun t595 => ((laws_sameLists.f k t595 x10).bind fun t598 => (laws_FnWirings.j2 k x3 x4 x5 x22 x26 (!t598)))) else (laws_FnWirings.j2 k x3 x4 x5 x22 x26 false))
def laws_FnWirings.j2 : Nat → Int → List Int → Bool → List Int → List Int → Bool → Option (Bool)
 | 0, _, _, _, _, _, _ => none
 | k + 1, x3, x4, x5, x22, x26, x238 => if x238 = true then (some false) else (if x5 = true then ((impl_FlipWiring.f k x3 x26).bind fun bt599 => ((impl_SwapsOf.f k x3 x4).bind fun t603 => ((impl_WiringFrom.f k x3 t603).bind fun bt606 => ((impl_WiresAfter.f k x3 x4 (x4.length : Int)).bind fun t610 => (laws_FnWirings.l0 k x3 x4 x22 x26 bt599.1 bt599.2 bt606.1 bt606.2 t610 0))))) else (some true))
def laws_FnWirings.l0 : Nat → Int → List Int → List Int → List Int → List Int → Bool → List Int → Bool → List Int → Int → Option (Bool)
 | 0, _, _, _, _, _, _, _, _, _, _ => none
 | k + 1, x3, x4, x22, x26, x34, x35, x36, x37, x38, x39 => if x39 < x3 then (if 0 ≤ x39 then (if x39 < (x38.length : Int) then (if (rd x38 x39) = (wrap64 ((wrap64 (x3 - 1)) - x39)) then (laws_FnWirings.l0 k x3 x4 x22 x26 x34 x35 x36 x37 x38 (wrap64 (x39 + 1))) else (some false)) else (none)) else (none)) else (if x35 = true then ((laws_sameInts.f k x34 x4).bind fun t614 => (if t614 = true then (if x37 = true then ((laws_sameInts.f k x36 x4).bind fun t615 => (if t615 = true then ((impl_IsWiring.f k x3 x22).bind fun t616 => (if t616 = true then ((impl_IsWiring.f k x3 x26).bind fun t617 => (some t617)) else (some false))) else (some false))) else (some false)) else (some false))) else (some false))
end
def laws_FnWirings.f (k : Nat) (l0 : List Int) : Option (Bool) := (laws_big.f l0).bind fun t518 => (if t518 = true then (some true) else ((spec_DrawIsWiring.f k l0).bind fun bt519 => ((impl_IsWiring.f k bt519.1 bt519.2).bind fun t523 => ((spec_DrawWiresAfter.f k l0).bind fun bt524 => ((spec_DrawWiringFrom.f k l0).bind fun bt529 => ((impl_WiringFrom.f k bt529.1 bt529.2).bind fun bt533 => ((spec_WiringFrom.f k bt529.1 bt529.2).bind fun bt537 => ((spec_DrawParseWiring.f k l0).bind fun t541 => ((impl_ParseWiring.f k t541).bind fun bt542 => ((spec_ParseWiring.f k t541).bind fun bt547 => ((impl_TurnWiring.f k bt519.1 bt519.2).bind fun bt552 => ((spec_TurnWiring.f k bt519.1 bt519.2).bind fun bt556 => ((impl_FlipWiring.f k bt519.1 bt519.2).bind fun bt560 => ((spec_FlipWiring.f k bt519.1 bt519.2).bind fun bt564 => ((spec_IsWiring.f k bt519.1 bt519.2).bind fun t568 => (if (t523 != t568) = true then (laws_FnWirings.j0 k bt519.1 bt519.2 t523 bt529.1 bt529.2 bt533.1 bt533.2 bt552.1 bt552.2 bt560.1 bt560.2 true) else ((impl_WiresAfter.f k bt524.1 bt524.2.1 bt524.2.2).bind fun t569 => ((spec_WiresAfter.f k bt524.1 bt524.2.1 bt524.2.2).bind fun t572 => ((laws_sameInts.f k t569 t572).bind fun t575 => (if t575 = true then (if (bt533.2 != bt537.2) = true then (laws_FnWirings.j0 k bt519.1 bt519.2 t523 bt529.1 bt529.2 bt533.1 bt533.2 bt552.1 bt552.2 bt560.1 bt560.2 true) else ((laws_sameInts.f k bt533.1 bt537.1).bind fun t576 => (if t576 = true then (if (bt542.2.2 != bt547.2.2) = true then (laws_FnWirings.j0 k bt519.1 bt519.2 t523 bt529.1 bt529.2 bt533.1 bt533.2 bt552.1 bt552.2 bt560.1 bt560.2 true) else (if bt542.1 = bt547.1 then ((laws_sameInts.f k bt542.2.1 bt547.2.1).bind fun t577 => (if t577 = true then (if (bt552.2 != bt556.2) = true then (laws_FnWirings.j0 k bt519.1 bt519.2 t523 bt529.1 bt529.2 bt533.1 bt533.2 bt552.1 bt552.2 bt560.1 bt560.2 true) else ((laws_sameInts.f k bt552.1 bt556.1).bind fun t578 => (if t578 = true then (if (bt560.2 != bt564.2) = true then (laws_FnWirings.j0 k bt519.1 bt519.2 t523 bt529.1 bt529.2 bt533.1 bt533.2 bt552.1 bt552.2 bt560.1 bt560.2 true) else ((laws_sameInts.f k bt560.1 bt564.1).bind fun t579 => (if t579 = true then ((impl_SwapsOf.f k bt519.1 bt519.2).bind fun t580 => ((spec_SwapsOf.f k bt519.1 bt519.2).bind fun t583 => ((laws_sameLists.f k t580 t583).bind fun t586 => (laws_FnWirings.j0 k bt519.1 bt519.2 t523 bt529.1 bt529.2 bt533.1 bt533.2 bt552.1 bt552.2 bt560.1 bt560.2 (!t586))))) else (laws_FnWirings.j0 k bt519.1 bt519.2 t523 bt529.1 bt529.2 bt533.1 bt533.2 bt552.1 bt552.2 bt560.1 bt560.2 true)))) else (laws_FnWirings.j0 k bt519.1 bt519.2 t523 bt529.1 bt529.2 bt533.1 bt533.2 bt552.1 bt552.2 bt560.1 bt560.2 true)))) else (laws_FnWirings.j0 k bt519.1 bt519.2 t523 bt529.1 bt529.2 bt533.1 bt533.2 bt552.1 bt552.2 bt560.1 bt560.2 true))) else (laws_FnWirings.j0 k bt519.1 bt519.2 t523 bt529.1 bt529.2 bt533.1 bt533.2 bt552.1 bt552.2 bt560.1 bt560.2 true))) else (laws_FnWirings.j0 k bt519.1 bt519.2 t523 bt529.1 bt529.2 bt533.1 bt533.2 bt552.1 bt552.2 bt560.1 bt560.2 true)))) else (laws_FnWirings.j0 k bt519.1 bt519.2 t523 bt529.1 bt529.2 bt533.1 bt533.2 bt552.1 bt552.2 bt560.1 bt560.2 true)))))))))))))))))))))
theorem laws_FnWirings.mono_l : ∀ k, (∀ y0 y1 y2 y3 y4 y5 y6 y7 y8 y9 y10 y11, LeO (laws_FnWirings.j0 k y0 y1 y2 y3 y4 y5 y6 y7 y8 y9 y10 y11) (laws_FnWirings.j0 (k + 1) y0 y1 y2 y3 y4 y5 y6 y7 y8 y9 y10 y11)) ∧ (∀ y0 y1 y2 y3 y4 y5 y6 y7 y8 y9, LeO (laws_FnWirings.j1 k y0 y1 y2 y3 y4 y5 y6 y7 y8 y9) (laws_FnWirings.j1 (k + 1) y0 y1 y2 y3 y4 y5 y6 y7 y8 y9)) ∧ (∀ y0 y1 y2 y3 y4 y5, LeO (laws_FnWirings.j2 k y0 y1 y2 y3 y4 y5) (laws_FnWirings.j2 (k + 1) y0 y1 y2 y3 y4 y5)) ∧ (∀ y0 y1 y2 y3 y4 y5 y6 y7 y8 y9, LeO (laws_FnWirings.l0 k y0 y1 y2 y3 y4 y5 y6 y7 y8 y9) (laws_FnWirings.l0 (k + 1) y0 y1 y2 y3 y4 y5 y6 y7 y8 y9))
 | 0 => ⟨fun _ _ _ _ _ _ _ _ _ _ _ _ r h => by simp [laws_FnWirings.j0] at h, fun _ _ _ _ _ _ _ _ _ _ r h => by simp [laws_FnWirings.j1] at h, fun _ _ _ _ _ _ r h => by simp [laws_FnWirings.j2] at h, fun _ _ _ _ _ _ _ _ _ _ r h => by simp [laws_FnWirings.l0] at h⟩
 | k + 1 => by
  obtain ⟨ih0, ih1, ih2, ih3⟩ := laws_FnWirings.mono_l k
  refine ⟨?_, ?_, ?_, ?_⟩
  ·intro y0 y1 y2 y3 y4 y5 y6 y7 y8 y9 y10 y11
   unfold laws_FnWirings.j0
   repeat' first
   | (with_reducible exact ih0 _ _ _ _ _ _ _ _ _ _ _ _)
   | (with_reducible exact ih1 _ _ _ _ _ _ _ _ _ _)
   | (with_reducible exact ih2 _ _ _ _ _ _)
   | (with_reducible exact ih3 _ _ _ _ _ _ _ _ _ _)
   | (with_reducible exact impl_FlipWiring.mono _ _ _)
   | (with_reducible exact impl_IsWiring.mono _ _ _)
   | (with_reducible exact impl_ParseWiring.mono _ _)
   | (with_reducible exact impl_SwapsOf.mono _ _ _)
   | (with_reducible exact impl_TurnWiring.mono _ _ _)
   | (with_reducible exact impl_WiresAfter.mono _ _ _ _)
   | (with_reducible exact impl_WiringFrom.mono _ _ _)
   | (with_reducible exact impl_WiringText.mono _ _ _)
   | (with_reducible exact laws_sameInts.mono _ _ _)
   | (with_reducible exact laws_sameLists.mono _ _ _)
   | (with_reducible exact spec_DrawIsWiring.mono _ _)
   | (with_reducible exact spec_DrawParseWiring.mono _ _)
   | (with_reducible exact spec_DrawWiresAfter.mono _ _)
   | (with_reducible exact spec_DrawWiringFrom.mono _ _)
   | (with_reducible exact spec_FlipWiring.mono _ _ _)
   | (with_reducible exact spec_IsWiring.mono _ _ _)
   | (with_reducible exact spec_ParseWiring.mono _ _)
   | (with_reducible exact spec_SwapsOf.mono _ _ _)
   | (with_reducible exact spec_TurnWiring.mono _ _ _)
   | (with_reducible exact spec_WiresAfter.mono _ _ _ _)
   | (with_reducible exact spec_WiringFrom.mono _ _ _)
   | (with_reducible exact spec_WiringText.mono _ _ _)
   | (with_reducible exact LeO.refl _)
   | (with_reducible exact LeO.none _)
   | (with_reducible refine LeO.ite ?_ ?_)
   | (with_reducible refine LeO.bind ?_ (fun _ => ?_))
   | exact ih0 _ _ _ _ _ _ _ _ _ _ _ _
   | exact ih1 _ _ _ _ _ _ _ _ _ _
   | exact ih2 _ _ _ _ _ _
   | exact ih3 _ _ _ _ _ _ _ _ _ _
   | exact impl_FlipWiring.mono _ _ _
   | exact impl_IsWiring.mono _ _ _
   | exact impl_ParseWiring.mono _ _
   | exact impl_SwapsOf.mono _ _ _
   | exact impl_TurnWiring.mono _ _ _
   | exact impl_WiresAfter.mono _ _ _ _
   | exact impl_WiringFrom.mono _ _ _
   | exact impl_WiringText.mono _ _ _
   | exact laws_sameInts.mono _ _ _
   | exact laws_sameLists.mono _ _ _
   | exact spec_DrawIsWiring.mono _ _
   | exact spec_DrawParseWiring.mono _ _
   | exact spec_DrawWiresAfter.mono _ _
   | exact spec_DrawWiringFrom.mono _ _
   | exact spec_FlipWiring.mono _ _ _
   | exact spec_IsWiring.mono _ _ _
   | exact spec_ParseWiring.mono _ _
   | exact spec_SwapsOf.mono _ _ _
   | exact spec_TurnWiring.mono _ _ _
   | exact spec_WiresAfter.mono _ _ _ _
   | exact spec_WiringFrom.mono _ _ _
   | exact spec_WiringText.mono _ _ _
   | exact LeO.none _
   | refine LeO.ite ?_ ?_
   | refine LeO.bind ?_ (fun _ => ?_)
  ·intro y0 y1 y2 y3 y4 y5 y6 y7 y8 y9
   unfold laws_FnWirings.j1
   repeat' first
   | (with_reducible exact ih0 _ _ _ _ _ _ _ _ _ _ _ _)
   | (with_reducible exact ih1 _ _ _ _ _ _ _ _ _ _)
   | (with_reducible exact ih2 _ _ _ _ _ _)
   | (with_reducible exact ih3 _ _ _ _ _ _ _ _ _ _)
   | (with_reducible exact impl_FlipWiring.mono _ _ _)
   | (with_reducible exact impl_IsWiring.mono _ _ _)
   | (with_reducible exact impl_ParseWiring.mono _ _)
   | (with_reducible exact impl_SwapsOf.mono _ _ _)
   | (with_reducible exact impl_TurnWiring.mono _ _ _)
   | (with_reducible exact impl_WiresAfter.mono _ _ _ _)
   | (with_reducible exact impl_WiringFrom.mono _ _ _)
   | (with_reducible exact impl_WiringText.mono _ _ _)
   | (with_reducible exact laws_sameInts.mono _ _ _)
   | (with_reducible exact laws_sameLists.mono _ _ _)
   | (with_reducible exact spec_DrawIsWiring.mono _ _)
   | (with_reducible exact spec_DrawParseWiring.mono _ _)
   | (with_reducible exact spec_DrawWiresAfter.mono _ _)
   | (with_reducible exact spec_DrawWiringFrom.mono _ _)
   | (with_reducible exact spec_FlipWiring.mono _ _ _)
   | (with_reducible exact spec_IsWiring.mono _ _ _)
   | (with_reducible exact spec_ParseWiring.mono _ _)
   | (with_reducible exact spec_SwapsOf.mono _ _ _)
   | (with_reducible exact spec_TurnWiring.mono _ _ _)
   | (with_reducible exact spec_WiresAfter.mono _ _ _ _)
   | (with_reducible exact spec_WiringFrom.mono _ _ _)
   | (with_reducible exact spec_WiringText.mono _ _ _)
   | (with_reducible exact LeO.refl _)
   | (with_reducible exact LeO.none _)
   | (with_reducible refine LeO.ite ?_ ?_)
   | (with_reducible refine LeO.bind ?_ (fun _ => ?_))
   | exact ih0 _ _ _ _ _ _ _ _ _ _ _ _
   | exact ih1 _ _ _ _ _ _ _ _ _ _
   | exact ih2 _ _ _ _ _ _
   | exact ih3 _ _ _ _ _ _ _ _ _ _
   | exact impl_FlipWiring.mono _ _ _
   | exact impl_IsWiring.mono _ _ _
   | exact impl_ParseWiring.mono _ _
   | exact impl_SwapsOf.mono _ _ _
   | exact impl_TurnWiring.mono _ _ _
   | exact impl_WiresAfter.mono _ _ _ _
   | exact impl_WiringFrom.mono _ _ _
   | exact impl_WiringText.mono _ _ _
   | exact laws_sameInts.mono _ _ _
   | exact laws_sameLists.mono _ _ _
   | exact spec_DrawIsWiring.mono _ _
   | exact spec_DrawParseWiring.mono _ _
   | exact spec_DrawWiresAfter.mono _ _
   | exact spec_DrawWiringFrom.mono _ _
   | exact spec_FlipWiring.mono _ _ _
   | exact spec_IsWiring.mono _ _ _
   | exact spec_ParseWiring.mono _ _
   | exact spec_SwapsOf.mono _ _ _
   | exact spec_TurnWiring.mono _ _ _
   | exact spec_WiresAfter.mono _ _ _ _
   | exact spec_WiringFrom.mono _ _ _
   | exact spec_WiringText.mono _ _ _
   | exact LeO.none _
   | refine LeO.ite ?_ ?_
   | refine LeO.bind ?_ (fun _ => ?_)
  ·intro y0 y1 y2 y3 y4 y5
   unfold laws_FnWirings.j2
   repeat' first
   | (with_reducible exact ih0 _ _ _ _ _ _ _ _ _ _ _ _)
   | (with_reducible exact ih1 _ _ _ _ _ _ _ _ _ _)
   | (with_reducible exact ih2 _ _ _ _ _ _)
   | (with_reducible exact ih3 _ _ _ _ _ _ _ _ _ _)
   | (with_reducible exact impl_FlipWiring.mono _ _ _)
   | (with_reducible exact impl_IsWiring.mono _ _ _)
   | (with_reducible exact impl_ParseWiring.mono _ _)
   | (with_reducible exact impl_SwapsOf.mono _ _ _)
   | (with_reducible exact impl_TurnWiring.mono _ _ _)
   | (with_reducible exact impl_WiresAfter.mono _ _ _ _)
   | (with_reducible exact impl_WiringFrom.mono _ _ _)
   | (with_reducible exact impl_WiringText.mono _ _ _)
   | (with_reducible exact laws_sameInts.mono _ _ _)
   | (with_reducible exact laws_sameLists.mono _ _ _)
   | (with_reducible exact spec_DrawIsWiring.mono _ _)
   | (with_reducible exact spec_DrawParseWiring.mono _ _)
   | (with_reducible exact spec_DrawWiresAfter.mono _ _)
   | (with_reducible exact spec_DrawWiringFrom.mono _ _)
   | (with_reducible exact spec_FlipWiring.mono _ _ _)
   | (with_reducible exact spec_IsWiring.mono _ _ _)
   | (with_reducible exact spec_ParseWiring.mono _ _)
   | (with_reducible exact spec_SwapsOf.mono _ _ _)
   | (with_reducible exact spec_TurnWiring.mono _ _ _)
   | (with_reducible exact spec_WiresAfter.mono _ _ _ _)
   | (with_reducible exact spec_WiringFrom.mono _ _ _)
   | (with_reducible exact spec_WiringText.mono _ _ _)
   | (with_reducible exact LeO.refl _)
   | (with_reducible exact LeO.none _)
   | (with_reducible refine LeO.ite ?_ ?_)
   | (with_reducible refine LeO.bind ?_ (fun _ => ?_))
   | exact ih0 _ _ _ _ _ _ _ _ _ _ _ _
   | exact ih1 _ _ _ _ _ _ _ _ _ _
   | exact ih2 _ _ _ _ _ _
   | exact ih3 _ _ _ _ _ _ _ _ _ _
   | exact impl_FlipWiring.mono _ _ _
   | exact impl_IsWiring.mono _ _ _
   | exact impl_ParseWiring.mono _ _
   | exact impl_SwapsOf.mono _ _ _
   | exact impl_TurnWiring.mono _ _ _
   | exact impl_WiresAfter.mono _ _ _ _
   | exact impl_WiringFrom.mono _ _ _
   | exact impl_WiringText.mono _ _ _
   | exact laws_sameInts.mono _ _ _
   | exact laws_sameLists.mono _ _ _
   | exact spec_DrawIsWiring.mono _ _
   | exact spec_DrawParseWiring.mono _ _
   | exact spec_DrawWiresAfter.mono _ _
   | exact spec_DrawWiringFrom.mono _ _
   | exact spec_FlipWiring.mono _ _ _
   | exact spec_IsWiring.mono _ _ _
   | exact spec_ParseWiring.mono _ _
   | exact spec_SwapsOf.mono _ _ _
   | exact spec_TurnWiring.mono _ _ _
   | exact spec_WiresAfter.mono _ _ _ _
   | exact spec_WiringFrom.mono _ _ _
   | exact spec_WiringText.mono _ _ _
   | exact LeO.none _
   | refine LeO.ite ?_ ?_
   | refine LeO.bind ?_ (fun _ => ?_)
  ·intro y0 y1 y2 y3 y4 y5 y6 y7 y8 y9
   unfold laws_FnWirings.l0
   repeat' first
   | (with_reducible exact ih0 _ _ _ _ _ _ _ _ _ _ _ _)
   | (with_reducible exact ih1 _ _ _ _ _ _ _ _ _ _)
   | (with_reducible exact ih2 _ _ _ _ _ _)
   | (with_reducible exact ih3 _ _ _ _ _ _ _ _ _ _)
   | (with_reducible exact impl_FlipWiring.mono _ _ _)
   | (with_reducible exact impl_IsWiring.mono _ _ _)
   | (with_reducible exact impl_ParseWiring.mono _ _)
   | (with_reducible exact impl_SwapsOf.mono _ _ _)
   | (with_reducible exact impl_TurnWiring.mono _ _ _)
   | (with_reducible exact impl_WiresAfter.mono _ _ _ _)
   | (with_reducible exact impl_WiringFrom.mono _ _ _)
   | (with_reducible exact impl_WiringText.mono _ _ _)
   | (with_reducible exact laws_sameInts.mono _ _ _)
   | (with_reducible exact laws_sameLists.mono _ _ _)
   | (with_reducible exact spec_DrawIsWiring.mono _ _)
   | (with_reducible exact spec_DrawParseWiring.mono _ _)
   | (with_reducible exact spec_DrawWiresAfter.mono _ _)
   | (with_reducible exact spec_DrawWiringFrom.mono _ _)
   | (with_reducible exact spec_FlipWiring.mono _ _ _)
   | (with_reducible exact spec_IsWiring.mono _ _ _)
   | (with_reducible exact spec_ParseWiring.mono _ _)
   | (with_reducible exact spec_SwapsOf.mono _ _ _)
   | (with_reducible exact spec_TurnWiring.mono _ _ _)
   | (with_reducible exact spec_WiresAfter.mono _ _ _ _)
   | (with_reducible exact spec_WiringFrom.mono _ _ _)
   | (with_reducible exact spec_WiringText.mono _ _ _)
   | (with_reducible exact LeO.refl _)
   | (with_reducible exact LeO.none _)
   | (with_reducible refine LeO.ite ?_ ?_)
   | (with_reducible refine LeO.bind ?_ (fun _ => ?_))
   | exact ih0 _ _ _ _ _ _ _ _ _ _ _ _
   | exact ih1 _ _ _ _ _ _ _ _ _ _
   | exact ih2 _ _ _ _ _ _
   | exact ih3 _ _ _ _ _ _ _ _ _ _
   | exact impl_FlipWiring.mono _ _ _
   | exact impl_IsWiring.mono _ _ _
   | exact impl_ParseWiring.mono _ _
   | exact impl_SwapsOf.mono _ _ _
   | exact impl_TurnWiring.mono _ _ _
   | exact impl_WiresAfter.mono _ _ _ _
   | exact impl_WiringFrom.mono _ _ _
   | exact impl_WiringText.mono _ _ _
   | exact laws_sameInts.mono _ _ _
   | exact laws_sameLists.mono _ _ _
   | exact spec_DrawIsWiring.mono _ _
   | exact spec_DrawParseWiring.mono _ _
   | exact spec_DrawWiresAfter.mono _ _
   | exact spec_DrawWiringFrom.mono _ _
   | exact spec_FlipWiring.mono _ _ _
   | exact spec_IsWiring.mono _ _ _
   | exact spec_ParseWiring.mono _ _
   | exact spec_SwapsOf.mono _ _ _
   | exact spec_TurnWiring.mono _ _ _
   | exact spec_WiresAfter.mono _ _ _ _
   | exact spec_WiringFrom.mono _ _ _
   | exact spec_WiringText.mono _ _ _
   | exact LeO.none _
   | refine LeO.ite ?_ ?_
   | refine LeO.bind ?_ (fun _ => ?_)
theorem laws_FnWirings.mono : ∀ a0 k, LeO (laws_FnWirings.f k a0) (laws_FnWirings.f (k + 1) a0) := by
 intro a0 k
 obtain ⟨ih0, ih1, ih2, ih3⟩ := laws_FnWirings.mono_l k
 unfold laws_FnWirings.f
 repeat' first
   | (with_reducible exact ih0 _ _ _ _ _ _ _ _ _ _ _ _)
   | (with_reducible exact ih1 _ _ _ _ _ _ _ _ _ _)
   | (with_reducible exact ih2 _ _ _ _ _ _)
   | (with_reducible exact ih3 _ _ _ _ _ _ _ _ _ _)
   | (with_reducible exact impl_FlipWiring.mono _ _ _)
   | (with_reducible exact impl_IsWiring.mono _ _ _)
   | (with_reducible exact impl_ParseWiring.mono _ _)
   | (with_reducible exact impl_SwapsOf.mono _ _ _)
   | (with_reducible exact impl_TurnWiring.mono _ _ _)
   | (with_reducible exact impl_WiresAfter.mono _ _ _ _)
   | (with_reducible exact impl_WiringFrom.mono _ _ _)
   | (with_reducible exact impl_WiringText.mono _ _ _)
   | (with_reducible exact laws_sameInts.mono _ _ _)
   | (with_reducible exact laws_sameLists.mono _ _ _)
   | (with_reducible exact spec_DrawIsWiring.mono _ _)
   | (with_reducible exact spec_DrawParseWiring.mono _ _)
   | (with_reducible exact spec_DrawWiresAfter.mono _ _)
   | (with_reducible exact spec_DrawWiringFrom.mono _ _)
   | (with_reducible exact spec_FlipWiring.mono _ _ _)
   | (with_reducible exact spec_IsWiring.mono _ _ _)
   | (with_reducible exact spec_ParseWiring.mono _ _)
   | (with_reducible exact spec_SwapsOf.mono _ _ _)
   | (with_reducible exact spec_TurnWiring.mono _ _ _)
   | (with_reducible exact spec_WiresAfter.mono _ _ _ _)
   | (with_reducible exact spec_WiringFrom.mono _ _ _)
   | (with_reducible exact spec_WiringText.mono _ _ _)
   | (with_reducible exact LeO.refl _)
   | (with_reducible exact LeO.none _)
   | (with_reducible refine LeO.ite ?_ ?_)
   | (with_reducible refine LeO.bind ?_ (fun _ => ?_))
   | exact ih0 _ _ _ _ _ _ _ _ _ _ _ _
   | exact ih1 _ _ _ _ _ _ _ _ _ _
   | exact ih2 _ _ _ _ _ _
   | exact ih3 _ _ _ _ _ _ _ _ _ _
   | exact impl_FlipWiring.mono _ _ _
   | exact impl_IsWiring.mono _ _ _
   | exact impl_ParseWiring.mono _ _
   | exact impl_SwapsOf.mono _ _ _
   | exact impl_TurnWiring.mono _ _ _
   | exact impl_WiresAfter.mono _ _ _ _
   | exact impl_WiringFrom.mono _ _ _
   | exact impl_WiringText.mono _ _ _
   | exact laws_sameInts.mono _ _ _
   | exact laws_sameLists.mono _ _ _
   | exact spec_DrawIsWiring.mono _ _
   | exact spec_DrawParseWiring.mono _ _
   | exact spec_DrawWiresAfter.mono _ _
   | exact spec_DrawWiringFrom.mono _ _
   | exact spec_FlipWiring.mono _ _ _
   | exact spec_IsWiring.mono _ _ _
   | exact spec_ParseWiring.mono _ _
   | exact spec_SwapsOf.mono _ _ _
   | exact spec_TurnWiring.mono _ _ _
   | exact spec_WiresAfter.mono _ _ _ _
   | exact spec_WiringFrom.mono _ _ _
   | exact spec_WiringText.mono _ _ _
   | exact LeO.none _
   | refine LeO.ite ?_ ?_
   | refine LeO.bind ?_ (fun _ => ?_)
theorem laws_FnWirings.j0n {k a0 a1 a2 a3 a4 a5 a6 a7 a8 a9 a10} (h : laws_FnWirings.j0 k a0 a1 a2 a3 a4 a5 a6 a7 a8 a9 a10 true = some true) : False := by cases k <;> simp [laws_FnWirings.j0] at h
theorem laws_FnWirings.j1n {k a0 a1 a2 a3 a4 a5 a6 a7 a8} (h : laws_FnWirings.j1 k a0 a1 a2 a3 a4 a5 a6 a7 a8 true = some true) : False := by cases k <;> simp [laws_FnWirings.j1] at h
theorem laws_FnWirings.j2n {k a0 a1 a2 a3 a4} (h : laws_FnWirings.j2 k a0 a1 a2 a3 a4 true = some true) : False := by cases k <;> simp [laws_FnWirings.j2] at h
set_option maxHeartbeats 8000000 in
set_option maxRecDepth 100000 in
theorem laws_FnWirings.calls (k : Nat) (A0 : Option Addr) (c0 : Nat) (l0 : List Int) (w : World) (hv_ : VarsOk w) (hr0 : Kd.C (Kd.int .u8) w A0 l0.length l0) (hc0 : l0.length ≤ c0) (h : laws_FnWirings.f k l0 = some true) :
  Calls Tryd.prog 3 #[.slice A0 l0.length c0] w fun e w' => e = .returned (.bool true) ∧ Below w.heap.size w w' := by
 have HR0 := Aside0.mk hr0
 have HC0 := Aside0.mk hc0
 clear hr0 hc0
 have HB := Aside0.mk (Below.refl w.heap.size w)
 have HV_ := Aside0.mk hv_
 clear hv_
 have H : ((laws_big.f l0).bind fun t518 => (if t518 = true then (some true) else ((spec_DrawIsWiring.f k l0).bind fun bt519 => ((impl_IsWiring.f k bt519.1 bt519.2).bind fun t523 => ((spec_DrawWiresAfter.f k l0).bind fun bt524 => ((spec_DrawWiringFrom.f k l0).bind fun bt529 => ((impl_WiringFrom.f k bt529.1 bt529.2).bind fun bt533 => ((spec_WiringFrom.f k bt529.1 bt529.2).bind fun bt537 => ((spec_DrawParseWiring.f k l0).bind fun t541 => ((impl_ParseWiring.f k t541).bind fun bt542 => ((spec_ParseWiring.f k t541).bind fun bt547 => ((impl_TurnWiring.f k bt519.1 bt519.2).bind fun bt552 => ((spec_TurnWiring.f k bt519.1 bt519.2).bind fun bt556 => ((impl_FlipWiring.f k bt519.1 bt519.2).bind fun bt560 => ((spec_FlipWiring.f k bt519.1 bt519.2).bind fun bt564 => ((spec_IsWiring.f k bt519.1 bt519.2).bind fun t568 => (if (t523 != t568) = true then (laws_FnWirings.j0 k bt519.1 bt519.2 t523 bt529.1 bt529.2 bt533.1 bt533.2 bt552.1 bt552.2 bt560.1 bt560.2 true) else ((impl_WiresAfter.f k bt524.1 bt524.2.1 bt524.2.2).bind fun t569 => ((spec_WiresAfter.f k bt524.1 bt524.2.1 bt524.2.2).bind fun t572 => ((laws_sameInts.f k t569 t572).bind fun t575 => (if t575 = true then (if (bt533.2 != bt537.2) = true then (laws_FnWirings.j0 k bt519.1 bt519.2 t523 bt529.1 bt529.2 bt533.1 bt533.2 bt552.1 bt552.2 bt560.1 bt560.2 true) else ((laws_sameInts.f k bt533.1 bt537.1).bind fun t576 => (if t576 = true then (if (bt542.2.2 != bt547.2.2) = true then (laws_FnWirings.j0 k bt519.1 bt519.2 t523 bt529.1 bt529.2 bt533.1 bt533.2 bt552.1 bt552.2 bt560.1 bt560.2 true) else (if bt542.1 = bt547.1 then ((laws_sameInts.f k bt542.2.1 bt547.2.1).bind fun t577 => (if t577 = true then (if (bt552.2 != bt556.2) = true then (laws_FnWirings.j0 k bt519.1 bt519.2 t523 bt529.1 bt529.2 bt533.1 bt533.2 bt552.1 bt552.2 bt560.1 bt560.2 true) else ((laws_sameInts.f k bt552.1 bt556.1).bind fun t578 => (if t578 = true then (if (bt560.2 != bt564.2) = true then (laws_FnWirings.j0 k bt519.1 bt519.2 t523 bt529.1 bt529.2 bt533.1 bt533.2 bt552.1 bt552.2 bt560.1 bt560.2 true) else ((laws_sameInts.f k bt560.1 bt564.1).bind fun t579 => (if t579 = true then ((impl_SwapsOf.f k bt519.1 bt519.2).bind fun t580 => ((spec_SwapsOf.f k bt519.1 bt519.2).bind fun t583 => ((laws_sameLists.f k t580 t583).bind fun t586 => (laws_FnWirings.j0 k bt519.1 bt519.2 t523 bt529.1 bt529.2 bt533.1 bt533.2 bt552.1 bt552.2 bt560.1 bt560.2 (!t586))))) else (laws_FnWirings.j0 k bt519.1 bt519.2 t523 bt529.1 bt529.2 bt533.1 bt533.2 bt552.1 bt552.2 bt560.1 bt560.2 true)))) else (laws_FnWirings.j0 k bt519.1 bt519.2 t523 bt529.1 bt529.2 bt533.1 bt533.2 bt552.1 bt552.2 bt560.1 bt560.2 true)))) else (laws_FnWirings.j0 k bt519.1 bt519.2 t523 bt529.1 bt529.2 bt533.1 bt533.2 bt552.1 bt552.2 bt560.1 bt560.2 true))) else (laws_FnWirings.j0 k bt519.1 bt519.2 t523 bt529.1 bt529.2 bt533.1 bt533.2 bt552.1 bt552.2 bt560.1 bt560.2 true))) else (laws_FnWirings.j0 k bt519.1 bt519.2 t523 bt529.1 bt529.2 bt533.1 bt533.2 bt552.1 bt552.2 bt560.1 bt560.2 true)))) else (laws_FnWirings.j0 k bt519.1 bt519.2 t523 bt529.1 bt529.2 bt533.1 bt533.2 bt552.1 bt552.2 bt560.1 bt560.2 true)))))))))))))))))))))) = some true := h
 clear h
 replace H := Option.bind_eq_some_iff.mp H
 obtain ⟨t518, A20, H⟩ := H
 (try dsimp only at H)
 have A2 := Aside0.mk A20
 clear A20
 by_cases c3 : t518 = true
 ·subst c3
  have H1 : (some true) = some true := rfl
  clear H
  have H := H1
  clear H1
  clear H
  go_enter Tryd.func3, Tryd.ntmps3
  go_wp2_with (first | ((with_reducible refine gate_callee (f := 4) rfl ?_); refine gL (some 41) rfl rfl Tryd.func4 (by kernel_rfl) rfl #[.slice A0 l0.length c0] rfl ?_; (with_reducible refine (laws_big.calls _ _ l0 true _ ?side1 ?side2 A2.out).mono ?_); (case side1 => repeat (first | exact HR0.out | (with_reducible refine Kd.C_alloc ?_ _) | (with_reducible refine Kd.C_drewN ?_ _) | (with_reducible refine Kd.C_drew ?_))); (case side2 => exact HC0.out); rintro e w' ⟨rfl, ⟨nd, rfl⟩⟩; refine ⟨_, rfl, ?_⟩))
  go_ret
  exact ⟨by first | rfl | (simp [errW_none, errW_some] <;> rfl) | (simp [*, errW_none, errW_some] <;> rfl), (bl HB)⟩
 ·replace c3 := Bool.eq_false_iff.mpr c3
  subst c3
  have H1 : ((spec_DrawIsWiring.f k l0).bind fun bt519 => ((impl_IsWiring.f k bt519.1 bt519.2).bind fun t523 => ((spec_DrawWiresAfter.f k l0).bind fun bt524 => ((spec_DrawWiringFrom.f k l0).bind fun bt529 => ((impl_WiringFrom.f k bt529.1 bt529.2).bind fun bt533 => ((spec_WiringFrom.f k bt529.1 bt529.2).bind fun bt537 => ((spec_DrawParseWiring.f k l0).bind fun t541 => ((impl_ParseWiring.f k t541).bind fun bt542 => ((spec_ParseWiring.f k t541).bind fun bt547 => ((impl_TurnWiring.f k bt519.1 bt519.2).bind fun bt552 => ((spec_TurnWiring.f k bt519.1 bt519.2).bind fun bt556 => ((impl_FlipWiring.f k bt519.1 bt519.2).bind fun bt560 => ((spec_FlipWiring.f k bt519.1 bt519.2).bind fun bt564 => ((spec_IsWiring.f k bt519.1 bt519.2).bind fun t568 => (if (t523 != t568) = true then (laws_FnWirings.j0 k bt519.1 bt519.2 t523 bt529.1 bt529.2 bt533.1 bt533.2 bt552.1 bt552.2 bt560.1 bt560.2 true) else ((impl_WiresAfter.f k bt524.1 bt524.2.1 bt524.2.2).bind fun t569 => ((spec_WiresAfter.f k bt524.1 bt524.2.1 bt524.2.2).bind fun t572 => ((laws_sameInts.f k t569 t572).bind fun t575 => (if t575 = true then (if (bt533.2 != bt537.2) = true then (laws_FnWirings.j0 k bt519.1 bt519.2 t523 bt529.1 bt529.2 bt533.1 bt533.2 bt552.1 bt552.2 bt560.1 bt560.2 true) else ((laws_sameInts.f k bt533.1 bt537.1).bind fun t576 => (if t576 = true then (if (bt542.2.2 != bt547.2.2) = true then (laws_FnWirings.j0 k bt519.1 bt519.2 t523 bt529.1 bt529.2 bt533.1 bt533.2 bt552.1 bt552.2 bt560.1 bt560.2 true) else (if bt542.1 = bt547.1 then ((laws_sameInts.f k bt542.2.1 bt547.2.1).bind fun t577 => (if t577 = true then (if (bt552.2 != bt556.2) = true then (laws_FnWirings.j0 k bt519.1 bt519.2 t523 bt529.1 bt529.2 bt533.1 bt533.2 bt552.1 bt552.2 bt560.1 bt560.2 true) else ((laws_sameInts.f k bt552.1 bt556.1).bind fun t578 => (if t578 = true then (if (bt560.2 != bt564.2) = true then (laws_FnWirings.j0 k bt519.1 bt519.2 t523 bt529.1 bt529.2 bt533.1 bt533.2 bt552.1 bt552.2 bt560.1 bt560.2 true) else ((laws_sameInts.f k bt560.1 bt564.1).bind fun t579 => (if t579 = true then ((impl_SwapsOf.f k bt519.1 bt519.2).bind fun t580 => ((spec_SwapsOf.f k bt519.1 bt519.2).bind fun t583 => ((laws_sameLists.f k t580 t583).bind fun t586 => (laws_FnWirings.j0 k bt519.1 bt519.2 t523 bt529.1 bt529.2 bt533.1 bt533.2 bt552.1 bt552.2 bt560.1 bt560.2 (!t586))))) else (laws_FnWirings.j0 k bt519.1 bt519.2 t523 bt529.1 bt529.2 bt533.1 bt533.2 bt552.1 bt552.2 bt560.1 bt560.2 true)))) else (laws_FnWirings.j0 k bt519.1 bt519.2 t523 bt529.1 bt529.2 bt533.1 bt533.2 bt552.1 bt552.2 bt560.1 bt560.2 true)))) else (laws_FnWirings.j0 k bt519.1 bt519.2 t523 bt529.1 bt529.2 bt533.1 bt533.2 bt552.1 bt552.2 bt560.1 bt560.2 true))) else (laws_FnWirings.j0 k bt519.1 bt519.2 t523 bt529.1 bt529.2 bt533.1 bt533.2 bt552.1 bt552.2 bt560.1 bt560.2 true))) else (laws_FnWirings.j0 k bt519.1 bt519.2 t523 bt529.1 bt529.2 bt533.1 bt533.2 bt552.1 bt552.2 bt560.1 bt560.2 true)))) else (laws_FnWirings.j0 k bt519.1 bt519.2 t523 bt529.1 bt529.2 bt533.1 bt533.2 bt552.1 bt552.2 bt560.1 bt560.2 true)))))))))))))))))))) = some true := by rw [if_neg (show ¬ (false = true) by decide)] at H; exact H
  clear H
  have H := H1
  clear H1
  replace H := Option.bind_eq_some_iff.mp H
  obtain ⟨⟨t519, t520⟩, A40, H⟩ := H
  (try dsimp only at H)
  have A4 := Aside0.mk A40
  clear A40
  replace H := Option.bind_eq_some_iff.mp H
  obtain ⟨t523, A50, H⟩ := H
  (try dsimp only at H)
  have A5 := Aside0.mk A50
  clear A50
  replace H := Option.bind_eq_some_iff.mp H
  obtain ⟨⟨t524, t525, t526⟩, A60, H⟩ := H
  (try dsimp only at H)
  have A6 := Aside0.mk A60
  clear A60
  replace H := Option.bind_eq_some_iff.mp H
  obtain ⟨⟨t529, t530⟩, A70, H⟩ := H
  (try dsimp only at H)
  have A7 := Aside0.mk A70
  clear A70
  replace H := Option.bind_eq_some_iff.mp H
  obtain ⟨⟨t533, t534⟩, A80, H⟩ := H
  (try dsimp only at H)
  have A8 := Aside0.mk A80
  clear A80
  replace H := Option.bind_eq_some_iff.mp H
  obtain ⟨⟨t537, t538⟩, A90, H⟩ := H
  (try dsimp only at H)
  have A9 := Aside0.mk A90
  clear A90
  replace H := Option.bind_eq_some_iff.mp H
  obtain ⟨t541, A100, H⟩ := H
  (try dsimp only at H)
  have A10 := Aside0.mk A100
  clear A100
  replace H := Option.bind_eq_some_iff.mp H
  obtain ⟨⟨t542, t543, t544⟩, A110, H⟩ := H
  (try dsimp only at H)
  have A11 := Aside0.mk A110
  clear A110
  replace H := Option.bind_eq_some_iff.mp H
  obtain ⟨⟨t547, t548, t549⟩, A120, H⟩ := H
  (try dsimp only at H)
  have A12 := Aside0.mk A120
  clear A120
  replace H := Option.bind_eq_some_iff.mp H
  obtain ⟨⟨t552, t553⟩, A130, H⟩ := H
  (try dsimp only at H)
  have A13 := Aside0.mk A130
  clear A130
  replace H := Option.bind_eq_some_iff.mp H
  obtain ⟨⟨t556, t557⟩, A140, H⟩ := H
  (try dsimp only at H)
  have A14 := Aside0.mk A140
  clear A140
  replace H := Option.bind_eq_some_iff.mp H
  obtain ⟨⟨t560, t561⟩, A150, H⟩ := H
  (try dsimp only at H)
  have A15 := Aside0.mk A150
  clear A150
  replace H := Option.bind_eq_some_iff.mp H
  obtain ⟨⟨t564, t565⟩, A160, H⟩ := H
  (try dsimp only at H)
  have A16 := Aside0.mk A160
  clear A160
  have HC17 := Aside0.mk H
  clear H
  go_enter Tryd.func3, Tryd.ntmps3
  go_upto_region 16 with (first | ((with_reducible refine gate_callee (f := 4) rfl ?_); refine gL (some 41) rfl rfl Tryd.func4 (by kernel_rfl) rfl #[.slice A0 l0.length c0] rfl ?_; (with_reducible refine (laws_big.calls _ _ l0 false _ ?side1 ?side2 A2.out).mono ?_); (case side1 => repeat (first | exact HR0.out | (with_reducible refine Kd.C_alloc ?_ _) | (with_reducible refine Kd.C_drewN ?_ _) | (with_reducible refine Kd.C_drew ?_))); (case side2 => exact HC0.out); rintro e w' ⟨rfl, ⟨nd, rfl⟩⟩; refine ⟨_, rfl, ?_⟩) | ((with_reducible refine gate_callee (f := 5) rfl ?_); refine gL (some 44) rfl rfl Tryd.func5 (by kernel_rfl) rfl #[.slice A0 l0.length c0] rfl ?_; (with_reducible refine (spec_DrawIsWiring.calls k _ _ l0 t519 t520 _ ?side1 ?side2 A4.out).mono ?_); (case side1 => repeat (first | exact HR0.out | (with_reducible refine Kd.C_alloc ?_ _) | (with_reducible refine Kd.C_drewN ?_ _) | (with_reducible refine Kd.C_drew ?_))); (case side2 => exact HC0.out); rintro e w18 ⟨v521, rfl, ho0, hb⟩; refine ⟨_, rfl, ?_⟩; have n0_ := Aside0.mk (Kd.R_lower ho0 (below_size (bl HB))); have n1_ := bs HB hb; clear HB; have HO522 := n0_; have HB := n1_; clear n0_ n1_; (try clear hb); (try clear hb2); (try clear hk); (try clear hi); (try clear ho0); obtain ⟨Ao19, co19, eo19⟩ := Kd.R_slice HO522.out; subst eo19) | ((with_reducible refine gate_callee (f := 6) rfl ?_); refine gL (some 49) rfl rfl Tryd.func6 (by kernel_rfl) rfl #[.int .i64 t519, .slice Ao19 t520.length co19] rfl ?_; (with_reducible refine (impl_IsWiring.calls k t519 _ _ t520 t523 _ ?side1 ?side2 A5.out).mono ?_); (case side1 => repeat (first | exact (Kd.R_reads' HO522.out).2.2 | (with_reducible refine Kd.C_alloc ?_ _) | (with_reducible refine Kd.C_drewN ?_ _) | (with_reducible refine Kd.C_drew ?_))); (case side2 => exact (Kd.R_reads' HO522.out).2.1); rintro e w20 ⟨rfl, hb⟩; refine ⟨_, rfl, ?_⟩; have n0_ := Aside0.mk (Kd.R_below (rr HO522) hb); have n1_ := bs HB hb; clear HO522; clear HB; have HO522 := n0_; have HB := n1_; clear n0_ n1_; (try clear hb); (try clear hb2); (try clear hk); (try clear hi)) | ((with_reducible refine gate_callee (f := 7) rfl ?_); refine gL (some 52) rfl rfl Tryd.func7 (by kernel_rfl) rfl #[.slice A0 l0.length c0] rfl ?_; (with_reducible refine (spec_DrawWiresAfter.calls k _ _ l0 t524 t525 t526 _ ?side1 ?side2 A6.out).mono ?_); (case side1 => repeat (first | exact (Kd.C_below HR0.out HB.out) | (with_reducible refine Kd.C_alloc ?_ _) | (with_reducible refine Kd.C_drewN ?_ _) | (with_reducible refine Kd.C_drew ?_))); (case side2 => exact HC0.out); rintro e w21 ⟨v527, rfl, ho0, hb⟩; refine ⟨_, rfl, ?_⟩; have n0_ := Aside0.mk (Kd.R_elder' (rr HO522) (Kd.R_base ho0) hb); have n1_ := Aside0.mk (Kd.R_lower (Kd.R_new' ho0 (Kd.R_lt (rr HO522))) (below_size (bl HB))); have n2_ := bs HB hb; clear HO522; clear HB; have HO522 := n0_; have HO528 := n1_; have HB := n2_; clear n0_ n1_ n2_; (try clear hb); (try clear hb2); (try clear hk); (try clear hi); (try clear ho0)) | ((with_reducible refine gate_callee (f := 8) rfl ?_); refine gL (some 58) rfl rfl Tryd.func8 (by kernel_rfl) rfl #[.slice A0 l0.length c0] rfl ?_; (with_reducible refine (spec_DrawWiringFrom.calls k _ _ l0 t529 t530 _ ?side1 ?side2 A7.out).mono ?_); (case side1 => repeat (first | exact (Kd.C_below HR0.out HB.out) | (with_reducible refine Kd.C_alloc ?_ _) | (with_reducible refine Kd.C_drewN ?_ _) | (with_reducible refine Kd.C_drew ?_))); (case side2 => exact HC0.out); rintro e w22 ⟨v531, rfl, ho0, hb⟩; refine ⟨_, rfl, ?_⟩; have n0_ := Aside0.mk (Kd.R_below (rr HO522) hb); have n1_ := Aside0.mk (Kd.R_below (rr HO528) hb); have n2_ := Aside0.mk (Kd.N_lower (Kd.N_mono (ok' := fun k_ => some k_ ≠ (.slice Ao19 t520.length co19 : Value).ownBlock ∧ some k_ ≠ (v527 : Value).ownBlock) ho0 (fun k_ hk_ => ⟨(Kd.fresh' (Kd.R_lt (rr HO522)) k_ hk_), (Kd.fresh' (Kd.R_lt (rr HO528)) k_ hk_)⟩)) (below_size (bl HB))); have n3_ := bs HB hb; clear HO522; clear HO528; clear HB; have HO522 := n0_; have HO528 := n1_; have HO532 := n2_; have HB := n3_; clear n0_ n1_ n2_ n3_; (try clear hb); (try clear hb2); (try clear hk); (try clear hi); (try clear ho0); obtain ⟨Ao23, co23, eo23⟩ := Kd.N_slice HO532.out; subst eo23) | ((with_reducible refine gate_callee (f := 9) rfl ?_); refine gL (some 64) rfl rfl Tryd.func9 (by kernel_rfl) rfl #[.int .i64 t529, .slice Ao23 t530.length co23] rfl ?_; (with_reducible refine (impl_WiringFrom.calls k t529 _ _ t530 t533 t534 _ ?side1 ?side2 A8.out).mono ?_); (case side1 => repeat (first | exact (Kd.N_reads' HO532.out).2.2 | (with_reducible refine Kd.C_alloc ?_ _) | (with_reducible refine Kd.C_drewN ?_ _) | (with_reducible refine Kd.C_drew ?_))); (case side2 => exact (Kd.N_reads' HO532.out).2.1); rintro e w24 ⟨v535, rfl, ho0, hb⟩; refine ⟨_, rfl, ?_⟩; have n0_ := Aside0.mk (Kd.R_elder' (rr HO522) (Kd.R_base ho0) hb); have n1_ := Aside0.mk (Kd.R_elder' (rr HO528) (Kd.R_base ho0) hb); have n2_ := Aside0.mk (Kd.N_elder' (by (with_reducible repeat (first | apply Kd.N_alloc | apply Kd.N_drewN | apply Kd.N_drew)); exact HO532.out) (Kd.R_base ho0) hb); have n3_ := Aside0.mk (Kd.R_lower (Kd.R_new' (Kd.R_new' ho0 (Kd.R_lt (rr HO522))) (Kd.R_lt (rr HO528))) (below_size (bl HB))); have n4_ := bs HB hb; clear HO522; clear HO528; clear HO532; clear HB; have HO522 := n0_; have HO528 := n1_; have HO532 := n2_; have HO536 := n3_; have HB := n4_; clear n0_ n1_ n2_ n3_ n4_; (try clear hb); (try clear hb2); (try clear hk); (try clear hi); (try clear ho0)) | ((with_reducible refine gate_callee (f := 10) rfl ?_); refine gL (some 70) rfl rfl Tryd.func10 (by kernel_rfl) rfl #[.int .i64 t529, .slice Ao23 t530.length co23] rfl ?_; (with_reducible refine (spec_WiringFrom.calls k t529 _ _ t530 t537 t538 _ ?side1 ?side2 A9.out).mono ?_); (case side1 => repeat (first | exact (Kd.N_reads' HO532.out).2.2 | (with_reducible refine Kd.C_alloc ?_ _) | (with_reducible refine Kd.C_drewN ?_ _) | (with_reducible refine Kd.C_drew ?_))); (case side2 => exact (Kd.N_reads' HO532.out).2.1); rintro e w25 ⟨v539, rfl, ho0, hb⟩; refine ⟨_, rfl, ?_⟩; have n0_ := Aside0.mk (Kd.R_elder' (rr HO522) (Kd.R_base ho0) hb); have n1_ := Aside0.mk (Kd.R_elder' (rr HO528) (Kd.R_base ho0) hb); have n2_ := Aside0.mk (Kd.N_elder' (by (with_reducible repeat (first | apply Kd.N_alloc | apply Kd.N_drewN | apply Kd.N_drew)); exact HO532.out) (Kd.R_base ho0) hb); have n3_ := Aside0.mk (Kd.R_elder' (rr HO536) (Kd.R_base ho0) hb); have n4_ := Aside0.mk (Kd.R_lower (Kd.R_new' (Kd.R_new' (Kd.R_new' ho0 (Kd.R_lt (rr HO522))) (Kd.R_lt (rr HO528))) (Kd.R_lt (rr HO536))) (below_size (bl HB))); have n5_ := bs HB hb; clear HO522; clear HO528; clear HO532; clear HO536; clear HB; have HO522 := n0_; have HO528 := n1_; have HO532 := n2_; have HO536 := n3_; have HO540 := n4_; have HB := n5_; clear n0_ n1_ n2_ n3_ n4_ n5_; (try clear hb); (try clear hb2); (try clear hk); (try clear hi); (try clear ho0)) | ((with_reducible refine gate_callee (f := 11) rfl ?_); refine gL (some 74) rfl rfl Tryd.func11 (by kernel_rfl) rfl #[.slice A0 l0.length c0] rfl ?_; (with_reducible refine (spec_DrawParseWiring.calls k _ _ l0 t541 _ ?side1 ?side2 A10.out).mono ?_); (case side1 => repeat (first | exact (Kd.C_below HR0.out HB.out) | (with_reducible refine Kd.C_alloc ?_ _) | (with_reducible refine Kd.C_drewN ?_ _) | (with_reducible refine Kd.C_drew ?_))); (case side2 => exact HC0.out); rintro e w26 ⟨rfl, hb⟩; refine ⟨_, rfl, ?_⟩; have n0_ := Aside0.mk (Kd.R_below (rr HO522) hb); have n1_ := Aside0.mk (Kd.R_below (rr HO528) hb); have n2_ := Aside0.mk (Kd.N_below (by (with_reducible repeat (first | apply Kd.N_alloc | apply Kd.N_drewN | apply Kd.N_drew)); exact HO532.out) hb); have n3_ := Aside0.mk (Kd.R_below (rr HO536) hb); have n4_ := Aside0.mk (Kd.R_below (rr HO540) hb); have n5_ := bs HB hb; clear HO522; clear HO528; clear HO532; clear HO536; clear HO540; clear HB; have HO522 := n0_; have HO528 := n1_; have HO532 := n2_; have HO536 := n3_; have HO540 := n4_; have HB := n5_; clear n0_ n1_ n2_ n3_ n4_ n5_; (try clear hb); (try clear hb2); (try clear hk); (try clear hi)) | ((with_reducible refine gate_callee (f := 12) rfl ?_); refine gL (some 77) rfl rfl Tryd.func12 (by kernel_rfl) rfl #[.string t541] rfl ?_; (with_reducible refine (impl_ParseWiring.calls k t541 t542 t543 t544 _ (HV_.out.below (bl HB)) A11.out).mono ?_); rintro e w27 ⟨v545, rfl, ho0, hb⟩; refine ⟨_, rfl, ?_⟩; have n0_ := Aside0.mk (Kd.R_elder' (rr HO522) (Kd.R_base ho0) hb); have n1_ := Aside0.mk (Kd.R_elder' (rr HO528) (Kd.R_base ho0) hb); have n2_ := Aside0.mk (Kd.N_elder' (by (with_reducible repeat (first | apply Kd.N_alloc | apply Kd.N_drewN | apply Kd.N_drew)); exact HO532.out) (Kd.R_base ho0) hb); have n3_ := Aside0.mk (Kd.R_elder' (rr HO536) (Kd.R_base ho0) hb); have n4_ := Aside0.mk (Kd.R_elder' (rr HO540) (Kd.R_base ho0) hb); have n5_ := Aside0.mk (Kd.R_lower (Kd.R_new' (Kd.R_new' (Kd.R_new' (Kd.R_new' ho0 (Kd.R_lt (rr HO522))) (Kd.R_lt (rr HO528))) (Kd.R_lt (rr HO536))) (Kd.R_lt (rr HO540))) (below_size (bl HB))); have n6_ := bs HB hb; clear HO522; clear HO528; clear HO532; clear HO536; clear HO540; clear HB; have HO522 := n0_; have HO528 := n1_; have HO532 := n2_; have HO536 := n3_; have HO540 := n4_; have HO546 := n5_; have HB := n6_; clear n0_ n1_ n2_ n3_ n4_ n5_ n6_; (try clear hb); (try clear hb2); (try clear hk); (try clear hi); (try clear ho0)) | ((with_reducible refine gate_callee (f := 13) rfl ?_); refine gL (some 83) rfl rfl Tryd.func13 (by kernel_rfl) rfl #[.string t541] rfl ?_; (with_reducible refine (spec_ParseWiring.calls k t541 t547 t548 t549 _ A12.out).mono ?_); rintro e w28 ⟨v550, rfl, ho0, hb⟩; refine ⟨_, rfl, ?_⟩; have n0_ := Aside0.mk (Kd.R_elder' (rr HO522) (Kd.R_base ho0) hb); have n1_ := Aside0.mk (Kd.R_elder' (rr HO528) (Kd.R_base ho0) hb); have n2_ := Aside0.mk (Kd.N_elder' (by (with_reducible repeat (first | apply Kd.N_alloc | apply Kd.N_drewN | apply Kd.N_drew)); exact HO532.out) (Kd.R_base ho0) hb); have n3_ := Aside0.mk (Kd.R_elder' (rr HO536) (Kd.R_base ho0) hb); have n4_ := Aside0.mk (Kd.R_elder' (rr HO540) (Kd.R_base ho0) hb); have n5_ := Aside0.mk (Kd.R_elder' (rr HO546) (Kd.R_base ho0) hb); have n6_ := Aside0.mk (Kd.R_lower (Kd.R_new' (Kd.R_new' (Kd.R_new' (Kd.R_new' (Kd.R_new' ho0 (Kd.R_lt (rr HO522))) (Kd.R_lt (rr HO528))) (Kd.R_lt (rr HO536))) (Kd.R_lt (rr HO540))) (Kd.R_lt (rr HO546))) (below_size (bl HB))); have n7_ := bs HB hb; clear HO522; clear HO528; clear HO532; clear HO536; clear HO540; clear HO546; clear HB; have HO522 := n0_; have HO528 := n1_; have HO532 := n2_; have HO536 := n3_; have HO540 := n4_; have HO546 := n5_; have HO551 := n6_; have HB := n7_; clear n0_ n1_ n2_ n3_ n4_ n5_ n6_ n7_; (try clear hb); (try clear hb2); (try clear hk); (try clear hi); (try clear ho0)) | ((with_reducible refine gate_callee (f := 14) rfl ?_); refine gL (some 90) rfl rfl Tryd.func14 (by kernel_rfl) rfl #[.int .i64 t519, .slice Ao19 t520.length co19] rfl ?_; (with_reducible refine (impl_TurnWiring.calls k t519 _ _ t520 t552 t553 _ ?side1 ?side2 A13.out).mono ?_); (case side1 => repeat (first | exact (Kd.R_reads' HO522.out).2.2 | (with_reducible refine Kd.C_alloc ?_ _) | (with_reducible refine Kd.C_drewN ?_ _) | (with_reducible refine Kd.C_drew ?_))); (case side2 => exact (Kd.R_reads' HO522.out).2.1); rintro e w29 ⟨v554, rfl, ho0, hb⟩; refine ⟨_, rfl, ?_⟩; have n0_ := Aside0.mk (Kd.R_elder' (rr HO522) (Kd.R_base ho0) hb); have n1_ := Aside0.mk (Kd.R_elder' (rr HO528) (Kd.R_base ho0) hb); have n2_ := Aside0.mk (Kd.N_elder' (by (with_reducible repeat (first | apply Kd.N_alloc | apply Kd.N_drewN | apply Kd.N_drew)); exact HO532.out) (Kd.R_base ho0) hb); have n3_ := Aside0.mk (Kd.R_elder' (rr HO536) (Kd.R_base ho0) hb); have n4_ := Aside0.mk (Kd.R_elder' (rr HO540) (Kd.R_base ho0) hb); have n5_ := Aside0.mk (Kd.R_elder' (rr HO546) (Kd.R_base ho0) hb); have n6_ := Aside0.mk (Kd.R_elder' (rr HO551) (Kd.R_base ho0) hb); have n7_ := Aside0.mk (Kd.R_lower (Kd.R_new' (Kd.R_new' (Kd.R_new' (Kd.R_new' (Kd.R_new' (Kd.R_new' ho0 (Kd.R_lt (rr HO522))) (Kd.R_lt (rr HO528))) (Kd.R_lt (rr HO536))) (Kd.R_lt (rr HO540))) (Kd.R_lt (rr HO546))) (Kd.R_lt (rr HO551))) (below_size (bl HB))); have n8_ := bs HB hb; clear HO522; clear HO528; clear HO532; clear HO536; clear HO540; clear HO546; clear HO551; clear HB; have HO522 := n0_; have HO528 := n1_; have HO532 := n2_; have HO536 := n3_; have HO540 := n4_; have HO546 := n5_; have HO551 := n6_; have HO555 := n7_; have HB := n8_; clear n0_ n1_ n2_ n3_ n4_ n5_ n6_ n7_ n8_; (try clear hb); (try clear hb2); (try clear hk); (try clear hi); (try clear ho0)) | ((with_reducible refine gate_callee (f := 15) rfl ?_); refine gL (some 96) rfl rfl Tryd.func15 (by kernel_rfl) rfl #[.int .i64 t519, .slice Ao19 t520.length co19] rfl ?_; (with_reducible refine (spec_TurnWiring.calls k t519 _ _ t520 t556 t557 _ ?side1 ?side2 A14.out).mono ?_); (case side1 => repeat (first | exact (Kd.R_reads' HO522.out).2.2 | (with_reducible refine Kd.C_alloc ?_ _) | (with_reducible refine Kd.C_drewN ?_ _) | (with_reducible refine Kd.C_drew ?_))); (case side2 => exact (Kd.R_reads' HO522.out).2.1); rintro e w30 ⟨v558, rfl, ho0, hb⟩; refine ⟨_, rfl, ?_⟩; have n0_ := Aside0.mk (Kd.R_elder' (rr HO522) (Kd.R_base ho0) hb); have n1_ := Aside0.mk (Kd.R_elder' (rr HO528) (Kd.R_base ho0) hb); have n2_ := Aside0.mk (Kd.N_elder' (by (with_reducible repeat (first | apply Kd.N_alloc | apply Kd.N_drewN | apply Kd.N_drew)); exact HO532.out) (Kd.R_base ho0) hb); have n3_ := Aside0.mk (Kd.R_elder' (rr HO536) (Kd.R_base ho0) hb); have n4_ := Aside0.mk (Kd.R_elder' (rr HO540) (Kd.R_base ho0) hb); have n5_ := Aside0.mk (Kd.R_elder' (rr HO546) (Kd.R_base ho0) hb); have n6_ := Aside0.mk (Kd.R_elder' (rr HO551) (Kd.R_base ho0) hb); have n7_ := Aside0.mk (Kd.R_elder' (rr HO555) (Kd.R_base ho0) hb); have n8_ := Aside0.mk (Kd.R_lower (Kd.R_new' (Kd.R_new' (Kd.R_new' (Kd.R_new' (Kd.R_new' (Kd.R_new' (Kd.R_new' ho0 (Kd.R_lt (rr HO522))) (Kd.R_lt (rr HO528))) (Kd.R_lt (rr HO536))) (Kd.R_lt (rr HO540))) (Kd.R_lt (rr HO546))) (Kd.R_lt (rr HO551))) (Kd.R_lt (rr HO555))) (below_size (bl HB))); have n9_ := bs HB hb; clear HO522; clear HO528; clear HO532; clear HO536; clear HO540; clear HO546; clear HO551; clear HO555; clear HB; have HO522 := n0_; have HO528 := n1_; have HO532 := n2_; have HO536 := n3_; have HO540 := n4_; have HO546 := n5_; have HO551 := n6_; have HO555 := n7_; have HO559 := n8_; have HB := n9_; clear n0_ n1_ n2_ n3_ n4_ n5_ n6_ n7_ n8_ n9_; (try clear hb); (try clear hb2); (try clear hk); (try clear hi); (try clear ho0)) | ((with_reducible refine gate_callee (f := 16) rfl ?_); refine gL (some 102) rfl rfl Tryd.func16 (by kernel_rfl) rfl #[.int .i64 t519, .slice Ao19 t520.length co19] rfl ?_; (with_reducible refine (impl_FlipWiring.calls k t519 _ _ t520 t560 t561 _ ?side1 ?side2 A15.out).mono ?_); (case side1 => repeat (first | exact (Kd.R_reads' HO522.out).2.2 | (with_reducible refine Kd.C_alloc ?_ _) | (with_reducible refine Kd.C_drewN ?_ _) | (with_reducible refine Kd.C_drew ?_))); (case side2 => exact (Kd.R_reads' HO522.out).2.1); rintro e w31 ⟨v562, rfl, ho0, hb⟩; refine ⟨_, rfl, ?_⟩; have n0_ := Aside0.mk (Kd.R_elder' (rr HO522) (Kd.R_base ho0) hb); have n1_ := Aside0.mk (Kd.R_elder' (rr HO528) (Kd.R_base ho0) hb); have n2_ := Aside0.mk (Kd.N_elder' (by (with_reducible repeat (first | apply Kd.N_alloc | apply Kd.N_drewN | apply Kd.N_drew)); exact HO532.out) (Kd.R_base ho0) hb); have n3_ := Aside0.mk (Kd.R_elder' (rr HO536) (Kd.R_base ho0) hb); have n4_ := Aside0.mk (Kd.R_elder' (rr HO540) (Kd.R_base ho0) hb); have n5_ := Aside0.mk (Kd.R_elder' (rr HO546) (Kd.R_base ho0) hb); have n6_ := Aside0.mk (Kd.R_elder' (rr HO551) (Kd.R_base ho0) hb); have n7_ := Aside0.mk (Kd.R_elder' (rr HO555) (Kd.R_base ho0) hb); have n8_ := Aside0.mk (Kd.R_elder' (rr HO559) (Kd.R_base ho0) hb); have n9_ := Aside0.mk (Kd.R_lower (Kd.R_new' (Kd.R_new' (Kd.R_new' (Kd.R_new' (Kd.R_new' (Kd.R_new' (Kd.R_new' (Kd.R_new' ho0 (Kd.R_lt (rr HO522))) (Kd.R_lt (rr HO528))) (Kd.R_lt (rr HO536))) (Kd.R_lt (rr HO540))) (Kd.R_lt (rr HO546))) (Kd.R_lt (rr HO551))) (Kd.R_lt (rr HO555))) (Kd.R_lt (rr HO559))) (below_size (bl HB))); have n10_ := bs HB hb; clear HO522; clear HO528; clear HO532; clear HO536; clear HO540; clear HO546; clear HO551; clear HO555; clear HO559; clear HB; have HO522 := n0_; have HO528 := n1_; have HO532 := n2_; have HO536 := n3_; have HO540 := n4_; have HO546 := n5_; have HO551 := n6_; have HO555 := n7_; have HO559 := n8_; have HO563 := n9_; have HB := n10_; clear n0_ n1_ n2_ n3_ n4_ n5_ n6_ n7_ n8_ n9_ n10_; (try clear hb); (try clear hb2); (try clear hk); (try clear hi); (try clear ho0)) | ((with_reducible refine gate_callee (f := 17) rfl ?_); refine gL (some 108) rfl rfl Tryd.func17 (by kernel_rfl) rfl #[.int .i64 t519, .slice Ao19 t520.length co19] rfl ?_; (with_reducible refine (spec_FlipWiring.calls k t519 _ _ t520 t564 t565 _ ?side1 ?side2 A16.out).mono ?_); (case side1 => repeat (first | exact (Kd.R_reads' HO522.out).2.2 | (with_reducible refine Kd.C_alloc ?_ _) | (with_reducible refine Kd.C_drewN ?_ _) | (with_reducible refine Kd.C_drew ?_))); (case side2 => exact (Kd.R_reads' HO522.out).2.1); rintro e w32 ⟨v566, rfl, ho0, hb⟩; refine ⟨_, rfl, ?_⟩; have n0_ := Aside0.mk (Kd.R_elder' (rr HO522) (Kd.R_base ho0) hb); have n1_ := Aside0.mk (Kd.R_elder' (rr HO528) (Kd.R_base ho0) hb); have n2_ := Aside0.mk (Kd.N_elder' (by (with_reducible repeat (first | apply Kd.N_alloc | apply Kd.N_drewN | apply Kd.N_drew)); exact HO532.out) (Kd.R_base ho0) hb); have n3_ := Aside0.mk (Kd.R_elder' (rr HO536) (Kd.R_base ho0) hb); have n4_ := Aside0.mk (Kd.R_elder' (rr HO540) (Kd.R_base ho0) hb); have n5_ := Aside0.mk (Kd.R_elder' (rr HO546) (Kd.R_base ho0) hb); have n6_ := Aside0.mk (Kd.R_elder' (rr HO551) (Kd.R_base ho0) hb); have n7_ := Aside0.mk (Kd.R_elder' (rr HO555) (Kd.R_base ho0) hb); have n8_ := Aside0.mk (Kd.R_elder' (rr HO559) (Kd.R_base ho0) hb); have n9_ := Aside0.mk (Kd.R_elder' (rr HO563) (Kd.R_base ho0) hb); have n10_ := Aside0.mk (Kd.R_lower (Kd.R_new' (Kd.R_new' (Kd.R_new' (Kd.R_new' (Kd.R_new' (Kd.R_new' (Kd.R_new' (Kd.R_new' (Kd.R_new' ho0 (Kd.R_lt (rr HO522))) (Kd.R_lt (rr HO528))) (Kd.R_lt (rr HO536))) (Kd.R_lt (rr HO540))) (Kd.R_lt (rr HO546))) (Kd.R_lt (rr HO551))) (Kd.R_lt (rr HO555))) (Kd.R_lt (rr HO559))) (Kd.R_lt (rr HO563))) (below_size (bl HB))); have n11_ := bs HB hb; clear HO522; clear HO528; clear HO532; clear HO536; clear HO540; clear HO546; clear HO551; clear HO555; clear HO559; clear HO563; clear HB; have HO522 := n0_; have HO528 := n1_; have HO532 := n2_; have HO536 := n3_; have HO540 := n4_; have HO546 := n5_; have HO551 := n6_; have HO555 := n7_; have HO559 := n8_; have HO563 := n9_; have HO567 := n10_; have HB := n11_; clear n0_ n1_ n2_ n3_ n4_ n5_ n6_ n7_ n8_ n9_ n10_ n11_; (try clear hb); (try clear hb2); (try clear hk); (try clear hi); (try clear ho0)))
  (try simp only [Act.put, List.setIfInBounds_toArray, List.set_cons_zero, List.set_cons_succ])
  go_cut [186] (fun v186 wc => ∃ (kq : Nat) (x186_16 : Bool), v186 = .bool x186_16 ∧ Aside0 (laws_FnWirings.j0 kq t519 t520 t523 t529 t530 t533 t534 t552 t553 t560 t561 x186_16 = some true) ∧ Aside0 (kq ≤ k) ∧ Aside0 (Kd.R (Kd.int .i64) 3 wc w.heap.size (fun k_ => some k_ ≠ (v535 : Value).ownBlock ∧ some k_ ≠ (v554 : Value).ownBlock ∧ some k_ ≠ (v562 : Value).ownBlock) (.slice Ao19 t520.length co19) t520) ∧ Aside0 (Kd.N (Kd.slice 3 (Kd.int .i64)) 24 wc w.heap.size (fun k_ => some k_ ≠ ((.slice Ao19 t520.length co19) : Value).ownBlock ∧ some k_ ≠ (v535 : Value).ownBlock ∧ some k_ ≠ (v554 : Value).ownBlock ∧ some k_ ≠ (v562 : Value).ownBlock) (.slice Ao23 t530.length co23) t530) ∧ Aside0 (Kd.R (Kd.int .i64) 3 wc w.heap.size (fun k_ => some k_ ≠ ((.slice Ao19 t520.length co19) : Value).ownBlock ∧ some k_ ≠ (v554 : Value).ownBlock ∧ some k_ ≠ (v562 : Value).ownBlock) v535 t533) ∧ Aside0 (Kd.R (Kd.int .i64) 3 wc w.heap.size (fun k_ => some k_ ≠ ((.slice Ao19 t520.length co19) : Value).ownBlock ∧ some k_ ≠ (v535 : Value).ownBlock ∧ some k_ ≠ (v562 : Value).ownBlock) v554 t552) ∧ Aside0 (Kd.R (Kd.int .i64) 3 wc w.heap.size (fun k_ => some k_ ≠ ((.slice Ao19 t520.length co19) : Value).ownBlock ∧ some k_ ≠ (v535 : Value).ownBlock ∧ some k_ ≠ (v554 : Value).ownBlock) v562 t560) ∧ Aside0 (Below w.heap.size w wc))
  case first =>
   as_aux_lemma =>
    have H := HC17.out
    clear HC17
    replace H := Option.bind_eq_some_iff.mp H
    obtain ⟨t568, A330, H⟩ := H
    (try dsimp only at H)
    have A33 := Aside0.mk A330
    clear A330
    by_cases c34 : (t523 != t568) = true
    ·rw [if_pos c34] at H
     have c34b0 : (t523 != t568) = true := c34
     (try (have c34b1 : decide (t523 = t568) = false := by simpa using c34))
     (try (have c34b2 : (t523 == t568) = false := by simpa using c34))
     (try (have c34b3 : ¬ (t523 = t568) := by simpa using c34))
     clear c34
     (first | rw [c34b0] | (simp only [i64_w, i32_w]; rw [c34b0]) | skip)
     first | exact (laws_FnWirings.j0n H).elim | exact (laws_FnWirings.j1n H).elim | exact (laws_FnWirings.j2n H).elim
    ·rw [if_neg c34] at H
     have c34b0 : (t523 != t568) = false := by simpa using c34
     (try (have c34b1 : decide (t523 = t568) = true := by simpa using c34))
     (try (have c34b2 : (t523 == t568) = true := by simpa using c34))
     clear c34
     (first | rw [c34b0] | (simp only [i64_w, i32_w]; rw [c34b0]) | skip)
     replace H := Option.bind_eq_some_iff.mp H
     obtain ⟨t569, A360, H⟩ := H
     (try dsimp only at H)
     have A36 := Aside0.mk A360
     clear A360
     replace H := Option.bind_eq_some_iff.mp H
     obtain ⟨t572, A370, H⟩ := H
     (try dsimp only at H)
     have A37 := Aside0.mk A370
     clear A370
     replace H := Option.bind_eq_some_iff.mp H
     obtain ⟨t575, A380, H⟩ := H
     (try dsimp only at H)
     have A38 := Aside0.mk A380
     clear A380
     by_cases c39 : t575 = true
     ·subst c39
      have H1 : (if (t534 != t538) = true then (laws_FnWirings.j0 k t519 t520 t523 t529 t530 t533 t534 t552 t553 t560 t561 true) else ((laws_sameInts.f k t533 t537).bind fun t576 => (if t576 = true then (if (t544 != t549) = true then (laws_FnWirings.j0 k t519 t520 t523 t529 t530 t533 t534 t552 t553 t560 t561 true) else (if t542 = t547 then ((laws_sameInts.f k t543 t548).bind fun t577 => (if t577 = true then (if (t553 != t557) = true then (laws_FnWirings.j0 k t519 t520 t523 t529 t530 t533 t534 t552 t553 t560 t561 true) else ((laws_sameInts.f k t552 t556).bind fun t578 => (if t578 = true then (if (t561 != t565) = true then (laws_FnWirings.j0 k t519 t520 t523 t529 t530 t533 t534 t552 t553 t560 t561 true) else ((laws_sameInts.f k t560 t564).bind fun t579 => (if t579 = true then ((impl_SwapsOf.f k t519 t520).bind fun t580 => ((spec_SwapsOf.f k t519 t520).bind fun t583 => ((laws_sameLists.f k t580 t583).bind fun t586 => (laws_FnWirings.j0 k t519 t520 t523 t529 t530 t533 t534 t552 t553 t560 t561 (!t586))))) else (laws_FnWirings.j0 k t519 t520 t523 t529 t530 t533 t534 t552 t553 t560 t561 true)))) else (laws_FnWirings.j0 k t519 t520 t523 t529 t530 t533 t534 t552 t553 t560 t561 true)))) else (laws_FnWirings.j0 k t519 t520 t523 t529 t530 t533 t534 t552 t553 t560 t561 true))) else (laws_FnWirings.j0 k t519 t520 t523 t529 t530 t533 t534 t552 t553 t560 t561 true))) else (laws_FnWirings.j0 k t519 t520 t523 t529 t530 t533 t534 t552 t553 t560 t561 true)))) = some true := by rw [if_pos rfl] at H; exact H
      clear H
      have H := H1
      clear H1
      by_cases c40 : (t534 != t538) = true
      ·rw [if_pos c40] at H
       have c40b0 : (t534 != t538) = true := c40
       (try (have c40b1 : decide (t534 = t538) = false := by simpa using c40))
       (try (have c40b2 : (t534 == t538) = false := by simpa using c40))
       (try (have c40b3 : ¬ (t534 = t538) := by simpa using c40))
       clear c40
       first | exact (laws_FnWirings.j0n H).elim | exact (laws_FnWirings.j1n H).elim | exact (laws_FnWirings.j2n H).elim
      ·rw [if_neg c40] at H
       have c40b0 : (t534 != t538) = false := by simpa using c40
       (try (have c40b1 : decide (t534 = t538) = true := by simpa using c40))
       (try (have c40b2 : (t534 == t538) = true := by simpa using c40))
       clear c40
       replace H := Option.bind_eq_some_iff.mp H
       obtain ⟨t576, A470, H⟩ := H
       (try dsimp only at H)
       have A47 := Aside0.mk A470
       clear A470
       by_cases c48 : t576 = true
       ·subst c48
        have H1 : (if (t544 != t549) = true then (laws_FnWirings.j0 k t519 t520 t523 t529 t530 t533 t534 t552 t553 t560 t561 true) else (if t542 = t547 then ((laws_sameInts.f k t543 t548).bind fun t577 => (if t577 = true then (if (t553 != t557) = true then (laws_FnWirings.j0 k t519 t520 t523 t529 t530 t533 t534 t552 t553 t560 t561 true) else ((laws_sameInts.f k t552 t556).bind fun t578 => (if t578 = true then (if (t561 != t565) = true then (laws_FnWirings.j0 k t519 t520 t523 t529 t530 t533 t534 t552 t553 t560 t561 true) else ((laws_sameInts.f k t560 t564).bind fun t579 => (if t579 = true then ((impl_SwapsOf.f k t519 t520).bind fun t580 => ((spec_SwapsOf.f k t519 t520).bind fun t583 => ((laws_sameLists.f k t580 t583).bind fun t586 => (laws_FnWirings.j0 k t519 t520 t523 t529 t530 t533 t534 t552 t553 t560 t561 (!t586))))) else (laws_FnWirings.j0 k t519 t520 t523 t529 t530 t533 t534 t552 t553 t560 t561 true)))) else (laws_FnWirings.j0 k t519 t520 t523 t529 t530 t533 t534 t552 t553 t560 t561 true)))) else (laws_FnWirings.j0 k t519 t520 t523 t529 t530 t533 t534 t552 t553 t560 t561 true))) else (laws_FnWirings.j0 k t519 t520 t523 t529 t530 t533 t534 t552 t553 t560 t561 true))) = some true := by rw [if_pos rfl] at H; exact H
        clear H
        have H := H1
        clear H1
        by_cases c49 : (t544 != t549) = true
        ·rw [if_pos c49] at H
         have c49b0 : (t544 != t549) = true := c49
         (try (have c49b1 : decide (t544 = t549) = false := by simpa using c49))
         (try (have c49b2 : (t544 == t549) = false := by simpa using c49))
         (try (have c49b3 : ¬ (t544 = t549) := by simpa using c49))
         clear c49
         first | exact (laws_FnWirings.j0n H).elim | exact (laws_FnWirings.j1n H).elim | exact (laws_FnWirings.j2n H).elim
        ·rw [if_neg c49] at H
         have c49b0 : (t544 != t549) = false := by simpa using c49
         (try (have c49b1 : decide (t544 = t549) = true := by simpa using c49))
         (try (have c49b2 : (t544 == t549) = true := by simpa using c49))
         clear c49
         by_cases c58 : t542 = t547
         ·rw [if_pos c58] at H
          have c58b0 : (t542 == t547) = true := beq_iff_eq.mpr c58
          have c58b1 : (t542 != t547) = false := bne_eq_false_iff_eq.mpr c58
          clear c58
          replace H := Option.bind_eq_some_iff.mp H
          obtain ⟨t577, A590, H⟩ := H
          (try dsimp only at H)
          have A59 := Aside0.mk A590
          clear A590
          by_cases c60 : t577 = true
          ·subst c60
           have H1 : (if (t553 != t557) = true then (laws_FnWirings.j0 k t519 t520 t523 t529 t530 t533 t534 t552 t553 t560 t561 true) else ((laws_sameInts.f k t552 t556).bind fun t578 => (if t578 = true then (if (t561 != t565) = true then (laws_FnWirings.j0 k t519 t520 t523 t529 t530 t533 t534 t552 t553 t560 t561 true) else ((laws_sameInts.f k t560 t564).bind fun t579 => (if t579 = true then ((impl_SwapsOf.f k t519 t520).bind fun t580 => ((spec_SwapsOf.f k t519 t520).bind fun t583 => ((laws_sameLists.f k t580 t583).bind fun t586 => (laws_FnWirings.j0 k t519 t520 t523 t529 t530 t533 t534 t552 t553 t560 t561 (!t586))))) else (laws_FnWirings.j0 k t519 t520 t523 t529 t530 t533 t534 t552 t553 t560 t561 true)))) else (laws_FnWirings.j0 k t519 t520 t523 t529 t530 t533 t534 t552 t553 t560 t561 true)))) = some true := by rw [if_pos rfl] at H; exact H
           clear H
           have H := H1
           clear H1
           by_cases c61 : (t553 != t557) = true
           ·rw [if_pos c61] at H
            have c61b0 : (t553 != t557) = true := c61
            (try (have c61b1 : decide (t553 = t557) = false := by simpa using c61))
            (try (have c61b2 : (t553 == t557) = false := by simpa using c61))
            (try (have c61b3 : ¬ (t553 = t557) := by simpa using c61))
            clear c61
            first | exact (laws_FnWirings.j0n H).elim | exact (laws_FnWirings.j1n H).elim | exact (laws_FnWirings.j2n H).elim
           ·rw [if_neg c61] at H
            have c61b0 : (t553 != t557) = false := by simpa using c61
            (try (have c61b1 : decide (t553 = t557) = true := by simpa using c61))
            (try (have c61b2 : (t553 == t557) = true := by simpa using c61))
            clear c61
            replace H := Option.bind_eq_some_iff.mp H
            obtain ⟨t578, A720, H⟩ := H
            (try dsimp only at H)
            have A72 := Aside0.mk A720
            clear A720
            by_cases c73 : t578 = true
            ·subst c73
             have H1 : (if (t561 != t565) = true then (laws_FnWirings.j0 k t519 t520 t523 t529 t530 t533 t534 t552 t553 t560 t561 true) else ((laws_sameInts.f k t560 t564).bind fun t579 => (if t579 = true then ((impl_SwapsOf.f k t519 t520).bind fun t580 => ((spec_SwapsOf.f k t519 t520).bind fun t583 => ((laws_sameLists.f k t580 t583).bind fun t586 => (laws_FnWirings.j0 k t519 t520 t523 t529 t530 t533 t534 t552 t553 t560 t561 (!t586))))) else (laws_FnWirings.j0 k t519 t520 t523 t529 t530 t533 t534 t552 t553 t560 t561 true)))) = some true := by rw [if_pos rfl] at H; exact H
             clear H
             have H := H1
             clear H1
             by_cases c74 : (t561 != t565) = true
             ·rw [if_pos c74] at H
              have c74b0 : (t561 != t565) = true := c74
              (try (have c74b1 : decide (t561 = t565) = false := by simpa using c74))
              (try (have c74b2 : (t561 == t565) = false := by simpa using c74))
              (try (have c74b3 : ¬ (t561 = t565) := by simpa using c74))
              clear c74
              first | exact (laws_FnWirings.j0n H).elim | exact (laws_FnWirings.j1n H).elim | exact (laws_FnWirings.j2n H).elim
             ·rw [if_neg c74] at H
              have c74b0 : (t561 != t565) = false := by simpa using c74
              (try (have c74b1 : decide (t561 = t565) = true := by simpa using c74))
              (try (have c74b2 : (t561 == t565) = true := by simpa using c74))
              clear c74
              replace H := Option.bind_eq_some_iff.mp H
              obtain ⟨t579, A870, H⟩ := H
              (try dsimp only at H)
              have A87 := Aside0.mk A870
              clear A870
              by_cases c88 : t579 = true
              ·subst c88
               have H1 : ((impl_SwapsOf.f k t519 t520).bind fun t580 => ((spec_SwapsOf.f k t519 t520).bind fun t583 => ((laws_sameLists.f k t580 t583).bind fun t586 => (laws_FnWirings.j0 k t519 t520 t523 t529 t530 t533 t534 t552 t553 t560 t561 (!t586))))) = some true := by rw [if_pos rfl] at H; exact H
               clear H
               have H := H1
               clear H1
               replace H := Option.bind_eq_some_iff.mp H
               obtain ⟨t580, A890, H⟩ := H
               (try dsimp only at H)
               have A89 := Aside0.mk A890
               clear A890
               replace H := Option.bind_eq_some_iff.mp H
               obtain ⟨t583, A900, H⟩ := H
               (try dsimp only at H)
               have A90 := Aside0.mk A900
               clear A900
               replace H := Option.bind_eq_some_iff.mp H
               obtain ⟨t586, A910, H⟩ := H
               (try dsimp only at H)
               have A91 := Aside0.mk A910
               clear A910
               have H' := Aside0.mk H
               clear H
               go_wp2_with (first | (go_at_call 18; (with_reducible refine (spec_IsWiring.calls k t519 _ _ t520 t568 _ ?side1 ?side2 A33.out).mono ?_); (case side1 => repeat (first | exact (Kd.R_reads' HO522.out).2.2 | (with_reducible refine Kd.C_alloc ?_ _) | (with_reducible refine Kd.C_drewN ?_ _) | (with_reducible refine Kd.C_drew ?_))); (case side2 => exact (Kd.R_reads' HO522.out).2.1); rintro e w92 ⟨rfl, hb⟩; have n0_ := Aside0.mk (Kd.R_below (rr HO522) hb); have n1_ := Aside0.mk (Kd.R_below (rr HO528) hb); have n2_ := Aside0.mk (Kd.N_below (by (with_reducible repeat (first | apply Kd.N_alloc | apply Kd.N_drewN | apply Kd.N_drew)); exact HO532.out) hb); have n3_ := Aside0.mk (Kd.R_below (rr HO536) hb); have n4_ := Aside0.mk (Kd.R_below (rr HO540) hb); have n5_ := Aside0.mk (Kd.R_below (rr HO546) hb); have n6_ := Aside0.mk (Kd.R_below (rr HO551) hb); have n7_ := Aside0.mk (Kd.R_below (rr HO555) hb); have n8_ := Aside0.mk (Kd.R_below (rr HO559) hb); have n9_ := Aside0.mk (Kd.R_below (rr HO563) hb); have n10_ := Aside0.mk (Kd.R_below (rr HO567) hb); have n11_ := bs HB hb; clear HO522; clear HO528; clear HO532; clear HO536; clear HO540; clear HO546; clear HO551; clear HO555; clear HO559; clear HO563; clear HO567; clear HB; have HO522 := n0_; have HO528 := n1_; have HO532 := n2_; have HO536 := n3_; have HO540 := n4_; have HO546 := n5_; have HO551 := n6_; have HO555 := n7_; have HO559 := n8_; have HO563 := n9_; have HO567 := n10_; have HB := n11_; clear n0_ n1_ n2_ n3_ n4_ n5_ n6_ n7_ n8_ n9_ n10_ n11_; (try clear hb); (try clear hb2); (try clear hk); (try clear hi); obtain ⟨Ao93, co93, eo93⟩ := Kd.R_slice HO528.out; subst eo93) | (go_at_call 20; (with_reducible refine (impl_WiresAfter.calls k t524 _ _ t525 t526 t569 _ ?side1 ?side2 A36.out).mono ?_); (case side1 => repeat (first | exact (Kd.R_reads' HO528.out).2.2 | (with_reducible refine Kd.C_alloc ?_ _) | (with_reducible refine Kd.C_drewN ?_ _) | (with_reducible refine Kd.C_drew ?_))); (case side2 => exact (Kd.R_reads' HO528.out).2.1); rintro e w94 ⟨v570, rfl, ho0, hb⟩; have n0_ := Aside0.mk (Kd.R_elder' (rr HO522) (Kd.R_base ho0) hb); have n1_ := Aside0.mk (Kd.R_elder' (rr HO528) (Kd.R_base ho0) hb); have n2_ := Aside0.mk (Kd.N_elder' (by (with_reducible repeat (first | apply Kd.N_alloc | apply Kd.N_drewN | apply Kd.N_drew)); exact HO532.out) (Kd.R_base ho0) hb); have n3_ := Aside0.mk (Kd.R_elder' (rr HO536) (Kd.R_base ho0) hb); have n4_ := Aside0.mk (Kd.R_elder' (rr HO540) (Kd.R_base ho0) hb); have n5_ := Aside0.mk (Kd.R_elder' (rr HO546) (Kd.R_base ho0) hb); have n6_ := Aside0.mk (Kd.R_elder' (rr HO551) (Kd.R_base ho0) hb); have n7_ := Aside0.mk (Kd.R_elder' (rr HO555) (Kd.R_base ho0) hb); have n8_ := Aside0.mk (Kd.R_elder' (rr HO559) (Kd.R_base ho0) hb); have n9_ := Aside0.mk (Kd.R_elder' (rr HO563) (Kd.R_base ho0) hb); have n10_ := Aside0.mk (Kd.R_elder' (rr HO567) (Kd.R_base ho0) hb); have n11_ := Aside0.mk (Kd.R_lower (Kd.R_new' (Kd.R_new' (Kd.R_new' (Kd.R_new' (Kd.R_new' (Kd.R_new' (Kd.R_new' (Kd.R_new' (Kd.R_new' (Kd.R_new' ho0 (Kd.R_lt (rr HO522))) (Kd.R_lt (rr HO528))) (Kd.R_lt (rr HO536))) (Kd.R_lt (rr HO540))) (Kd.R_lt (rr HO546))) (Kd.R_lt (rr HO551))) (Kd.R_lt (rr HO555))) (Kd.R_lt (rr HO559))) (Kd.R_lt (rr HO563))) (Kd.R_lt (rr HO567))) (below_size (bl HB))); have n12_ := bs HB hb; clear HO522; clear HO528; clear HO532; clear HO536; clear HO540; clear HO546; clear HO551; clear HO555; clear HO559; clear HO563; clear HO567; clear HB; have HO522 := n0_; have HO528 := n1_; have HO532 := n2_; have HO536 := n3_; have HO540 := n4_; have HO546 := n5_; have HO551 := n6_; have HO555 := n7_; have HO559 := n8_; have HO563 := n9_; have HO567 := n10_; have HO571 := n11_; have HB := n12_; clear n0_ n1_ n2_ n3_ n4_ n5_ n6_ n7_ n8_ n9_ n10_ n11_ n12_; (try clear hb); (try clear hb2); (try clear hk); (try clear hi); (try clear ho0)) | (go_at_call 21; (with_reducible refine (spec_WiresAfter.calls k t524 _ _ t525 t526 t572 _ ?side1 ?side2 A37.out).mono ?_); (case side1 => repeat (first | exact (Kd.R_reads' HO528.out).2.2 | (with_reducible refine Kd.C_alloc ?_ _) | (with_reducible refine Kd.C_drewN ?_ _) | (with_reducible refine Kd.C_drew ?_))); (case side2 => exact (Kd.R_reads' HO528.out).2.1); rintro e w95 ⟨v573, rfl, ho0, hb⟩; have n0_ := Aside0.mk (Kd.R_elder' (rr HO522) (Kd.R_base ho0) hb); have n1_ := Aside0.mk (Kd.R_elder' (rr HO528) (Kd.R_base ho0) hb); have n2_ := Aside0.mk (Kd.N_elder' (by (with_reducible repeat (first | apply Kd.N_alloc | apply Kd.N_drewN | apply Kd.N_drew)); exact HO532.out) (Kd.R_base ho0) hb); have n3_ := Aside0.mk (Kd.R_elder' (rr HO536) (Kd.R_base ho0) hb); have n4_ := Aside0.mk (Kd.R_elder' (rr HO540) (Kd.R_base ho0) hb); have n5_ := Aside0.mk (Kd.R_elder' (rr HO546) (Kd.R_base ho0) hb); have n6_ := Aside0.mk (Kd.R_elder' (rr HO551) (Kd.R_base ho0) hb); have n7_ := Aside0.mk (Kd.R_elder' (rr HO555) (Kd.R_base ho0) hb); have n8_ := Aside0.mk (Kd.R_elder' (rr HO559) (Kd.R_base ho0) hb); have n9_ := Aside0.mk (Kd.R_elder' (rr HO563) (Kd.R_base ho0) hb); have n10_ := Aside0.mk (Kd.R_elder' (rr HO567) (Kd.R_base ho0) hb); have n11_ := Aside0.mk (Kd.R_elder' (rr HO571) (Kd.R_base ho0) hb); have n12_ := Aside0.mk (Kd.R_lower (Kd.R_new' (Kd.R_new' (Kd.R_new' (Kd.R_new' (Kd.R_new' (Kd.R_new' (Kd.R_new' (Kd.R_new' (Kd.R_new' (Kd.R_new' (Kd.R_new' ho0 (Kd.R_lt (rr HO522))) (Kd.R_lt (rr HO528))) (Kd.R_lt (rr HO536))) (Kd.R_lt (rr HO540))) (Kd.R_lt (rr HO546))) (Kd.R_lt (rr HO551))) (Kd.R_lt (rr HO555))) (Kd.R_lt (rr HO559))) (Kd.R_lt (rr HO563))) (Kd.R_lt (rr HO567))) (Kd.R_lt (rr HO571))) (below_size (bl HB))); have n13_ := bs HB hb; clear HO522; clear HO528; clear HO532; clear HO536; clear HO540; clear HO546; clear HO551; clear HO555; clear HO559; clear HO563; clear HO567; clear HO571; clear HB; have HO522 := n0_; have HO528 := n1_; have HO532 := n2_; have HO536 := n3_; have HO540 := n4_; have HO546 := n5_; have HO551 := n6_; have HO555 := n7_; have HO559 := n8_; have HO563 := n9_; have HO567 := n10_; have HO571 := n11_; have HO574 := n12_; have HB := n13_; clear n0_ n1_ n2_ n3_ n4_ n5_ n6_ n7_ n8_ n9_ n10_ n11_ n12_ n13_; (try clear hb); (try clear hb2); (try clear hk); (try clear hi); (try clear ho0); obtain ⟨Ao96, co96, eo96⟩ := Kd.R_slice HO571.out; subst eo96; obtain ⟨Ao97, co97, eo97⟩ := Kd.R_slice HO574.out; subst eo97) | (go_at_call 19; (with_reducible refine (laws_sameInts.calls k _ _ t569 _ _ t572 true _ ?side1 ?side2 ?side3 ?side4 A38.out).mono ?_); (case side1 => repeat (first | exact (Kd.R_reads' HO571.out).2.2 | (with_reducible refine Kd.C_alloc ?_ _) | (with_reducible refine Kd.C_drewN ?_ _) | (with_reducible refine Kd.C_drew ?_))); (case side2 => exact (Kd.R_reads' HO571.out).2.1); (case side3 => repeat (first | exact (Kd.R_reads' HO574.out).2.2 | (with_reducible refine Kd.C_alloc ?_ _) | (with_reducible refine Kd.C_drewN ?_ _) | (with_reducible refine Kd.C_drew ?_))); (case side4 => exact (Kd.R_reads' HO574.out).2.1); rintro e w' ⟨rfl, ⟨nd, rfl⟩⟩; obtain ⟨Ao98, co98, eo98⟩ := Kd.R_slice HO536.out; subst eo98; obtain ⟨Ao99, co99, eo99⟩ := Kd.R_slice HO540.out; subst eo99) | (go_at_call 19; (with_reducible refine (laws_sameInts.calls k _ _ t533 _ _ t537 true _ ?side1 ?side2 ?side3 ?side4 A47.out).mono ?_); (case side1 => repeat (first | exact (Kd.R_reads' HO536.out).2.2 | (with_reducible refine Kd.C_alloc ?_ _) | (with_reducible refine Kd.C_drewN ?_ _) | (with_reducible refine Kd.C_drew ?_))); (case side2 => exact (Kd.R_reads' HO536.out).2.1); (case side3 => repeat (first | exact (Kd.R_reads' HO540.out).2.2 | (with_reducible refine Kd.C_alloc ?_ _) | (with_reducible refine Kd.C_drewN ?_ _) | (with_reducible refine Kd.C_drew ?_))); (case side4 => exact (Kd.R_reads' HO540.out).2.1); rintro e w' ⟨rfl, ⟨nd, rfl⟩⟩; obtain ⟨Ao100, co100, eo100⟩ := Kd.R_slice HO546.out; subst eo100; obtain ⟨Ao101, co101, eo101⟩ := Kd.R_slice HO551.out; subst eo101) | (go_at_call 19; (with_reducible refine (laws_sameInts.calls k _ _ t543 _ _ t548 true _ ?side1 ?side2 ?side3 ?side4 A59.out).mono ?_); (case side1 => repeat (first | exact (Kd.R_reads' HO546.out).2.2 | (with_reducible refine Kd.C_alloc ?_ _) | (with_reducible refine Kd.C_drewN ?_ _) | (with_reducible refine Kd.C_drew ?_))); (case side2 => exact (Kd.R_reads' HO546.out).2.1); (case side3 => repeat (first | exact (Kd.R_reads' HO551.out).2.2 | (with_reducible refine Kd.C_alloc ?_ _) | (with_reducible refine Kd.C_drewN ?_ _) | (with_reducible refine Kd.C_drew ?_))); (case side4 => exact (Kd.R_reads' HO551.out).2.1); rintro e w' ⟨rfl, ⟨nd, rfl⟩⟩; obtain ⟨Ao102, co102, eo102⟩ := Kd.R_slice HO555.out; subst eo102; obtain ⟨Ao103, co103, eo103⟩ := Kd.R_slice HO559.out; subst eo103) | (go_at_call 19; (with_reducible refine (laws_sameInts.calls k _ _ t552 _ _ t556 true _ ?side1 ?side2 ?side3 ?side4 A72.out).mono ?_); (case side1 => repeat (first | exact (Kd.R_reads' HO555.out).2.2 | (with_reducible refine Kd.C_alloc ?_ _) | (with_reducible refine Kd.C_drewN ?_ _) | (with_reducible refine Kd.C_drew ?_))); (case side2 => exact (Kd.R_reads' HO555.out).2.1); (case side3 => repeat (first | exact (Kd.R_reads' HO559.out).2.2 | (with_reducible refine Kd.C_alloc ?_ _) | (with_reducible refine Kd.C_drewN ?_ _) | (with_reducible refine Kd.C_drew ?_))); (case side4 => exact (Kd.R_reads' HO559.out).2.1); rintro e w' ⟨rfl, ⟨nd, rfl⟩⟩; obtain ⟨Ao104, co104, eo104⟩ := Kd.R_slice HO563.out; subst eo104; obtain ⟨Ao105, co105, eo105⟩ := Kd.R_slice HO567.out; subst eo105) | (go_at_call 19; (with_reducible refine (laws_sameInts.calls k _ _ t560 _ _ t564 true _ ?side1 ?side2 ?side3 ?side4 A87.out).mono ?_); (case side1 => repeat (first | exact (Kd.R_reads' HO563.out).2.2 | (with_reducible refine Kd.C_alloc ?_ _) | (with_reducible refine Kd.C_drewN ?_ _) | (with_reducible refine Kd.C_drew ?_))); (case side2 => exact (Kd.R_reads' HO563.out).2.1); (case side3 => repeat (first | exact (Kd.R_reads' HO567.out).2.2 | (with_reducible refine Kd.C_alloc ?_ _) | (with_reducible refine Kd.C_drewN ?_ _) | (with_reducible refine Kd.C_drew ?_))); (case side4 => exact (Kd.R_reads' HO567.out).2.1); rintro e w' ⟨rfl, ⟨nd, rfl⟩⟩) | (go_at_call 23; (with_reducible refine (impl_SwapsOf.calls k t519 _ _ t520 t580 _ ?side1 ?side2 A89.out).mono ?_); (case side1 => repeat (first | exact (Kd.R_reads' HO522.out).2.2 | (with_reducible refine Kd.C_alloc ?_ _) | (with_reducible refine Kd.C_drewN ?_ _) | (with_reducible refine Kd.C_drew ?_))); (case side2 => exact (Kd.R_reads' HO522.out).2.1); rintro e w106 ⟨v581, rfl, ho0, hb⟩; have n0_ := Aside0.mk (Kd.R_below (rr HO522) hb); have n1_ := Aside0.mk (Kd.R_below (rr HO528) hb); have n2_ := Aside0.mk (Kd.N_elder' (by (with_reducible repeat (first | apply Kd.N_alloc | apply Kd.N_drewN | apply Kd.N_drew)); exact HO532.out) (Kd.S_base ho0) hb); have n3_ := Aside0.mk (Kd.R_below (rr HO536) hb); have n4_ := Aside0.mk (Kd.R_below (rr HO540) hb); have n5_ := Aside0.mk (Kd.R_below (rr HO546) hb); have n6_ := Aside0.mk (Kd.R_below (rr HO551) hb); have n7_ := Aside0.mk (Kd.R_below (rr HO555) hb); have n8_ := Aside0.mk (Kd.R_below (rr HO559) hb); have n9_ := Aside0.mk (Kd.R_below (rr HO563) hb); have n10_ := Aside0.mk (Kd.R_below (rr HO567) hb); have n11_ := Aside0.mk (Kd.R_below (rr HO571) hb); have n12_ := Aside0.mk (Kd.R_below (rr HO574) hb); have n13_ := Aside0.mk (Kd.N_lower (Kd.N_mono (ok' := fun k_ => some k_ ≠ (.slice Ao19 t520.length co19 : Value).ownBlock ∧ some k_ ≠ (.slice Ao93 t525.length co93 : Value).ownBlock ∧ some k_ ≠ (.slice Ao23 t530.length co23 : Value).ownBlock ∧ some k_ ≠ (.slice Ao98 t533.length co98 : Value).ownBlock ∧ some k_ ≠ (.slice Ao99 t537.length co99 : Value).ownBlock ∧ some k_ ≠ (.slice Ao100 t543.length co100 : Value).ownBlock ∧ some k_ ≠ (.slice Ao101 t548.length co101 : Value).ownBlock ∧ some k_ ≠ (.slice Ao102 t552.length co102 : Value).ownBlock ∧ some k_ ≠ (.slice Ao103 t556.length co103 : Value).ownBlock ∧ some k_ ≠ (.slice Ao104 t560.length co104 : Value).ownBlock ∧ some k_ ≠ (.slice Ao105 t564.length co105 : Value).ownBlock ∧ some k_ ≠ (.slice Ao96 t569.length co96 : Value).ownBlock ∧ some k_ ≠ (.slice Ao97 t572.length co97 : Value).ownBlock) (Kd.S_N (Kd.S_bound ho0)) (fun k_ hk_ => ⟨(Kd.fresh' (Kd.R_lt (rr HO522)) k_ hk_.2.1), (Kd.fresh' (Kd.R_lt (rr HO528)) k_ hk_.2.1), (Kd.fresh' (Kd.N_lt (by (with_reducible repeat (first | apply Kd.N_alloc | apply Kd.N_drewN | apply Kd.N_drew)); exact HO532.out)) k_ hk_.2.1), (Kd.fresh' (Kd.R_lt (rr HO536)) k_ hk_.2.1), (Kd.fresh' (Kd.R_lt (rr HO540)) k_ hk_.2.1), (Kd.fresh' (Kd.R_lt (rr HO546)) k_ hk_.2.1), (Kd.fresh' (Kd.R_lt (rr HO551)) k_ hk_.2.1), (Kd.fresh' (Kd.R_lt (rr HO555)) k_ hk_.2.1), (Kd.fresh' (Kd.R_lt (rr HO559)) k_ hk_.2.1), (Kd.fresh' (Kd.R_lt (rr HO563)) k_ hk_.2.1), (Kd.fresh' (Kd.R_lt (rr HO567)) k_ hk_.2.1), (Kd.fresh' (Kd.R_lt (rr HO571)) k_ hk_.2.1), (Kd.fresh' (Kd.R_lt (rr HO574)) k_ hk_.2.1)⟩)) (below_size (bl HB))); have n14_ := bs HB hb; clear HO522; clear HO528; clear HO532; clear HO536; clear HO540; clear HO546; clear HO551; clear HO555; clear HO559; clear HO563; clear HO567; clear HO571; clear HO574; clear HB; have HO522 := n0_; have HO528 := n1_; have HO532 := n2_; have HO536 := n3_; have HO540 := n4_; have HO546 := n5_; have HO551 := n6_; have HO555 := n7_; have HO559 := n8_; have HO563 := n9_; have HO567 := n10_; have HO571 := n11_; have HO574 := n12_; have HO582 := n13_; have HB := n14_; clear n0_ n1_ n2_ n3_ n4_ n5_ n6_ n7_ n8_ n9_ n10_ n11_ n12_ n13_ n14_; (try clear hb); (try clear hb2); (try clear hk); (try clear hi); (try clear ho0)) | (go_at_call 24; (with_reducible refine (spec_SwapsOf.calls k t519 _ _ t520 t583 _ ?side1 ?side2 A90.out).mono ?_); (case side1 => repeat (first | exact (Kd.R_reads' HO522.out).2.2 | (with_reducible refine Kd.C_alloc ?_ _) | (with_reducible refine Kd.C_drewN ?_ _) | (with_reducible refine Kd.C_drew ?_))); (case side2 => exact (Kd.R_reads' HO522.out).2.1); rintro e w107 ⟨v584, rfl, ho0, hb⟩; have n0_ := Aside0.mk (Kd.R_below (rr HO522) hb); have n1_ := Aside0.mk (Kd.R_below (rr HO528) hb); have n2_ := Aside0.mk (Kd.N_elder' (by (with_reducible repeat (first | apply Kd.N_alloc | apply Kd.N_drewN | apply Kd.N_drew)); exact HO532.out) (Kd.S_base ho0) hb); have n3_ := Aside0.mk (Kd.R_below (rr HO536) hb); have n4_ := Aside0.mk (Kd.R_below (rr HO540) hb); have n5_ := Aside0.mk (Kd.R_below (rr HO546) hb); have n6_ := Aside0.mk (Kd.R_below (rr HO551) hb); have n7_ := Aside0.mk (Kd.R_below (rr HO555) hb); have n8_ := Aside0.mk (Kd.R_below (rr HO559) hb); have n9_ := Aside0.mk (Kd.R_below (rr HO563) hb); have n10_ := Aside0.mk (Kd.R_below (rr HO567) hb); have n11_ := Aside0.mk (Kd.R_below (rr HO571) hb); have n12_ := Aside0.mk (Kd.R_below (rr HO574) hb); have n13_ := Aside0.mk (Kd.N_elder' (by (with_reducible repeat (first | apply Kd.N_alloc | apply Kd.N_drewN | apply Kd.N_drew)); exact HO582.out) (Kd.S_base ho0) hb); have n14_ := Aside0.mk (Kd.N_lower (Kd.N_mono (ok' := fun k_ => some k_ ≠ (.slice Ao19 t520.length co19 : Value).ownBlock ∧ some k_ ≠ (.slice Ao93 t525.length co93 : Value).ownBlock ∧ some k_ ≠ (.slice Ao23 t530.length co23 : Value).ownBlock ∧ some k_ ≠ (.slice Ao98 t533.length co98 : Value).ownBlock ∧ some k_ ≠ (.slice Ao99 t537.length co99 : Value).ownBlock ∧ some k_ ≠ (.slice Ao100 t543.length co100 : Value).ownBlock ∧ some k_ ≠ (.slice Ao101 t548.length co101 : Value).ownBlock ∧ some k_ ≠ (.slice Ao102 t552.length co102 : Value).ownBlock ∧ some k_ ≠ (.slice Ao103 t556.length co103 : Value).ownBlock ∧ some k_ ≠ (.slice Ao104 t560.length co104 : Value).ownBlock ∧ some k_ ≠ (.slice Ao105 t564.length co105 : Value).ownBlock ∧ some k_ ≠ (.slice Ao96 t569.length co96 : Value).ownBlock ∧ some k_ ≠ (.slice Ao97 t572.length co97 : Value).ownBlock ∧ some k_ ≠ (v581 : Value).ownBlock) (Kd.S_N (Kd.S_bound ho0)) (fun k_ hk_ => ⟨(Kd.fresh' (Kd.R_lt (rr HO522)) k_ hk_.2.1), (Kd.fresh' (Kd.R_lt (rr HO528)) k_ hk_.2.1), (Kd.fresh' (Kd.N_lt (by (with_reducible repeat (first | apply Kd.N_alloc | apply Kd.N_drewN | apply Kd.N_drew)); exact HO532.out)) k_ hk_.2.1), (Kd.fresh' (Kd.R_lt (rr HO536)) k_ hk_.2.1), (Kd.fresh' (Kd.R_lt (rr HO540)) k_ hk_.2.1), (Kd.fresh' (Kd.R_lt (rr HO546)) k_ hk_.2.1), (Kd.fresh' (Kd.R_lt (rr HO551)) k_ hk_.2.1), (Kd.fresh' (Kd.R_lt (rr HO555)) k_ hk_.2.1), (Kd.fresh' (Kd.R_lt (rr HO559)) k_ hk_.2.1), (Kd.fresh' (Kd.R_lt (rr HO563)) k_ hk_.2.1), (Kd.fresh' (Kd.R_lt (rr HO567)) k_ hk_.2.1), (Kd.fresh' (Kd.R_lt (rr HO571)) k_ hk_.2.1), (Kd.fresh' (Kd.R_lt (rr HO574)) k_ hk_.2.1), (Kd.fresh' (Kd.N_lt (by (with_reducible repeat (first | apply Kd.N_alloc | apply Kd.N_drewN | apply Kd.N_drew)); exact HO582.out)) k_ hk_.2.1)⟩)) (below_size (bl HB))); have n15_ := bs HB hb; clear HO522; clear HO528; clear HO532; clear HO536; clear HO540; clear HO546; clear HO551; clear HO555; clear HO559; clear HO563; clear HO567; clear HO571; clear HO574; clear HO582; clear HB; have HO522 := n0_; have HO528 := n1_; have HO532 := n2_; have HO536 := n3_; have HO540 := n4_; have HO546 := n5_; have HO551 := n6_; have HO555 := n7_; have HO559 := n8_; have HO563 := n9_; have HO567 := n10_; have HO571 := n11_; have HO574 := n12_; have HO582 := n13_; have HO585 := n14_; have HB := n15_; clear n0_ n1_ n2_ n3_ n4_ n5_ n6_ n7_ n8_ n9_ n10_ n11_ n12_ n13_ n14_ n15_; (try clear hb); (try clear hb2); (try clear hk); (try clear hi); (try clear ho0); obtain ⟨Ao108, co108, eo108⟩ := Kd.N_slice HO582.out; subst eo108; obtain ⟨Ao109, co109, eo109⟩ := Kd.N_slice HO585.out; subst eo109) | (go_at_call 22; (with_reducible refine (laws_sameLists.calls k _ _ t580 _ _ t583 t586 _ ?side1 ?side2 ?side3 ?side4 A91.out).mono ?_); (case side1 => repeat (first | exact (Kd.N_reads' HO582.out).2.2 | (with_reducible refine Kd.C_alloc ?_ _) | (with_reducible refine Kd.C_drewN ?_ _) | (with_reducible refine Kd.C_drew ?_))); (case side2 => exact (Kd.N_reads' HO582.out).2.1); (case side3 => repeat (first | exact (Kd.N_reads' HO585.out).2.2 | (with_reducible refine Kd.C_alloc ?_ _) | (with_reducible refine Kd.C_drewN ?_ _) | (with_reducible refine Kd.C_drew ?_))); (case side4 => exact (Kd.N_reads' HO585.out).2.1); rintro e w' ⟨rfl, ⟨nd, rfl⟩⟩))
               go_meet
               case rel => exact ⟨_, (!t586), (by first | rfl | (simp; done) | (simp [*]; done)), H', ⟨by first | omega | exact Nat.le_refl _⟩, ⟨by (with_reducible repeat (first | apply Kd.R_alloc | apply Kd.R_drewN | apply Kd.R_drew)); exact Kd.R_mono HO522.out (fun _ hk => ⟨hk.1.1.1.1.1.1.1.1.1.2, ⟨hk.1.1.1.1.1.2, hk.1.1.1.2⟩⟩)⟩, ⟨by (with_reducible repeat (first | apply Kd.N_alloc | apply Kd.N_drewN | apply Kd.N_drew)); exact Kd.N_mono HO532.out (fun _ hk => ⟨hk.1.1.1.1.1.1.1.1.1.1.1.1.1, ⟨hk.1.1.1.1.1.1.1.1.1.1.1.2, ⟨hk.1.1.1.1.1.1.1.2, hk.1.1.1.1.1.2⟩⟩⟩)⟩, ⟨by (with_reducible repeat (first | apply Kd.R_alloc | apply Kd.R_drewN | apply Kd.R_drew)); exact Kd.R_mono HO536.out (fun _ hk => ⟨hk.1.1.1.1.1.1.1.1.1.1.2, ⟨hk.1.1.1.1.1.2, hk.1.1.1.2⟩⟩)⟩, ⟨by (with_reducible repeat (first | apply Kd.R_alloc | apply Kd.R_drewN | apply Kd.R_drew)); exact Kd.R_mono HO555.out (fun _ hk => ⟨hk.1.1.1.1.1.1.1.1.1.1.2, ⟨hk.1.1.1.1.1.1.1.1.2, hk.1.1.1.2⟩⟩)⟩, ⟨by (with_reducible repeat (first | apply Kd.R_alloc | apply Kd.R_drewN | apply Kd.R_drew)); exact Kd.R_mono HO563.out (fun _ hk => ⟨hk.1.1.1.1.1.1.1.1.1.1.2, ⟨hk.1.1.1.1.1.1.1.1.2, hk.1.1.1.1.2⟩⟩)⟩, ⟨(bl HB)⟩⟩
              ·replace c88 := Bool.eq_false_iff.mpr c88
               subst c88
               have H1 : (laws_FnWirings.j0 k t519 t520 t523 t529 t530 t533 t534 t552 t553 t560 t561 true) = some true := by rw [if_neg (show ¬ (false = true) by decide)] at H; exact H
               clear H
               have H := H1
               clear H1
               first | exact (laws_FnWirings.j0n H).elim | exact (laws_FnWirings.j1n H).elim | exact (laws_FnWirings.j2n H).elim
            ·replace c73 := Bool.eq_false_iff.mpr c73
             subst c73
             have H1 : (laws_FnWirings.j0 k t519 t520 t523 t529 t530 t533 t534 t552 t553 t560 t561 true) = some true := by rw [if_neg (show ¬ (false = true) by decide)] at H; exact H
             clear H
             have H := H1
             clear H1
             first | exact (laws_FnWirings.j0n H).elim | exact (laws_FnWirings.j1n H).elim | exact (laws_FnWirings.j2n H).elim
          ·replace c60 := Bool.eq_false_iff.mpr c60
           subst c60
           have H1 : (laws_FnWirings.j0 k t519 t520 t523 t529 t530 t533 t534 t552 t553 t560 t561 true) = some true := by rw [if_neg (show ¬ (false = true) by decide)] at H; exact H
           clear H
           have H := H1
           clear H1
           first | exact (laws_FnWirings.j0n H).elim | exact (laws_FnWirings.j1n H).elim | exact (laws_FnWirings.j2n H).elim
         ·rw [if_neg c58] at H
          have c58b0 : (t542 == t547) = false := beq_eq_false_iff_ne.mpr c58
          have c58b1 : (t542 != t547) = true := bne_iff_ne.mpr c58
          first | exact (laws_FnWirings.j0n H).elim | exact (laws_FnWirings.j1n H).elim | exact (laws_FnWirings.j2n H).elim
       ·replace c48 := Bool.eq_false_iff.mpr c48
        subst c48
        have H1 : (laws_FnWirings.j0 k t519 t520 t523 t529 t530 t533 t534 t552 t553 t560 t561 true) = some true := by rw [if_neg (show ¬ (false = true) by decide)] at H; exact H
        clear H
        have H := H1
        clear H1
        first | exact (laws_FnWirings.j0n H).elim | exact (laws_FnWirings.j1n H).elim | exact (laws_FnWirings.j2n H).elim
     ·replace c39 := Bool.eq_false_iff.mpr c39
      subst c39
      have H1 : (laws_FnWirings.j0 k t519 t520 t523 t529 t530 t533 t534 t552 t553 t560 t561 true) = some true := by rw [if_neg (show ¬ (false = true) by decide)] at H; exact H
      clear H
      have H := H1
      clear H1
      first | exact (laws_FnWirings.j0n H).elim | exact (laws_FnWirings.j1n H).elim | exact (laws_FnWirings.j2n H).elim
  case rest =>
   as_aux_lemma =>
    clear HC17
    try clear c1
    try clear p2
    try clear c3
    try clear c4
    try clear c5
    try clear c6
    try clear c7
    try clear c8
    try clear c9
    try clear c10
    try clear c11
    try clear c12
    try clear c13
    try clear c14
    try clear c15
    try clear c16
    try clear c17
    try clear c18
    try clear c34
    try clear c34b0
    try clear c34b1
    try clear c34b2
    try clear c39
    try clear c40
    try clear c40b0
    try clear c40b1
    try clear c40b2
    try clear c48
    try clear c49
    try clear c49b0
    try clear c49b1
    try clear c49b2
    try clear c58
    try clear c58b0
    try clear c58b1
    try clear c60
    try clear c61
    try clear c61b0
    try clear c61b1
    try clear c61b2
    try clear c73
    try clear c74
    try clear c74b0
    try clear c74b1
    try clear c74b2
    try clear c88
    obtain ⟨kq, x186_16, rfl, HA, HJ16, HO_4, HO_10, HO_11, HO_22, HO_26, HB⟩ := hcut
    cases kq with
    | zero => exact absurd HA.out (by simp [laws_FnWirings.j0])
    | succ kj16 =>
     have H := HA.out
     clear HA
     simp only [laws_FnWirings.j0] at H
     by_cases c168 : x186_16 = true
     ·subst c168
      have H1 : (some false) = some true := by rw [if_pos rfl] at H; exact H
      clear H
      have H := H1
      clear H1
      exact absurd H (by simp)
     ·replace c168 := Bool.eq_false_iff.mpr c168
      subst c168
      have H1 : ((impl_WiringText.f kj16 t519 t520).bind fun t587 => ((impl_ParseWiring.f kj16 t587).bind fun bt588 => ((spec_WiringText.f kj16 t519 t520).bind fun t593 => (if t587.toList = t593.toList then (if (bt588.2.2 != t523) = true then (laws_FnWirings.j1 kj16 t519 t520 t523 t529 t530 t533 t534 t552 t560 true) else (if bt588.2.2 = true then (if bt588.1 = t519 then ((laws_sameInts.f kj16 bt588.2.1 t520).bind fun t594 => (if t594 = true then (if (t553 != t523) = true then (laws_FnWirings.j1 kj16 t519 t520 t523 t529 t530 t533 t534 t552 t560 true) else (laws_FnWirings.j1 kj16 t519 t520 t523 t529 t530 t533 t534 t552 t560 (t561 != t523))) else (laws_FnWirings.j1 kj16 t519 t520 t523 t529 t530 t533 t534 t552 t560 true))) else (laws_FnWirings.j1 kj16 t519 t520 t523 t529 t530 t533 t534 t552 t560 true)) else (if (t553 != t523) = true then (laws_FnWirings.j1 kj16 t519 t520 t523 t529 t530 t533 t534 t552 t560 true) else (laws_FnWirings.j1 kj16 t519 t520 t523 t529 t530 t533 t534 t552 t560 (t561 != t523))))) else (laws_FnWirings.j1 kj16 t519 t520 t523 t529 t530 t533 t534 t552 t560 true))))) = some true := by rw [if_neg (show ¬ (false = true) by decide)] at H; exact H
      clear H
      have H := H1
      clear H1
      replace H := Option.bind_eq_some_iff.mp H
      obtain ⟨t587, A1690, H⟩ := H
      (try dsimp only at H)
      have A169 := Aside0.mk A1690
      clear A1690
      replace H := Option.bind_eq_some_iff.mp H
      obtain ⟨⟨t588, t589, t590⟩, A1700, H⟩ := H
      (try dsimp only at H)
      have A170 := Aside0.mk A1700
      clear A1700
      have HC171 := Aside0.mk H
      clear H
      go_upto_region 20 with (first | ((with_reducible refine gate_callee (f := 25) rfl ?_); refine gL (some 189) rfl rfl Tryd.func25 (by kernel_rfl) rfl #[.int .i64 t519, .slice Ao19 t520.length co19] rfl ?_; (with_reducible refine (impl_WiringText.calls kj16 t519 _ _ t520 t587 _ ?side1 ?side2 A169.out).mono ?_); (case side1 => repeat (first | exact (Kd.R_reads' HO_4.out).2.2 | (with_reducible refine Kd.C_alloc ?_ _) | (with_reducible refine Kd.C_drewN ?_ _) | (with_reducible refine Kd.C_drew ?_))); (case side2 => exact (Kd.R_reads' HO_4.out).2.1); rintro e w172 ⟨rfl, hb⟩; refine ⟨_, rfl, ?_⟩; have n0_ := Aside0.mk (Kd.R_below (rr HO_4) hb); have n1_ := Aside0.mk (Kd.N_below (by (with_reducible repeat (first | apply Kd.N_alloc | apply Kd.N_drewN | apply Kd.N_drew)); exact HO_10.out) hb); have n2_ := Aside0.mk (Kd.R_below (rr HO_11) hb); have n3_ := Aside0.mk (Kd.R_below (rr HO_22) hb); have n4_ := Aside0.mk (Kd.R_below (rr HO_26) hb); have n5_ := bs HB hb; clear HO_4; clear HO_10; clear HO_11; clear HO_22; clear HO_26; clear HB; have HO_4 := n0_; have HO_10 := n1_; have HO_11 := n2_; have HO_22 := n3_; have HO_26 := n4_; have HB := n5_; clear n0_ n1_ n2_ n3_ n4_ n5_; (try clear hb); (try clear hb2); (try clear hk); (try clear hi)) | ((with_reducible refine gate_callee (f := 12) rfl ?_); refine gL (some 192) rfl rfl Tryd.func12 (by kernel_rfl) rfl #[.string t587] rfl ?_; (with_reducible refine (impl_ParseWiring.calls kj16 t587 t588 t589 t590 _ (HV_.out.below (bl HB)) A170.out).mono ?_); rintro e w173 ⟨v591, rfl, ho0, hb⟩; refine ⟨_, rfl, ?_⟩; have n0_ := Aside0.mk (Kd.R_elder' (rr HO_4) (Kd.R_base ho0) hb); have n1_ := Aside0.mk (Kd.N_elder' (by (with_reducible repeat (first | apply Kd.N_alloc | apply Kd.N_drewN | apply Kd.N_drew)); exact HO_10.out) (Kd.R_base ho0) hb); have n2_ := Aside0.mk (Kd.R_elder' (rr HO_11) (Kd.R_base ho0) hb); have n3_ := Aside0.mk (Kd.R_elder' (rr HO_22) (Kd.R_base ho0) hb); have n4_ := Aside0.mk (Kd.R_elder' (rr HO_26) (Kd.R_base ho0) hb); have n5_ := Aside0.mk (Kd.R_lower (Kd.R_new' (Kd.R_new' (Kd.R_new' (Kd.R_new' ho0 (Kd.R_lt (rr HO_4))) (Kd.R_lt (rr HO_11))) (Kd.R_lt (rr HO_22))) (Kd.R_lt (rr HO_26))) (below_size (bl HB))); have n6_ := bs HB hb; clear HO_4; clear HO_10; clear HO_11; clear HO_22; clear HO_26; clear HB; have HO_4 := n0_; have HO_10 := n1_; have HO_11 := n2_; have HO_22 := n3_; have HO_26 := n4_; have HO592 := n5_; have HB := n6_; clear n0_ n1_ n2_ n3_ n4_ n5_ n6_; (try clear hb); (try clear hb2); (try clear hk); (try clear hi); (try clear ho0)))
      (try simp only [Act.put, List.setIfInBounds_toArray, List.set_cons_zero, List.set_cons_succ])
      go_cut [229] (fun v229 wc => ∃ (kq : Nat) (x229_170 : Bool), v229 = .bool x229_170 ∧ Aside0 (laws_FnWirings.j1 kq t519 t520 t523 t529 t530 t533 t534 t552 t560 x229_170 = some true) ∧ Aside0 (kq ≤ kj16) ∧ Aside0 (Kd.R (Kd.int .i64) 3 wc w.heap.size (fun k_ => some k_ ≠ (v535 : Value).ownBlock ∧ some k_ ≠ (v554 : Value).ownBlock ∧ some k_ ≠ (v562 : Value).ownBlock) (.slice Ao19 t520.length co19) t520) ∧ Aside0 (Kd.N (Kd.slice 3 (Kd.int .i64)) 24 wc w.heap.size (fun k_ => some k_ ≠ ((.slice Ao19 t520.length co19) : Value).ownBlock ∧ some k_ ≠ (v535 : Value).ownBlock ∧ some k_ ≠ (v554 : Value).ownBlock ∧ some k_ ≠ (v562 : Value).ownBlock) (.slice Ao23 t530.length co23) t530) ∧ Aside0 (Kd.R (Kd.int .i64) 3 wc w.heap.size (fun k_ => some k_ ≠ ((.slice Ao19 t520.length co19) : Value).ownBlock ∧ some k_ ≠ (v554 : Value).ownBlock ∧ some k_ ≠ (v562 : Value).ownBlock) v535 t533) ∧ Aside0 (Kd.R (Kd.int .i64) 3 wc w.heap.size (fun k_ => some k_ ≠ ((.slice Ao19 t520.length co19) : Value).ownBlock ∧ some k_ ≠ (v535 : Value).ownBlock ∧ some k_ ≠ (v562 : Value).ownBlock) v554 t552) ∧ Aside0 (Kd.R (Kd.int .i64) 3 wc w.heap.size (fun k_ => some k_ ≠ ((.slice Ao19 t520.length co19) : Value).ownBlock ∧ some k_ ≠ (v535 : Value).ownBlock ∧ some k_ ≠ (v554 : Value).ownBlock) v562 t560) ∧ Aside0 (Below w.heap.size w wc))
      case first =>
       as_aux_lemma =>
        have H := HC171.out
        clear HC171
        replace H := Option.bind_eq_some_iff.mp H
        obtain ⟨t593, A1740, H⟩ := H
        (try dsimp only at H)
        have A174 := Aside0.mk A1740
        clear A1740
        by_cases c175 : t587.toList = t593.toList
        ·rw [if_pos c175] at H
         have c175b0 : (t587.toList == t593.toList) = true := beq_iff_eq.mpr c175
         have c175b1 : (t587.toList != t593.toList) = false := bne_eq_false_iff_eq.mpr c175
         clear c175
         (first | rw [c175b0] | (simp only [i64_w, i32_w]; rw [c175b0]) | skip)
         by_cases c176 : (t590 != t523) = true
         ·rw [if_pos c176] at H
          have c176b0 : (t590 != t523) = true := c176
          (try (have c176b1 : decide (t590 = t523) = false := by simpa using c176))
          (try (have c176b2 : (t590 == t523) = false := by simpa using c176))
          (try (have c176b3 : ¬ (t590 = t523) := by simpa using c176))
          clear c176
          first | exact (laws_FnWirings.j0n H).elim | exact (laws_FnWirings.j1n H).elim | exact (laws_FnWirings.j2n H).elim
         ·rw [if_neg c176] at H
          have c176b0 : (t590 != t523) = false := by simpa using c176
          (try (have c176b1 : decide (t590 = t523) = true := by simpa using c176))
          (try (have c176b2 : (t590 == t523) = true := by simpa using c176))
          clear c176
          by_cases c178 : t590 = true
          ·subst c178
           have H1 : (if t588 = t519 then ((laws_sameInts.f kj16 t589 t520).bind fun t594 => (if t594 = true then (if (t553 != t523) = true then (laws_FnWirings.j1 kj16 t519 t520 t523 t529 t530 t533 t534 t552 t560 true) else (laws_FnWirings.j1 kj16 t519 t520 t523 t529 t530 t533 t534 t552 t560 (t561 != t523))) else (laws_FnWirings.j1 kj16 t519 t520 t523 t529 t530 t533 t534 t552 t560 true))) else (laws_FnWirings.j1 kj16 t519 t520 t523 t529 t530 t533 t534 t552 t560 true)) = some true := by rw [if_pos rfl] at H; exact H
           clear H
           have H := H1
           clear H1
           by_cases c179 : t588 = t519
           ·rw [if_pos c179] at H
            have c179b0 : (t588 == t519) = true := beq_iff_eq.mpr c179
            have c179b1 : (t588 != t519) = false := bne_eq_false_iff_eq.mpr c179
            clear c179
            replace H := Option.bind_eq_some_iff.mp H
            obtain ⟨t594, A1800, H⟩ := H
            (try dsimp only at H)
            have A180 := Aside0.mk A1800
            clear A1800
            by_cases c181 : t594 = true
            ·subst c181
             have H1 : (if (t553 != t523) = true then (laws_FnWirings.j1 kj16 t519 t520 t523 t529 t530 t533 t534 t552 t560 true) else (laws_FnWirings.j1 kj16 t519 t520 t523 t529 t530 t533 t534 t552 t560 (t561 != t523))) = some true := by rw [if_pos rfl] at H; exact H
             clear H
             have H := H1
             clear H1
             by_cases c182 : (t553 != t523) = true
             ·rw [if_pos c182] at H
              have c182b0 : (t553 != t523) = true := c182
              (try (have c182b1 : decide (t553 = t523) = false := by simpa using c182))
              (try (have c182b2 : (t553 == t523) = false := by simpa using c182))
              (try (have c182b3 : ¬ (t553 = t523) := by simpa using c182))
              clear c182
              first | exact (laws_FnWirings.j0n H).elim | exact (laws_FnWirings.j1n H).elim | exact (laws_FnWirings.j2n H).elim
             ·rw [if_neg c182] at H
              have c182b0 : (t553 != t523) = false := by simpa using c182
              (try (have c182b1 : decide (t553 = t523) = true := by simpa using c182))
              (try (have c182b2 : (t553 == t523) = true := by simpa using c182))
              clear c182
              have H' := Aside0.mk H
              clear H
              go_wp2_with (first | ((with_reducible refine gate_callee (f := 26) rfl ?_); refine gL (some 199) rfl rfl Tryd.func26 (by kernel_rfl) rfl #[.int .i64 t519, .slice Ao19 t520.length co19] rfl ?_; (with_reducible refine (spec_WiringText.calls kj16 t519 _ _ t520 t593 _ ?side1 ?side2 A174.out).mono ?_); (case side1 => repeat (first | exact (Kd.R_reads' HO_4.out).2.2 | (with_reducible refine Kd.C_alloc ?_ _) | (with_reducible refine Kd.C_drewN ?_ _) | (with_reducible refine Kd.C_drew ?_))); (case side2 => exact (Kd.R_reads' HO_4.out).2.1); rintro e w185 ⟨rfl, hb⟩; refine ⟨_, rfl, ?_⟩; have n0_ := Aside0.mk (Kd.R_below (rr HO_4) hb); have n1_ := Aside0.mk (Kd.N_below (by (with_reducible repeat (first | apply Kd.N_alloc | apply Kd.N_drewN | apply Kd.N_drew)); exact HO_10.out) hb); have n2_ := Aside0.mk (Kd.R_below (rr HO_11) hb); have n3_ := Aside0.mk (Kd.R_below (rr HO_22) hb); have n4_ := Aside0.mk (Kd.R_below (rr HO_26) hb); have n5_ := Aside0.mk (Kd.R_below (rr HO592) hb); have n6_ := bs HB hb; clear HO_4; clear HO_10; clear HO_11; clear HO_22; clear HO_26; clear HO592; clear HB; have HO_4 := n0_; have HO_10 := n1_; have HO_11 := n2_; have HO_22 := n3_; have HO_26 := n4_; have HO592 := n5_; have HB := n6_; clear n0_ n1_ n2_ n3_ n4_ n5_ n6_; (try clear hb); (try clear hb2); (try clear hk); (try clear hi); obtain ⟨Ao186, co186, eo186⟩ := Kd.R_slice HO592.out; subst eo186) | (go_at_call 19; (with_reducible refine (laws_sameInts.calls kj16 _ _ t589 _ _ t520 true _ ?side1 ?side2 ?side3 ?side4 A180.out).mono ?_); (case side1 => repeat (first | exact (Kd.R_reads' HO592.out).2.2 | (with_reducible refine Kd.C_alloc ?_ _) | (with_reducible refine Kd.C_drewN ?_ _) | (with_reducible refine Kd.C_drew ?_))); (case side2 => exact (Kd.R_reads' HO592.out).2.1); (case side3 => repeat (first | exact (Kd.R_reads' HO_4.out).2.2 | (with_reducible refine Kd.C_alloc ?_ _) | (with_reducible refine Kd.C_drewN ?_ _) | (with_reducible refine Kd.C_drew ?_))); (case side4 => exact (Kd.R_reads' HO_4.out).2.1); rintro e w' ⟨rfl, ⟨nd, rfl⟩⟩))
              go_meet
              case rel => exact ⟨_, ((t561 != t523)), (by first | rfl | (simp; done) | (simp [*]; done)), H', ⟨by have := HJ16.out; first | omega | exact Nat.le_refl _⟩, ⟨by (with_reducible repeat (first | apply Kd.R_alloc | apply Kd.R_drewN | apply Kd.R_drew)); exact Kd.R_mono HO_4.out (fun _ hk => ⟨hk.1.1, ⟨hk.1.2.1, hk.1.2.2⟩⟩)⟩, ⟨by (with_reducible repeat (first | apply Kd.N_alloc | apply Kd.N_drewN | apply Kd.N_drew)); exact Kd.N_mono HO_10.out (fun _ hk => ⟨hk.1.1, ⟨hk.1.2.1, ⟨hk.1.2.2.1, hk.1.2.2.2⟩⟩⟩)⟩, ⟨by (with_reducible repeat (first | apply Kd.R_alloc | apply Kd.R_drewN | apply Kd.R_drew)); exact Kd.R_mono HO_11.out (fun _ hk => ⟨hk.1.1, ⟨hk.1.2.1, hk.1.2.2⟩⟩)⟩, ⟨by (with_reducible repeat (first | apply Kd.R_alloc | apply Kd.R_drewN | apply Kd.R_drew)); exact Kd.R_mono HO_22.out (fun _ hk => ⟨hk.1.1, ⟨hk.1.2.1, hk.1.2.2⟩⟩)⟩, ⟨by (with_reducible repeat (first | apply Kd.R_alloc | apply Kd.R_drewN | apply Kd.R_drew)); exact Kd.R_mono HO_26.out (fun _ hk => ⟨hk.1.1, ⟨hk.1.2.1, hk.1.2.2⟩⟩)⟩, ⟨(bl HB)⟩⟩
            ·replace c181 := Bool.eq_false_iff.mpr c181
             subst c181
             have H1 : (laws_FnWirings.j1 kj16 t519 t520 t523 t529 t530 t533 t534 t552 t560 true) = some true := by rw [if_neg (show ¬ (false = true) by decide)] at H; exact H
             clear H
             have H := H1
             clear H1
             first | exact (laws_FnWirings.j0n H).elim | exact (laws_FnWirings.j1n H).elim | exact (laws_FnWirings.j2n H).elim
           ·rw [if_neg c179] at H
            have c179b0 : (t588 == t519) = false := beq_eq_false_iff_ne.mpr c179
            have c179b1 : (t588 != t519) = true := bne_iff_ne.mpr c179
            first | exact (laws_FnWirings.j0n H).elim | exact (laws_FnWirings.j1n H).elim | exact (laws_FnWirings.j2n H).elim
          ·replace c178 := Bool.eq_false_iff.mpr c178
           subst c178
           have H1 : (if (t553 != t523) = true then (laws_FnWirings.j1 kj16 t519 t520 t523 t529 t530 t533 t534 t552 t560 true) else (laws_FnWirings.j1 kj16 t519 t520 t523 t529 t530 t533 t534 t552 t560 (t561 != t523))) = some true := by rw [if_neg (show ¬ (false = true) by decide)] at H; exact H
           clear H
           have H := H1
           clear H1
           by_cases c190 : (t553 != t523) = true
           ·rw [if_pos c190] at H
            have c190b0 : (t553 != t523) = true := c190
            (try (have c190b1 : decide (t553 = t523) = false := by simpa using c190))
            (try (have c190b2 : (t553 == t523) = false := by simpa using c190))
            (try (have c190b3 : ¬ (t553 = t523) := by simpa using c190))
            clear c190
            first | exact (laws_FnWirings.j0n H).elim | exact (laws_FnWirings.j1n H).elim | exact (laws_FnWirings.j2n H).elim
           ·rw [if_neg c190] at H
            have c190b0 : (t553 != t523) = false := by simpa using c190
            (try (have c190b1 : decide (t553 = t523) = true := by simpa using c190))
            (try (have c190b2 : (t553 == t523) = true := by simpa using c190))
            clear c190
            have H' := Aside0.mk H
            clear H
            go_wp2_with (first | ((with_reducible refine gate_callee (f := 26) rfl ?_); refine gL (some 199) rfl rfl Tryd.func26 (by kernel_rfl) rfl #[.int .i64 t519, .slice Ao19 t520.length co19] rfl ?_; (with_reducible refine (spec_WiringText.calls kj16 t519 _ _ t520 t593 _ ?side1 ?side2 A174.out).mono ?_); (case side1 => repeat (first | exact (Kd.R_reads' HO_4.out).2.2 | (with_reducible refine Kd.C_alloc ?_ _) | (with_reducible refine Kd.C_drewN ?_ _) | (with_reducible refine Kd.C_drew ?_))); (case side2 => exact (Kd.R_reads' HO_4.out).2.1); rintro e w192 ⟨rfl, hb⟩; refine ⟨_, rfl, ?_⟩; have n0_ := Aside0.mk (Kd.R_below (rr HO_4) hb); have n1_ := Aside0.mk (Kd.N_below (by (with_reducible repeat (first | apply Kd.N_alloc | apply Kd.N_drewN | apply Kd.N_drew)); exact HO_10.out) hb); have n2_ := Aside0.mk (Kd.R_below (rr HO_11) hb); have n3_ := Aside0.mk (Kd.R_below (rr HO_22) hb); have n4_ := Aside0.mk (Kd.R_below (rr HO_26) hb); have n5_ := Aside0.mk (Kd.R_below (rr HO592) hb); have n6_ := bs HB hb; clear HO_4; clear HO_10; clear HO_11; clear HO_22; clear HO_26; clear HO592; clear HB; have HO_4 := n0_; have HO_10 := n1_; have HO_11 := n2_; have HO_22 := n3_; have HO_26 := n4_; have HO592 := n5_; have HB := n6_; clear n0_ n1_ n2_ n3_ n4_ n5_ n6_; (try clear hb); (try clear hb2); (try clear hk); (try clear hi)))
            go_meet
            case rel => exact ⟨_, ((t561 != t523)), (by first | rfl | (simp; done) | (simp [*]; done)), H', ⟨by have := HJ16.out; first | omega | exact Nat.le_refl _⟩, ⟨by (with_reducible repeat (first | apply Kd.R_alloc | apply Kd.R_drewN | apply Kd.R_drew)); exact Kd.R_mono HO_4.out (fun _ hk => ⟨hk.1.1, ⟨hk.1.2.1, hk.1.2.2⟩⟩)⟩, ⟨by (with_reducible repeat (first | apply Kd.N_alloc | apply Kd.N_drewN | apply Kd.N_drew)); exact Kd.N_mono HO_10.out (fun _ hk => ⟨hk.1.1, ⟨hk.1.2.1, ⟨hk.1.2.2.1, hk.1.2.2.2⟩⟩⟩)⟩, ⟨by (with_reducible repeat (first | apply Kd.R_alloc | apply Kd.R_drewN | apply Kd.R_drew)); exact Kd.R_mono HO_11.out (fun _ hk => ⟨hk.1.1, ⟨hk.1.2.1, hk.1.2.2⟩⟩)⟩, ⟨by (with_reducible repeat (first | apply Kd.R_alloc | apply Kd.R_drewN | apply Kd.R_drew)); exact Kd.R_mono HO_22.out (fun _ hk => ⟨hk.1.1, ⟨hk.1.2.1, hk.1.2.2⟩⟩)⟩, ⟨by (with_reducible repeat (first | apply Kd.R_alloc | apply Kd.R_drewN | apply Kd.R_drew)); exact Kd.R_mono HO_26.out (fun _ hk => ⟨hk.1.1, ⟨hk.1.2.1, hk.1.2.2⟩⟩)⟩, ⟨(bl HB)⟩⟩
        ·rw [if_neg c175] at H
         have c175b0 : (t587.toList == t593.toList) = false := beq_eq_false_iff_ne.mpr c175
         have c175b1 : (t587.toList != t593.toList) = true := bne_iff_ne.mpr c175
         (first | rw [c175b0] | (simp only [i64_w, i32_w]; rw [c175b0]) | skip)
         first | exact (laws_FnWirings.j0n H).elim | exact (laws_FnWirings.j1n H).elim | exact (laws_FnWirings.j2n H).elim
      case rest =>
       as_aux_lemma =>
        clear HC171
        try clear c1
        try clear c2
        try clear p2
        try clear c3
        try clear c4
        try clear c5
        try clear c6
        try clear c7
        try clear c8
        try clear c9
        try clear c10
        try clear c11
        try clear c12
        try clear c13
        try clear c14
        try clear c15
        try clear c16
        try clear c17
        try clear c18
        try clear c19
        try clear c25
        try clear c26
        try clear c34
        try clear c34b0
        try clear c34b1
        try clear c34b2
        try clear c39
        try clear c40
        try clear c40b0
        try clear c40b1
        try clear c40b2
        try clear c48
        try clear c49
        try clear c49b0
        try clear c49b1
        try clear c49b2
        try clear c58
        try clear c58b0
        try clear c58b1
        try clear c60
        try clear c61
        try clear c61b0
        try clear c61b1
        try clear c61b2
        try clear c73
        try clear c74
        try clear c74b0
        try clear c74b1
        try clear c74b2
        try clear c88
        try clear c168
        try clear c175
        try clear c175b0
        try clear c175b1
        try clear c176
        try clear c176b0
        try clear c176b1
        try clear c176b2
        try clear c178
        try clear c179
        try clear c179b0
        try clear c179b1
        try clear c181
        try clear c182
        try clear c182b0
        try clear c182b1
        try clear c182b2
        try clear c190
        try clear c190b0
        try clear c190b1
        try clear c190b2
        try clear p2
        obtain ⟨kq, x229_170, rfl, HA, HJ170, HO_4, HO_10, HO_11, HO_22, HO_26, HB⟩ := hcut
        cases kq with
        | zero => exact absurd HA.out (by simp [laws_FnWirings.j1])
        | succ kj170 =>
         have H := HA.out
         clear HA
         simp only [laws_FnWirings.j1] at H
         by_cases c194 : x229_170 = true
         ·subst c194
          have H1 : (some false) = some true := by rw [if_pos rfl] at H; exact H
          clear H
          have H := H1
          clear H1
          exact absurd H (by simp)
         ·replace c194 := Bool.eq_false_iff.mpr c194
          subst c194
          have H1 : (if t534 = true then ((impl_SwapsOf.f kj170 t529 t533).bind fun t595 => ((laws_sameLists.f kj170 t595 t530).bind fun t598 => (laws_FnWirings.j2 kj170 t519 t520 t523 t552 t560 (!t598)))) else (laws_FnWirings.j2 kj170 t519 t520 t523 t552 t560 false)) = some true := by rw [if_neg (show ¬ (false = true) by decide)] at H; exact H
          clear H
          have H := H1
          clear H1
          have HC195 := Aside0.mk H
          clear H
          go_upto_region 22 with (fail)
          go_cut [238] (fun v238 wc => ∃ (kq : Nat) (x238_194 : Bool), v238 = .bool x238_194 ∧ Aside0 (laws_FnWirings.j2 kq t519 t520 t523 t552 t560 x238_194 = some true) ∧ Aside0 (kq ≤ kj170) ∧ Aside0 (Kd.R (Kd.int .i64) 3 wc w.heap.size (fun k_ => some k_ ≠ (v554 : Value).ownBlock ∧ some k_ ≠ (v562 : Value).ownBlock) (.slice Ao19 t520.length co19) t520) ∧ Aside0 (Kd.R (Kd.int .i64) 3 wc w.heap.size (fun k_ => some k_ ≠ ((.slice Ao19 t520.length co19) : Value).ownBlock ∧ some k_ ≠ (v562 : Value).ownBlock) v554 t552) ∧ Aside0 (Kd.R (Kd.int .i64) 3 wc w.heap.size (fun k_ => some k_ ≠ ((.slice Ao19 t520.length co19) : Value).ownBlock ∧ some k_ ≠ (v554 : Value).ownBlock) v562 t560) ∧ Aside0 (Below w.heap.size w wc))
          case first =>
           as_aux_lemma =>
            have H := HC195.out
            clear HC195
            by_cases c196 : t534 = true
            ·subst c196
             have H1 : ((impl_SwapsOf.f kj170 t529 t533).bind fun t595 => ((laws_sameLists.f kj170 t595 t530).bind fun t598 => (laws_FnWirings.j2 kj170 t519 t520 t523 t552 t560 (!t598)))) = some true := by rw [if_pos rfl] at H; exact H
             clear H
             have H := H1
             clear H1
             replace H := Option.bind_eq_some_iff.mp H
             obtain ⟨t595, A1970, H⟩ := H
             (try dsimp only at H)
             have A197 := Aside0.mk A1970
             clear A1970
             replace H := Option.bind_eq_some_iff.mp H
             obtain ⟨t598, A1980, H⟩ := H
             (try dsimp only at H)
             have A198 := Aside0.mk A1980
             clear A1980
             have H' := Aside0.mk H
             clear H
             obtain ⟨Ao199, co199, eo199⟩ := Kd.R_slice HO_11.out
             subst eo199
             go_wp2_with (first | (go_at_call 23; (with_reducible refine (impl_SwapsOf.calls kj170 t529 _ _ t533 t595 _ ?side1 ?side2 A197.out).mono ?_); (case side1 => repeat (first | exact (Kd.R_reads' HO_11.out).2.2 | (with_reducible refine Kd.C_alloc ?_ _) | (with_reducible refine Kd.C_drewN ?_ _) | (with_reducible refine Kd.C_drew ?_))); (case side2 => exact (Kd.R_reads' HO_11.out).2.1); rintro e w200 ⟨v596, rfl, ho0, hb⟩; have n0_ := Aside0.mk (Kd.R_below (rr HO_4) hb); have n1_ := Aside0.mk (Kd.N_elder' (by (with_reducible repeat (first | apply Kd.N_alloc | apply Kd.N_drewN | apply Kd.N_drew)); exact HO_10.out) (Kd.S_base ho0) hb); have n2_ := Aside0.mk (Kd.R_below (rr HO_11) hb); have n3_ := Aside0.mk (Kd.R_below (rr HO_22) hb); have n4_ := Aside0.mk (Kd.R_below (rr HO_26) hb); have n5_ := Aside0.mk (Kd.N_lower (Kd.N_mono (ok' := fun k_ => some k_ ≠ (.slice Ao19 t520.length co19 : Value).ownBlock ∧ some k_ ≠ (.slice Ao23 t530.length co23 : Value).ownBlock ∧ some k_ ≠ (.slice Ao199 t533.length co199 : Value).ownBlock ∧ some k_ ≠ (v554 : Value).ownBlock ∧ some k_ ≠ (v562 : Value).ownBlock) (Kd.S_N (Kd.S_bound ho0)) (fun k_ hk_ => ⟨(Kd.fresh' (Kd.R_lt (rr HO_4)) k_ hk_.2.1), (Kd.fresh' (Kd.N_lt (by (with_reducible repeat (first | apply Kd.N_alloc | apply Kd.N_drewN | apply Kd.N_drew)); exact HO_10.out)) k_ hk_.2.1), (Kd.fresh' (Kd.R_lt (rr HO_11)) k_ hk_.2.1), (Kd.fresh' (Kd.R_lt (rr HO_22)) k_ hk_.2.1), (Kd.fresh' (Kd.R_lt (rr HO_26)) k_ hk_.2.1)⟩)) (below_size (bl HB))); have n6_ := bs HB hb; clear HO_4; clear HO_10; clear HO_11; clear HO_22; clear HO_26; clear HB; have HO_4 := n0_; have HO_10 := n1_; have HO_11 := n2_; have HO_22 := n3_; have HO_26 := n4_; have HO597 := n5_; have HB := n6_; clear n0_ n1_ n2_ n3_ n4_ n5_ n6_; (try clear hb); (try clear hb2); (try clear hk); (try clear hi); (try clear ho0); obtain ⟨Ao201, co201, eo201⟩ := Kd.N_slice HO597.out; subst eo201) | (go_at_call 22; (with_reducible refine (laws_sameLists.calls kj170 _ _ t595 _ _ t530 t598 _ ?side1 ?side2 ?side3 ?side4 A198.out).mono ?_); (case side1 => repeat (first | exact (Kd.N_reads' HO597.out).2.2 | (with_reducible refine Kd.C_alloc ?_ _) | (with_reducible refine Kd.C_drewN ?_ _) | (with_reducible refine Kd.C_drew ?_))); (case side2 => exact (Kd.N_reads' HO597.out).2.1); (case side3 => repeat (first | exact (Kd.N_reads' HO_10.out).2.2 | (with_reducible refine Kd.C_alloc ?_ _) | (with_reducible refine Kd.C_drewN ?_ _) | (with_reducible refine Kd.C_drew ?_))); (case side4 => exact (Kd.N_reads' HO_10.out).2.1); rintro e w' ⟨rfl, ⟨nd, rfl⟩⟩))
             go_meet
             case rel => exact ⟨_, (!t598), (by first | rfl | (simp; done) | (simp [*]; done)), H', ⟨by have := HJ16.out; have := HJ170.out; first | omega | exact Nat.le_refl _⟩, ⟨by (with_reducible repeat (first | apply Kd.R_alloc | apply Kd.R_drewN | apply Kd.R_drew)); exact Kd.R_mono HO_4.out (fun _ hk => ⟨hk.2.1, hk.2.2⟩)⟩, ⟨by (with_reducible repeat (first | apply Kd.R_alloc | apply Kd.R_drewN | apply Kd.R_drew)); exact Kd.R_mono HO_22.out (fun _ hk => ⟨hk.1, hk.2.2⟩)⟩, ⟨by (with_reducible repeat (first | apply Kd.R_alloc | apply Kd.R_drewN | apply Kd.R_drew)); exact Kd.R_mono HO_26.out (fun _ hk => ⟨hk.1, hk.2.2⟩)⟩, ⟨(bl HB)⟩⟩
            ·replace c196 := Bool.eq_false_iff.mpr c196
             subst c196
             have H1 : (laws_FnWirings.j2 kj170 t519 t520 t523 t552 t560 false) = some true := by rw [if_neg (show ¬ (false = true) by decide)] at H; exact H
             clear H
             have H := H1
             clear H1
             have H' := Aside0.mk H
             clear H
             go_wp2
             go_meet
             case rel => exact ⟨_, (false), (by first | rfl | (simp; done) | (simp [*]; done)), H', ⟨by have := HJ16.out; have := HJ170.out; first | omega | exact Nat.le_refl _⟩, ⟨by (with_reducible repeat (first | apply Kd.R_alloc | apply Kd.R_drewN | apply Kd.R_drew)); exact Kd.R_mono HO_4.out (fun _ hk => ⟨hk.2.1, hk.2.2⟩)⟩, ⟨by (with_reducible repeat (first | apply Kd.R_alloc | apply Kd.R_drewN | apply Kd.R_drew)); exact Kd.R_mono HO_22.out (fun _ hk => ⟨hk.1, hk.2.2⟩)⟩, ⟨by (with_reducible repeat (first | apply Kd.R_alloc | apply Kd.R_drewN | apply Kd.R_drew)); exact Kd.R_mono HO_26.out (fun _ hk => ⟨hk.1, hk.2.2⟩)⟩, ⟨(bl HB)⟩⟩
          case rest =>
           as_aux_lemma =>
            clear HC195
            try clear c1
            try clear c2
            try clear p2
            try clear c3
            try clear c4
            try clear c5
            try clear c6
            try clear c7
            try clear c8
            try clear c9
            try clear c10
            try clear c11
            try clear c12
            try clear c13
            try clear c14
            try clear c15
            try clear c16
            try clear c17
            try clear c18
            try clear c19
            try clear c25
            try clear c26
            try clear c34
            try clear c34b0
            try clear c34b1
            try clear c34b2
            try clear c39
            try clear c40
            try clear c40b0
            try clear c40b1
            try clear c40b2
            try clear c48
            try clear c49
            try clear c49b0
            try clear c49b1
            try clear c49b2
            try clear c58
            try clear c58b0
            try clear c58b1
            try clear c60
            try clear c61
            try clear c61b0
            try clear c61b1
            try clear c61b2
            try clear c73
            try clear c74
            try clear c74b0
            try clear c74b1
            try clear c74b2
            try clear c88
            try clear c168
            try clear c175
            try clear c175b0
            try clear c175b1
            try clear c176
            try clear c176b0
            try clear c176b1
            try clear c176b2
            try clear c178
            try clear c179
            try clear c179b0
            try clear c179b1
            try clear c181
            try clear c182
            try clear c182b0
            try clear c182b1
            try clear c182b2
            try clear c190
            try clear c190b0
            try clear c190b1
            try clear c190b2
            try clear c194
            try clear c196
            try clear p2
            obtain ⟨kq, x238_194, rfl, HA, HJ194, HO_4, HO_22, HO_26, HB⟩ := hcut
            cases kq with
            | zero => exact absurd HA.out (by simp [laws_FnWirings.j2])
            | succ kj194 =>
             have H := HA.out
             clear HA
             simp only [laws_FnWirings.j2] at H
             by_cases c202 : x238_194 = true
             ·subst c202
              have H1 : (some false) = some true := by rw [if_pos rfl] at H; exact H
              clear H
              have H := H1
              clear H1
              exact absurd H (by simp)
             ·replace c202 := Bool.eq_false_iff.mpr c202
              subst c202
              have H1 : (if t523 = true then ((impl_FlipWiring.f kj194 t519 t560).bind fun bt599 => ((impl_SwapsOf.f kj194 t519 t520).bind fun t603 => ((impl_WiringFrom.f kj194 t519 t603).bind fun bt606 => ((impl_WiresAfter.f kj194 t519 t520 (t520.length : Int)).bind fun t610 => (laws_FnWirings.l0 kj194 t519 t520 t552 t560 bt599.1 bt599.2 bt606.1 bt606.2 t610 0))))) else (some true)) = some true := by rw [if_neg (show ¬ (false = true) by decide)] at H; exact H
              clear H
              have H := H1
              clear H1
              by_cases c203 : t523 = true
              ·subst c203
               have H1 : ((impl_FlipWiring.f kj194 t519 t560).bind fun bt599 => ((impl_SwapsOf.f kj194 t519 t520).bind fun t603 => ((impl_WiringFrom.f kj194 t519 t603).bind fun bt606 => ((impl_WiresAfter.f kj194 t519 t520 (t520.length : Int)).bind fun t610 => (laws_FnWirings.l0 kj194 t519 t520 t552 t560 bt599.1 bt599.2 bt606.1 bt606.2 t610 0))))) = some true := by rw [if_pos rfl] at H; exact H
               clear H
               have H := H1
               clear H1
               replace H := Option.bind_eq_some_iff.mp H
               obtain ⟨⟨t599, t600⟩, A2040, H⟩ := H
               (try dsimp only at H)
               have A204 := Aside0.mk A2040
               clear A2040
               replace H := Option.bind_eq_some_iff.mp H
               obtain ⟨t603, A2050, H⟩ := H
               (try dsimp only at H)
               have A205 := Aside0.mk A2050
               clear A2050
               replace H := Option.bind_eq_some_iff.mp H
               obtain ⟨⟨t606, t607⟩, A2060, H⟩ := H
               (try dsimp only at H)
               have A206 := Aside0.mk A2060
               clear A2060
               replace H := Option.bind_eq_some_iff.mp H
               obtain ⟨t610, A2070, H⟩ := H
               (try dsimp only at H)
               have A207 := Aside0.mk A2070
               clear A2070
               have H' := Aside0.mk H
               clear H
               obtain ⟨Ao208, co208, eo208⟩ := Kd.R_slice HO_26.out
               subst eo208
               go_wp2_with (first | ((with_reducible refine gate_callee (f := 16) rfl ?_); refine gL (some 244) rfl rfl Tryd.func16 (by kernel_rfl) rfl #[.int .i64 t519, .slice Ao208 t560.length co208] rfl ?_; (with_reducible refine (impl_FlipWiring.calls kj194 t519 _ _ t560 t599 t600 _ ?side1 ?side2 A204.out).mono ?_); (case side1 => repeat (first | exact (Kd.R_reads' HO_26.out).2.2 | (with_reducible refine Kd.C_alloc ?_ _) | (with_reducible refine Kd.C_drewN ?_ _) | (with_reducible refine Kd.C_drew ?_))); (case side2 => exact (Kd.R_reads' HO_26.out).2.1); rintro e w209 ⟨v601, rfl, ho0, hb⟩; refine ⟨_, rfl, ?_⟩; have n0_ := Aside0.mk (Kd.R_elder' (rr HO_4) (Kd.R_base ho0) hb); have n1_ := Aside0.mk (Kd.R_elder' (rr HO_22) (Kd.R_base ho0) hb); have n2_ := Aside0.mk (Kd.R_elder' (rr HO_26) (Kd.R_base ho0) hb); have n3_ := Aside0.mk (Kd.R_lower (Kd.R_new' (Kd.R_new' (Kd.R_new' ho0 (Kd.R_lt (rr HO_4))) (Kd.R_lt (rr HO_22))) (Kd.R_lt (rr HO_26))) (below_size (bl HB))); have n4_ := bs HB hb; clear HO_4; clear HO_22; clear HO_26; clear HB; have HO_4 := n0_; have HO_22 := n1_; have HO_26 := n2_; have HO602 := n3_; have HB := n4_; clear n0_ n1_ n2_ n3_ n4_; (try clear hb); (try clear hb2); (try clear hk); (try clear hi); (try clear ho0)) | ((with_reducible refine gate_callee (f := 23) rfl ?_); refine gL (some 251) rfl rfl Tryd.func23 (by kernel_rfl) rfl #[.int .i64 t519, .slice Ao19 t520.length co19] rfl ?_; (with_reducible refine (impl_SwapsOf.calls kj194 t519 _ _ t520 t603 _ ?side1 ?side2 A205.out).mono ?_); (case side1 => repeat (first | exact (Kd.R_reads' HO_4.out).2.2 | (with_reducible refine Kd.C_alloc ?_ _) | (with_reducible refine Kd.C_drewN ?_ _) | (with_reducible refine Kd.C_drew ?_))); (case side2 => exact (Kd.R_reads' HO_4.out).2.1); rintro e w210 ⟨v604, rfl, ho0, hb⟩; refine ⟨_, rfl, ?_⟩; have n0_ := Aside0.mk (Kd.R_below (rr HO_4) hb); have n1_ := Aside0.mk (Kd.R_below (rr HO_22) hb); have n2_ := Aside0.mk (Kd.R_below (rr HO_26) hb); have n3_ := Aside0.mk (Kd.R_below (rr HO602) hb); have n4_ := Aside0.mk (Kd.N_lower (Kd.N_mono (ok' := fun k_ => some k_ ≠ (.slice Ao19 t520.length co19 : Value).ownBlock ∧ some k_ ≠ (v554 : Value).ownBlock ∧ some k_ ≠ (.slice Ao208 t560.length co208 : Value).ownBlock ∧ some k_ ≠ (v601 : Value).ownBlock) (Kd.S_N (Kd.S_bound ho0)) (fun k_ hk_ => ⟨(Kd.fresh' (Kd.R_lt (rr HO_4)) k_ hk_.2.1), (Kd.fresh' (Kd.R_lt (rr HO_22)) k_ hk_.2.1), (Kd.fresh' (Kd.R_lt (rr HO_26)) k_ hk_.2.1), (Kd.fresh' (Kd.R_lt (rr HO602)) k_ hk_.2.1)⟩)) (below_size (bl HB))); have n5_ := bs HB hb; clear HO_4; clear HO_22; clear HO_26; clear HO602; clear HB; have HO_4 := n0_; have HO_22 := n1_; have HO_26 := n2_; have HO602 := n3_; have HO605 := n4_; have HB := n5_; clear n0_ n1_ n2_ n3_ n4_ n5_; (try clear hb); (try clear hb2); (try clear hk); (try clear hi); (try clear ho0); obtain ⟨Ao211, co211, eo211⟩ := Kd.N_slice HO605.out; subst eo211) | ((with_reducible refine gate_callee (f := 9) rfl ?_); refine gL (some 252) rfl rfl Tryd.func9 (by kernel_rfl) rfl #[.int .i64 t519, .slice Ao211 t603.length co211] rfl ?_; (with_reducible refine (impl_WiringFrom.calls kj194 t519 _ _ t603 t606 t607 _ ?side1 ?side2 A206.out).mono ?_); (case side1 => repeat (first | exact (Kd.N_reads' HO605.out).2.2 | (with_reducible refine Kd.C_alloc ?_ _) | (with_reducible refine Kd.C_drewN ?_ _) | (with_reducible refine Kd.C_drew ?_))); (case side2 => exact (Kd.N_reads' HO605.out).2.1); rintro e w212 ⟨v608, rfl, ho0, hb⟩; refine ⟨_, rfl, ?_⟩; have n0_ := Aside0.mk (Kd.R_elder' (rr HO_4) (Kd.R_base ho0) hb); have n1_ := Aside0.mk (Kd.R_elder' (rr HO_22) (Kd.R_base ho0) hb); have n2_ := Aside0.mk (Kd.R_elder' (rr HO_26) (Kd.R_base ho0) hb); have n3_ := Aside0.mk (Kd.R_elder' (rr HO602) (Kd.R_base ho0) hb); have n4_ := Aside0.mk (Kd.N_elder' (by (with_reducible repeat (first | apply Kd.N_alloc | apply Kd.N_drewN | apply Kd.N_drew)); exact HO605.out) (Kd.R_base ho0) hb); have n5_ := Aside0.mk (Kd.R_lower (Kd.R_new' (Kd.R_new' (Kd.R_new' (Kd.R_new' ho0 (Kd.R_lt (rr HO_4))) (Kd.R_lt (rr HO_22))) (Kd.R_lt (rr HO_26))) (Kd.R_lt (rr HO602))) (below_size (bl HB))); have n6_ := bs HB hb; clear HO_4; clear HO_22; clear HO_26; clear HO602; clear HO605; clear HB; have HO_4 := n0_; have HO_22 := n1_; have HO_26 := n2_; have HO602 := n3_; have HO605 := n4_; have HO609 := n5_; have HB := n6_; clear n0_ n1_ n2_ n3_ n4_ n5_ n6_; (try clear hb); (try clear hb2); (try clear hk); (try clear hi); (try clear ho0)) | ((with_reducible refine gate_callee (f := 20) rfl ?_); refine gL (some 259) rfl rfl Tryd.func20 (by kernel_rfl) rfl #[.int .i64 t519, .slice Ao19 t520.length co19, .int .i64 (t520.length : Int)] rfl ?_; (with_reducible refine (impl_WiresAfter.calls kj194 t519 _ _ t520 (t520.length : Int) t610 _ ?side1 ?side2 A207.out).mono ?_); (case side1 => repeat (first | exact (Kd.R_reads' HO_4.out).2.2 | (with_reducible refine Kd.C_alloc ?_ _) | (with_reducible refine Kd.C_drewN ?_ _) | (with_reducible refine Kd.C_drew ?_))); (case side2 => exact (Kd.R_reads' HO_4.out).2.1); rintro e w213 ⟨v611, rfl, ho0, hb⟩; refine ⟨_, rfl, ?_⟩; have n0_ := Aside0.mk (Kd.R_elder' (rr HO_4) (Kd.R_base ho0) hb); have n1_ := Aside0.mk (Kd.R_elder' (rr HO_22) (Kd.R_base ho0) hb); have n2_ := Aside0.mk (Kd.R_elder' (rr HO_26) (Kd.R_base ho0) hb); have n3_ := Aside0.mk (Kd.R_elder' (rr HO602) (Kd.R_base ho0) hb); have n4_ := Aside0.mk (Kd.N_elder' (by (with_reducible repeat (first | apply Kd.N_alloc | apply Kd.N_drewN | apply Kd.N_drew)); exact HO605.out) (Kd.R_base ho0) hb); have n5_ := Aside0.mk (Kd.R_elder' (rr HO609) (Kd.R_base ho0) hb); have n6_ := Aside0.mk (Kd.R_lower (Kd.R_new' (Kd.R_new' (Kd.R_new' (Kd.R_new' (Kd.R_new' ho0 (Kd.R_lt (rr HO_4))) (Kd.R_lt (rr HO_22))) (Kd.R_lt (rr HO_26))) (Kd.R_lt (rr HO602))) (Kd.R_lt (rr HO609))) (below_size (bl HB))); have n7_ := bs HB hb; clear HO_4; clear HO_22; clear HO_26; clear HO602; clear HO605; clear HO609; clear HB; have HO_4 := n0_; have HO_22 := n1_; have HO_26 := n2_; have HO602 := n3_; have HO605 := n4_; have HO609 := n5_; have HO612 := n6_; have HB := n7_; clear n0_ n1_ n2_ n3_ n4_ n5_ n6_ n7_; (try clear hb); (try clear hb2); (try clear hk); (try clear hi); (try clear ho0)))
               go_loopg [39] kj194 (fun kq v39 w' => ∃ (x39_4 : Int), v39 = .int .i64 x39_4 ∧ Aside0 (laws_FnWirings.l0 kq t519 t520 t552 t560 t599 t600 t606 t607 t610 x39_4 = some true) ∧ Aside0 (kq ≤ kj194) ∧ Aside0 (Kd.R (Kd.int .i64) 3 w' w.heap.size (fun k_ => some k_ ≠ (v554 : Value).ownBlock ∧ some k_ ≠ ((.slice Ao208 t560.length co208) : Value).ownBlock ∧ some k_ ≠ (v601 : Value).ownBlock ∧ some k_ ≠ (v608 : Value).ownBlock ∧ some k_ ≠ (v611 : Value).ownBlock) (.slice Ao19 t520.length co19) t520) ∧ Aside0 (Kd.R (Kd.int .i64) 3 w' w.heap.size (fun k_ => some k_ ≠ ((.slice Ao19 t520.length co19) : Value).ownBlock ∧ some k_ ≠ ((.slice Ao208 t560.length co208) : Value).ownBlock ∧ some k_ ≠ (v601 : Value).ownBlock ∧ some k_ ≠ (v608 : Value).ownBlock ∧ some k_ ≠ (v611 : Value).ownBlock) v554 t552) ∧ Aside0 (Kd.R (Kd.int .i64) 3 w' w.heap.size (fun k_ => some k_ ≠ ((.slice Ao19 t520.length co19) : Value).ownBlock ∧ some k_ ≠ (v554 : Value).ownBlock ∧ some k_ ≠ (v601 : Value).ownBlock ∧ some k_ ≠ (v608 : Value).ownBlock ∧ some k_ ≠ (v611 : Value).ownBlock) (.slice Ao208 t560.length co208) t560) ∧ Aside0 (Kd.R (Kd.int .i64) 3 w' w.heap.size (fun k_ => some k_ ≠ ((.slice Ao19 t520.length co19) : Value).ownBlock ∧ some k_ ≠ (v554 : Value).ownBlock ∧ some k_ ≠ ((.slice Ao208 t560.length co208) : Value).ownBlock ∧ some k_ ≠ (v608 : Value).ownBlock ∧ some k_ ≠ (v611 : Value).ownBlock) v601 t599) ∧ Aside0 (Kd.R (Kd.int .i64) 3 w' w.heap.size (fun k_ => some k_ ≠ ((.slice Ao19 t520.length co19) : Value).ownBlock ∧ some k_ ≠ (v554 : Value).ownBlock ∧ some k_ ≠ ((.slice Ao208 t560.length co208) : Value).ownBlock ∧ some k_ ≠ (v601 : Value).ownBlock ∧ some k_ ≠ (v611 : Value).ownBlock) v608 t606) ∧ Aside0 (Kd.R (Kd.int .i64) 3 w' w.heap.size (fun k_ => some k_ ≠ ((.slice Ao19 t520.length co19) : Value).ownBlock ∧ some k_ ≠ (v554 : Value).ownBlock ∧ some k_ ≠ ((.slice Ao208 t560.length co208) : Value).ownBlock ∧ some k_ ≠ (v601 : Value).ownBlock ∧ some k_ ≠ (v608 : Value).ownBlock) v611 t610) ∧ Aside0 (Below w.heap.size w w'))
               case atStart => exact ⟨(0), (by first | rfl | (simp; done) | (simp [*]; done)), H', ⟨Nat.le_refl _⟩, ⟨by (with_reducible repeat (first | apply Kd.R_alloc | apply Kd.R_drewN | apply Kd.R_drew)); exact Kd.R_mono HO_4.out (fun _ hk => ⟨hk.1.1.1.1, ⟨hk.1.1.1.2, ⟨hk.1.1.2, ⟨hk.1.2, hk.2⟩⟩⟩⟩)⟩, ⟨by (with_reducible repeat (first | apply Kd.R_alloc | apply Kd.R_drewN | apply Kd.R_drew)); exact Kd.R_mono HO_22.out (fun _ hk => ⟨hk.1.1.1.1, ⟨hk.1.1.1.2, ⟨hk.1.1.2, ⟨hk.1.2, hk.2⟩⟩⟩⟩)⟩, ⟨by (with_reducible repeat (first | apply Kd.R_alloc | apply Kd.R_drewN | apply Kd.R_drew)); exact Kd.R_mono HO_26.out (fun _ hk => ⟨hk.1.1.1.1, ⟨hk.1.1.1.2, ⟨hk.1.1.2, ⟨hk.1.2, hk.2⟩⟩⟩⟩)⟩, ⟨by (with_reducible repeat (first | apply Kd.R_alloc | apply Kd.R_drewN | apply Kd.R_drew)); exact Kd.R_mono HO602.out (fun _ hk => ⟨hk.1.1.1.1.2, ⟨hk.1.1.1.2, ⟨hk.1.1.2, ⟨hk.1.2, hk.2⟩⟩⟩⟩)⟩, ⟨by (with_reducible repeat (first | apply Kd.R_alloc | apply Kd.R_drewN | apply Kd.R_drew)); exact Kd.R_mono HO609.out (fun _ hk => ⟨hk.1.1.1.1.2, ⟨hk.1.1.1.2, ⟨hk.1.1.2, ⟨hk.1.2, hk.2⟩⟩⟩⟩)⟩, ⟨by (with_reducible repeat (first | apply Kd.R_alloc | apply Kd.R_drewN | apply Kd.R_drew)); exact Kd.R_mono HO612.out (fun _ hk => ⟨hk.1.1.1.1.2, ⟨hk.1.1.1.2, ⟨hk.1.1.2, ⟨hk.1.2, hk.2⟩⟩⟩⟩)⟩, ⟨(bl HB)⟩⟩
               case round =>
                clear H'
                try clear c1
                try clear c2
                try clear p2
                try clear c3
                try clear c4
                try clear c5
                try clear c6
                try clear c7
                try clear c8
                try clear c9
                try clear c10
                try clear c11
                try clear c12
                try clear c13
                try clear c14
                try clear c15
                try clear c16
                try clear c17
                try clear c18
                try clear c19
                try clear c20
                try clear c23
                try clear c25
                try clear c26
                try clear c34
                try clear c34b0
                try clear c34b1
                try clear c34b2
                try clear c39
                try clear c40
                try clear c40b0
                try clear c40b1
                try clear c40b2
                try clear c48
                try clear c49
                try clear c49b0
                try clear c49b1
                try clear c49b2
                try clear c58
                try clear c58b0
                try clear c58b1
                try clear c60
                try clear c61
                try clear c61b0
                try clear c61b1
                try clear c61b2
                try clear c73
                try clear c74
                try clear c74b0
                try clear c74b1
                try clear c74b2
                try clear c88
                try clear c168
                try clear c175
                try clear c175b0
                try clear c175b1
                try clear c176
                try clear c176b0
                try clear c176b1
                try clear c176b2
                try clear c178
                try clear c179
                try clear c179b0
                try clear c179b1
                try clear c181
                try clear c182
                try clear c182b0
                try clear c182b1
                try clear c182b2
                try clear c190
                try clear c190b0
                try clear c190b1
                try clear c190b2
                try clear c194
                try clear c196
                try clear c202
                try clear c203
                try clear p2
                obtain ⟨x39_4, rfl, HA, HK4, HO_4, HO_22, HO_26, HO_34, HO_36, HO_38, HB⟩ := hrel
                cases gk with
                | zero => exact absurd HA.out (by simp [laws_FnWirings.l0])
                | succ k4 =>
                 have H := HA.out
                 clear HA
                 simp only [laws_FnWirings.l0] at H
                 by_cases c214 : x39_4 < t519
                 ·rw [if_pos c214] at H
                  have c214b0 : decide (x39_4 < t519) = true := decide_eq_true c214
                  clear c214
                  by_cases c215 : 0 ≤ x39_4
                  ·rw [if_pos c215] at H
                   have c215b0 : decide (0 ≤ x39_4) = true := decide_eq_true c215
                   clear c215
                   by_cases c216 : x39_4 < (t610.length : Int)
                   ·rw [if_pos c216] at H
                    have c216b0 : decide (x39_4 < (t610.length : Int)) = true := decide_eq_true c216
                    clear c216
                    by_cases c217 : (rd t610 x39_4) = (wrap64 ((wrap64 (t519 - 1)) - x39_4))
                    ·rw [if_pos c217] at H
                     have c217b0 : ((rd t610 x39_4) == (wrap64 ((wrap64 (t519 - 1)) - x39_4))) = true := beq_iff_eq.mpr c217
                     have c217b1 : ((rd t610 x39_4) != (wrap64 ((wrap64 (t519 - 1)) - x39_4))) = false := bne_eq_false_iff_eq.mpr c217
                     clear c217
                     have H' := Aside0.mk H
                     clear H
                     obtain ⟨Ao218, co218, eo218⟩ := Kd.R_slice HO_38.out
                     subst eo218
                     have p613 : 0 ≤ (x39_4 : Int) := of_decide_eq_true (by first | (with_reducible assumption) | assumption)
                     have q613 : x39_4 < (t610.length : Int) := of_decide_eq_true (by first | (with_reducible assumption) | assumption)
                     obtain ⟨ad613, e613, hx613_0⟩ := Kd.at_int (Kd.R_reads' HO_38.out).2.2 x39_4 p613 q613
                     cases e613
                     replace p613 := eq_true p613
                     replace q613 := eq_true q613
                     go_wp2
                     go_roundg k4
                     case measure => have := HJ16.out; have := HJ170.out; have := HJ194.out; have := HK4.out; omega
                     case rel => exact ⟨(wrap64 (x39_4 + 1)), (by first | rfl | (simp; done) | (simp [*]; done)), H', ⟨by have := HJ16.out; have := HJ170.out; have := HJ194.out; have := HK4.out; omega⟩, ⟨by (with_reducible repeat (first | apply Kd.R_alloc | apply Kd.R_drewN | apply Kd.R_drew)); exact HO_4.out⟩, ⟨by (with_reducible repeat (first | apply Kd.R_alloc | apply Kd.R_drewN | apply Kd.R_drew)); exact HO_22.out⟩, ⟨by (with_reducible repeat (first | apply Kd.R_alloc | apply Kd.R_drewN | apply Kd.R_drew)); exact HO_26.out⟩, ⟨by (with_reducible repeat (first | apply Kd.R_alloc | apply Kd.R_drewN | apply Kd.R_drew)); exact HO_34.out⟩, ⟨by (with_reducible repeat (first | apply Kd.R_alloc | apply Kd.R_drewN | apply Kd.R_drew)); exact HO_36.out⟩, ⟨by (with_reducible repeat (first | apply Kd.R_alloc | apply Kd.R_drewN | apply Kd.R_drew)); exact HO_38.out⟩, ⟨(bl HB)⟩⟩
                    ·rw [if_neg c217] at H
                     have c217b0 : ((rd t610 x39_4) == (wrap64 ((wrap64 (t519 - 1)) - x39_4))) = false := beq_eq_false_iff_ne.mpr c217
                     have c217b1 : ((rd t610 x39_4) != (wrap64 ((wrap64 (t519 - 1)) - x39_4))) = true := bne_iff_ne.mpr c217
                     exact absurd H (by simp)
                   ·rw [if_neg c216] at H
                    exact absurd H (by simp)
                  ·rw [if_neg c215] at H
                   exact absurd H (by simp)
                 ·rw [if_neg c214] at H
                  have c214b0 : decide (x39_4 < t519) = false := decide_eq_false c214
                  clear c214
                  by_cases c220 : t600 = true
                  ·subst c220
                   have H1 : ((laws_sameInts.f k4 t599 t520).bind fun t614 => (if t614 = true then (if t607 = true then ((laws_sameInts.f k4 t606 t520).bind fun t615 => (if t615 = true then ((impl_IsWiring.f k4 t519 t552).bind fun t616 => (if t616 = true then ((impl_IsWiring.f k4 t519 t560).bind fun t617 => (some t617)) else (some false))) else (some false))) else (some false)) else (some false))) = some true := by rw [if_pos rfl] at H; exact H
                   clear H
                   have H := H1
                   clear H1
                   replace H := Option.bind_eq_some_iff.mp H
                   obtain ⟨t614, A2210, H⟩ := H
                   (try dsimp only at H)
                   have A221 := Aside0.mk A2210
                   clear A2210
                   by_cases c222 : t614 = true
                   ·subst c222
                    have H1 : (if t607 = true then ((laws_sameInts.f k4 t606 t520).bind fun t615 => (if t615 = true then ((impl_IsWiring.f k4 t519 t552).bind fun t616 => (if t616 = true then ((impl_IsWiring.f k4 t519 t560).bind fun t617 => (some t617)) else (some false))) else (some false))) else (some false)) = some true := by rw [if_pos rfl] at H; exact H
                    clear H
                    have H := H1
                    clear H1
                    by_cases c223 : t607 = true
                    ·subst c223
                     have H1 : ((laws_sameInts.f k4 t606 t520).bind fun t615 => (if t615 = true then ((impl_IsWiring.f k4 t519 t552).bind fun t616 => (if t616 = true then ((impl_IsWiring.f k4 t519 t560).bind fun t617 => (some t617)) else (some false))) else (some false))) = some true := by rw [if_pos rfl] at H; exact H
                     clear H
                     have H := H1
                     clear H1
                     replace H := Option.bind_eq_some_iff.mp H
                     obtain ⟨t615, A2240, H⟩ := H
                     (try dsimp only at H)
                     have A224 := Aside0.mk A2240
                     clear A2240
                     by_cases c225 : t615 = true
                     ·subst c225
                      have H1 : ((impl_IsWiring.f k4 t519 t552).bind fun t616 => (if t616 = true then ((impl_IsWiring.f k4 t519 t560).bind fun t617 => (some t617)) else (some false))) = some true := by rw [if_pos rfl] at H; exact H
                      clear H
                      have H := H1
                      clear H1
                      replace H := Option.bind_eq_some_iff.mp H
                      obtain ⟨t616, A2260, H⟩ := H
                      (try dsimp only at H)
                      have A226 := Aside0.mk A2260
                      clear A2260
                      by_cases c227 : t616 = true
                      ·subst c227
                       have H1 : ((impl_IsWiring.f k4 t519 t560).bind fun t617 => (some t617)) = some true := by rw [if_pos rfl] at H; exact H
                       clear H
                       have H := H1
                       clear H1
                       replace H := Option.bind_eq_some_iff.mp H
                       obtain ⟨t617, A2280, H⟩ := H
                       (try dsimp only at H)
                       have A228 := Aside0.mk A2280
                       clear A2280
                       obtain rfl := Option.some.inj H
                       obtain ⟨Ao229, co229, eo229⟩ := Kd.R_slice HO_34.out
                       subst eo229
                       go_wp2_with (first | (go_at_call 19; (with_reducible refine (laws_sameInts.calls k4 _ _ t599 _ _ t520 true _ ?side1 ?side2 ?side3 ?side4 A221.out).mono ?_); (case side1 => repeat (first | exact (Kd.R_reads' HO_34.out).2.2 | (with_reducible refine Kd.C_alloc ?_ _) | (with_reducible refine Kd.C_drewN ?_ _) | (with_reducible refine Kd.C_drew ?_))); (case side2 => exact (Kd.R_reads' HO_34.out).2.1); (case side3 => repeat (first | exact (Kd.R_reads' HO_4.out).2.2 | (with_reducible refine Kd.C_alloc ?_ _) | (with_reducible refine Kd.C_drewN ?_ _) | (with_reducible refine Kd.C_drew ?_))); (case side4 => exact (Kd.R_reads' HO_4.out).2.1); rintro e w' ⟨rfl, ⟨nd, rfl⟩⟩; obtain ⟨Ao230, co230, eo230⟩ := Kd.R_slice HO_36.out; subst eo230) | (go_at_call 19; (with_reducible refine (laws_sameInts.calls k4 _ _ t606 _ _ t520 true _ ?side1 ?side2 ?side3 ?side4 A224.out).mono ?_); (case side1 => repeat (first | exact (Kd.R_reads' HO_36.out).2.2 | (with_reducible refine Kd.C_alloc ?_ _) | (with_reducible refine Kd.C_drewN ?_ _) | (with_reducible refine Kd.C_drew ?_))); (case side2 => exact (Kd.R_reads' HO_36.out).2.1); (case side3 => repeat (first | exact (Kd.R_reads' HO_4.out).2.2 | (with_reducible refine Kd.C_alloc ?_ _) | (with_reducible refine Kd.C_drewN ?_ _) | (with_reducible refine Kd.C_drew ?_))); (case side4 => exact (Kd.R_reads' HO_4.out).2.1); rintro e w' ⟨rfl, ⟨nd, rfl⟩⟩; obtain ⟨Ao231, co231, eo231⟩ := Kd.R_slice HO_22.out; subst eo231) | (go_at_call 6; (with_reducible refine (impl_IsWiring.calls k4 t519 _ _ t552 true _ ?side1 ?side2 A226.out).mono ?_); (case side1 => repeat (first | exact (Kd.R_reads' HO_22.out).2.2 | (with_reducible refine Kd.C_alloc ?_ _) | (with_reducible refine Kd.C_drewN ?_ _) | (with_reducible refine Kd.C_drew ?_))); (case side2 => exact (Kd.R_reads' HO_22.out).2.1); rintro e w232 ⟨rfl, hb⟩; have n0_ := Aside0.mk (Kd.R_below (rr HO_4) hb); have n1_ := Aside0.mk (Kd.R_below (rr HO_22) hb); have n2_ := Aside0.mk (Kd.R_below (rr HO_26) hb); have n3_ := Aside0.mk (Kd.R_below (rr HO_34) hb); have n4_ := Aside0.mk (Kd.R_below (rr HO_36) hb); have n5_ := Aside0.mk (Kd.R_below (rr HO_38) hb); have n6_ := bs HB hb; clear HO_4; clear HO_22; clear HO_26; clear HO_34; clear HO_36; clear HO_38; clear HB; have HO_4 := n0_; have HO_22 := n1_; have HO_26 := n2_; have HO_34 := n3_; have HO_36 := n4_; have HO_38 := n5_; have HB := n6_; clear n0_ n1_ n2_ n3_ n4_ n5_ n6_; (try clear hb); (try clear hb2); (try clear hk); (try clear hi)) | (go_at_call 6; (with_reducible refine (impl_IsWiring.calls k4 t519 _ _ t560 true _ ?side1 ?side2 A228.out).mono ?_); (case side1 => repeat (first | exact (Kd.R_reads' HO_26.out).2.2 | (with_reducible refine Kd.C_alloc ?_ _) | (with_reducible refine Kd.C_drewN ?_ _) | (with_reducible refine Kd.C_drew ?_))); (case side2 => exact (Kd.R_reads' HO_26.out).2.1); rintro e w233 ⟨rfl, hb⟩; have n0_ := Aside0.mk (Kd.R_below (rr HO_4) hb); have n1_ := Aside0.mk (Kd.R_below (rr HO_22) hb); have n2_ := Aside0.mk (Kd.R_below (rr HO_26) hb); have n3_ := Aside0.mk (Kd.R_below (rr HO_34) hb); have n4_ := Aside0.mk (Kd.R_below (rr HO_36) hb); have n5_ := Aside0.mk (Kd.R_below (rr HO_38) hb); have n6_ := bs HB hb; clear HO_4; clear HO_22; clear HO_26; clear HO_34; clear HO_36; clear HO_38; clear HB; have HO_4 := n0_; have HO_22 := n1_; have HO_26 := n2_; have HO_34 := n3_; have HO_36 := n4_; have HO_38 := n5_; have HB := n6_; clear n0_ n1_ n2_ n3_ n4_ n5_ n6_; (try clear hb); (try clear hb2); (try clear hk); (try clear hi)))
                       go_ret
                       exact ⟨by first | rfl | (simp [errW_none, errW_some] <;> rfl) | (simp [*, errW_none, errW_some] <;> rfl), (bl HB)⟩
                      ·replace c227 := Bool.eq_false_iff.mpr c227
                       subst c227
                       have H1 : (some false) = some true := by rw [if_neg (show ¬ (false = true) by decide)] at H; exact H
                       clear H
                       have H := H1
                       clear H1
                       exact absurd H (by simp)
                     ·replace c225 := Bool.eq_false_iff.mpr c225
                      subst c225
                      have H1 : (some false) = some true := by rw [if_neg (show ¬ (false = true) by decide)] at H; exact H
                      clear H
                      have H := H1
                      clear H1
                      exact absurd H (by simp)
                    ·replace c223 := Bool.eq_false_iff.mpr c223
                     subst c223
                     have H1 : (some false) = some true := by rw [if_neg (show ¬ (false = true) by decide)] at H; exact H
                     clear H
                     have H := H1
                     clear H1
                     exact absurd H (by simp)
                   ·replace c222 := Bool.eq_false_iff.mpr c222
                    subst c222
                    have H1 : (some false) = some true := by rw [if_neg (show ¬ (false = true) by decide)] at H; exact H
                    clear H
                    have H := H1
                    clear H1
                    exact absurd H (by simp)
                  ·replace c220 := Bool.eq_false_iff.mpr c220
                   subst c220
                   have H1 : (some false) = some true := by rw [if_neg (show ¬ (false = true) by decide)] at H; exact H
                   clear H
                   have H := H1
                   clear H1
                   exact absurd H (by simp)
              ·replace c203 := Bool.eq_false_iff.mpr c203
               subst c203
               have H1 : (some true) = some true := rfl
               clear H
               have H := H1
               clear H1
               clear H
               go_wp2
               go_ret
               exact ⟨by first | rfl | (simp [errW_none, errW_some] <;> rfl) | (simp [*, errW_none, errW_some] <;> rfl), (bl HB)⟩

/-- THE ONE PURE STATEMENT of laws_FnWirings: yours. -/
def laws_FnWirings.Pure : Prop := ∀ (l0 : List Int), l0.length ≤ maxLen → l0.length * 1 ≤ 140737488351232 → (∀ x ∈ l0, (Lit.int .u8 x).wf = true) → ∃ k, laws_FnWirings.f k l0 = some true
theorem laws_FnWirings.walk (P : laws_FnWirings.Pure) (a0 : Option Addr) (len0 cap0 : Nat) (z0 : List Int) (w : World) (hv_ : VarsOk w) (w0 : (a0 = none ∧ len0 = 0 ∧ cap0 = 0 ∧ z0 = []) ∨ ∃ x, a0 = some x ∧ len0 ≤ cap0 ∧ cap0 ≤ maxLen ∧ z0.length = cap0 ∧ (∀ i, i < z0.length → w.cell? (x.add i) = some (.int .u8 (z0.getD i 0))) ∧ ∀ n ∈ z0, (Lit.int .u8 n).wf = true) (y0 : len0 * 1 ≤ 140737488351232) :
  Calls Tryd.prog 3 #[.slice a0 len0 cap0] w fun e w' => e = .returned (.bool true) ∧ Below w.heap.size w w' := by
 obtain ⟨l0, rfl, hr0, hm0, hw0, hc0⟩ := ReadsInt.ofRowC w0
 obtain ⟨k, h⟩ := P l0 hm0 y0 hw0
 refine (laws_FnWirings.calls k _ _ l0 w hv_ (Kd.C_of_reads (d := (0 : Int)) (h1 := fun _ => rfl) hr0) hc0 h).mono ?_
 rintro e w' ⟨rfl, hd⟩
 exact ⟨rfl, hd⟩

end Go.Proofs.YtmidcafamppkeaaDoor.P
