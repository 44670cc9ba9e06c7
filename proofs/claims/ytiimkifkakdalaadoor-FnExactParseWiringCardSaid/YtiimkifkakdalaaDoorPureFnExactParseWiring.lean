/- For every text of at most 2^20 letters the program's ParseWiring returns what the reference's returns; longer texts are passed by the law itself. Conditions: none. -/
import Derived.Test.YtiimkifkakdalaaDoorCPars
import Derived.Test.YtiimkifkakdalaaDoorP25
namespace Go.Proofs.YtiimkifkakdalaaDoor.Pure
open Go.RowKit Go.Proofs.YtiimkifkakdalaaDoor.P Go.Proofs.YtiimkifkakdalaaDoorW.PrintWords Go.Proofs.YtiimkifkakdalaaDoorW.PrintLast
set_option linter.unusedVariables false
set_option linter.unusedSimpArgs false
set_option maxRecDepth 100000 in
theorem FnExactParseWiring : laws_FnExactParseWiring.Pure := by
  intro s _
  apply Ev.rounds
  by_cases hl : (s.size : Int) > 1048576
  · refine Ev.congr (f := fun _ => some true) (fun k => ?_) (Ev.now _)
    simp only [laws_FnExactParseWiring.f]; rw [if_pos hl]
  obtain ⟨hS, hI⟩ := c_pw s (by omega)
  have hlen := cPw_len (cPs s) (wholeOf (rdOf ByteArray.empty (cPs s) 0) 0 999999)
  generalize cPw (cPs s) (wholeOf (rdOf ByteArray.empty (cPs s) 0) 0 999999) = q at hS hI hlen
  obtain ⟨n, r, b⟩ := q
  have hlen2 : r.length ≤ 15 := hlen
  have hE := c_eqIntS_self r (by omega)
  have hM := c_markIntS r 1 (by omega) (by omega) (by omega)
  have hH := c_heldIntS 1 r.length (by omega) (by omega) (by omega)
  have hn2 : ¬ (1 + (r.length : Int) < 0) := by omega
  unfold laws_FnExactParseWiring.f
  refine Ev.congr (fun k => if_neg hl) ?_
  refine Ev.bind hS ?_
  refine Ev.bind hI ?_
  simp only [if_true]
  refine Ev.bind hE ?_
  simp only [if_true, bne_self_eq_false]
  refine Ev.step (f := fun k => (laws_markIntS.f k r 1).bind fun bt250 => ((laws_heldIntS.f k bt250.2 1).bind fun t252 => (if t252 < 0 then (some false) else (if t252 = bt250.1 then ((impl_ParseWiring.f k s).bind fun bt253 => (if bt253.1 = n then ((laws_eqIntS.f k bt253.2.1 r).bind fun t258 => (if t258 = true then (laws_FnExactParseWiring.j1 k bt250.2 bt250.1 (bt253.2.2 != b)) else (laws_FnExactParseWiring.j1 k bt250.2 bt250.1 true))) else (laws_FnExactParseWiring.j1 k bt250.2 bt250.1 true))) else (some false))))) (fun k => ?_) ?_
  · rw [laws_FnExactParseWiring.j0, if_neg (by decide)]
  refine Ev.bind hM ?_
  refine Ev.bind hH ?_
  simp only [if_neg hn2, if_true]
  refine Ev.bind hI ?_
  simp only [if_true]
  refine Ev.bind hE ?_
  simp only [if_true, bne_self_eq_false]
  refine Ev.step (f := fun k => (laws_heldIntS.f k (c_marks 1 r.length) 1).bind fun t => if t < 0 then some false else (if t = 1 + (r.length : Int) then some true else some false)) (fun k => ?_) ?_
  · rw [laws_FnExactParseWiring.j1, if_neg (by decide)]
  refine Ev.bind hH ?_
  simp only [if_neg hn2, if_true]
  exact Ev.now _
end Go.Proofs.YtiimkifkakdalaaDoor.Pure
