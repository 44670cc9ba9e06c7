/- FnWirings holds: both sides tell the same, a wiring's text is read back, its pairs tell it, turned round twice it is the same. Conditions: none. -/
import Derived.Test.YtmidcafamppkeaaDoorCDrawW
import Derived.Test.YtmidcafamppkeaaDoorP3
namespace Go.Proofs.YtmidcafamppkeaaDoor.Pure
open Go.RowKit Go.Proofs.YtmidcafamppkeaaDoor.P Go.Proofs.YtmidcafamppkeaaDoorW.PrintWords Go.Proofs.YtmidcafamppkeaaDoorW.PrintLast
set_option linter.unusedVariables false
set_option linter.unusedSimpArgs false

theorem last_all : ∀ N ∈ [3, 4, 5, 6], ∀ i ∈ List.range N, (cStart N).reverse.getD i 0 = (N : Int) - 1 - (i : Nat) := by decide +kernel
theorem last_l {N : Nat} (h3 : 3 ≤ N) (h6 : N ≤ 6) (w e g : List Int) (hw : w.length ≤ 15) (he : Ev (fun k => impl_IsWiring.f k (N : Int) e) true) (hg : Ev (fun k => impl_IsWiring.f k (N : Int) g) true) : ∀ (d i : Nat), i + d = N →
    Ev (fun k => laws_FnWirings.l0 k (N : Int) w e g w true w true (cStart N).reverse (i : Int)) true := by
  intro d
  have hs := s_same w (by omega)
  have hl : (cStart N).reverse.length = N := by rw [List.length_reverse, cStart_length]
  induction d with
  | zero =>
    intro i hi
    refine Ev.step (f := fun k => (laws_sameInts.f k w w).bind fun t614 => (if t614 = true then ((laws_sameInts.f k w w).bind fun t615 => (if t615 = true then ((impl_IsWiring.f k (N : Int) e).bind fun t616 => (if t616 = true then ((impl_IsWiring.f k (N : Int) g).bind fun t617 => (some t617)) else (some false))) else (some false))) else (some false))) (fun k => ?_) ?_
    · simp only [laws_FnWirings.l0]; rw [if_neg (by omega)]; simp only [if_true]
    · refine Ev.bind hs ?_
      simp only [if_true]
      refine Ev.bind hs ?_
      simp only [if_true]
      refine Ev.bind he ?_
      simp only [if_true]
      refine Ev.bind hg ?_
      exact Ev.now _
  | succ d ih =>
    intro i hi
    refine Ev.step (fun k => ?_) (ih (i + 1) (by omega))
    simp only [laws_FnWirings.l0]
    have h := last_all N (by simp; omega) i (List.mem_range.mpr (by omega))
    rw [if_pos (by omega), if_pos (by omega), if_pos (by rw [hl]; omega), c_rd, h, c_wid ((N : Int) - 1) (by omega) (by omega), c_wid _ (by omega) (by omega), if_pos rfl, c_w1 i (by omega)]
set_option maxRecDepth 100000 in
theorem FnWirings : laws_FnWirings.Pure := by
  intro l0 hm hb wf
  apply Ev.rounds
  by_cases hl : (l0.length : Int) > 1048576
  · refine Ev.congr (f := fun _ => some true) (fun k => ?_) (Ev.now _)
    simp only [laws_FnWirings.f, laws_big.f, Option.bind_some, decide_eq_true hl, if_true]
  obtain ⟨n, w, hN, hw⟩ := d_isW l0 (by omega)
  obtain ⟨a, v, i, hA, hv⟩ := d_after l0 (by omega)
  obtain ⟨b, sw, hB, hsw⟩ := d_wfrom l0 (by omega)
  obtain ⟨t, hT, ht⟩ := d_parse l0 (by omega)
  have hI1 := c_isW n w (by omega)
  have hS1 := c_isWiring n w (by omega)
  have hWI := cI_WiresAfter a v i (by omega)
  have hWS := cS_WiresAfter a v i (by omega)
  have hwl := cx_WiresAfter_len a v i (by omega)
  generalize cx_WiresAfter a v i = ra at hWI hWS hwl
  have hE1 := s_same ra hwl
  have hFI := cI_WFrom b sw (by omega)
  have hFS := cS_WFrom b sw (by omega)
  have hxl := cWFrom_len b sw (by omega)
  have hok : ∀ x, cWFrom b sw = (x, true) → Ev (fun k => impl_SwapsOf.f k b x) sw ∧ Ev (fun k => laws_sameLists.f k sw sw) true := by
    intro x hx
    obtain ⟨q1, q2⟩ := v_ok_swaps hx
    have q3 := c_isW_len q1
    have q4 := cI_swaps b x (by omega)
    rw [if_pos q1, q2] at q4
    refine ⟨q4, s_lists sw (by omega) (fun r hr => ?_)⟩
    obtain ⟨y, z, rfl, _⟩ := cSwaps_pairs q1 r (by rw [q2]; exact hr)
    simp
  generalize cWFrom b sw = xo at hFI hFS hxl hok
  obtain ⟨x, ok⟩ := xo
  have hE2 := s_same x hxl
  obtain ⟨hPS, hPI⟩ := c_pw t ht
  have hql := cPw_len (cPs t) (wholeOf (rdOf ByteArray.empty (cPs t) 0) 0 999999)
  generalize cPw (cPs t) (wholeOf (rdOf ByteArray.empty (cPs t) 0) 0 999999) = q at hPS hPI hql
  obtain ⟨c, y, one⟩ := q
  have hE3 := s_same y (by have : y.length ≤ 15 := hql; omega)
  have hTI := cI_TurnWiring n w (by omega)
  have hTS := cS_TurnWiring n w (by omega)
  have hGI := cI_FlipWiring n w (by omega)
  have hGS := cS_FlipWiring n w (by omega)
  have hRI := cI_swaps n w (by omega)
  have hRS := cS_SO n w (by omega)
  have hXI := cI_WiringText n w (by omega)
  have hXS := cS_WiringText n w (by omega)
  obtain ⟨_, hXP⟩ := c_pw (cx_WiringText n w) (by have := t_len (n := n) (w := w); omega)
  have hok1 : ok = true → Ev (fun k => impl_SwapsOf.f k b x) sw ∧ Ev (fun k => laws_sameLists.f k sw sw) true := fun h => hok x (by rw [h])
  clear hok
  by_cases hc : cIsW n w = true
  · obtain ⟨h3, h6, hlen, hr⟩ := c_isW_spec hc
    obtain ⟨N, rfl⟩ : ∃ N : Nat, n = (N : Int) := ⟨n.toNat, by omega⟩
    rw [Int.toNat_natCast] at hRI hRS
    rw [t_back hc] at hXP
    rw [if_pos hc] at hRI hRS
    rw [hc] at hI1 hS1
    unfold cx_TurnWiring at hTI hTS
    rw [if_pos hc] at hTI hTS
    have hg := f_twice hc
    have hgw : cIsW (N : Int) (cx_FlipList (N : Int) w w.length) = true := by rw [f_flip hc]; exact v_flip hc
    have hU := cI_FlipWiring (N : Int) (cx_FlipList (N : Int) w w.length) (by rw [cx_FlipList_length]; omega)
    rw [hg] at hU
    unfold cx_FlipWiring at hGI hGS
    rw [if_pos hc] at hGI hGS
    have hel : (w.drop 1 ++ [wrap64 ((wrap64 ((N : Int) - 2)) - (w.getD 0 0))]).length ≤ 16 := by rw [List.length_append, List.length_drop, List.length_singleton]; omega
    have hew := c_isW (N : Int) (w.drop 1 ++ [wrap64 ((wrap64 ((N : Int) - 2)) - (w.getD 0 0))]) (by omega)
    rw [f_turn hc] at hew
    generalize w.drop 1 ++ [wrap64 ((wrap64 ((N : Int) - 2)) - (w.getD 0 0))] = e at hTI hTS hew hel
    have hgl : (cx_FlipList (N : Int) w w.length).length ≤ 15 := by rw [cx_FlipList_length]; exact hw
    have hgI := c_isW (N : Int) (cx_FlipList (N : Int) w w.length) (by omega)
    rw [hgw] at hgI
    generalize cx_FlipList (N : Int) w w.length = g at hGI hGS hU hgI hgl
    have hE4 := s_same e (by omega)
    have hE5 := s_same g (by omega)
    have hE6 := s_same w (by omega)
    have hvs := v_swaps_from hc
    rw [Int.toNat_natCast] at hvs
    have hrl : (cSwaps (cStart N) w).length = w.length := cSwaps_length _ _
    have hrr := cSwaps_pairs hc
    rw [Int.toNat_natCast] at hrr
    have hZ := cI_WFrom (N : Int) (cSwaps (cStart N) w) (by rw [hrl]; omega)
    rw [hvs] at hZ
    have hE7 := s_lists (cSwaps (cStart N) w) (by omega) (fun r hr => by obtain ⟨y, z, rfl, _⟩ := hrr r hr; simp)
    generalize cSwaps (cStart N) w = s1 at hRI hRS hZ hE7
    have hY := cI_WiresAfter (N : Int) w (w.length : Int) (by omega)
    unfold cx_WiresAfter at hY
    rw [if_pos ⟨hc, by omega, by omega⟩, Int.toNat_natCast, Int.toNat_natCast, List.take_length] at hY
    have hvl := v_last hc
    rw [Int.toNat_natCast] at hvl
    rw [hvl] at hY
    have hL := last_l (N := N) (by omega) (by omega) w e g hw hew hgI N 0 (by omega)
    generalize cx_WiringText (N : Int) w = tx at hXI hXS hXP
    have hJ2 : Ev (fun k => laws_FnWirings.j2 k (N : Int) w true e g false) true := by
      refine Ev.step (f := fun k => (impl_FlipWiring.f k (N : Int) g).bind fun bt599 => ((impl_SwapsOf.f k (N : Int) w).bind fun t603 => ((impl_WiringFrom.f k (N : Int) t603).bind fun bt606 => ((impl_WiresAfter.f k (N : Int) w (w.length : Int)).bind fun t610 => (laws_FnWirings.l0 k (N : Int) w e g bt599.1 bt599.2 bt606.1 bt606.2 t610 0))))) (fun k => by simp only [laws_FnWirings.j2, Bool.false_eq_true, if_false, if_true]) ?_
      refine Ev.bind hU ?_
      refine Ev.bind hRI ?_
      refine Ev.bind hZ ?_
      refine Ev.bind hY ?_
      exact hL
    have hJ1 : Ev (fun k => laws_FnWirings.j1 k (N : Int) w true b sw x ok e g false) true := by
      cases hk : ok with
      | true =>
        obtain ⟨k1, k2⟩ := hok1 hk
        refine Ev.step (f := fun k => (impl_SwapsOf.f k b x).bind fun t595 => ((laws_sameLists.f k t595 sw).bind fun t598 => (laws_FnWirings.j2 k (N : Int) w true e g (!t598)))) (fun k => by simp only [laws_FnWirings.j1, Bool.false_eq_true, if_false, if_true]) ?_
        refine Ev.bind k1 (Ev.bind k2 ?_)
        exact hJ2
      | false => exact Ev.step (fun k => by simp only [laws_FnWirings.j1, Bool.false_eq_true, if_false]) hJ2
    have hJ0 : Ev (fun k => laws_FnWirings.j0 k (N : Int) w true b sw x ok e true g true false) true := by
      refine Ev.step (fun k => by simp only [laws_FnWirings.j0]; rfl) ?_
      simp only [Bool.false_eq_true, if_false]
      refine Ev.bind hXI (Ev.bind hXP (Ev.bind hXS ?_))
      simp only [if_true, bne_self_eq_false, Bool.false_eq_true, if_false]
      refine Ev.bind hE6 ?_
      simp only [if_true]
      exact hJ1
    unfold laws_FnWirings.f laws_big.f
    simp only [Option.bind_some, decide_eq_false hl, Bool.false_eq_true, if_false]
    refine Ev.bind hN (Ev.bind hI1 (Ev.bind hA (Ev.bind hB (Ev.bind hFI (Ev.bind hFS (Ev.bind hT (Ev.bind hPI (Ev.bind hPS (Ev.bind hTI (Ev.bind hTS (Ev.bind hGI (Ev.bind hGS (Ev.bind hS1 ?_)))))))))))))
    simp only [bne_self_eq_false, Bool.false_eq_true, if_false]
    refine Ev.bind hWI (Ev.bind hWS (Ev.bind hE1 ?_))
    simp only [bne_self_eq_false, Bool.false_eq_true, if_false, if_true]
    refine Ev.bind hE2 ?_
    simp only [bne_self_eq_false, Bool.false_eq_true, if_false, if_true]
    refine Ev.bind hE3 ?_
    simp only [bne_self_eq_false, Bool.false_eq_true, if_false, if_true]
    refine Ev.bind hE4 ?_
    simp only [bne_self_eq_false, Bool.false_eq_true, if_false, if_true]
    refine Ev.bind hE5 ?_
    simp only [bne_self_eq_false, Bool.false_eq_true, if_false, if_true]
    refine Ev.bind hRI (Ev.bind hRS (Ev.bind hE7 ?_))
    exact hJ0
  · have hcf : cIsW n w = false := by simpa using hc
    have et : cx_WiringText n w = ⟨#[]⟩ := if_neg hc
    rw [et] at hXI hXS hXP
    rw [t_none] at hXP
    rw [if_neg hc] at hRI hRS
    rw [hcf] at hI1 hS1
    unfold cx_TurnWiring at hTI hTS
    rw [if_neg hc] at hTI hTS
    unfold cx_FlipWiring at hGI hGS
    rw [if_neg hc] at hGI hGS
    have hE4 := s_same [] (by decide)
    have hE7 := s_lists [] (by decide) (fun r hr => by cases hr)
    have hJ2 : Ev (fun k => laws_FnWirings.j2 k n w false [] [] false) true := by
      refine Ev.step (f := fun k => some true) (fun k => by simp only [laws_FnWirings.j2, Bool.false_eq_true, if_false]) (Ev.now _)
    have hJ1 : Ev (fun k => laws_FnWirings.j1 k n w false b sw x ok [] [] false) true := by
      cases hk : ok with
      | true =>
        obtain ⟨k1, k2⟩ := hok1 hk
        refine Ev.step (f := fun k => (impl_SwapsOf.f k b x).bind fun t595 => ((laws_sameLists.f k t595 sw).bind fun t598 => (laws_FnWirings.j2 k n w false [] [] (!t598)))) (fun k => by simp only [laws_FnWirings.j1, Bool.false_eq_true, if_false, if_true]) ?_
        refine Ev.bind k1 (Ev.bind k2 ?_)
        exact hJ2
      | false => exact Ev.step (fun k => by simp only [laws_FnWirings.j1, Bool.false_eq_true, if_false]) hJ2
    have hJ0 : Ev (fun k => laws_FnWirings.j0 k n w false b sw x ok [] false [] false false) true := by
      refine Ev.step (fun k => by simp only [laws_FnWirings.j0]; rfl) ?_
      simp only [Bool.false_eq_true, if_false]
      refine Ev.bind hXI (Ev.bind hXP (Ev.bind hXS ?_))
      simp only [if_true, bne_self_eq_false, Bool.false_eq_true, if_false]
      exact hJ1
    unfold laws_FnWirings.f laws_big.f
    simp only [Option.bind_some, decide_eq_false hl, Bool.false_eq_true, if_false]
    refine Ev.bind hN (Ev.bind hI1 (Ev.bind hA (Ev.bind hB (Ev.bind hFI (Ev.bind hFS (Ev.bind hT (Ev.bind hPI (Ev.bind hPS (Ev.bind hTI (Ev.bind hTS (Ev.bind hGI (Ev.bind hGS (Ev.bind hS1 ?_)))))))))))))
    simp only [bne_self_eq_false, Bool.false_eq_true, if_false]
    refine Ev.bind hWI (Ev.bind hWS (Ev.bind hE1 ?_))
    simp only [bne_self_eq_false, Bool.false_eq_true, if_false, if_true]
    refine Ev.bind hE2 ?_
    simp only [bne_self_eq_false, Bool.false_eq_true, if_false, if_true]
    refine Ev.bind hE3 ?_
    simp only [bne_self_eq_false, Bool.false_eq_true, if_false, if_true]
    refine Ev.bind hE4 ?_
    simp only [bne_self_eq_false, Bool.false_eq_true, if_false, if_true]
    refine Ev.bind hE4 ?_
    simp only [bne_self_eq_false, Bool.false_eq_true, if_false, if_true]
    refine Ev.bind hRI (Ev.bind hRS (Ev.bind hE7 ?_))
    exact hJ0

end Go.Proofs.YtmidcafamppkeaaDoor.Pure
