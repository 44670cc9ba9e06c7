/- What the four draws of wirings give; a wiring's text is read back; turned round twice it is the same. Conditions: at most 2^20 bytes of code. -/
import Derived.Test.YtmidcafamppkeaaDoorCDraw
import Derived.Test.YtmidcafamppkeaaDoorCWops
import Derived.Test.YtmidcafamppkeaaDoorCPars
import Derived.Test.YtmidcafamppkeaaDoorP35
import Derived.Test.YtmidcafamppkeaaDoorP10
import Derived.Test.YtmidcafamppkeaaDoorP15
import Derived.Test.YtmidcafamppkeaaDoorP51
namespace Go.Proofs.YtmidcafamppkeaaDoor.P
open Go.RowKit Go.Proofs.YtmidcafamppkeaaDoorW.PrintWords Go.Proofs.YtmidcafamppkeaaDoorW.PrintLast
set_option linter.unusedVariables false
set_option linter.unusedSimpArgs false

theorem d_isW (b : List Int) (hb : b.length ≤ 1048576) : ∃ n w, Ev (fun k => spec_DrawIsWiring.f k b) (n, w) ∧ w.length ≤ 15 := by
  unfold spec_DrawIsWiring.f
  obtain ⟨s, h⟩ := d_new b hb
  obtain ⟨n, w, i', s', h1, i0, hw⟩ := d_bent b 0 s hb (by omega)
  exact ⟨n, w, Ev.bind h (Ev.bind h1 (Ev.now _)), hw⟩
theorem d_after (b : List Int) (hb : b.length ≤ 1048576) : ∃ n w i, Ev (fun k => spec_DrawWiresAfter.f k b) (n, w, i) ∧ w.length ≤ 15 := by
  unfold spec_DrawWiresAfter.f spec_l1Once.f spec_l1Bit.f
  obtain ⟨s, h⟩ := d_new b hb
  obtain ⟨n, w, i1, s1, h1, i10, hw⟩ := d_bent b 0 s hb (by omega)
  obtain ⟨v, i2, s2, e2, i20, v0, v1⟩ := d_below b i1 s1 (wrap64 ((w.length : Int) + 2)) hb i10
  obtain ⟨u, i3, s3, e3, i30, u0, u1⟩ := d_below b i2 s2 14 hb i20
  by_cases c : (u == 0) = true
  · refine ⟨n, w, wrap64 (v - 1), Ev.bind h (Ev.bind h1 ?_), hw⟩
    simp only [e2, e3, Option.bind_some, if_pos c]
    exact Ev.now _
  · refine ⟨n, w, wrap64 (v - 0), Ev.bind h (Ev.bind h1 ?_), hw⟩
    simp only [e2, e3, Option.bind_some, if_neg c]
    exact Ev.now _
theorem d_wfrom (b : List Int) (hb : b.length ≤ 1048576) : ∃ n rows, Ev (fun k => spec_DrawWiringFrom.f k b) (n, rows) ∧ rows.length ≤ 15 := by
  unfold spec_DrawWiringFrom.f
  obtain ⟨s, h⟩ := d_new b hb
  obtain ⟨n, w, i1, s1, h1, i10, hw⟩ := d_draw b 0 s hb (by omega)
  have hl := c_isW_len hw
  have hs := cS_swaps n w (by omega) hw
  have hrl : (cSwaps (cStart n.toNat) w).length = w.length := cSwaps_length _ _
  generalize cSwaps (cStart n.toNat) w = rows at hs hrl
  obtain ⟨v, i2, s2, e2, i20, v0, v1⟩ := d_below b i1 s1 6 hb i10
  by_cases c0 : v = 0
  · obtain ⟨u, i3, s3, e3, i30, u0, u1⟩ := d_below b i2 s2 (rows.length : Int) hb i20
    obtain ⟨x, i4, s4, e4, i40, x0, x1⟩ := d_below b i3 s3 n hb i30
    obtain ⟨y, i5, s5, e5, i50, y0, y1⟩ := d_below b i4 s4 n hb i40
    refine ⟨n, rows.set u.toNat [x, y], Ev.bind h (Ev.bind h1 (Ev.bind hs ?_)), by rw [List.length_set]; omega⟩
    simp only [e2, Option.bind_some, if_pos c0, e3, e4, e5, if_pos u0, if_pos (u1 (by omega))]
    exact Ev.now _
  by_cases c1 : v = 1
  · obtain ⟨u, i3, s3, e3, i30, u0, u1⟩ := d_below b i2 s2 (wrap64 ((rows.length : Int) - 1)) hb i20
    rw [c_wid ((rows.length : Int) - 1) (by omega) (by omega)] at u1 e3
    have u2 := u1 (by omega)
    have e6 : wrap64 (u + 1) = u + 1 := c_wid _ (by omega) (by omega)
    refine ⟨n, (rows.set u.toNat (rd_L2 rows (u + 1))).set (u + 1).toNat (rd_L2 rows u), Ev.bind h (Ev.bind h1 (Ev.bind hs ?_)), by rw [List.length_set, List.length_set]; omega⟩
    have g1 : u < (rows.length : Int) := by omega
    have g2 : 0 ≤ u + 1 := by omega
    have g3 : u + 1 < (rows.length : Int) := by omega
    have e7 : wrap64 ((rows.length : Int) - 1) = (rows.length : Int) - 1 := c_wid _ (by omega) (by omega)
    simp only [e2, Option.bind_some, if_neg c0, if_pos c1, e7, e3, e6, if_pos u0, if_pos g1, if_pos g2, if_pos g3]
    exact Ev.now _
  · refine ⟨n, rows, Ev.bind h (Ev.bind h1 (Ev.bind hs ?_)), by omega⟩
    simp only [e2, Option.bind_some, if_neg c0, if_neg c1]
    exact Ev.now _
/-! ### the text -/
theorem t_data : ∀ (w : List Int) (t : ByteArray), (cText t w).data.toList = t.data.toList ++ w.map (fun x => UInt8.ofNat (48 + x.toNat))
  | [], t => by simp [cText]
  | x :: w, t => by
    rw [cText, t_data w, ByteArray.data_append, Array.toList_append, List.append_assoc]
    rfl
theorem t_mk (s : ByteArray) (L : List UInt8) (h : s.data.toList = L) : s = ⟨⟨L⟩⟩ := by
  subst h
  rfl
theorem t_text (n : Int) (w : List Int) : cText (cDig n ++ (⟨#[58]⟩ : ByteArray)) w = ⟨⟨UInt8.ofNat (48 + n.toNat) :: 58 :: w.map (fun x => UInt8.ofNat (48 + x.toNat))⟩⟩ := by
  refine t_mk _ _ ?_
  rw [t_data, ByteArray.data_append, Array.toList_append]
  rfl
theorem t_size (L : List UInt8) : (⟨⟨L⟩⟩ : ByteArray).size = L.length := rfl
theorem t_bt (L : List UInt8) (i : Nat) (h : i < L.length) : bt ⟨⟨L⟩⟩ (i : Int) = ((L.getD i 0).toNat : Int) := by
  unfold bt
  rw [dif_pos (show ((i : Int)).toNat < (⟨⟨L⟩⟩ : ByteArray).size from h)]
  rw [List.getD_eq_getElem?_getD, List.getElem?_eq_getElem h]
  rfl
theorem t_cut (L : List UInt8) (a b : Nat) : (⟨⟨L⟩⟩ : ByteArray).extract a b = ⟨⟨(L.drop a).take (b - a)⟩⟩ := by
  refine t_mk _ _ ?_
  rw [ByteArray.data_extract]
  simp
theorem t_sp (L : List UInt8) (hp : ∀ i, 2 ≤ i → i < L.length → bt ⟨⟨L⟩⟩ (i : Int) ≠ 58) (acc : List ByteArray) : ∀ (d i : Nat), 2 ≤ i → i + d = L.length → cSp ⟨⟨L⟩⟩ 58 (d + 1) acc 2 i = acc ++ [(⟨⟨L⟩⟩ : ByteArray).extract 2 L.length]
  | 0, i, h2, hi => by
    simp only [cSp]
    rw [if_pos (Or.inl (by rw [t_size]; omega)), show i = L.length by omega]
  | d + 1, i, h2, hi => by
    rw [cSp, if_neg (by rw [t_size]; rintro (hh | hh); exact absurd hh (by omega); exact hp i h2 (by omega) hh)]
    exact t_sp L hp acc d (i + 1) (by omega) (by omega)
theorem t_dig (x : Int) (h0 : 0 ≤ x) (h1 : x < 10) : ((UInt8.ofNat (48 + x.toNat)).toNat : Int) = 48 + x := by
  rw [UInt8.toNat_ofNat']
  omega
theorem t_ds (w : List Int) (hp : ∀ p ∈ w, 0 ≤ p ∧ p < 10) : ∀ (d i : Nat), i + d = w.length → cDs ⟨⟨w.map (fun x => UInt8.ofNat (48 + x.toNat))⟩⟩ d i = w.drop i
  | 0, i, hi => by rw [List.drop_eq_nil_of_le (by omega)]; rfl
  | d + 1, i, hi => by
    rw [cDs, t_bt _ i (by rw [List.length_map]; omega), t_ds w hp d (i + 1) (by omega), c_drop w i (by omega)]
    have hm : w.getD i 0 ∈ w := by rw [List.getD_eq_getElem?_getD, List.getElem?_eq_getElem (by omega)]; exact List.getElem_mem _
    have e : (w.map (fun x => UInt8.ofNat (48 + x.toNat))).getD i 0 = UInt8.ofNat (48 + (w.getD i 0).toNat) := by
      rw [List.getD_eq_getElem?_getD, List.getD_eq_getElem?_getD, List.getElem?_map, List.getElem?_eq_getElem (by omega)]; rfl
    rw [e, t_dig _ (hp _ hm).1 (hp _ hm).2]
    congr 1; omega
/-- A wiring's text is read back. -/
theorem t_back {n : Int} {w : List Int} (h : cIsW n w = true) : cPw (cPs (cx_WiringText n w)) (wholeOf (rdOf ByteArray.empty (cPs (cx_WiringText n w)) 0) 0 999999) = (n, w, true) := by
  obtain ⟨h3, h6, hl, hr⟩ := c_isW_spec h
  have hp : ∀ p ∈ w, 0 ≤ p ∧ p < 10 := fun p hp => by have := c_isW_places h p hp; omega
  have e1 : cPs (cx_WiringText n w) = [cDg n, (⟨⟨w.map (fun x => UInt8.ofNat (48 + x.toNat))⟩⟩ : ByteArray)] := by
    unfold cx_WiringText
    rw [if_pos h, t_text]
    unfold cPs
    have hL : (UInt8.ofNat (48 + n.toNat) :: 58 :: w.map (fun x => UInt8.ofNat (48 + x.toNat))).length = w.length + 2 := by simp
    have b0 := t_bt (UInt8.ofNat (48 + n.toNat) :: 58 :: w.map (fun x => UInt8.ofNat (48 + x.toNat))) 0 (by omega)
    have b1 := t_bt (UInt8.ofNat (48 + n.toNat) :: 58 :: w.map (fun x => UInt8.ofNat (48 + x.toNat))) 1 (by omega)
    have e0 : ((UInt8.ofNat (48 + n.toNat) :: 58 :: w.map (fun x => UInt8.ofNat (48 + x.toNat))).getD 0 0) = UInt8.ofNat (48 + n.toNat) := rfl
    have e1' : ((UInt8.ofNat (48 + n.toNat) :: 58 :: w.map (fun x => UInt8.ofNat (48 + x.toNat))).getD 1 0) = 58 := rfl
    rw [e0, t_dig n (by omega) (by omega)] at b0
    rw [e1', show (((58 : UInt8).toNat : Nat) : Int) = 58 from rfl] at b1
    have hq : ∀ i, 2 ≤ i → i < (UInt8.ofNat (48 + n.toNat) :: 58 :: w.map (fun x => UInt8.ofNat (48 + x.toNat))).length → bt ⟨⟨UInt8.ofNat (48 + n.toNat) :: 58 :: w.map (fun x => UInt8.ofNat (48 + x.toNat))⟩⟩ (i : Int) ≠ 58 := by
      intro i h2 hi
      rw [t_bt _ i hi]
      obtain ⟨j, rfl⟩ : ∃ j, i = j + 2 := ⟨i - 2, by omega⟩
      have hj : j < w.length := by omega
      have e : (UInt8.ofNat (48 + n.toNat) :: 58 :: w.map (fun x => UInt8.ofNat (48 + x.toNat))).getD (j + 2) 0 = UInt8.ofNat (48 + (w.getD j 0).toNat) := by
        rw [List.getD_cons_succ, List.getD_cons_succ, List.getD_eq_getElem?_getD, List.getD_eq_getElem?_getD, List.getElem?_map, List.getElem?_eq_getElem hj]; rfl
      have hm : w.getD j 0 ∈ w := by rw [List.getD_eq_getElem?_getD, List.getElem?_eq_getElem hj]; exact List.getElem_mem _
      have hpl := c_isW_places h _ hm
      rw [e, t_dig _ (hp _ hm).1 (hp _ hm).2]
      omega
    generalize hLL : (UInt8.ofNat (48 + n.toNat) :: 58 :: w.map (fun x => UInt8.ofNat (48 + x.toNat))) = L at hL b0 b1 hq ⊢
    rw [t_size, hL]
    rw [show w.length + 2 + 1 = (w.length + 1) + 1 + 1 by omega, cSp, if_neg (by rw [t_size, hL]; rintro (hh | hh); exact absurd hh (by omega); have hh2 : bt ⟨⟨L⟩⟩ ((0 : Nat) : Int) = 58 := hh; rw [b0] at hh2; omega)]
    rw [cSp, if_pos (Or.inr b1), t_sp L hq _ w.length 2 (by omega) (by omega), t_cut, t_cut, ← hLL]
    simp only [List.nil_append, List.cons_append]
    congr 1
    simp [List.take_of_length_le]
  rw [e1]
  have e2 : rdOf ByteArray.empty [cDg n, (⟨⟨w.map (fun x => UInt8.ofNat (48 + x.toNat))⟩⟩ : ByteArray)] 0 = cDg n := rfl
  have e3 : rdOf ByteArray.empty [cDg n, (⟨⟨w.map (fun x => UInt8.ofNat (48 + x.toNat))⟩⟩ : ByteArray)] 1 = ⟨⟨w.map (fun x => UInt8.ofNat (48 + x.toNat))⟩⟩ := rfl
  obtain ⟨N, rfl⟩ : ∃ N : Nat, n = (N : Int) := ⟨n.toNat, by omega⟩
  rw [e2, whole_dig N (by omega) (by omega)]
  unfold cPw
  rw [e3, t_size, List.length_map, t_ds w hp w.length 0 (by omega), List.drop_zero, if_pos ⟨rfl, rfl, h⟩]
theorem t_none (r : Int × Bool) : cPw (cPs ⟨#[]⟩) r = (0, [], false) := by
  have : (cPs ⟨#[]⟩).length = 1 := rfl
  unfold cPw
  rw [this, if_neg (by rintro ⟨h, _⟩; revert h; decide)]
theorem t_len {n : Int} {w : List Int} : (cx_WiringText n w).size ≤ w.length + 2 := by
  unfold cx_WiringText
  split
  · rw [t_text, t_size]; simp
  · exact Nat.zero_le _
theorem d_parse (b : List Int) (hb : b.length ≤ 1048576) : ∃ t, Ev (fun k => spec_DrawParseWiring.f k b) t ∧ t.size ≤ 1048576 := by
  unfold spec_DrawParseWiring.f spec_l1Turned.f
  obtain ⟨s, h⟩ := d_new b hb
  obtain ⟨n, w, i1, s1, h1, i10, hw⟩ := d_draw b 0 s hb (by omega)
  have hl := c_isW_len hw
  have ht := cS_WiringText n w (by omega)
  have hz := t_len (n := n) (w := w)
  generalize cx_WiringText n w = t at ht hz
  obtain ⟨v, i2, s2, e2, i20, v0, v1⟩ := d_below b i1 s1 (wrap64 ((t.size : Int) + 1)) hb i10
  have ez : wrap64 ((t.size : Int) + 1) = (t.size : Int) + 1 := c_wid _ (by omega) (by omega)
  rw [ez] at e2 v1
  have v2 : v ≤ (t.size : Int) := by have := v1 (by omega); omega
  obtain ⟨u, i3, s3, e3, i30, u0, u1⟩ := d_below b i2 s2 6 hb i20
  have hx1 : (t.extract 0 v.toNat).size ≤ t.size := by rw [ByteArray.size_extract]; omega
  have hx2 : (t.extract v.toNat t.size).size ≤ t.size := by rw [ByteArray.size_extract]; omega
  by_cases c0 : u = 0
  · obtain ⟨y, i4, s4, e4, i40, y0, y1⟩ := d_below b i3 s3 ((([(⟨#[58]⟩ : ByteArray), (⟨#[48]⟩ : ByteArray), (⟨#[49]⟩ : ByteArray), (⟨#[51]⟩ : ByteArray), (⟨#[45]⟩ : ByteArray)] : List ByteArray)).length : Int) hb i30
    have y2 := y1 (by decide)
    have hr : ∀ q ∈ List.range 5, (rdOf ByteArray.empty ([(⟨#[58]⟩ : ByteArray), (⟨#[48]⟩ : ByteArray), (⟨#[49]⟩ : ByteArray), (⟨#[51]⟩ : ByteArray), (⟨#[45]⟩ : ByteArray)] : List ByteArray) ((q : Nat) : Int)).size = 1 := by decide +kernel
    have hs := hr y.toNat (List.mem_range.mpr (by simp at y2; omega))
    rw [Int.toNat_of_nonneg y0] at hs
    have hp : spec_l1Pick.f b i3 s3 ([(⟨#[58]⟩ : ByteArray), (⟨#[48]⟩ : ByteArray), (⟨#[49]⟩ : ByteArray), (⟨#[51]⟩ : ByteArray), (⟨#[45]⟩ : ByteArray)] : List ByteArray) = some (rdOf ByteArray.empty ([(⟨#[58]⟩ : ByteArray), (⟨#[48]⟩ : ByteArray), (⟨#[49]⟩ : ByteArray), (⟨#[51]⟩ : ByteArray), (⟨#[45]⟩ : ByteArray)] : List ByteArray) y, i4, s4) := by
      unfold spec_l1Pick.f
      rw [e4]; simp only [Option.bind_some]; rw [if_pos y0, if_pos y2]
    generalize rdOf ByteArray.empty ([(⟨#[58]⟩ : ByteArray), (⟨#[48]⟩ : ByteArray), (⟨#[49]⟩ : ByteArray), (⟨#[51]⟩ : ByteArray), (⟨#[45]⟩ : ByteArray)] : List ByteArray) y = c at hs hp
    have g1 : (t.extract 0 v.toNat).size + c.size ≤ 9223372036854775807 := by omega
    have g2 : ((t.extract 0 v.toNat) ++ c).size + (t.extract v.toNat t.size).size ≤ 9223372036854775807 := by rw [ByteArray.size_append]; omega
    refine ⟨((t.extract 0 v.toNat) ++ c) ++ (t.extract v.toNat t.size), Ev.bind h (Ev.bind h1 (Ev.bind ht ?_)), by rw [ByteArray.size_append, ByteArray.size_append]; omega⟩
    simp only [ez, e2, Option.bind_some, e3, if_pos c0, if_pos v0, if_pos v2, hp, if_pos g1, if_pos g2]
    exact Ev.now _
  by_cases c1 : u = 1
  · refine ⟨t.extract 0 v.toNat, Ev.bind h (Ev.bind h1 (Ev.bind ht ?_)), by omega⟩
    simp only [ez, e2, Option.bind_some, e3, if_neg c0, if_pos c1, if_pos v0, if_pos v2]
    exact Ev.now _
  · refine ⟨t, Ev.bind h (Ev.bind h1 (Ev.bind ht ?_)), by omega⟩
    simp only [ez, e2, Option.bind_some, e3, if_neg c0, if_neg c1]
    exact Ev.now _
/-! ### the same lists -/
theorem s_same_l (l : List Int) (hl : l.length ≤ 1099511627776) : ∀ (d i : Nat), i + d = l.length → Ev (fun k => laws_sameInts.l0 k l l (i : Int)) true := by
  intro d
  induction d with
  | zero =>
    intro i hi
    refine Ev.step (f := fun _ => some true) (fun k => ?_) (Ev.now _)
    simp only [laws_sameInts.l0]; rw [if_neg (by omega)]
  | succ d ih =>
    intro i hi
    refine Ev.step (fun k => ?_) (ih (i + 1) (by omega))
    simp only [laws_sameInts.l0]
    rw [if_pos (by omega), if_pos (by omega), if_pos (by omega), if_pos trivial, c_w1 i (by omega)]
theorem s_same (l : List Int) (hl : l.length ≤ 1099511627776) : Ev (fun k => laws_sameInts.f k l l) true := by
  refine Ev.congr (fun k => ?_) (s_same_l l hl l.length 0 (by omega))
  unfold laws_sameInts.f
  rw [if_pos rfl]; rfl
theorem s_lists_l (l : List (List Int)) (hl : l.length ≤ 1099511627776) (hr : ∀ r ∈ l, r.length ≤ 1099511627776) : ∀ (d i : Nat), i + d = l.length → Ev (fun k => laws_sameLists.l0 k l l (i : Int)) true := by
  intro d
  induction d with
  | zero =>
    intro i hi
    refine Ev.step (f := fun _ => some true) (fun k => ?_) (Ev.now _)
    simp only [laws_sameLists.l0]; rw [if_neg (by omega)]
  | succ d ih =>
    intro i hi
    have hlt : i < l.length := by omega
    have hrd : rd_L2 l (i : Int) = l[i] := by simp [rd_L2, List.getD_eq_getElem?_getD, hlt]
    refine Ev.step (f := fun k => (laws_sameInts.f k (rd_L2 l (i : Int)) (rd_L2 l (i : Int))).bind fun t => if t = true then laws_sameLists.l0 k l l ((i + 1 : Nat) : Int) else some false) (fun k => ?_) (Ev.bind (s_same (rd_L2 l (i : Int)) (by rw [hrd]; exact hr _ (List.getElem_mem _))) ?_)
    · simp only [laws_sameLists.l0]
      rw [if_pos (by omega), if_pos (by omega), if_pos (by omega), c_w1 i (by omega)]
    · simp only [if_true]
      exact ih (i + 1) (by omega)
theorem s_lists (l : List (List Int)) (hl : l.length ≤ 1099511627776) (hr : ∀ r ∈ l, r.length ≤ 1099511627776) : Ev (fun k => laws_sameLists.f k l l) true := by
  refine Ev.congr (fun k => ?_) (s_lists_l l hl hr l.length 0 (by omega))
  unfold laws_sameLists.f
  rw [if_pos rfl]; rfl
theorem cS_SO (n : Int) (w : List Int) (hl : w.length ≤ 1048576) : Ev (fun k => spec_SwapsOf.f k n w) (if cIsW n w = true then cSwaps (cStart n.toNat) w else []) := by
  unfold spec_SwapsOf.f
  refine Ev.bind (c_isWiring n w (by omega)) ?_
  by_cases h : cIsW n w = true
  · simp only [h, if_true]
    exact Ev.bind (cS_swaps n w hl h) (Ev.now _)
  · simp only [if_neg h]; exact Ev.now _
/-! ### turned round twice -/
theorem f_list {n : Int} (h3 : 3 ≤ n) (h6 : n ≤ 6) (w : List Int) (hp : ∀ p ∈ w, 0 ≤ p ∧ p ≤ n - 2) : ∀ j, j ≤ w.length → cx_FlipList n w j = ((w.take j).map fun p => n - 2 - p).reverse
  | 0, _ => rfl
  | j + 1, hj => by
    have hm : w.getD j 0 ∈ w := by rw [List.getD_eq_getElem?_getD, List.getElem?_eq_getElem (by omega)]; exact List.getElem_mem _
    have := hp _ hm
    rw [cx_FlipList, f_list h3 h6 w hp j (by omega), c_take_succ w j (by omega), List.map_append, List.reverse_append, c_wid (n - 2) (by omega) (by omega), c_wid _ (by omega) (by omega)]
    rfl
theorem f_flip {n : Int} {w : List Int} (h : cIsW n w = true) : cx_FlipList n w w.length = (w.map fun p => n - 2 - p).reverse := by
  obtain ⟨h3, h6, _, _⟩ := c_isW_spec h
  rw [f_list h3 h6 w (c_isW_places h) w.length (Nat.le_refl _), List.take_length]
theorem f_twice {n : Int} {w : List Int} (h : cIsW n w = true) : cx_FlipWiring n (cx_FlipList n w w.length) = (w, true) := by
  have hg : cIsW n (cx_FlipList n w w.length) = true := by rw [f_flip h]; exact v_flip h
  unfold cx_FlipWiring
  rw [if_pos hg, f_flip hg, f_flip h, List.map_reverse, List.reverse_reverse, List.map_map]
  have : (w.map ((fun p => n - 2 - p) ∘ fun p => n - 2 - p)) = w := by
    conv => rhs; rw [← List.map_id w]
    refine List.map_congr_left (fun p _ => ?_)
    simp only [Function.comp, id]; omega
  rw [this]
theorem f_turn {n : Int} {w : List Int} (h : cIsW n w = true) : cIsW n (w.drop 1 ++ [wrap64 ((wrap64 (n - 2)) - (w.getD 0 0))]) = true := by
  obtain ⟨h3, h6, _, _⟩ := c_isW_spec h
  have hl := c_isW_len h
  match w, hl with
  | p :: w, _ =>
    have := c_isW_places h p List.mem_cons_self
    have e : (p :: w).getD 0 0 = p := rfl
    rw [e, c_wid (n - 2) (by omega) (by omega), c_wid (n - 2 - p) (by omega) (by omega)]
    exact v_moved h

end Go.Proofs.YtmidcafamppkeaaDoor.P
