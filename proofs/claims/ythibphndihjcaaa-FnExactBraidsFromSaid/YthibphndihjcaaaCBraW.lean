/- BraidsFrom: the reference and the program tell the same. Conditions: the list has at most 2^20 places. -/
import Derived.Test.YthibphndihjcaaaCBack2
import Derived.Test.YthibphndihjcaaaCSow
import Derived.Test.YthibphndihjcaaaP73
import Derived.Test.YthibphndihjcaaaCCmp
import Derived.Test.YthibphndihjcaaaOBra
import Derived.Test.YthibphndihjcaaaOBraS
namespace Go.Proofs.Ythibphndihjcaaa.P
open Go.RowKit Go.Proofs.YthibphndihjcaaaW.PrintWords Go.Proofs.YthibphndihjcaaaW.PrintLast
set_option linter.unusedVariables false
set_option linter.unusedSimpArgs false

/-- The text with sign k exchanged. -/
def cXc (s : ByteArray) (k : Nat) : UInt8 := if bt s (k : Int) = 43 then 45 else 43
def cX (s : ByteArray) (k : Nat) : ByteArray := (s.extract 0 k ++ (⟨#[cXc s k]⟩ : ByteArray)) ++ s.extract (k + 1) s.size
theorem c_exch (n : Int) (s : ByteArray) (k : Nat) (hk : k < s.size) (hs : s.size ≤ 1000) : spec_l14Exchange.f n s (k : Int) = some (n, cX s k) := by
  have hw : wrap64 ((k : Int) + 1) = ((k + 1 : Nat) : Int) := c_w1 k (by omega)
  have e1 : (s.extract 0 k).size + 1 ≤ 9223372036854775807 := by rw [ByteArray.size_extract]; omega
  have e2 : ∀ c : UInt8, ((s.extract 0 k) ++ (⟨#[c]⟩ : ByteArray)).size + (s.extract (k + 1) s.size).size ≤ 9223372036854775807 := by
    intro c
    have : (⟨#[c]⟩ : ByteArray).size = 1 := rfl
    rw [ByteArray.size_append, ByteArray.size_extract, ByteArray.size_extract, this]; omega
  unfold spec_l14Exchange.f cX cXc
  rw [if_pos (by omega), if_pos (by omega), hw, Int.toNat_natCast, Int.toNat_natCast]
  by_cases h : bt s (k : Int) = 43
  · rw [if_pos h, if_pos (by omega), if_pos e1, if_pos (by omega), if_pos (by omega), if_pos (e2 45), if_pos h]
  · rw [if_neg h, if_pos (by omega), if_pos e1, if_pos (by omega), if_pos (by omega), if_pos (e2 43), if_neg h]
theorem bt_list (s : ByteArray) (m : Nat) : bt s (m : Int) = ((s.data.toList.getD m 0).toNat : Int) := by
  unfold bt
  rw [Int.toNat_natCast]
  by_cases h : m < s.size
  · rw [dif_pos h, ByteArray.getElem_eq_getElem_data, List.getD_eq_getElem?_getD, Array.getElem?_toList, Array.getElem?_eq_getElem (show m < s.data.size from h)]; rfl
  · rw [dif_neg h, List.getD_eq_getElem?_getD, List.getElem?_eq_none (by rw [Array.length_toList]; exact Nat.le_of_not_lt h)]; rfl
theorem cX_data (s : ByteArray) (k : Nat) (hk : k < s.size) : (cX s k).data.toList = s.data.toList.set k (cXc s k) := by
  unfold cX
  rw [ByteArray.data_append, ByteArray.data_append, ByteArray.data_extract, ByteArray.data_extract]
  have hsz : s.size = s.data.toList.length := rfl
  rw [Array.toList_append, Array.toList_append, Array.toList_extract, Array.toList_extract, hsz]
  generalize s.data.toList = l at hsz ⊢
  generalize cXc s k = c
  have hk2 : k < l.length := by omega
  rw [List.set_eq_take_append_cons_drop, if_pos hk2]
  simp [List.extract_eq_take_drop, List.take_of_length_le]
theorem cX_size (s : ByteArray) (k : Nat) (hk : k < s.size) : (cX s k).size = s.size := by
  have h : (cX s k).size = (cX s k).data.toList.length := rfl
  rw [h, cX_data s k hk, List.length_set]; rfl
theorem cX_bt (s : ByteArray) (k m : Nat) (hk : k < s.size) : bt (cX s k) (m : Int) = if m = k then (if bt s (k : Int) = 43 then 45 else 43) else bt s (m : Int) := by
  rw [bt_list, cX_data s k hk, List.getD_eq_getElem?_getD, List.getElem?_set]
  by_cases h : k = m
  · subst h
    rw [if_pos rfl, if_pos rfl, if_pos (show k < s.data.toList.length from hk)]
    unfold cXc
    by_cases h2 : bt s (k : Int) = 43
    · rw [if_pos h2, if_pos h2]; rfl
    · rw [if_neg h2, if_neg h2]; rfl
  · rw [if_neg h, if_neg (Ne.symm h), bt_list, List.getD_eq_getElem?_getD]
/-- Nothing but the two letters. -/
def cPM (s : ByteArray) : Prop := ∀ m, m < s.size → bt s (m : Int) = 43 ∨ bt s (m : Int) = 45
theorem cX_pm (s : ByteArray) (k : Nat) (hk : k < s.size) (h : cPM s) : cPM (cX s k) := by
  intro m hm
  rw [cX_size s k hk] at hm
  rw [cX_bt s k m hk]
  by_cases e : m = k
  · rw [if_pos e]; split
    · exact .inr rfl
    · exact .inl rfl
  · rw [if_neg e]; exact h m hm
theorem cChs_pm (s : ByteArray) (h : cPM s) : ∀ (d m : Nat), m + d ≤ s.size → cChs s m d = true := by
  intro d m hm
  unfold cChs
  refine List.all_eq_true.mpr (fun j hj => ?_)
  obtain ⟨i, hi, rfl⟩ := List.mem_range'.mp hj
  exact decide_eq_true (h _ (by omega))
theorem cSigns_pm (m : Nat) (h3 : 3 ≤ m) (h7 : m ≤ 7) (s : ByteArray) (hs : s.size = (cTrips m).length) (h : cPM s) : cSigns (m : Int) s = true := by
  unfold cSigns
  rw [cChs_pm s h s.size 0 (by omega), Bool.and_true]
  exact decide_eq_true ⟨⟨by omega, by omega⟩, by rw [Int.toNat_natCast]; exact hs⟩
theorem cTx_pm (n : Nat) (f : Nat × Nat × Nat → Bool) : cPM (cTx n f) := by
  intro m hm
  rw [cTx_size] at hm
  rw [cTx_bt n f m hm]
  split
  · exact .inl rfl
  · exact .inr rfl
theorem cX_sg (s : ByteArray) (k m : Nat) (hk : k < s.size) (h : cPM s) (neg : Bool) : cSg (cX s k) m neg = if m = k then -cSg s m neg else cSg s m neg := by
  unfold cSg
  rw [cX_bt s k m hk]
  by_cases e : m = k
  · subst e
    rw [if_pos rfl, if_pos rfl]
    rcases h m hk with h1 | h1 <;> cases neg <;> simp [h1]
  · rw [if_neg e, if_neg e]
/-! ### the table of the exchanged text -/
theorem c_lk_acc (q : Nat) (acc : Option (Nat × Bool)) (pm : (Nat × Nat × Nat) × Nat) : cLk q acc pm = (cLk q none pm).or acc := by
  unfold cLk
  split
  · rfl
  · split
    · rfl
    · rfl
theorem c_lk_fold (q : Nat) : ∀ (ps : List ((Nat × Nat × Nat) × Nat)) (acc : Option (Nat × Bool)), ps.foldl (cLk q) acc = ((ps.filterMap (cLk q none)).getLast?).or acc
  | [], acc => rfl
  | p :: ps, acc => by
    rw [List.foldl_cons, c_lk_fold q ps, c_lk_acc, List.filterMap_cons]
    cases h : cLk q none p with
    | none => rfl
    | some x =>
      show (ps.filterMap (cLk q none)).getLast?.or (some x) = ((x :: ps.filterMap (cLk q none)).getLast?).or acc
      cases h2 : ps.filterMap (cLk q none) with
      | nil => rfl
      | cons y l => rw [List.getLast?_cons_cons]; cases h3 : (y :: l).getLast? with
        | none => simp at h3
        | some z => rfl
theorem c_lk_one_all : ∀ n ∈ [3, 4, 5, 6], ∀ q ∈ List.range 344, ((cTrips n).zipIdx.filterMap (cLk q none)).length ≤ 1 := by decide +kernel
theorem c_lk_snd (q : Nat) (pm : (Nat × Nat × Nat) × Nat) (x : Nat × Bool) (h : cLk q none pm = some x) : x.1 = pm.2 := by
  unfold cLk at h
  split at h
  · rw [← Option.some.inj h]
  · split at h
    · rw [← Option.some.inj h]
    · cases h
theorem c_lk_hit (n : Nat) (hn : n ∈ [3, 4, 5, 6]) (q : Nat) (hq : q < 344) (k : Nat) (hk : k < (cTrips n).length) (x : Nat × Bool) (h : cLk q none ((cTrips n)[k], k) = some x) : (cTrips n).zipIdx.foldl (cLk q) none = some x := by
  rw [c_lk_fold]
  have h1 := c_lk_one_all n hn q (List.mem_range.mpr hq)
  have hm : x ∈ (cTrips n).zipIdx.filterMap (cLk q none) := List.mem_filterMap.mpr ⟨_, List.mem_of_getElem? (Kd.zip_at (List.getElem?_eq_getElem hk)), h⟩
  cases hL : (cTrips n).zipIdx.filterMap (cLk q none) with
  | nil => rw [hL] at hm; cases hm
  | cons y l =>
    rw [hL] at h1 hm
    cases l with
    | nil =>
      rw [List.mem_singleton] at hm
      rw [hm]; rfl
    | cons z l => simp at h1
theorem c_lk_miss (n : Nat) (q : Nat) (k : Nat) (hk : k < (cTrips n).length) (h : cLk q none ((cTrips n)[k], k) = none) (x : Nat × Bool) (hx : (cTrips n).zipIdx.foldl (cLk q) none = some x) : x.1 ≠ k := by
  rw [c_lk_fold, Option.or_none] at hx
  have hm := List.mem_of_getLast? hx
  obtain ⟨pm, hp, he⟩ := List.mem_filterMap.mp hm
  intro e
  have e2 := c_lk_snd q pm x he
  obtain ⟨j, hj⟩ := List.mem_iff_getElem?.mp hp
  rw [List.getElem?_zipIdx, Nat.zero_add] at hj
  obtain ⟨t, ht, rfl⟩ := Option.map_eq_some_iff.mp hj
  have e3 : j = k := e2.symm.trans e
  subst e3
  rw [List.getElem?_eq_getElem hk] at ht
  obtain rfl := Option.some.inj ht
  rw [h] at he; cases he
theorem c_six (n : Nat) (h3 : 3 ≤ n) (h6 : n ≤ 6) : n ∈ [3, 4, 5, 6] := by simp; omega
/-- The exchange in the table is the exchange in the text. -/
theorem c_bra_set (n : Nat) (h3 : 3 ≤ n) (h6 : n ≤ 6) (s : ByteArray) (hs : s.size = (cTrips n).length) (hp : cPM s) (k : Nat) (hk : k < (cTrips n).length) :
    impl_chi_set.f (cTab n s) ((cTrips n)[k].1 : Int) ((cTrips n)[k].2.1 : Int) ((cTrips n)[k].2.2 : Int) (wrap64 (-(rd (cTab n s) (cidx ((cTrips n)[k].1 : Int) ((cTrips n)[k].2.1 : Int) ((cTrips n)[k].2.2 : Int))))) = some (cTab n (cX s k)) := by
  have hks : k < s.size := by rw [hs]; exact hk
  obtain ⟨h35, hpp⟩ := c_trips_all n (c_five n h3 (by omega))
  have ht := hpp (cTrips n)[k] (List.getElem_mem hk)
  have hpos := c_pos_all n (c_five n h3 (by omega)) k (List.mem_range.mpr hk)
  rw [List.getD_eq_getElem?_getD, List.getElem?_eq_getElem hk] at hpos
  have hpos2 : cPos n (cTrips n)[k].1 (cTrips n)[k].2.1 (cTrips n)[k].2.2 = (k, false) := hpos
  have hat : cAt n s (cTrips n)[k].1 (cTrips n)[k].2.1 (cTrips n)[k].2.2 = cSg s k false := by unfold cAt; rw [hpos2]
  rw [c_tab_at n h3 (by omega) s _ _ _ ⟨by omega, by omega, by omega, by omega, by omega, by omega⟩, hat]
  have hv : wrap64 (-(cSg s k false)) = if bt (cX s k) (k : Int) = 45 then -1 else 1 := by
    have e := cX_sg s k k hks hp false
    rw [if_pos rfl] at e
    have e2 : cSg (cX s k) k false = if bt (cX s k) (k : Int) = 45 then -1 else 1 := by unfold cSg; rfl
    rw [← e, e2]
    split
    · exact c_w_m1
    · exact c_wid 1 (by decide) (by decide)
  rw [hv, c_set _ (c_tab_len n s) _ _ _ (by omega) (by omega) (by omega) _ (by split <;> simp)]
  congr 1
  have hst : cSet (cTab n s) (cTrips n)[k].1 (cTrips n)[k].2.1 (cTrips n)[k].2.2 (if bt (cX s k) (k : Int) = 45 then -1 else 1) = cStep (cX s k) (cTab n s) ((cTrips n)[k], k) := rfl
  rw [hst]
  have hl1 : (cStep (cX s k) (cTab n s) ((cTrips n)[k], k)).length = 344 := by rw [c_step_len, c_tab_len]
  refine List.ext_getElem (by rw [hl1, c_tab_len]) (fun q h1 h2 => ?_)
  have hq : q < 344 := by rw [hl1] at h1; exact h1
  have g1 := c_step_get (cX s k) (cTab n s) ((cTrips n)[k], k) q (by rw [c_tab_len]; exact hq)
  have g2 := c_fold_get (cX s k) q (cTrips n).zipIdx (chi0 (n : Int)) none ((chi0 (n : Int)).getD q 0) (by rw [c_chi0_len]; exact hq) rfl
  have g3 := c_fold_get s q (cTrips n).zipIdx (chi0 (n : Int)) none ((chi0 (n : Int)).getD q 0) (by rw [c_chi0_len]; exact hq) rfl
  have eD : ∀ (l : List Int) (h : q < l.length), l[q] = l.getD q 0 := fun l h => by rw [List.getD_eq_getElem?_getD, List.getElem?_eq_getElem h]; rfl
  rw [eD _ h1, eD _ h2, g1]
  have e2 : (cTab n (cX s k)).getD q 0 = ((cTrips n).zipIdx.foldl (cStep (cX s k)) (chi0 (n : Int))).getD q 0 := rfl
  have e3 : (cTab n s).getD q 0 = ((cTrips n).zipIdx.foldl (cStep s) (chi0 (n : Int))).getD q 0 := rfl
  rw [e2, g2]
  cases hL : cLk q none ((cTrips n)[k], k) with
  | some x =>
    rw [c_lk_hit n (c_six n h3 h6) q hq k hk x hL]
  | none =>
    rw [e3, g3]
    cases hF : (cTrips n).zipIdx.foldl (cLk q) none with
    | none => rfl
    | some x =>
      have hne := c_lk_miss n q k hk hL x hF
      obtain ⟨x1, x2⟩ := x
      show cSg s x1 x2 = cSg (cX s k) x1 x2
      rw [cX_sg s k x1 hks hp x2, if_neg hne]

end Go.Proofs.Ythibphndihjcaaa.P
namespace Go.Proofs.Ythibphndihjcaaa.P
open Go.RowKit Go.Proofs.YthibphndihjcaaaW.PrintWords Go.Proofs.YthibphndihjcaaaW.PrintLast
set_option linter.unusedVariables false
set_option linter.unusedSimpArgs false

/-- The wiring of the signs with sign k exchanged, if there is one. -/
def cRw (m : Nat) (s : ByteArray) (k : Nat) : Option (List Int) := wgRun (cTab m (cX s k)) m (m * (m - 1) / 2) (cStart m) (List.replicate 36 false) []
theorem cRw_len (m : Nat) (s : ByteArray) (k : Nat) (v : List Int) (h : cRw m s k = some v) : v.length = m * (m - 1) / 2 := by
  have := g_run_len _ _ _ _ _ _ _ h
  rw [this]; rfl
theorem cWos_rw (m : Nat) (h3 : 3 ≤ m) (h6 : m ≤ 6) (s : ByteArray) (hs : s.size = (cTrips m).length) (hp : cPM s) (k : Nat) (hk : k < s.size) : cWos (m : Int) (cX s k) = wgRes (cRw m s k) := by
  unfold cWos
  rw [if_pos (cSigns_pm m h3 (by omega) _ (by rw [cX_size s k hk]; exact hs) (cX_pm s k hk hp)), if_neg (by omega), Int.toNat_natCast]
  rfl
theorem put_pos (l : List (List Int)) (x : List Int) (hx : ∀ r ∈ l, r.length = x.length) (hxl : x.length < 1099511627776) : ∀ p : Nat, p ≤ l.length → Ev (fun k => spec_l14Put.l0 k l x (p : Int)) ((lpos l x p : Nat) : Int) := by
  intro p
  induction p with
  | zero =>
    intro _
    refine Ev.step (f := fun _ => some 0) (fun k => ?_) (Ev.now _)
    rw [spec_l14Put.l0, if_neg (by decide)]; rfl
  | succ p ih =>
    intro hp
    have e : ((p + 1 : Nat) : Int) - 1 = (p : Int) := by omega
    refine Ev.step (f := fun k => (spec_l14Less.f k x (l.getD p [])).bind fun b => if b = true then spec_l14Put.l0 k l x (p : Int) else some ((p + 1 : Nat) : Int)) (fun k => ?_) ?_
    · rw [spec_l14Put.l0, if_pos (by omega), e, if_pos (by omega), Int.toNat_natCast]
    · have hr : (l.getD p []).length = x.length := hx _ (by rw [lx_getD l p (by omega)]; exact List.getElem_mem _)
      refine Ev.bind (less_rows x (l.getD p []) hxl hr.symm) ?_
      unfold lpos
      cases h : lx x (l.getD p []) with
      | true => rw [if_pos rfl]; simp only [if_true]; exact ih (by omega)
      | false => rw [if_neg (by simp)]; simp only [Bool.false_eq_true, if_false]; exact Ev.now _
theorem put_ev (l : List (List Int)) (x : List Int) (hx : ∀ r ∈ l, r.length = x.length) (hxl : x.length < 1099511627776) (hl : l.length < 1000000) : Ev (fun k => spec_l14Put.f k l x) (lput l x) := by
  unfold spec_l14Put.f
  refine Ev.bind (put_pos l x hx hxl l.length (Nat.le_refl _)) ?_
  have hle := lpos_le l x l.length
  simp only [Int.toNat_natCast]
  rw [if_pos ⟨by omega, by omega, hl⟩]
  exact Ev.now _
theorem cS_bra (m : Nat) (h3 : 3 ≤ m) (h6 : m ≤ 6) (s : ByteArray) (hs : s.size = (cTrips m).length) (hp : cPM s) : ∀ (d i : Nat) (out : List (List Int)), i + d = s.size → (∀ r ∈ out, r.length = m * (m - 1) / 2) → out.length ≤ i →
    Ev (fun k => spec_BraidsFrom.l0 k (m : Int) s true out (i : Int)) (((List.range' i d).filterMap (cRw m s)).foldl lput out) := by
  have h35 := (c_trips_all m (c_five m h3 (by omega))).1
  have hM := (g_m_lt m h3 h6).1
  intro d
  induction d with
  | zero =>
    intro i out hi _ _
    refine Ev.step (f := fun _ => some out) (fun k => ?_) (Ev.now _)
    rw [spec_BraidsFrom.l0, if_neg (by omega)]
  | succ d ih =>
    intro i out hi hr hl
    have hk : i < s.size := by omega
    rw [List.range'_succ, List.filterMap_cons]
    refine Ev.step (f := fun k => (spec_WiringOfSigns.f k (m : Int) (cX s i)).bind fun q => if q.2 = true then ((spec_l14Put.f k out q.1).bind fun o => spec_BraidsFrom.l0 k (m : Int) s true o ((i + 1 : Nat) : Int)) else spec_BraidsFrom.l0 k (m : Int) s true out ((i + 1 : Nat) : Int)) (fun k => ?_) ?_
    · rw [spec_BraidsFrom.l0, if_pos (by omega), if_pos rfl, c_exch _ s i hk (by omega), Option.bind_some, c_w1 i (by omega)]
    · refine Ev.bind (cS_Wos (m : Int) (cX s i) (by rw [cX_size s i hk]; omega)) ?_
      rw [cWos_rw m h3 h6 s hs hp i hk]
      cases hq : cRw m s i with
      | none =>
        show Ev (fun k => if false = true then _ else spec_BraidsFrom.l0 k (m : Int) s true out ((i + 1 : Nat) : Int)) _
        simp only [Bool.false_eq_true, if_false]
        exact ih (i + 1) out (by omega) hr (by omega)
      | some v =>
        show Ev (fun k => if true = true then ((spec_l14Put.f k out v).bind fun o => spec_BraidsFrom.l0 k (m : Int) s true o ((i + 1 : Nat) : Int)) else _) (List.foldl lput out (v :: _))
        simp only [if_true]
        have hv := cRw_len m s i v hq
        rw [List.foldl_cons]
        refine Ev.bind (put_ev out v (fun r h => by rw [hr r h, hv]) (by omega) (by omega)) ?_
        have hpm := lput_perm out v
        refine ih (i + 1) (lput out v) (by omega) (fun r h => ?_) (by rw [hpm.length_eq, List.length_cons]; omega)
        rcases List.mem_cons.mp (hpm.mem_iff.mp h) with e | e
        · rw [e]; exact hv
        · exact hr r e
theorem cI_bra (m : Nat) (h3 : 3 ≤ m) (h6 : m ≤ 6) (s : ByteArray) (hs : s.size = (cTrips m).length) (hp : cPM s) : ∀ (d i : Nat) (out : List (List Int)), i + d = (cTrips m).length → out.length ≤ i →
    Ev (fun k => impl_chi_braids.l0 k (cTab m s) m (cStart m) (m * (m - 1) / 2) ((cTrips m).map cT3) out (i : Int)) (out ++ (List.range' i d).filterMap (cRw m s)) := by
  obtain ⟨h35, hpp⟩ := c_trips_all m (c_five m h3 (by omega))
  intro d
  induction d with
  | zero =>
    intro i out hi _
    refine Ev.step (f := fun _ => some out) (fun k => ?_) (by rw [show (List.range' i 0).filterMap (cRw m s) = [] from rfl, List.append_nil]; exact Ev.now _)
    rw [impl_chi_braids.l0, if_neg (by rw [List.length_map]; omega)]
  | succ d ih =>
    intro i out hi hl
    have hk : i < (cTrips m).length := by omega
    have ht := hpp (cTrips m)[i] (List.getElem_mem hk)
    have hset := c_bra_set m h3 h6 s hs hp i hk
    refine Ev.step (f := fun k => impl_chi_braids.l0 k (cTab m s) m (cStart m) (m * (m - 1) / 2) ((cTrips m).map cT3) (braAdd out (cRw m s i)) ((i + 1 : Nat) : Int)) (fun k => ?_) ?_
    · have hb : braOk (cTab m (cX s i)) m := ⟨c_tab_len _ _, c_tab_n m h3 (by omega) _⟩
      rw [impl_chi_braids.l0, if_pos (by rw [List.length_map]; omega), if_pos (by omega), c_rdT3 _ _ hk]
      show (if 0 ≤ ((cTrips m)[i].1 : Int) ∧ ((cTrips m)[i].1 : Int) < 7 ∧ 0 ≤ ((cTrips m)[i].2.1 : Int) ∧ ((cTrips m)[i].2.1 : Int) < 7 ∧ 0 ≤ ((cTrips m)[i].2.2 : Int) ∧ ((cTrips m)[i].2.2 : Int) < 7 ∧ out.length < 1000 then ((impl_chi_set.f (cTab m s) ((cTrips m)[i].1 : Int) ((cTrips m)[i].2.1 : Int) ((cTrips m)[i].2.2 : Int) (wrap64 (-(rd (cTab m s) (cidx ((cTrips m)[i].1 : Int) ((cTrips m)[i].2.1 : Int) ((cTrips m)[i].2.2 : Int)))))).bind fun y => if braOk y m then impl_chi_braids.l0 k (cTab m s) m (cStart m) (m * (m - 1) / 2) ((cTrips m).map cT3) (braAdd out (wgRun y m (m * (m - 1) / 2) (cStart m) (List.replicate 36 false) [])) (wrap64 ((i : Int) + 1)) else none) else none) = _
      rw [if_pos (by omega), hset, Option.bind_some, if_pos hb, c_w1 i (by omega)]
      rfl
    · rw [List.range'_succ, List.filterMap_cons]
      cases hq : cRw m s i with
      | none => exact ih (i + 1) out (by omega) (by omega)
      | some v =>
        have := ih (i + 1) (out ++ [v]) (by omega) (by rw [List.length_append, List.length_singleton]; omega)
        rw [List.append_assoc] at this
        exact this
theorem cRw_diff (m : Nat) (h3 : 3 ≤ m) (h6 : m ≤ 6) (s : ByteArray) (hs : s.size = (cTrips m).length) (hp : cPM s) (k l : Nat) (hk : k < s.size) (hl : l < s.size) (hne : k ≠ l) (v : List Int) (h1 : cRw m s k = some v) (h2 : cRw m s l = some v) : False := by
  have hkt : k < (cTrips m).length := by rw [← hs]; exact hk
  have ht := (c_trips_all m (c_five m h3 (by omega))).2 (cTrips m)[k] (List.getElem_mem hkt)
  have hpos := c_pos_all m (c_five m h3 (by omega)) k (List.mem_range.mpr hkt)
  rw [List.getD_eq_getElem?_getD, List.getElem?_eq_getElem hkt] at hpos
  have hpos2 : cPos m (cTrips m)[k].1 (cTrips m)[k].2.1 (cTrips m)[k].2.2 = (k, false) := hpos
  have h := g_same_signs m h3 h6 (cX s k) (cX s l) (by rw [cX_size s k hk]; exact hs) (by rw [cX_size s l hl]; exact hs) v h1 h2 _ _ _ ht.1 ht.2.1 ht.2.2
  unfold cAt at h
  rw [hpos2] at h
  have e1 := cX_sg s k k hk hp false
  have e2 := cX_sg s l k hl hp false
  rw [if_pos rfl] at e1
  rw [if_neg hne] at e2
  rw [e1, e2] at h
  rcases c_sg s k false with h3 | h3 <;> rw [h3] at h <;> exact absurd h (by decide)
theorem bra_ok (m : Nat) (h3 : 3 ≤ m) (h6 : m ≤ 6) (s : ByteArray) (hs : s.size = (cTrips m).length) (hp : cPM s) : braR ((List.range' 0 (cTrips m).length).filterMap (cRw m s)) := by
  have h35 := (c_trips_all m (c_five m h3 (by omega))).1
  have hM := (g_m_lt m h3 h6).1
  have hnd : ((List.range' 0 (cTrips m).length).filterMap (cRw m s)).Nodup := by
    have hp0 : (List.range' 0 (cTrips m).length).Pairwise (fun a b => a < b ∧ b < (cTrips m).length) := by
      refine (List.pairwise_lt_range' (s := 0) (n := (cTrips m).length) (step := 1)).imp_of_mem ?_
      intro a b ha hb hab
      obtain ⟨i, hi, rfl⟩ := List.mem_range'.mp hb
      exact ⟨hab, by omega⟩
    refine List.Pairwise.filterMap (cRw m s) ?_ hp0
    intro a a' haa b hb b' hb' e
    subst e
    exact cRw_diff m h3 h6 s hs hp a a' (by omega) (by omega) (by omega) b hb hb'
  have hnd2 := (lsrt_perm _).nodup_iff.mpr hnd
  refine ⟨Nat.lt_of_le_of_lt (List.length_filterMap_le _ _) (by rw [List.length_range']; omega), fun r hr => ?_, fun i hi he => ?_⟩
  · obtain ⟨k, _, hk⟩ := List.mem_filterMap.mp hr
    rw [cRw_len m s k r hk]; omega
  · have h1 : i + 1 < (lsrt ((List.range' 0 (cTrips m).length).filterMap (cRw m s))).length := by omega
    rw [lx_getD _ _ h1, lx_getD _ i (by omega)] at he
    have := List.pairwise_iff_getElem.mp hnd2 i (i + 1) (by omega) h1 (by omega)
    exact this he.symm
/-- What BraidsFrom hands back. -/
def cBr (n : Int) (w : List Int) : List (List Int) := if cIsW n w = true then lsrt ((List.range' 0 (cTrips n.toNat).length).filterMap (cRw n.toNat (cTx n.toNat (cSf (cL n.toNat w))))) else []
theorem cBr_rows (n : Int) (w : List Int) : (cBr n w).length ≤ 1048576 ∧ ∀ r ∈ cBr n w, r.length ≤ 1024 := by
  unfold cBr
  by_cases h : cIsW n w = true
  · rw [if_pos h]
    obtain ⟨h3, h6, _, _⟩ := c_isW_spec h
    obtain ⟨m, rfl⟩ : ∃ m : Nat, n = (m : Int) := ⟨n.toNat, by omega⟩
    rw [Int.toNat_natCast]
    have h35 := (c_trips_all m (c_five m (by omega) (by omega))).1
    have hM := (g_m_lt m (by omega) (by omega)).1
    refine ⟨?_, fun r hr => ?_⟩
    · rw [lsrt_len]
      exact Nat.le_trans (List.length_filterMap_le _ _) (by rw [List.length_range']; omega)
    · obtain ⟨k, _, hk⟩ := List.mem_filterMap.mp ((lsrt_perm _).mem_iff.mp hr)
      rw [cRw_len m _ k r hk]; omega
  · rw [if_neg h]; exact ⟨Nat.zero_le _, fun r hr => by cases hr⟩
theorem cS_Br (n : Int) (w : List Int) (hl : w.length ≤ 1048576) : Ev (fun k => spec_BraidsFrom.f k n w) (cBr n w) := by
  unfold spec_BraidsFrom.f
  refine Ev.bind (cS_Sow n w hl) ?_
  unfold cSow cBr
  by_cases h : cIsW n w = true
  · rw [if_pos h, if_pos h]
    obtain ⟨h3, h6, _, _⟩ := c_isW_spec h
    obtain ⟨m, rfl⟩ : ∃ m : Nat, n = (m : Int) := ⟨n.toNat, by omega⟩
    rw [Int.toNat_natCast]
    have hs := cTx_size m (cSf (cL m w))
    have := cS_bra m (by omega) (by omega) _ hs (cTx_pm _ _) (cTrips m).length 0 [] (by omega) (fun r hr => by cases hr) (Nat.le_refl _)
    exact this
  · rw [if_neg h, if_neg h]
    refine Ev.step (f := fun _ => some []) (fun k => ?_) (Ev.now _)
    show spec_BraidsFrom.l0 (k + 1) 0 ⟨#[]⟩ false [] 0 = _
    rw [spec_BraidsFrom.l0, if_neg (by decide)]
theorem cI_Br (n : Int) (w : List Int) (hl : w.length ≤ 1048576) : Ev (fun k => impl_BraidsFrom.f k n w) (cBr n w) := by
  unfold impl_BraidsFrom.f
  refine Ev.bind (cI_Sow n w hl) ?_
  unfold cSow cBr
  by_cases h : cIsW n w = true
  · rw [if_pos h, if_pos h]
    obtain ⟨h3, h6, _, _⟩ := c_isW_spec h
    obtain ⟨m, rfl⟩ : ∃ m : Nat, n = (m : Int) := ⟨n.toNat, by omega⟩
    rw [Int.toNat_natCast]
    have hs := cTx_size m (cSf (cL m w))
    have hp := cTx_pm m (cSf (cL m w))
    generalize cTx m (cSf (cL m w)) = s at hs hp
    simp only [if_true]
    refine Ev.bind (c_tableOf m (by omega) (by omega) s hs) ?_
    unfold impl_chi_braids.f
    rw [c_tab_n m (by omega) (by omega) s, Int.toNat_natCast]
    refine Ev.bind (c_triplesOf m (by omega) (by omega)) ?_
    have hup := c_upTo (m : Int) (by omega) (by omega)
    rw [Int.toNat_natCast] at hup
    refine Ev.bind hup ?_
    have hc : braC (cTab m s) (cStart m) m (m * (m - 1) / 2) := by
      refine ⟨c_tab_len m s, c_tab_n m (by omega) (by omega) s, by omega, by omega, cStart_length m, fun x hx => ?_, ?_, ?_⟩
      · unfold cStart at hx
        obtain ⟨i, hi, rfl⟩ := List.mem_map.mp hx
        have := List.mem_range.mp hi
        omega
      · have : m = 3 ∨ m = 4 ∨ m = 5 ∨ m = 6 := by omega
        rcases this with rfl | rfl | rfl | rfl <;> decide +kernel
      · have := (g_m_lt m (by omega) (by omega)).1; omega
    simp only [if_pos hc]
    refine Ev.bind (cI_bra m (by omega) (by omega) s hs hp (cTrips m).length 0 [] (by omega) (Nat.le_refl _)) ?_
    rw [List.nil_append]
    simp only [if_pos (bra_ok m (by omega) (by omega) s hs hp)]
    exact Ev.now _
  · rw [if_neg h, if_neg h]
    simp only [Bool.false_eq_true, if_false]
    exact Ev.now _

end Go.Proofs.Ythibphndihjcaaa.P
