/- The signs of a wiring: the reference's SignsOfWiring and the program's both tell 'cSow'. Conditions: the list has at most 2^20 places. -/
import Derived.Test.YthibphndihjcaaaCSwaps
import Derived.Test.YthibphndihjcaaaCSigns
import Derived.Test.YthibphndihjcaaaOSigns
import Derived.Test.YthibphndihjcaaaP18
namespace Go.Proofs.Ythibphndihjcaaa.P
open Go.RowKit Go.Proofs.YthibphndihjcaaaW.PrintWords Go.Proofs.YthibphndihjcaaaW.PrintLast
set_option linter.unusedVariables false
set_option linter.unusedSimpArgs false

/-- When two wires are exchanged: the reference's table of n times n numbers, and the program's of six times six. -/
def cWs (n : Nat) : List (List Int) → Int → List Int → List Int
  | [], _, W => W
  | r :: rows, z, W => cWs n rows (z + 1) (W.set ((r.getD 0 0).toNat * n + (r.getD 1 0).toNat) z)
def cWp : List (List Int) → Int → List Int → List Int
  | [], _, L => L
  | r :: rows, z, L => cWp rows (z + 1) ((L.set ((r.getD 0 0).toNat * 6 + (r.getD 1 0).toNat) z).set ((r.getD 1 0).toNat * 6 + (r.getD 0 0).toNat) z)
def cPr (n : Nat) (r : List Int) : Prop := ∃ a b : Nat, r = [(a : Int), (b : Int)] ∧ a < b ∧ b < n
theorem cWs_len (n : Nat) : ∀ (rows : List (List Int)) (z : Int) (W : List Int), (cWs n rows z W).length = W.length
  | [], _, _ => rfl
  | r :: rows, z, W => by simp only [cWs]; rw [cWs_len n rows, List.length_set]
theorem cWp_len : ∀ (rows : List (List Int)) (z : Int) (L : List Int), (cWp rows z L).length = L.length
  | [], _, _ => rfl
  | r :: rows, z, L => by simp only [cWp]; rw [cWp_len rows, List.length_set, List.length_set]
theorem c_gset (l : List Int) (i q : Nat) (x : Int) (hq : q < l.length) : (l.set i x).getD q 0 = if q = i then x else l.getD q 0 := by
  simp only [List.getD_eq_getElem?_getD, List.getElem?_set]
  by_cases h : i = q
  · subst h; simp [hq]
  · simp [h, show ¬ q = i from fun e => h e.symm]
theorem c_ix_inj {n a b i j : Nat} (hb : b < n) (hj : j < n) (h : i * n + j = a * n + b) : i = a ∧ j = b := by
  have h1 : (i * n + j) / n = i := by rw [Nat.mul_comm, Nat.mul_add_div (by omega), Nat.div_eq_of_lt hj]; omega
  have h2 : (a * n + b) / n = a := by rw [Nat.mul_comm, Nat.mul_add_div (by omega), Nat.div_eq_of_lt hb]; omega
  have : i = a := by rw [← h1, ← h2, h]
  subst this
  exact ⟨rfl, by omega⟩
theorem c_ix_lt {n a b : Nat} (ha : a < n) (hb : b < n) : a * n + b < n * n := by
  have : a * n + n ≤ n * n := by rw [← Nat.succ_mul]; exact Nat.mul_le_mul_right n ha
  omega
/-- The two tables agree at each pair that rises. -/
theorem c_tabs (n : Nat) (h6 : n ≤ 6) : ∀ (rows : List (List Int)) (z : Int) (W L : List Int), (∀ r ∈ rows, cPr n r) → W.length = n * n → L.length = 36 → (∀ i j : Nat, i < j → j < n → W.getD (i * n + j) 0 = L.getD (i * 6 + j) 0) →
    ∀ i j : Nat, i < j → j < n → (cWs n rows z W).getD (i * n + j) 0 = (cWp rows z L).getD (i * 6 + j) 0
  | [], _, _, _, _, _, _, h => h
  | r :: rows, z, W, L, hp, hW, hL, h => by
    obtain ⟨a, b, rfl, hab, hb⟩ := hp _ (List.mem_cons_self ..)
    refine c_tabs n h6 rows (z + 1) _ _ (fun r hr => hp r (List.mem_cons_of_mem _ hr)) (by rw [List.length_set]; exact hW) (by rw [List.length_set, List.length_set]; exact hL) ?_
    intro i j hij hj
    have g0 : (([(a : Int), (b : Int)] : List Int).getD 0 0).toNat = a := by simp
    have g1 : (([(a : Int), (b : Int)] : List Int).getD 1 0).toNat = b := by simp
    rw [g0, g1, c_gset _ _ _ _ (by rw [hW]; exact c_ix_lt (by omega) hj), c_gset _ _ _ _ (by rw [List.length_set, hL]; omega), c_gset _ _ _ _ (by rw [hL]; omega)]
    rw [if_neg (show ¬ i * 6 + j = b * 6 + a from fun e => by have := c_ix_inj (n := 6) (by omega) (by omega) e; omega)]
    by_cases hc : i = a ∧ j = b
    · obtain ⟨rfl, rfl⟩ := hc
      rw [if_pos rfl, if_pos rfl]
    · rw [if_neg (fun e => hc (c_ix_inj hb hj e)), if_neg (fun e => hc (c_ix_inj (n := 6) (by omega) (by omega) e))]
      exact h i j hij hj
/-- The text of signs. -/
def cTx (n : Nat) (f : Nat × Nat × Nat → Bool) : ByteArray := ⟨((cTrips n).map fun p => if f p = true then (43 : UInt8) else 45).toArray⟩
theorem cTx_size (n : Nat) (f : Nat × Nat × Nat → Bool) : (cTx n f).size = (cTrips n).length := by simp [cTx, ByteArray.size]
theorem cTx_bt (n : Nat) (f : Nat × Nat × Nat → Bool) (m : Nat) (h : m < (cTrips n).length) : bt (cTx n f) (m : Int) = if f (cTrips n)[m] = true then 43 else 45 := by
  have hs : ((m : Int).toNat) < (cTx n f).size := by rw [cTx_size]; simpa using h
  unfold bt
  rw [dif_pos hs]
  have : (cTx n f)[(m : Int).toNat]'hs = if f (cTrips n)[m] = true then (43 : UInt8) else 45 := by
    simp [cTx, ByteArray.getElem_eq_getElem_data]
  rw [this]
  split <;> rfl
def cSf (L : List Int) (p : Nat × Nat × Nat) : Bool := decide (L.getD (p.1 * 6 + p.2.1) 0 < L.getD (p.2.1 * 6 + p.2.2) 0)
/-- The program's loop of exchanges lays the table of that text. -/
theorem c_sow_loop (n : Nat) (L : List Int) (h6 : n ≤ 6) (hp : ∀ p ∈ cTrips n, p.1 < p.2.1 ∧ p.2.1 < p.2.2 ∧ p.2.2 < n) (hlen : (cTrips n).length ≤ 35) : ∀ (d m : Nat) (l : List Int), l.length = 344 → m + d = (cTrips n).length →
    Ev (fun k => impl_SignsOfWiring.l0 k L l ((cTrips n).map cT3) (m : Int)) (((cTrips n).zipIdx.drop m).foldl (cStep (cTx n (cSf L))) l) := by
  intro d
  induction d with
  | zero =>
    intro m l hl hm
    refine Ev.step (f := fun _ => some l) (fun k => ?_) (by rw [List.drop_eq_nil_of_le (by rw [List.length_zipIdx]; omega)]; exact Ev.now _)
    simp only [impl_SignsOfWiring.l0]; rw [if_neg (by rw [List.length_map]; omega)]
  | succ d ih =>
    intro m l hl hm
    have hmt : m < (cTrips n).length := by omega
    have hq := hp (cTrips n)[m] (List.getElem_mem _)
    rw [List.drop_eq_getElem_cons (by rw [List.length_zipIdx]; exact hmt), List.foldl_cons, List.getElem_zipIdx, Nat.zero_add]
    refine Ev.step (f := fun k => (some (cStep (cTx n (cSf L)) l ((cTrips n)[m], m))).bind fun l' => impl_SignsOfWiring.l0 k L l' ((cTrips n).map cT3) ((m + 1 : Nat) : Int)) (fun k => ?_) ?_
    · simp only [impl_SignsOfWiring.l0]
      rw [if_pos (by rw [List.length_map]; omega), if_pos (by omega), c_rdT3 _ m hmt, c_w1 m (by omega)]
      have hcb : 0 ≤ (cT3 (cTrips n)[m]).f0 ∧ (cT3 (cTrips n)[m]).f0 < 6 ∧ 0 ≤ (cT3 (cTrips n)[m]).f1 ∧ (cT3 (cTrips n)[m]).f1 < 6 ∧ 0 ≤ (cT3 (cTrips n)[m]).f2 ∧ (cT3 (cTrips n)[m]).f2 < 6 := by simp only [cT3]; omega
      rw [if_pos hcb]
      have f0 : (cT3 (cTrips n)[m]).f0.toNat = (cTrips n)[m].1 := by simp [cT3]
      have f1 : (cT3 (cTrips n)[m]).f1.toNat = (cTrips n)[m].2.1 := by simp [cT3]
      have f2 : (cT3 (cTrips n)[m]).f2.toNat = (cTrips n)[m].2.2 := by simp [cT3]
      rw [f0, f1, f2]
      unfold cStep
      simp only [cTx_bt n _ m hmt]
      by_cases hb : L.getD ((cTrips n)[m].1 * 6 + (cTrips n)[m].2.1) 0 < L.getD ((cTrips n)[m].2.1 * 6 + (cTrips n)[m].2.2) 0
      · have hf : cSf L (cTrips n)[m] = true := decide_eq_true hb
        rw [decide_eq_true hb, if_pos rfl, hf]
        simp only [cT3]
        rw [c_set l hl _ _ _ (by omega) (by omega) (by omega) _ (.inl rfl)]
        simp
      · have hf : cSf L (cTrips n)[m] = false := decide_eq_false hb
        rw [decide_eq_false hb, if_neg (by simp), hf]
        simp only [cT3]
        rw [c_set l hl _ _ _ (by omega) (by omega) (by omega) _ (.inr rfl)]
        simp
    · exact ih (m + 1) _ (by rw [c_step_len]; exact hl) (by omega)
theorem c_pos_all : ∀ n ∈ [3, 4, 5, 6, 7], ∀ m ∈ List.range (cTrips n).length, cPos n ((cTrips n).getD m (0, 0, 0)).1 ((cTrips n).getD m (0, 0, 0)).2.1 ((cTrips n).getD m (0, 0, 0)).2.2 = (m, false) := by decide +kernel
def cNums (n : Nat) (f : Nat × Nat × Nat → Bool) : List Int := (cTrips n).map fun p => if f p = true then (43 : Int) else 45
/-- The program reads the text back out of the table. -/
theorem c_back_loop (n : Nat) (f : Nat × Nat × Nat → Bool) (h3 : 3 ≤ n) (h7 : n ≤ 7) (hp : ∀ p ∈ cTrips n, p.1 < p.2.1 ∧ p.2.1 < p.2.2 ∧ p.2.2 < n) (hlen : (cTrips n).length ≤ 35) : ∀ (d m : Nat) (acc : List Int), acc.length = m → m + d = (cTrips n).length →
    Ev (fun k => impl_chi_signs.l0 k (cTab n (cTx n f)) acc ((cTrips n).map cT3) (((cTrips n).map cT3).length : Int) (m : Int)) ((n : Int), strOfNums (acc ++ (cNums n f).drop m)) := by
  intro d
  induction d with
  | zero =>
    intro m acc hl hm
    refine Ev.step (f := fun _ => some ((n : Int), strOfNums acc)) (fun k => ?_) (by rw [List.drop_eq_nil_of_le (by unfold cNums; rw [List.length_map]; omega), List.append_nil]; exact Ev.now _)
    simp only [impl_chi_signs.l0]; rw [if_neg (by rw [List.length_map]; omega), if_pos (by rw [c_tab_len]; decide), c_tab_n n h3 h7]
  | succ d ih =>
    intro m acc hl hm
    have hmt : m < (cTrips n).length := by omega
    have hq := hp (cTrips n)[m] (List.getElem_mem _)
    have hpos := c_pos_all n (c_five n h3 h7) m (by simpa using hmt)
    rw [show (cTrips n).getD m (0, 0, 0) = (cTrips n)[m] by simp [List.getD_eq_getElem?_getD, hmt]] at hpos
    have hat := c_tab_at n h3 h7 (cTx n f) (cTrips n)[m].1 (cTrips n)[m].2.1 (cTrips n)[m].2.2 ⟨by omega, by omega, by omega, by omega, by omega, by omega⟩
    unfold cAt at hat
    rw [hpos] at hat
    unfold cSg at hat
    simp only [cTx_bt n f m hmt] at hat
    have hd : (cNums n f).drop m = (if f (cTrips n)[m] = true then (43 : Int) else 45) :: (cNums n f).drop (m + 1) := by
      rw [List.drop_eq_getElem_cons (by unfold cNums; rw [List.length_map]; exact hmt)]
      simp [cNums]
    rw [hd]
    refine Ev.step (f := fun k => impl_chi_signs.l0 k (cTab n (cTx n f)) (acc ++ [if f (cTrips n)[m] = true then (43 : Int) else 45]) ((cTrips n).map cT3) (((cTrips n).map cT3).length : Int) ((m + 1 : Nat) : Int)) (fun k => ?_) ?_
    · simp only [impl_chi_signs.l0]
      rw [if_pos (by rw [List.length_map]; omega), if_pos (by omega), if_pos (by rw [List.length_map]; omega), c_rdT3 _ m hmt, c_w1 m (by omega)]
      have g1 : 0 ≤ (cT3 (cTrips n)[m]).f0 := by simp only [cT3]; omega
      have g2 : (cT3 (cTrips n)[m]).f0 < 7 := by simp only [cT3]; omega
      have g3 : 0 ≤ (cT3 (cTrips n)[m]).f1 := by simp only [cT3]; omega
      have g4 : (cT3 (cTrips n)[m]).f1 < 7 := by simp only [cT3]; omega
      have g5 : 0 ≤ (cT3 (cTrips n)[m]).f2 := by simp only [cT3]; omega
      have g6 : (cT3 (cTrips n)[m]).f2 < 7 := by simp only [cT3]; omega
      have g7 : (344 : Int) ≤ ((cTab n (cTx n f)).length : Int) := by rw [c_tab_len]; decide
      replace hat : rd (cTab n (cTx n f)) (cidx (cT3 (cTrips n)[m]).f0 (cT3 (cTrips n)[m]).f1 (cT3 (cTrips n)[m]).f2) = _ := hat
      rw [if_pos g1, if_pos g2, if_pos g3, if_pos g4, if_pos g5, if_pos g6, if_pos g7]
      by_cases hb : f (cTrips n)[m] = true
      · have h1 : rd (cTab n (cTx n f)) (cidx (cT3 (cTrips n)[m]).f0 (cT3 (cTrips n)[m]).f1 (cT3 (cTrips n)[m]).f2) = 1 := by rw [hat]; simp [hb]
        rw [h1, if_pos (by decide), if_pos (by omega), if_pos hb]
      · have h1 : rd (cTab n (cTx n f)) (cidx (cT3 (cTrips n)[m]).f0 (cT3 (cTrips n)[m]).f1 (cT3 (cTrips n)[m]).f2) = -1 := by rw [hat]; simp [hb]
        rw [h1, if_neg (by decide), if_pos (by omega), if_neg hb]
    · have := ih (m + 1) (acc ++ [if f (cTrips n)[m] = true then (43 : Int) else 45]) (by simp [hl]) (by omega)
      simpa using this
theorem c_nums_str (n : Nat) (f : Nat × Nat × Nat → Bool) : strOfNums (cNums n f) = cTx n f := by
  unfold strOfNums cNums cTx
  congr 1
  simp only [List.map_map, Function.comp_def]
  congr 1
  apply List.map_congr_left
  intro p _
  cases f p <;> rfl
theorem c_back (n : Nat) (f : Nat × Nat × Nat → Bool) (h3 : 3 ≤ n) (h7 : n ≤ 7) : Ev (fun k => impl_chi_signs.f k (cTab n (cTx n f))) ((n : Int), cTx n f) := by
  unfold impl_chi_signs.f
  obtain ⟨h35, hp⟩ := c_trips_all n (c_five n h3 h7)
  simp only [c_tab_n n h3 h7, c_tab_len, show (344 : Int) ≤ ((344 : Nat) : Int) by decide, if_true]
  refine Ev.bind (c_triplesOf n h3 h7) ?_
  have := c_back_loop n f h3 h7 hp h35 _ 0 [] rfl (Nat.zero_add _)
  simpa [c_nums_str] using this

theorem c_when (rows : List (List Int)) : ∀ (z : Int) (L : List Int), (∀ r ∈ rows, cPr 6 r) → impl_whenOf.l0 rows z L = some (cWp rows z L) := by
  induction rows with
  | nil => intro z L _; rfl
  | cons r rows ih =>
    intro z L hp
    obtain ⟨a, b, rfl, hab, hb⟩ := hp _ (List.mem_cons_self ..)
    simp only [impl_whenOf.l0]
    rw [if_pos (by omega), ih _ _ (fun r hr => hp r (List.mem_cons_of_mem _ hr))]
    simp [cWp]
theorem cPr_of {n : Nat} {w : List Int} (h : cIsW (n : Int) w = true) : ∀ r ∈ cSwaps (cStart n) w, cPr n r := by
  intro r hr
  have := cSwaps_pairs h r (by simpa using hr)
  obtain ⟨a, b, rfl, h0, h1, h2⟩ := this
  exact ⟨a.toNat, b.toNat, by rw [Int.toNat_of_nonneg h0, Int.toNat_of_nonneg (by omega)], by omega, by omega⟩
def cL (n : Nat) (w : List Int) : List Int := cWp (cSwaps (cStart n) w) 0 (List.replicate 36 0)
def cSow (n : Int) (w : List Int) : Int × ByteArray × Bool := if cIsW n w = true then (n, cTx n.toNat (cSf (cL n.toNat w)), true) else (0, ⟨#[]⟩, false)
theorem cI_Sow (n : Int) (w : List Int) (hl : w.length ≤ 1048576) : Ev (fun k => impl_SignsOfWiring.f k n w) (cSow n w) := by
  unfold impl_SignsOfWiring.f cSow
  refine Ev.bind (c_isW n w (by omega)) ?_
  by_cases h : cIsW n w = true
  · obtain ⟨h3, h6, _, hr⟩ := c_isW_spec h
    have hlen := c_isW_len h
    obtain ⟨m, rfl⟩ : ∃ m : Nat, n = (m : Int) := ⟨n.toNat, by omega⟩
    simp only [h, if_true, Int.toNat_natCast]
    have hw : Ev (fun k => impl_whenOf.f k (m : Int) w) (cL m w) := by
      unfold impl_whenOf.f
      have h2 := cI_swaps (m : Int) w hl
      rw [if_pos h, Int.toNat_natCast] at h2
      refine Ev.bind h2 ?_
      rw [if_pos (by rw [cSwaps_length]; omega), c_when _ _ _ (fun r hr => by obtain ⟨a, b, e, h1, h2⟩ := cPr_of h r hr; exact ⟨a, b, e, h1, by omega⟩)]
      exact Ev.now _
    refine Ev.bind hw ?_
    refine Ev.bind (c_triplesOf m (by omega) (by omega)) ?_
    obtain ⟨h35, hp⟩ := c_trips_all m (c_five m (by omega) (by omega))
    have hloop := c_sow_loop m (cL m w) (by omega) hp h35 (cTrips m).length 0 (chi0 (m : Int)) (c_chi0_len _) (by omega)
    have hloop2 : Ev (fun k => impl_SignsOfWiring.l0 k (cL m w) (chi0 (m : Int)) ((cTrips m).map cT3) 0) (cTab m (cTx m (cSf (cL m w)))) := hloop
    refine Ev.bind hloop2 ?_
    refine Ev.bind (c_back m _ (by omega) (by omega)) ?_
    exact Ev.now _
  · simp only [if_neg h]; exact Ev.now _
/-- The reference's text, triple after triple. -/
def cB (l : List UInt8) : ByteArray := ⟨l.toArray⟩
theorem cB_app (l : List UInt8) (c : UInt8) : cB l ++ ⟨#[c]⟩ = cB (l ++ [c]) := by
  apply ByteArray.ext
  simp [cB]
theorem cB_size (l : List UInt8) : (cB l).size = l.length := by simp [cB, ByteArray.size]
def cc (n : Nat) (W : List Int) (i j k : Nat) : UInt8 := if W.getD (i * n + j) 0 < W.getD (j * n + k) 0 then 43 else 45
theorem c_fm {α β : Type} {f g : α → List β} : ∀ {l : List α}, (∀ a ∈ l, f a = g a) → l.flatMap f = l.flatMap g
  | [], _ => rfl
  | x :: l, h => by rw [List.flatMap_cons, List.flatMap_cons, h x (List.mem_cons_self ..), c_fm (fun a ha => h a (List.mem_cons_of_mem _ ha))]
theorem c_repl (n i : Nat) : (List.replicate n (0 : Int)).getD i 0 = 0 := by
  rw [List.getD_eq_getElem?_getD, List.getElem?_replicate]
  split <;> rfl
theorem c_bit1 : spec_l1Bit.f true = some 1 := rfl
theorem c_bit0 : spec_l1Bit.f false = some 0 := rfl
theorem c_byte1 : spec_l3Byte.f 1 = some (⟨#[43]⟩ : ByteArray) := rfl
theorem c_byte0 : spec_l3Byte.f 0 = some (⟨#[45]⟩ : ByteArray) := rfl
theorem c_ix_w (i n j : Nat) (h : i * n + j < 1000) : wrap64 (wrap64 ((i : Int) * (n : Int)) + (j : Int)) = ((i * n + j : Nat) : Int) := by
  rw [← Int.natCast_mul]
  generalize i * n = q at h ⊢
  rw [c_wid (q : Int) (by omega) (by omega), c_wid _ (by omega) (by omega)]
  omega
theorem c_sq_w (m : Nat) (h : m * m ≤ 36) : wrap64 ((m : Int) * (m : Int)) = ((m * m : Nat) : Int) := by
  rw [← Int.natCast_mul]
  generalize m * m = q at h ⊢
  exact c_wid (q : Int) (by omega) (by omega)
theorem cS_l3 (n : Nat) (h6 : n ≤ 6) (W : List Int) (hW : W.length = n * n) (i j : Nat) (hij : i < j) (hj : j < n) (R : Int × ByteArray × Bool) : ∀ (d k : Nat) (l : List UInt8), k + d = n → l.length ≤ 36 * i + 6 * j + k →
    Ev (fun r => spec_SignsOfWiring.l2 r (n : Int) W (i : Int) ((j + 1 : Nat) : Int) (n : Int) (cB (l ++ (List.range' k d).map (cc n W i j)))) R → Ev (fun r => spec_SignsOfWiring.l3 r (n : Int) W (i : Int) (j : Int) (k : Int) (n : Int) (cB l)) R := by
  intro d
  induction d with
  | zero =>
    intro k l hk hl h
    refine Ev.step (f := fun r => spec_SignsOfWiring.l2 r (n : Int) W (i : Int) ((j + 1 : Nat) : Int) (n : Int) (cB l)) (fun r => ?_) (by simpa using h)
    simp only [spec_SignsOfWiring.l3]; rw [if_neg (by omega), c_w1 j (by omega)]
  | succ d ih =>
    intro k l hk hl h
    have hk4 : k < 4611686018427387904 := by omega
    have hk1 : (k + 1) + d = n := by omega
    have hl1 : (l ++ [cc n W i j k]).length ≤ 36 * i + 6 * j + (k + 1) := by rw [List.length_append, List.length_singleton]; omega
    have hl2 : l.length + 1 ≤ 9223372036854775807 := by omega
    have hkn : k < n := by omega
    have hin : i < n := by omega
    have hn6 : n * n ≤ 36 := Nat.mul_le_mul h6 h6
    have i1 : i * n + j < n * n := c_ix_lt hin hj
    have i2 : j * n + k < n * n := c_ix_lt hj hkn
    have e1 : wrap64 (wrap64 ((i : Int) * (n : Int)) + (j : Int)) = ((i * n + j : Nat) : Int) := c_ix_w i n j (Nat.lt_of_lt_of_le i1 (Nat.le_trans hn6 (by decide)))
    have e2 : wrap64 (wrap64 ((j : Int) * (n : Int)) + (k : Int)) = ((j * n + k : Nat) : Int) := c_ix_w j n k (Nat.lt_of_lt_of_le i2 (Nat.le_trans hn6 (by decide)))
    refine Ev.step (f := fun r => spec_SignsOfWiring.l3 r (n : Int) W (i : Int) (j : Int) ((k + 1 : Nat) : Int) (n : Int) (cB (l ++ [cc n W i j k]))) (fun r => ?_) ?_
    · simp only [spec_SignsOfWiring.l3, e1, e2]
      have g1 : (k : Int) < (n : Int) := Int.ofNat_lt.2 hkn
      have g2 : 0 ≤ ((i * n + j : Nat) : Int) := Int.natCast_nonneg _
      have g3 : ((i * n + j : Nat) : Int) < (W.length : Int) := by rw [hW]; exact Int.ofNat_lt.2 i1
      have g4 : 0 ≤ ((j * n + k : Nat) : Int) := Int.natCast_nonneg _
      have g5 : ((j * n + k : Nat) : Int) < (W.length : Int) := by rw [hW]; exact Int.ofNat_lt.2 i2
      rw [if_pos g1, if_pos g2, if_pos g3, if_pos g4, if_pos g5, c_rd, c_rd, c_w1 k hk4]
      have hsz : ∀ c : UInt8, (cB l).size + (⟨#[c]⟩ : ByteArray).size ≤ 9223372036854775807 := fun c => by
        rw [cB_size]
        exact hl2
      by_cases hc : W.getD (i * n + j) 0 < W.getD (j * n + k) 0
      · have hcc : cc n W i j k = 43 := if_pos hc
        rw [decide_eq_true hc, c_bit1, Option.bind_some, c_byte1, Option.bind_some, if_pos (hsz 43), cB_app, hcc]
      · have hcc : cc n W i j k = 45 := if_neg hc
        rw [decide_eq_false hc, c_bit0, Option.bind_some, c_byte0, Option.bind_some, if_pos (hsz 45), cB_app, hcc]
    · refine ih (k + 1) (l ++ [cc n W i j k]) hk1 hl1 ?_
      rw [List.range'_succ] at h
      rw [List.append_assoc]
      exact h
theorem cS_l2 (n : Nat) (h6 : n ≤ 6) (W : List Int) (hW : W.length = n * n) (i : Nat) (R : Int × ByteArray × Bool) : ∀ (d j : Nat) (l : List UInt8), j + d = n → i < j → l.length ≤ 36 * i + 6 * j →
    Ev (fun r => spec_SignsOfWiring.l1 r (n : Int) W ((i + 1 : Nat) : Int) (n : Int) (cB (l ++ (List.range' j d).flatMap fun j => (List.range' (j + 1) (n - (j + 1))).map (cc n W i j)))) R → Ev (fun r => spec_SignsOfWiring.l2 r (n : Int) W (i : Int) (j : Int) (n : Int) (cB l)) R := by
  intro d
  induction d with
  | zero =>
    intro j l hj hij hl h
    refine Ev.step (f := fun r => spec_SignsOfWiring.l1 r (n : Int) W ((i + 1 : Nat) : Int) (n : Int) (cB l)) (fun r => ?_) (by simpa using h)
    simp only [spec_SignsOfWiring.l2]; rw [if_neg (by omega), c_w1 i (by omega)]
  | succ d ih =>
    intro j l hj hij hl h
    refine Ev.step (f := fun r => spec_SignsOfWiring.l3 r (n : Int) W (i : Int) (j : Int) ((j + 1 : Nat) : Int) (n : Int) (cB l)) (fun r => ?_) ?_
    · simp only [spec_SignsOfWiring.l2]; rw [if_pos (by omega), c_w1 j (by omega)]
    · refine cS_l3 n h6 W hW i j hij (by omega) R (n - (j + 1)) (j + 1) l (by omega) (by omega) ?_
      refine ih (j + 1) (l ++ (List.range' (j + 1) (n - (j + 1))).map (cc n W i j)) (by omega) (by omega) (by rw [List.length_append, List.length_map, List.length_range']; omega) ?_
      rw [List.range'_succ, List.flatMap_cons, ← List.append_assoc] at h
      exact h
theorem c_len36 : ∀ n ∈ List.range 7, ∀ i ∈ List.range n, ((List.range' (i + 1) (n - (i + 1))).map fun j => n - (j + 1)).sum ≤ 36 := by decide
theorem cS_l1 (n : Nat) (h6 : n ≤ 6) (W : List Int) (hW : W.length = n * n) : ∀ (d i : Nat) (l : List UInt8), i + d = n → l.length ≤ 36 * i →
    Ev (fun r => spec_SignsOfWiring.l1 r (n : Int) W (i : Int) (n : Int) (cB l)) ((n : Int), cB (l ++ (List.range' i d).flatMap fun i => (List.range' (i + 1) (n - (i + 1))).flatMap fun j => (List.range' (j + 1) (n - (j + 1))).map (cc n W i j)), true) := by
  intro d
  induction d with
  | zero =>
    intro i l hi hl
    refine Ev.step (f := fun r => some ((n : Int), cB l, true)) (fun r => ?_) (by simpa using Ev.now _)
    simp only [spec_SignsOfWiring.l1]; rw [if_neg (by omega)]
  | succ d ih =>
    intro i l hi hl
    have hin : i < n := by omega
    refine Ev.step (f := fun r => spec_SignsOfWiring.l2 r (n : Int) W (i : Int) ((i + 1 : Nat) : Int) (n : Int) (cB l)) (fun r => ?_) ?_
    · simp only [spec_SignsOfWiring.l1]; rw [if_pos (by omega), c_w1 i (by omega)]
    · refine cS_l2 n h6 W hW i _ (n - (i + 1)) (i + 1) l (by omega) (by omega) (by omega) ?_
      have hlen : ((List.range' (i + 1) (n - (i + 1))).flatMap fun j => (List.range' (j + 1) (n - (j + 1))).map (cc n W i j)).length ≤ 36 := by
        rw [List.length_flatMap]
        simp only [List.length_map, List.length_range']
        exact c_len36 n (by simpa using Nat.lt_succ_of_le h6) i (by simpa using hin)
      have := ih (i + 1) (l ++ (List.range' (i + 1) (n - (i + 1))).flatMap fun j => (List.range' (j + 1) (n - (j + 1))).map (cc n W i j)) (by omega) (by rw [List.length_append]; omega)
      rw [List.range'_succ, List.flatMap_cons, ← List.append_assoc]
      exact this
theorem cS_l0 (n : Nat) (h3 : 3 ≤ n) (h6 : n ≤ 6) (rows : List (List Int)) (hr : rows.length ≤ 1000) (hp : ∀ r ∈ rows, cPr n r) (R : Int × ByteArray × Bool) : ∀ (d i : Nat) (W : List Int), i + d = rows.length → W.length = n * n →
    Ev (fun r => spec_SignsOfWiring.l1 r (n : Int) (cWs n (rows.drop i) (i : Int) W) 0 (n : Int) (cB [])) R → Ev (fun r => spec_SignsOfWiring.l0 r (n : Int) rows W (i : Int)) R := by
  intro d
  induction d with
  | zero =>
    intro i W hi hW h
    rw [List.drop_eq_nil_of_le (by omega)] at h
    refine Ev.step (f := fun r => spec_SignsOfWiring.l1 r (n : Int) W 0 (n : Int) (cB [])) (fun r => ?_) h
    simp only [spec_SignsOfWiring.l0]; rw [if_neg (by omega)]; rfl
  | succ d ih =>
    intro i W hi hW h
    have hlt : i < rows.length := by omega
    have hi4 : i < 4611686018427387904 := by omega
    have hi1 : (i + 1) + d = rows.length := by omega
    have hn6 : n * n ≤ 36 := Nat.mul_le_mul h6 h6
    obtain ⟨a, b, hr2, hab, hb⟩ := hp _ (List.getElem_mem hlt)
    have hrd : rd_L1 rows (i : Int) = [(a : Int), (b : Int)] := by rw [c_rdL, List.getD_eq_getElem?_getD, List.getElem?_eq_getElem hlt]; exact hr2
    rw [List.drop_eq_getElem_cons hlt, hr2] at h
    have i1 : a * n + b < n * n := c_ix_lt (Nat.lt_trans hab hb) hb
    have e0 : rd [(a : Int), (b : Int)] 0 = (a : Int) := rfl
    have e1 : rd [(a : Int), (b : Int)] 1 = (b : Int) := rfl
    have e2 : wrap64 (wrap64 ((a : Int) * (n : Int)) + (b : Int)) = ((a * n + b : Nat) : Int) := c_ix_w a n b (Nat.lt_of_lt_of_le i1 (Nat.le_trans hn6 (by decide)))
    refine Ev.step (f := fun r => spec_SignsOfWiring.l0 r (n : Int) rows (W.set (a * n + b) (i : Int)) ((i + 1 : Nat) : Int)) (fun r => ?_) ?_
    · simp only [spec_SignsOfWiring.l0, hrd, e0, e1, e2]
      have g1 : (i : Int) < (rows.length : Int) := Int.ofNat_lt.2 hlt
      have g2 : 0 ≤ (i : Int) := Int.natCast_nonneg _
      have g3 : 0 ≤ ((a * n + b : Nat) : Int) := Int.natCast_nonneg _
      have g4 : ((a * n + b : Nat) : Int) < (W.length : Int) := by rw [hW]; exact Int.ofNat_lt.2 i1
      have g5 : (0 : Int) < (([(a : Int), (b : Int)] : List Int).length : Int) := by simp
      have g6 : (1 : Int) < (([(a : Int), (b : Int)] : List Int).length : Int) := by simp
      rw [if_pos g1, if_pos g2, if_pos g5, if_pos g6, if_pos g3, if_pos g4, c_w1 i hi4, Int.toNat_natCast]
    · refine ih (i + 1) (W.set (a * n + b) (i : Int)) hi1 (by rw [List.length_set]; exact hW) ?_
      exact h
theorem cS_Sow (n : Int) (w : List Int) (hl : w.length ≤ 1048576) : Ev (fun k => spec_SignsOfWiring.f k n w) (cSow n w) := by
  unfold spec_SignsOfWiring.f cSow
  refine Ev.bind (c_isWiring n w (by omega)) ?_
  by_cases h : cIsW n w = true
  · obtain ⟨h3, h6, _, hr⟩ := c_isW_spec h
    have hlen := c_isW_len h
    obtain ⟨m, rfl⟩ : ∃ m : Nat, n = (m : Int) := ⟨n.toNat, by omega⟩
    have hm3 : 3 ≤ m := by omega
    have hm66 : m ≤ 6 := by omega
    have hl1000 : w.length ≤ 1000 := by omega
    simp only [h, if_true, Int.toNat_natCast]
    refine Ev.bind (cS_swaps (m : Int) w hl h) ?_
    have hm6 : m * m ≤ 36 := Nat.mul_le_mul hm66 hm66
    have e1 : wrap64 ((m : Int) * (m : Int)) = ((m * m : Nat) : Int) := c_sq_w m hm6
    have q1 : 0 ≤ ((m * m : Nat) : Int) := Int.natCast_nonneg _
    have q2 : m * m ≤ 35184372088832 := Nat.le_trans hm6 (by decide)
    simp only [e1, Int.toNat_natCast, if_pos q1, if_pos q2]
    refine cS_l0 m hm3 hm66 _ (by rw [cSwaps_length]; exact hl1000) (cPr_of h) _ (cSwaps (cStart m) w).length 0 _ (Nat.zero_add _) (by simp) ?_
    rw [List.drop_zero]
    have hW : (cWs m (cSwaps (cStart m) w) ((0 : Nat) : Int) (List.replicate (m * m) 0)).length = m * m := by rw [cWs_len]; simp
    have h1 := cS_l1 m hm66 _ hW m 0 [] (Nat.zero_add _) (by simp)
    refine Ev.congr (fun k => rfl) ?_
    have hfin : cB ([] ++ (List.range' 0 m).flatMap fun i => (List.range' (i + 1) (m - (i + 1))).flatMap fun j => (List.range' (j + 1) (m - (j + 1))).map (cc m (cWs m (cSwaps (cStart m) w) ((0 : Nat) : Int) (List.replicate (m * m) 0)) i j)) = cTx m (cSf (cL m w)) := by
      unfold cB cTx
      congr 2
      rw [List.nil_append, ← List.range_eq_range']
      unfold cTrips
      simp only [List.map_flatMap, List.map_map]
      refine c_fm (fun i hi => ?_)
      refine c_fm (fun j hj => ?_)
      refine List.map_congr_left (fun k hk => ?_)
      have hi := List.mem_range.1 hi
      have hj := List.mem_range'_1.1 hj
      have hk := List.mem_range'_1.1 hk
      have ht := c_tabs m hm66 (cSwaps (cStart m) w) ((0 : Nat) : Int) (List.replicate (m * m) 0) (List.replicate 36 0) (cPr_of h) (by simp) (by simp) (fun i j hij hj => by
        rw [c_repl, c_repl])
      simp only [Function.comp_def, cc, cSf, cL]
      have a1 : i < j := by clear hm6 e1 q1 q2 hW h1 ht; omega
      have a2 : j < m := by clear hm6 e1 q1 q2 hW h1 ht; omega
      have a3 : j < k := by clear hm6 e1 q1 q2 hW h1 ht; omega
      have a4 : k < m := by clear hm6 e1 q1 q2 hW h1 ht; omega
      rw [ht i j a1 a2, ht j k a3 a4]
      simp
    rw [hfin] at h1
    exact h1
  · simp only [if_neg h]; exact Ev.now _

end Go.Proofs.Ythibphndihjcaaa.P
