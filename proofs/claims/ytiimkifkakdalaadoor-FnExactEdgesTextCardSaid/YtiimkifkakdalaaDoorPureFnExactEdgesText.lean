/- For every n and every set of edges the program's EdgesText returns what the reference's returns. Conditions: none. -/
import Derived.Test.YtiimkifkakdalaaDoorWAll2
import Derived.Test.YtiimkifkakdalaaDoorCDeg
import Derived.Test.YtiimkifkakdalaaDoorOFmt
import Derived.Laws.BitsLemmas
import Derived.Test.YtiimkifkakdalaaDoorOJoin
import Derived.Test.YtiimkifkakdalaaDoorP13
import Derived.Test.YtiimkifkakdalaaDoorP6
namespace Go.Proofs.YtiimkifkakdalaaDoor.P
open Go.RowKit Go.Proofs.YtiimkifkakdalaaDoorW.PrintWords Go.Proofs.YtiimkifkakdalaaDoorW.PrintLast
set_option linter.unusedVariables false
set_option linter.unusedSimpArgs false

/-- A digit. -/
def cDig (x : Int) : ByteArray := ⟨#[UInt8.ofNat (48 + x.toNat)]⟩
theorem cDig_size (x : Int) : (cDig x).size = 1 := rfl
theorem cS_dig_all : ∀ d ∈ List.range 10, spec_FormatInt.f 5 (d : Nat) = some (cDig (d : Nat)) := by decide +kernel
theorem cS_dig (x : Int) (h0 : 0 ≤ x) (h1 : x < 10) : Ev (fun k => spec_FormatInt.f k x) (cDig x) := by
  obtain ⟨d, rfl⟩ : ∃ d : Nat, x = (d : Int) := ⟨x.toNat, by omega⟩
  exact Ev.of (spec_FormatInt.mono _) (cS_dig_all d (List.mem_range.2 (by omega)))
theorem cI_dig (x : Int) (h0 : 0 ≤ x) (h1 : x < 10) : impl_FormatInt.f x = some (cDig x) := by
  unfold impl_FormatInt.f cDig
  rw [if_pos h0, if_pos h1]
/-- Both ends of an edge. -/
def cTwo (p : Nat × Nat) : ByteArray := cDig (p.1 : Int) ++ cDig (p.2 : Int)
theorem cTwo_size (p : Nat × Nat) : (cTwo p).size = 2 := by unfold cTwo; rw [ByteArray.size_append, cDig_size, cDig_size]
/-- The texts of the edges of a set, the first of which has an index. -/
def cParts (e : Int) : List (Nat × Nat) → Nat → List ByteArray
  | [], _ => []
  | p :: r, q => if cBit e q = true then cTwo p :: cParts e r (q + 1) else cParts e r (q + 1)
theorem cParts_len (e : Int) : ∀ (l : List (Nat × Nat)) (q : Nat), (cParts e l q).length ≤ l.length
  | [], _ => Nat.le_refl _
  | p :: r, q => by
    have := cParts_len e r (q + 1)
    simp only [cParts]
    split <;> simp only [List.length_cons] <;> omega
theorem cParts_size (e : Int) : ∀ (l : List (Nat × Nat)) (q : Nat), ∀ x ∈ cParts e l q, x.size = 2
  | [], _, x, hx => by simp [cParts] at hx
  | p :: r, q, x, hx => by
    simp only [cParts] at hx
    split at hx
    · rcases List.mem_cons.1 hx with rfl | hx
      · exact cTwo_size p
      · exact cParts_size e r (q + 1) x hx
    · exact cParts_size e r (q + 1) x hx
/-- The texts put together. -/
def cJn (L : List ByteArray) : ByteArray := ⟨(Lib.join (L.map (·.data.toList)) [32]).toArray⟩
theorem cJn_len (L : List ByteArray) (hL : L.length ≤ 100) (hs : ∀ x ∈ L, x.size = 2) : (Lib.join (L.map (·.data.toList)) [32]).length ≤ 1000 := by
  cases L with
  | nil => simp [Lib.join]
  | cons x r =>
    rw [List.map_cons, Lib.join_cons]
    have h1 : ∀ r : List ByteArray, (∀ x ∈ r, x.size = 2) → (Lib.joinTail [32] (r.map (·.data.toList))).length = 3 * r.length := by
      intro r
      induction r with
      | nil => intro _; rfl
      | cons y r ih =>
        intro h
        have hy := h y (by simp)
        have := ih (fun x hx => h x (by simp [hx]))
        unfold Lib.joinTail at this ⊢
        rw [List.map_cons, List.map_cons, List.flatten_cons, List.length_append, this]
        have : y.data.toList.length = 2 := by rw [Array.length_toList]; exact hy
        simp only [List.length_append, List.length_cons, List.length_nil, this]; omega
    have hx := hs x (by simp)
    have h2 := h1 r (fun y hy => hs y (by simp [hy]))
    have h3 : x.data.toList.length = 2 := by rw [Array.length_toList]; exact hx
    rw [List.length_append, h2, h3]
    simp only [List.length_cons] at hL
    omega
theorem cI_join (L : List ByteArray) (hL : L.length ≤ 100) (hs : ∀ x ∈ L, x.size = 2) : impl_Join.f L ⟨#[32]⟩ = some (cJn L) := by
  unfold impl_Join.f cJn
  have := cJn_len L hL hs
  rw [if_pos (by omega), if_pos (by have : (⟨#[32]⟩ : ByteArray).data.toList = [32] := rfl; rw [this]; omega)]
/-- What the reference's Join has gathered. -/
def cG : List ByteArray → List Int
  | [] => []
  | x :: r => bytesOf x ++ cG r
theorem cS_join_l (L : List ByteArray) (hL : L.length ≤ 100) (hs : ∀ x ∈ L, x.size = 2) : ∀ (d i : Nat) (o : List Int), i + d = L.length → o.length ≤ 3 * i → 0 < i →
    Ev (fun k => spec_Join.l0 k L ⟨#[32]⟩ o (i : Int)) (strOfNums (o ++ ((L.drop i).map fun x => (32 : Int) :: bytesOf x).flatten)) := by
  intro d
  induction d with
  | zero =>
    intro i o hi ho h0
    rw [List.drop_eq_nil_of_le (by omega), List.map_nil, List.flatten_nil, List.append_nil]
    refine Ev.step (f := fun _ => some (strOfNums o)) (fun k => ?_) (Ev.now _)
    simp only [spec_Join.l0]; rw [if_neg (by omega)]
  | succ d ih =>
    intro i o hi ho h0
    have hlt : i < L.length := by omega
    have g0 : (i : Int) < (L.length : Int) := by omega
    have g1 : (i : Int) > 0 := by omega
    have g2 : (0 : Int) ≤ (i : Int) := by omega
    have hrd : rdOf ByteArray.empty L (i : Int) = L[i] := by unfold rdOf; rw [Int.toNat_natCast, List.getD_eq_getElem?_getD, List.getElem?_eq_getElem hlt]; rfl
    have hz := hs L[i] (List.getElem_mem hlt)
    have g3 : o.length + (⟨#[32]⟩ : ByteArray).size < 140737488355328 := by have : (⟨#[32]⟩ : ByteArray).size = 1 := rfl; omega
    have hb32 : bytesOf (⟨#[32]⟩ : ByteArray) = [32] := rfl
    have g4 : (o ++ [(32 : Int)]).length + (L[i]).size < 140737488355328 := by rw [List.length_append, List.length_singleton]; omega
    rw [List.drop_eq_getElem_cons hlt, List.map_cons, List.flatten_cons]
    have h := ih (i + 1) (o ++ [32] ++ bytesOf L[i]) (by omega) (by rw [List.length_append, List.length_append, List.length_singleton, bytesOf_length]; omega) (by omega)
    refine Ev.step (f := fun k => spec_Join.l0 k L ⟨#[32]⟩ (o ++ [32] ++ bytesOf L[i]) ((i + 1 : Nat) : Int)) (fun k => ?_) ?_
    · simp only [spec_Join.l0]
      rw [if_pos g0, if_pos g1, if_pos g3]
      simp only [hb32, Option.bind_some, if_pos g2, hrd, if_pos g4, c_w1 i (show i < 4611686018427387904 by omega)]
    · simpa [List.append_assoc] using h
theorem c_str (l : List UInt8) : strOfNums (l.map fun x => (x.toNat : Int)) = ⟨l.toArray⟩ := by
  have : l.map ((fun n : Int => UInt8.ofNat n.toNat) ∘ fun x => (x.toNat : Int)) = l := by
    rw [List.map_congr_left (g := id) (fun x _ => by simp), List.map_id]
  simpa [strOfNums] using this
theorem cS_join (L : List ByteArray) (hL : L.length ≤ 100) (hs : ∀ x ∈ L, x.size = 2) : Ev (fun k => spec_Join.f k L ⟨#[32]⟩) (cJn L) := by
  unfold spec_Join.f cJn
  cases L with
  | nil =>
    refine Ev.step (f := fun _ => some (strOfNums [])) (fun k => ?_) ?_
    · simp only [spec_Join.l0]; rfl
    · exact Ev.now _
  | cons x r =>
    have hx := hs x (by simp)
    have g0 : (0 : Int) < ((x :: r).length : Int) := by simp only [List.length_cons]; omega
    have g1 : ¬ (0 : Int) > 0 := by omega
    have hrd : rdOf ByteArray.empty (x :: r) 0 = x := rfl
    have g4 : ([] : List Int).length + x.size < 140737488355328 := by rw [List.length_nil]; omega
    have h := cS_join_l (x :: r) hL hs r.length 1 (bytesOf x) (by simp only [List.length_cons]; omega) (by rw [bytesOf_length]; omega) (by omega)
    refine Ev.step (f := fun k => spec_Join.l0 k (x :: r) ⟨#[32]⟩ (bytesOf x) ((1 : Nat) : Int)) (fun k => ?_) ?_
    · simp only [spec_Join.l0]
      rw [if_pos g0, if_neg g1, if_pos (Int.le_refl 0), hrd, if_pos g4, List.nil_append, show wrap64 (0 + 1) = ((1 : Nat) : Int) from c_w1 0 (by omega)]
    · have e : bytesOf x ++ (((x :: r).drop 1).map fun x => (32 : Int) :: bytesOf x).flatten = (Lib.join ((x :: r).map (·.data.toList)) [32]).map fun x => (x.toNat : Int) := by
        rw [List.map_cons, Lib.join_cons, List.map_append, List.drop_one, List.tail_cons]
        congr 1
        unfold Lib.joinTail
        rw [List.map_flatten, List.map_map, List.map_map]
        congr 1
      rw [e, c_str] at h
      exact h
theorem c_tb (e q : Nat) : e.testBit q = decide (e / 2 ^ q % 2 = 1) := Nat.testBit_eq_decide_div_mod_eq
theorem c_cBit (e q : Nat) (he : e < 1099511627776) (hq : q < 60) : cBit (e : Int) q = e.testBit q := by
  unfold cBit shr
  have hm : min (q : Int).toNat IntKind.i64.bits = q := by rw [Int.toNat_natCast]; exact Nat.min_eq_left (by show q ≤ 64; omega)
  rw [hm]
  have h1 : (e : Int) / 2 ^ q = ((e / 2 ^ q : Nat) : Int) := by
    rw [Int.natCast_ediv, Int.natCast_pow]; rfl
  have hle : e / 2 ^ q ≤ e := Nat.div_le_self _ _
  have u : Go.bits .and .i64 ((e / 2 ^ q : Nat) : Int) 1 = (((e / 2 ^ q) &&& 1 : Nat) : Int) := (bits_nat .i64 41 (by decide) (fun n h0 h1 => by rw [IntKind.wrap_i64]; omega) (e / 2 ^ q) 1 (by omega) (by omega)).1
  rw [h1, u, Nat.and_one_is_mod, c_tb]
  rw [Bool.eq_iff_iff]
  simp only [beq_iff_eq, decide_eq_true_eq]
  omega
def cET (n e : Int) : ByteArray := if 3 ≤ n ∧ n ≤ 7 ∧ cES n e then (if e = 0 then ⟨#[45]⟩ else cJn (cParts e (cPairs n.toNat) 0)) else ⟨#[]⟩
theorem cE_dig (p : Nat × Nat) (h1 : p.1 < 7) (h2 : p.2 < 7) : (0 : Int) ≤ (p.1 : Int) ∧ (p.1 : Int) < 10 ∧ (0 : Int) ≤ (p.2 : Int) ∧ (p.2 : Int) < 10 := by omega
theorem c_dropP (l : List (Nat × Nat)) (i : Nat) (h : i < l.length) : l.drop i = l.getD i (0, 0) :: l.drop (i + 1) := by
  rw [List.drop_eq_getElem_cons h, List.getD_eq_getElem?_getD, List.getElem?_eq_getElem h]; rfl
theorem c_memP (l : List (Nat × Nat)) (i : Nat) (h : i < l.length) : l.getD i (0, 0) ∈ l := by
  rw [List.getD_eq_getElem?_getD, List.getElem?_eq_getElem h]; exact List.getElem_mem _
theorem cI_edges_l (n : Int) (h3 : 3 ≤ n) (h7 : n ≤ 7) (e : Int) : ∀ (d q : Nat) (o : List ByteArray), q + d = (cPairs n.toNat).length → o.length ≤ q → (∀ x ∈ o, x.size = 2) →
    Ev (fun k => impl_EdgesText.l0 k e o (cEdges n.toNat) ((cEdges n.toNat).length : Int) (q : Int)) (cJn (o ++ cParts e ((cPairs n.toNat).drop q) q)) := by
  intro d
  have hle := c_pairs_le n h3 h7
  induction d with
  | zero =>
    intro q o hq ho hs
    rw [List.drop_eq_nil_of_le (by omega)]
    simp only [cParts, List.append_nil]
    refine Ev.step (f := fun k => some (cJn o)) (fun k => ?_) (Ev.now _)
    simp only [impl_EdgesText.l0]; rw [if_neg (by rw [c_edges_length]; omega), cI_join o (by omega) hs]; rfl
  | succ d ih =>
    intro q o hq ho hs
    rw [c_dropP _ q (by omega)]
    have hp := c_pairs_get n h3 h7 _ (c_memP _ q (show q < (cPairs n.toNat).length by omega))
    generalize hpp : (cPairs n.toNat).getD q (0, 0) = p at hp
    have g0 : (q : Int) < ((cEdges n.toNat).length : Int) := by rw [c_edges_length]; omega
    have g1 : (0 : Int) ≤ (q : Int) := by omega
    have hd := cE_dig p (by omega) (by omega)
    have gw := Aside0.mk (c_w1 q (show q < 4611686018427387904 by omega))
    simp only [cParts]
    by_cases hb : cBit e q = true
    · rw [if_pos hb]
      have hb' : Go.bits .and .i64 (shr .i64 e (q : Int)) 1 = 1 := by simpa [cBit] using hb
      have g5 : (cDig (p.1 : Int)).size + (cDig (p.2 : Int)).size ≤ 9223372036854775807 := by rw [cDig_size, cDig_size]; decide
      have g6 : o.length < 8796093022208 := by omega
      have h := ih (q + 1) (o ++ [cTwo p]) (by omega) (by rw [List.length_append, List.length_singleton]; omega) (fun x hx => by
        rcases List.mem_append.1 hx with hx | hx
        · exact hs x hx
        · rw [List.mem_singleton] at hx; rw [hx]; exact cTwo_size p)
      rw [List.append_assoc] at h
      refine Ev.step (f := fun k => impl_EdgesText.l0 k e (o ++ [cTwo p]) (cEdges n.toNat) ((cEdges n.toNat).length : Int) ((q + 1 : Nat) : Int)) (fun k => ?_) h
      simp only [impl_EdgesText.l0]
      rw [if_pos g0, if_pos g1, if_pos g0, if_pos hb', c_rdE n.toNat q (by omega), hpp]
      simp only [cE, cI_dig _ hd.1 hd.2.1, cI_dig _ hd.2.2.1 hd.2.2.2, Option.bind_some, if_pos g5, if_pos g6, gw.out]
      rfl
    · rw [if_neg hb]
      have hb' : ¬ Go.bits .and .i64 (shr .i64 e (q : Int)) 1 = 1 := by simpa [cBit] using hb
      refine Ev.step (f := fun k => impl_EdgesText.l0 k e o (cEdges n.toNat) ((cEdges n.toNat).length : Int) ((q + 1 : Nat) : Int)) (fun k => ?_) (ih (q + 1) o (by omega) (by omega) hs)
      simp only [impl_EdgesText.l0]
      rw [if_pos g0, if_pos g1, if_pos g0, if_neg hb', gw.out]
/-- What the reference hands back. -/
def cEnd (L : List ByteArray) : ByteArray := if L = [] then ⟨#[45]⟩ else cJn L
theorem cS_edges_l (n : Int) (h3 : 3 ≤ n) (h7 : n ≤ 7) (e : Int) : ∀ (d q : Nat) (o : List ByteArray), q + d = (cPairs n.toNat).length → o.length ≤ q → (∀ x ∈ o, x.size = 2) →
    Ev (fun k => spec_EdgesText.l0 k n e o (q : Int)) (cEnd (o ++ cParts e ((cPairs n.toNat).drop q) q)) := by
  intro d
  have hle := c_pairs_le n h3 h7
  induction d with
  | zero =>
    intro q o hq ho hs
    rw [List.drop_eq_nil_of_le (by omega)]
    simp only [cParts, List.append_nil]
    have hn : ¬ (q : Int) < ((cPairs n.toNat).length : Int) := by omega
    by_cases h0 : o = []
    · subst h0
      rw [show cEnd [] = ⟨#[45]⟩ from rfl]
      refine Ev.step (f := fun _ => some (⟨#[45]⟩ : ByteArray)) (fun k => ?_) (Ev.now _)
      simp only [spec_EdgesText.l0]; rw [c_pairs7 n h3 h7, if_neg hn]; rfl
    · rw [show cEnd o = cJn o from if_neg h0]
      have hl : ¬ (o.length : Int) = 0 := by
        intro h
        exact h0 (List.length_eq_zero_iff.1 (by omega))
      refine Ev.step (f := fun k => (spec_Join.f k o (⟨#[32]⟩ : ByteArray)).bind fun t => some t) (fun k => ?_) (Ev.bind (cS_join o (by omega) hs) (Ev.now _))
      simp only [spec_EdgesText.l0]; rw [c_pairs7 n h3 h7, if_neg hn, if_neg hl]
  | succ d ih =>
    intro q o hq ho hs
    rw [c_dropP _ q (by omega)]
    have hp := c_pairs_get n h3 h7 _ (c_memP _ q (show q < (cPairs n.toNat).length by omega))
    generalize hpp : (cPairs n.toNat).getD q (0, 0) = p at hp
    have g0 : (q : Int) < ((cPairs n.toNat).length : Int) := by omega
    have hd := cE_dig p (by omega) (by omega)
    have gw := Aside0.mk (c_w1 q (show q < 4611686018427387904 by omega))
    simp only [cParts]
    by_cases hb : cBit e q = true
    · rw [if_pos hb]
      have g5 : (cDig (p.1 : Int)).size + (cDig (p.2 : Int)).size ≤ 9223372036854775807 := by rw [cDig_size, cDig_size]; decide
      have g6 : o.length < 8796093022208 := by omega
      have h := ih (q + 1) (o ++ [cTwo p]) (by omega) (by rw [List.length_append, List.length_singleton]; omega) (fun x hx => by
        rcases List.mem_append.1 hx with hx | hx
        · exact hs x hx
        · rw [List.mem_singleton] at hx; rw [hx]; exact cTwo_size p)
      rw [List.append_assoc] at h
      have hE : cEdgeAt n (q : Int) = ((p.1 : Int), (p.2 : Int)) := by
        unfold cEdgeAt; rw [if_pos ⟨by omega, g0⟩]; simp only [Int.toNat_natCast, hpp]
      refine Ev.step (f := fun k => (spec_EdgeAt.f k n (q : Int)).bind fun bt => (spec_FormatInt.f k bt.1).bind fun t134 => (spec_FormatInt.f k bt.2).bind fun t135 => if t134.size + t135.size ≤ 9223372036854775807 then (if o.length < 8796093022208 then spec_EdgesText.l0 k n e (o ++ [t134 ++ t135]) ((q + 1 : Nat) : Int) else none) else none) (fun k => ?_) (Ev.bind (c_specEdgeAt n h3 h7 (q : Int)) ?_)
      · simp only [spec_EdgesText.l0]
        rw [c_pairs7 n h3 h7, if_pos g0, c_has e q (by omega), hb, gw.out]; rfl
      · rw [hE]
        refine Ev.bind (cS_dig _ hd.1 hd.2.1) (Ev.bind (cS_dig _ hd.2.2.1 hd.2.2.2) ?_)
        simp only [if_pos g5, if_pos g6]
        exact h
    · rw [if_neg hb]
      rw [Bool.not_eq_true] at hb
      refine Ev.step (f := fun k => spec_EdgesText.l0 k n e o ((q + 1 : Nat) : Int)) (fun k => ?_) (ih (q + 1) o (by omega) (by omega) hs)
      simp only [spec_EdgesText.l0]
      rw [c_pairs7 n h3 h7, if_pos g0, c_has e q (by omega), hb, gw.out]; rfl
/-- A set has no edges just if it is 0. -/
theorem cParts_nil (e : Nat) (he : e < 1099511627776) : ∀ (l : List (Nat × Nat)) (q : Nat), q + l.length ≤ 30 → (cParts (e : Int) l q = [] ↔ ∀ i, q ≤ i → i < q + l.length → e.testBit i = false)
  | [], q, _ => ⟨fun _ i h1 h2 => by simp at h2; omega, fun _ => rfl⟩
  | p :: r, q, h => by
    rw [List.length_cons] at h
    have ih := cParts_nil e he r (q + 1) (by omega)
    have hc := c_cBit e q he (by omega)
    simp only [cParts]
    cases hb : e.testBit q with
    | true =>
      rw [hb] at hc
      rw [if_pos hc]
      constructor
      · intro h; exact absurd h (by simp)
      · intro h; have := h q (Nat.le_refl _) (by rw [List.length_cons]; omega); rw [hb] at this; exact Bool.noConfusion this
    | false =>
      rw [hb] at hc
      rw [if_neg (by rw [hc]; simp), ih]
      constructor
      · intro h i h1 h2
        rw [List.length_cons] at h2
        by_cases hi : i = q
        · rw [hi]; exact hb
        · exact h i (by omega) (by omega)
      · intro h i h1 h2
        exact h i (by omega) (by rw [List.length_cons]; omega)
theorem cParts_zero (n : Int) (h3 : 3 ≤ n) (h7 : n ≤ 7) (e : Int) (he : cES n e) : cParts e (cPairs n.toNat) 0 = [] ↔ e = 0 := by
  have hle := c_pairs_le n h3 h7
  unfold cES at he
  obtain ⟨x, rfl⟩ : ∃ x : Nat, e = (x : Int) := ⟨e.toNat, by omega⟩
  have hp : ((2 : Int) ^ (cPairs n.toNat).length) = ((2 ^ (cPairs n.toNat).length : Nat) : Int) := by rw [Int.natCast_pow]; rfl
  have hx : x < 2 ^ (cPairs n.toNat).length := by omega
  have h21 : 2 ^ (cPairs n.toNat).length ≤ 2 ^ 21 := Nat.pow_le_pow_right (by decide) hle
  rw [cParts_nil x (by omega) _ 0 (by omega)]
  constructor
  · intro h
    have : x = 0 := by
      apply Nat.eq_of_testBit_eq
      intro i
      rw [Nat.zero_testBit]
      by_cases hi : i < (cPairs n.toNat).length
      · exact h i (Nat.zero_le _) (by omega)
      · exact Nat.testBit_lt_two_pow (Nat.lt_of_lt_of_le hx (Nat.pow_le_pow_right (by decide) (by omega)))
    rw [this]; rfl
  · intro h i _ _
    have : x = 0 := by omega
    rw [this, Nat.zero_testBit]
theorem cS_ET (n e : Int) : Ev (fun k => spec_EdgesText.f k n e) (cET n e) := by
  unfold spec_EdgesText.f
  by_cases h : 3 ≤ n ∧ n ≤ 7
  · have hl := c_l1InSet n h.1 h.2 e
    rw [c_specAll n h.1 h.2] at hl
    simp only [Option.bind_some] at hl
    simp only [c_in37, decide_eq_true h, Option.bind_some, if_true, c_specAll n h.1 h.2, hl]
    by_cases hs : cES n e
    · rw [show cET n e = _ from if_pos ⟨h.1, h.2, hs⟩]
      simp only [decide_eq_true hs]
      refine Ev.step (f := fun k => spec_EdgesText.l0 k n e [] ((0 : Nat) : Int)) (fun k => by simp only [spec_EdgesText.j0]; rfl) ?_
      have := cS_edges_l n h.1 h.2 e (cPairs n.toNat).length 0 [] (by omega) (by simp) (by simp)
      rw [List.drop_zero, List.nil_append] at this
      have hz := cParts_zero n h.1 h.2 e hs
      by_cases he : e = 0
      · rw [show cEnd (cParts e (cPairs n.toNat) 0) = ⟨#[45]⟩ from if_pos (hz.2 he)] at this
        rw [if_pos he]; exact this
      · rw [show cEnd (cParts e (cPairs n.toNat) 0) = cJn (cParts e (cPairs n.toNat) 0) from if_neg (fun hh => he (hz.1 hh))] at this
        rw [if_neg he]; exact this
    · rw [show cET n e = _ from if_neg (fun hh => hs hh.2.2)]
      simp only [decide_eq_false hs]
      refine Ev.step (f := fun _ => some (⟨#[]⟩ : ByteArray)) (fun k => by simp only [spec_EdgesText.j0]; rfl) (Ev.now _)
  · rw [show cET n e = _ from if_neg (fun hh => h ⟨hh.1, hh.2.1⟩)]
    simp only [c_in37, decide_eq_false h, Option.bind_some, Bool.false_eq_true, if_false]
    refine Ev.step (f := fun _ => some (⟨#[]⟩ : ByteArray)) (fun k => by simp only [spec_EdgesText.j0]; rfl) (Ev.now _)
theorem cI_ET (n e : Int) : Ev (fun k => impl_EdgesText.f k n e) (cET n e) := by
  unfold impl_EdgesText.f
  by_cases h : 3 ≤ n ∧ n ≤ 7
  · simp only [c_isCount, decide_eq_true h, Option.bind_some, if_true, c_areEdges n h.1 h.2]
    by_cases hs : cES n e
    · rw [show cET n e = _ from if_pos ⟨h.1, h.2, hs⟩]
      simp only [decide_eq_true hs]
      by_cases he : e = 0
      · rw [if_pos he]
        refine Ev.step (f := fun _ => some (⟨#[45]⟩ : ByteArray)) (fun k => by simp only [impl_EdgesText.j0, if_pos he]; rfl) (Ev.now _)
      · rw [if_neg he]
        refine Ev.step (f := fun k => (impl_edgesOf.f k n).bind fun t147 => impl_EdgesText.l0 k e ([] : List ByteArray) t147 (t147.length : Int) 0) (fun k => by simp only [impl_EdgesText.j0, if_neg he]; rfl) (Ev.bind (c_edgesOf n h.1 h.2) ?_)
        have := cI_edges_l n h.1 h.2 e (cPairs n.toNat).length 0 [] (by omega) (by simp) (by simp)
        rw [List.drop_zero, List.nil_append] at this
        exact this
    · rw [show cET n e = _ from if_neg (fun hh => hs hh.2.2)]
      simp only [decide_eq_false hs]
      refine Ev.step (f := fun _ => some (⟨#[]⟩ : ByteArray)) (fun k => by simp only [impl_EdgesText.j0]; rfl) (Ev.now _)
  · rw [show cET n e = _ from if_neg (fun hh => h ⟨hh.1, hh.2.1⟩)]
    simp only [c_isCount, decide_eq_false h, Option.bind_some, Bool.false_eq_true, if_false]
    refine Ev.step (f := fun _ => some (⟨#[]⟩ : ByteArray)) (fun k => by simp only [impl_EdgesText.j0]; rfl) (Ev.now _)

end Go.Proofs.YtiimkifkakdalaaDoor.P
namespace Go.Proofs.YtiimkifkakdalaaDoor.Pure
open Go.RowKit Go.Proofs.YtiimkifkakdalaaDoor.P Go.Proofs.YtiimkifkakdalaaDoorW.PrintWords Go.Proofs.YtiimkifkakdalaaDoorW.PrintLast
set_option linter.unusedVariables false

theorem FnExactEdgesText : laws_FnExactEdgesText.Pure := by
  intro n e _ _
  apply Ev.rounds
  unfold laws_FnExactEdgesText.f
  refine Ev.bind (cS_ET n e) (Ev.bind (cI_ET n e) ?_)
  simp only [if_true]
  exact Ev.now _

end Go.Proofs.YtiimkifkakdalaaDoor.Pure
