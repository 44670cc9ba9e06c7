/- For every list of at most 2^20 bytes the law on crossings holds: all that a call of it comes to, and its walk. Conditions: none. -/
import Derived.Test.YtmidcafamppkeaaOLCross
import Derived.Test.YtmidcafamppkeaaCXl
import Derived.Test.YtmidcafamppkeaaCDrX
namespace Go.Proofs.Ytmidcafamppkeaa.P
open Go.RowKit Go.Proofs.YtmidcafamppkeaaW.PrintWords Go.Proofs.YtmidcafamppkeaaW.PrintLast Go.Proofs.YtmidcafamppkeaaW.PrintMore
set_option linter.unusedVariables false
set_option linter.unusedSimpArgs false

theorem y_not (h f : Nat) (hs : ∀ y, h.testBit y = true → f.testBit y = true) : Go.bits .andNot .i64 (h : Int) (f : Int) = 0 := by
  have e : (BitVec.ofInt 64 (h : Int) &&& ~~~BitVec.ofInt 64 (f : Int)) = 0#64 := by
    apply BitVec.eq_of_getLsbD_eq
    intro i hi
    rw [BitVec.getLsbD_and, BitVec.getLsbD_not, BitVec.ofInt_natCast, BitVec.ofInt_natCast, BitVec.getLsbD_ofNat, BitVec.getLsbD_ofNat, BitVec.getLsbD_zero]
    cases hh : h.testBit i with
    | false => simp
    | true => simp [hs i hh]
  show IntKind.i64.wrap ((BitVec.ofInt 64 (h : Int) &&& ~~~BitVec.ofInt 64 (f : Int)).toNat : Int) = 0
  rw [e]; rfl
/-- What holds from some number of rounds on. -/
def Fa (p : Nat → Prop) : Prop := ∃ K, ∀ k, K ≤ k → p k
theorem Fa.and {p q : Nat → Prop} (hp : Fa p) (hq : Fa q) : Fa fun k => p k ∧ q k := by
  obtain ⟨K, h⟩ := hp; obtain ⟨L, g⟩ := hq
  exact ⟨K + L, fun k hk => ⟨h k (by omega), g k (by omega)⟩⟩
theorem Fa.all {p : Prop} {q : Nat → Prop} (h : p → Fa q) : Fa fun k => p → q k := by
  by_cases hp : p
  · obtain ⟨K, g⟩ := h hp; exact ⟨K, fun k hk _ => g k hk⟩
  · exact ⟨0, fun k _ hh => absurd hh hp⟩
theorem laws_FnCrossings.walk (a0 : Option Addr) (len0 cap0 : Nat) (z0 : List Int) (w : World) (w0 : (a0 = none ∧ len0 = 0 ∧ cap0 = 0 ∧ z0 = []) ∨ ∃ x, a0 = some x ∧ len0 ≤ cap0 ∧ cap0 ≤ maxLen ∧ z0.length = cap0 ∧ (∀ i, i < z0.length → w.cell? (x.add i) = some (.int .u8 (z0.getD i 0))) ∧ ∀ n ∈ z0, (Lit.int .u8 n).wf = true) (y0 : len0 * 1 ≤ 140737488351232) :
    Calls Try.prog 3 #[.slice a0 len0 cap0] w fun e w' => e = .returned (.bool true) ∧ Below w.heap.size w w' := by
  obtain ⟨l0, rfl, hr0, hm0, hw0, hc0⟩ := ReadsInt.ofRowC w0
  have hr := Kd.C_of_reads (d := (0 : Int)) (h1 := fun _ => rfl) hr0
  by_cases hl : (l0.length : Int) > 1048576
  · exact laws_FnCrossings.big _ _ l0 w hr hc0 (by unfold laws_big.f; rw [decide_eq_true hl])
  have hb : l0.length ≤ 1048576 := by omega
  have a4 : laws_big.f l0 = some false := by unfold laws_big.f; rw [decide_eq_false hl]
  obtain ⟨n, i, j, d5, rn, ri, rj⟩ := d_DrawEdgeIndex l0 hb
  obtain ⟨m, q, d6, rm, rq⟩ := d_DrawEdgeAt l0 hb
  obtain ⟨sn, st, x0, x1, x2, x3, d9, hS⟩ := d_DrawDoCross l0 hb
  obtain ⟨tn, tt, e, d10, hT⟩ := d_DrawCrossingPairs l0 hb
  obtain ⟨al, d12, r1, r2⟩ := d_DrawAllEdges l0 hb
  obtain ⟨v, s14, s13, t13⟩ := x_ix n i j rn ri rj
  obtain ⟨⟨a, b⟩, s8, s7, u13⟩ := x_ea m q rm rq
  obtain ⟨ae, a19, a18⟩ := x_ae al r1 r2
  have hss : st.size ≤ 1099511627776 := by have := hS.2; omega
  have hts : tt.size ≤ 1099511627776 := by have := hT.2; omega
  obtain ⟨e16, e15⟩ := c_specDoCross sn st hss x0 x1 x2 x3
  have e11 := c_implCrossingPairs tn tt hts e
  have e17 := c_specCrossingPairs tn tt hts e
  have plane : ∀ e, Ev (fun k => impl_IsPlane.f k tn tt e) (cXp tn tt e == 0) := fun e => by
    unfold impl_IsPlane.f
    exact Ev.bind (c_implCrossingPairs tn tt hts e) (Ev.now _)
  have ix : ∀ x y z u, impl_EdgeIndex.f 80 x y z = some u → Ev (fun k => impl_EdgeIndex.f k x y z) u := fun x y z u h => Ev.of (fun k => impl_EdgeIndex.mono _ _ _ k) h
  have b15 : cDc sn st x0 x1 x2 x3 = true → Fa fun k => impl_DoCross.f k sn st x0 x2 x1 x3 = some false ∧ impl_DoCross.f k sn st x2 x3 x1 x0 = some true := fun h => by
    obtain ⟨k1, k2⟩ := x_do sn hS.1.2 st x0 x1 x2 x3 h
    have g1 := (c_specDoCross sn st hss x0 x2 x1 x3).2
    have g2 := (c_specDoCross sn st hss x2 x3 x1 x0).2
    rw [k1] at g1; rw [k2] at g2
    exact Fa.and g1 g2
  have e26 := c_specQuads tn tt hts
  have e28 := c_specHullSize tn tt hts
  have hac : cAcy tn tt = true → Fa fun k => impl_AllEdges.f tn = some ((2 ^ (cPairs tn.toNat).length - 1 : Int)) ∧ impl_CrossingPairs.f k tn tt (2 ^ (cPairs tn.toNat).length - 1 : Int) = some (cQn tn tt) ∧ spec_CountQuads.f k tn tt = some (cQn tn tt) ∧ laws_size.f k (cHullEdges tn tt) = some (cHz tn tt) ∧ spec_HullSize.f k tn tt = some (cHz tn tt) ∧ Go.bits .andNot .i64 (cHullEdges tn tt) (cFreeEdges tn tt) = 0 ∧ impl_IsPlane.f k tn tt (cHullEdges tn tt) = some true ∧ impl_IsPlane.f k tn tt (cFreeEdges tn tt) = some true := fun hA => by
    obtain ⟨p, rfl, h3, h6, hz⟩ := d_acy6 hT hA
    have p0 := Nat.two_pow_pos (cPairs p).length
    have pw : (2 ^ (cPairs p).length : Int) = ((2 ^ (cPairs p).length : Nat) : Int) := by rw [Int.natCast_pow]; rfl
    have eH : cHullEdges (p : Int) tt = ((cHs p tt 0 (cPairs p).length : Nat) : Int) := by unfold cHullEdges; rw [if_pos hA, Int.toNat_natCast]
    have eF : cFreeEdges (p : Int) tt = ((cFs p tt 0 (cPairs p).length : Nat) : Int) := by unfold cFreeEdges; rw [if_pos hA, Int.toNat_natCast]
    have xp : ∀ e : Nat, e < 2 ^ (cPairs p).length → cXp (p : Int) tt (e : Int) = ((cCpairs p tt e : Nat) : Int) := fun e he => by
      unfold cXp
      rw [if_pos ⟨hA, by unfold cES; rw [Int.toNat_natCast, pw]; omega⟩, Int.toNat_natCast, Int.toNat_natCast]
    have hlt := x_hs_lt p tt
    have flt := x_fs_lt p tt
    have g1 := c_implAll (p : Int) (by omega) (by omega)
    have q1 : cXp (p : Int) tt (2 ^ (cPairs p).length - 1 : Int) = cQn (p : Int) tt := by
      have : (2 ^ (cPairs p).length - 1 : Int) = ((2 ^ (cPairs p).length - 1 : Nat) : Int) := by rw [pw]; omega
      rw [this, xp _ (by omega), x_all p h3 h6 tt hA]
      unfold cQn
      rw [if_pos hA, Int.toNat_natCast]
    have g2 := c_implCrossingPairs (p : Int) tt hts (2 ^ (cPairs p).length - 1 : Int)
    rw [q1] at g2
    have z1 : cHz (p : Int) tt = ((cPop (cHs p tt 0 (cPairs p).length) : Nat) : Int) := by
      unfold cHz
      rw [if_pos hA, Int.toNat_natCast, hx_all p h3 h6 tt hA]
    have hl7 : 2 ^ (cPairs p).length ≤ 2 ^ 21 := Nat.pow_le_pow_right (by decide) (by have := c_pairs_le (p : Int) (by omega) (by omega); rwa [Int.toNat_natCast] at this)
    have g3 : Ev (fun k => laws_size.f k (cHullEdges (p : Int) tt)) (cHz (p : Int) tt) := by
      have := q_size (cHs p tt 0 (cPairs p).length) 0 (by omega)
      rw [Nat.zero_add] at this
      rw [z1, eH]
      exact this
    have g4 := plane (cHullEdges (p : Int) tt)
    have g5 := plane (cFreeEdges (p : Int) tt)
    rw [eH, xp _ hlt, x_hull_plane p h3 h6 tt, ← eH] at g4
    rw [eF, xp _ flt, x_free_plane p h3 h6 tt, ← eF] at g5
    rw [Int.toNat_natCast] at g1 ⊢
    obtain ⟨K, hK⟩ := Fa.and g2 (Fa.and e26 (Fa.and g3 (Fa.and e28 (Fa.and g4 g5))))
    refine ⟨K, fun k hk => ?_⟩
    obtain ⟨f2, f3, f4, f5, f6, f7⟩ := hK k hk
    exact ⟨g1, f2, f3, f4, f5, by rw [eH, eF]; exact y_not _ _ (x_hull_in_free p h3 h6 tt), f6, f7⟩
  have b25 : cAcy tn tt = false → cXp tn tt e = -1 := fun h => by
    unfold cXp
    rw [if_neg (fun hh => by rw [h] at hh; exact absurd hh.1 (by decide))]
  have u : 0 ≤ a → Fa fun k => impl_EdgeIndex.f k m b a = some q := fun ha => ix _ _ _ _ (u13.resolve_left (by simp only; omega))
  have s14' : Ev (fun k => spec_EdgeIndex.f k n i j) v := Ev.of (fun k => spec_EdgeIndex.mono _ _ _ k) s14
  have s7' : Ev (fun k => impl_EdgeAt.f k m q) (a, b) := Ev.of (fun k => impl_EdgeAt.mono _ _ k) s7
  have s8' : Ev (fun k => spec_EdgeAt.f k m q) (a, b) := Ev.of (fun k => spec_EdgeAt.mono _ _ k) s8
  obtain ⟨K, hK⟩ := Fa.and d5 (Fa.and d6 (Fa.and s7' (Fa.and s8' (Fa.and d9 (Fa.and d10 (Fa.and e11 (Fa.and d12 (Fa.and (ix _ _ _ _ s13) (Fa.and s14' (Fa.and e15 (Fa.and e16 (Fa.and e17 (Fa.and (c_implHullEdges tn tt hts) (Fa.and (c_specHullEdges tn tt hts) (Fa.and (c_implFreeEdges tn tt hts) (Fa.and (c_specFreeEdges tn tt hts) (Fa.and (plane e) (Fa.and (Fa.all u) (Fa.and (ix _ _ _ _ t13) (Fa.and (Fa.all b15) (Fa.and (c_specAcy tn tt hts) (Fa.all hac))))))))))))))))))))))
  obtain ⟨f5, f6, f7, f8, f9, f10, f11, f12, f13, f14, f15, f16, f17, f20, f21, f22, f23, f24, g13, h13, g15, f25, gac⟩ := hK K (Nat.le_refl K)
  exact laws_FnCrossings.calls K _ _ l0 n i j v m q a b sn x0 x1 x2 x3 tn e _ al ae _ _ _ _ _ st tt _ _ w hr hc0 a4 f5 f6 f7 f8 f9 f10 f11 f12 f13 f14 f15 f16 f17 a18 a19 f20 f21 f22 f23 f24 g13 h13 g15 f25 b25 gac

end Go.Proofs.Ytmidcafamppkeaa.P
