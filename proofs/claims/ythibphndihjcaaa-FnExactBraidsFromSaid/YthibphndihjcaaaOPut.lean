/- spec.l14Put: what a call of it computes. Conditions: the rows that came in are owned, and lie apart from the list that is put among them. -/
import Derived.Test.YthibphndihjcaaaWAll2
import Derived.Test.YthibphndihjcaaaP73
namespace Go.Proofs.Ythibphndihjcaaa.P
open Go.RowKit Go.Proofs.YthibphndihjcaaaW.PrintWords Go.Proofs.YthibphndihjcaaaW.PrintLast Go.Proofs.YthibphndihjcaaaW.PrintMore
set_option linter.unusedVariables false
set_option linter.unusedSimpArgs false

abbrev Zr := (Option Addr × Nat × Nat) × List Int
/-- A slice value by its parts. -/
def slV (p : Option Addr × Nat × Nat) : Value := .slice p.1 p.2.1 p.2.2
def kSl : Kd (Option Addr × Nat × Nat) := Kd.scalar slV (fun _ => rfl)
def slOf : Value → Option Addr × Nat × Nat
  | .slice A n c => (A, n, c)
  | _ => (none, 0, 0)
/-- Rows of numbers, each in its own block. -/
def Rws (w : World) (base : Nat) (ok : Nat → Prop) (zs : List Zr) : Prop :=
  (∀ z ∈ zs, Kd.R (Kd.int .i64) 3 w base ok (slV z.1) z.2) ∧ zs.Pairwise (fun a b => ∀ k, (slV a.1).ownBlock = some k → (slV b.1).ownBlock ≠ some k)
theorem Rws.step {w w1 : World} {base : Nat} {ok : Nat → Prop} {zs : List Zr} (h : Rws w base ok zs) (hm : ∀ k, ok k → k < w.heap.size → w1.heap[k]? = w.heap[k]?) : Rws w1 base ok zs := ⟨fun z hz => Kd.R_step (h.1 z hz) hm, h.2⟩
theorem Rws.mono {w : World} {base : Nat} {ok ok' : Nat → Prop} {zs : List Zr} (h : Rws w base ok zs) (hm : ∀ k, ok k → ok' k) : Rws w base ok' zs := ⟨fun z hz => Kd.R_mono (h.1 z hz) hm, h.2⟩
theorem Rws.perm {w : World} {base : Nat} {ok : Nat → Prop} {zs ys : List Zr} (h : Rws w base ok zs) (hp : zs.Perm ys) : Rws w base ok ys :=
  ⟨fun z hz => h.1 z (hp.mem_iff.mpr hz), hp.pairwise h.2 (fun {a b} hab k hk hk2 => hab k hk2 hk)⟩
theorem Rws.cons {w : World} {base : Nat} {ok ok1 ok2 : Nat → Prop} {zs : List Zr} {z : Zr} (h : Rws w base ok1 zs) (h1 : Kd.R (Kd.int .i64) 3 w base ok2 (slV z.1) z.2) (hd : ∀ k, ok2 k → ¬ ok1 k) (o1 : ∀ k, ok1 k → ok k) (o2 : ∀ k, ok2 k → ok k) : Rws w base ok (z :: zs) :=
  ⟨fun y hy => by
    rcases List.mem_cons.mp hy with rfl | hy
    · exact Kd.R_mono h1 o2
    · exact Kd.R_mono (h.1 y hy) o1,
   List.pairwise_cons.mpr ⟨fun y hy k hk hk2 => hd k (h1.1 k hk) ((h.1 y hy).1 k hk2), h.2⟩⟩
theorem sl_drop (inner : List Value) (j : Nat) (v : Value) (h : (inner.drop (j * 1)).take 1 = [v]) : inner[j]? = some v := by
  rw [Nat.mul_one] at h
  have h2 : ((inner.drop j).take 1)[0]? = some v := by rw [h]; rfl
  rw [List.getElem?_take, if_pos (by decide), List.getElem?_drop, Nat.add_zero] at h2
  exact h2
theorem sl_take (inner : List Value) (j : Nat) (v : Value) (h : inner[j]? = some v) : (inner.drop (j * 1)).take 1 = [v] := by
  rw [Nat.mul_one]
  obtain ⟨hj, rfl⟩ := List.getElem?_eq_some_iff.mp h
  rw [List.drop_eq_getElem_cons hj, List.take_succ_cons, List.take_zero]
/-- Told apart. -/
theorem S_split {w : World} {base : Nat} {ok : Nat → Prop} {v : Value} {xss : List (List Int)} (h : Kd.S (Kd.slice 3 (Kd.int .i64)) 22 w base ok v xss) :
    ∃ zs : List Zr, zs.map (·.2) = xss ∧ Kd.R kSl 22 w base (fun k => ok k ∧ some k = v.ownBlock) v (zs.map (·.1)) ∧ Rws w base (fun k => ok k ∧ some k ≠ v.ownBlock) zs := by
  obtain ⟨f, h0, inner, ho, hl, hr⟩ := h
  rw [List.length_zipIdx] at ho hl
  have hl1 : inner.length = xss.length := hl.trans (Nat.mul_one _)
  have hrow : ∀ (j : Nat) (x : List Int), xss[j]? = some x → ∃ u : Value, inner[j]? = some u ∧ Kd.R (Kd.int .i64) 3 w base (fun k => (ok k ∧ some k ≠ v.ownBlock) ∧ f k = j) u x := by
    intro j x hj
    obtain ⟨u, hu, hR⟩ := hr j (x, j) (Kd.zip_at hj)
    exact ⟨u, sl_drop _ _ _ hu, hR⟩
  have hin : ∀ (j : Nat) (u : Value), inner[j]? = some u → slV (slOf u) = u := by
    intro j u hu
    have hj : j < xss.length := by rw [← hl1]; exact (List.getElem?_eq_some_iff.mp hu).1
    obtain ⟨u', hu', hR⟩ := hrow j _ (List.getElem?_eq_getElem hj)
    rw [hu] at hu'
    obtain rfl := Option.some.inj hu'
    obtain ⟨A, c, rfl⟩ := Kd.R_slice hR
    rfl
  have hzl : ((inner.map slOf).zip xss).length = xss.length := by rw [List.length_zip, List.length_map, hl1, Nat.min_self]
  have hz1 : ((inner.map slOf).zip xss).map (·.1) = inner.map slOf := List.map_fst_zip (by rw [List.length_map, hl1]; exact Nat.le_refl _)
  have hz2 : ((inner.map slOf).zip xss).map (·.2) = xss := List.map_snd_zip (by rw [List.length_map, hl1]; exact Nat.le_refl _)
  have hcell : (inner.map slOf).map slV = inner := by
    rw [List.map_map]
    refine List.ext_getElem? (fun j => ?_)
    rw [List.getElem?_map]
    cases q : inner[j]? with
    | none => rfl
    | some u => exact congrArg some (hin j u q)
  have hget : ∀ (j : Nat) (z : Zr), ((inner.map slOf).zip xss)[j]? = some z → Kd.R (Kd.int .i64) 3 w base (fun k => (ok k ∧ some k ≠ v.ownBlock) ∧ f k = j) (slV z.1) z.2 := by
    intro j z hz
    rw [List.getElem?_zip_eq_some] at hz
    obtain ⟨e1, e2⟩ := hz
    obtain ⟨u, hu, hR⟩ := hrow j z.2 e2
    rw [List.getElem?_map, hu] at e1
    obtain e1 := Option.some.inj e1
    rw [← e1, hin j u hu]
    exact hR
  refine ⟨(inner.map slOf).zip xss, hz2, ?_, ?_, ?_⟩
  · rw [hz1]
    refine ⟨fun k hk => ⟨h0 k hk, hk.symm⟩, inner, ?_, ?_, fun j p hj => ?_⟩
    · rw [List.length_map, hl1]; exact ho
    · rw [List.length_map]; exact (Nat.mul_one _).symm
    · rw [List.getElem?_map] at hj
      obtain ⟨u, hu, rfl⟩ := Option.map_eq_some_iff.mp hj
      show (inner.drop (j * 1)).take 1 = [slV (slOf u)]
      rw [hin j u hu]
      exact sl_take _ _ _ hu
  · intro z hz
    obtain ⟨j, hj⟩ := List.mem_iff_getElem?.mp hz
    exact Kd.R_mono (hget j z hj) (fun _ hk => hk.1)
  · refine List.pairwise_iff_getElem.mpr (fun i j hi hj hij k hk hk2 => ?_)
    have h1 := hget i _ (List.getElem?_eq_getElem hi)
    have h2 := hget j _ (List.getElem?_eq_getElem hj)
    have e1 := (h1.1 k hk).2
    have e2 := (h2.1 k hk2).2
    omega
/-- And back. -/
theorem S_join {w : World} {base : Nat} {ok okv okr : Nat → Prop} {v : Value} {zs : List Zr} (hv : Kd.R kSl 22 w base okv v (zs.map (·.1))) (hr : Rws w base okr zs) (ov : ∀ k, okv k → ok k) (or_ : ∀ k, okr k → ok k ∧ some k ≠ v.ownBlock) :
    Kd.S (Kd.slice 3 (Kd.int .i64)) 22 w base ok v (zs.map (·.2)) := by
  obtain ⟨h0, inner, ho, hl, hc⟩ := hv
  rw [List.length_map] at ho hl
  have hap : ∀ i j k : Nat, (∃ z : Zr, zs[i]? = some z ∧ (slV z.1).ownBlock = some k) → (∃ z : Zr, zs[j]? = some z ∧ (slV z.1).ownBlock = some k) → i = j := by
    rintro i j k ⟨z, hz, hk⟩ ⟨y, hy, hk2⟩
    obtain ⟨hi, rfl⟩ := List.getElem?_eq_some_iff.mp hz
    obtain ⟨hj, rfl⟩ := List.getElem?_eq_some_iff.mp hy
    rcases Nat.lt_trichotomy i j with h | h | h
    · exact absurd hk2 (List.pairwise_iff_getElem.mp hr.2 i j hi hj h k hk)
    · exact h
    · exact absurd hk (List.pairwise_iff_getElem.mp hr.2 j i hj hi h k hk2)
  obtain ⟨f, hf⟩ := Kd.reps_tag (d := Kd.slice 3 (Kd.int .i64)) (w := w) (base := base) (ok := fun k => ok k ∧ some k ≠ v.ownBlock) (xs := zs.map (·.2)) (inner := inner) (fun j k => ∃ z : Zr, zs[j]? = some z ∧ (slV z.1).ownBlock = some k) hap
    (fun j k hk => by
      obtain ⟨z, hz, hk⟩ := hk
      exact or_ k ((hr.1 z (List.mem_of_getElem? hz)).1 k hk))
    (by rw [List.length_map]; exact hl)
    (fun j x hj => by
      rw [List.getElem?_map] at hj
      obtain ⟨z, hz, rfl⟩ := Option.map_eq_some_iff.mp hj
      have hc2 := hc j z.1 (by rw [List.getElem?_map, hz]; rfl)
      refine ⟨slV z.1, hc2, Kd.R_mono (Kd.R_tight rfl (hr.1 z (List.mem_of_getElem? hz))) (fun k hk => ⟨z, hz, hk.symm⟩)⟩)
  exact ⟨f, fun k hk => ov k (h0 k hk), inner, by rw [List.length_zipIdx, List.length_map]; exact ho, hf⟩

end Go.Proofs.Ythibphndihjcaaa.P
namespace Go.Proofs.Ythibphndihjcaaa.P
open Go.RowKit Go.Proofs.YthibphndihjcaaaW.PrintWords Go.Proofs.YthibphndihjcaaaW.PrintLast Go.Proofs.YthibphndihjcaaaW.PrintMore
set_option linter.unusedVariables false
set_option linter.unusedSimpArgs false

/-- Where the list is put. -/
def spec_l14Put.l0 : Nat → List (List Int) → List Int → Int → Option Int
  | 0, _, _, _ => none
  | k + 1, l, x, p => if 0 < p then (if 0 ≤ p - 1 ∧ p - 1 < (l.length : Int) then ((spec_l14Less.f k x (l.getD (p - 1).toNat [])).bind fun b => if b = true then spec_l14Put.l0 k l x (p - 1) else some p) else none) else some p
def spec_l14Put.f (k : Nat) (l : List (List Int)) (x : List Int) : Option (List (List Int)) := (spec_l14Put.l0 k l x (l.length : Int)).bind fun p => if 0 ≤ p ∧ p ≤ (l.length : Int) ∧ l.length < 1000000 then some (l.take p.toNat ++ x :: l.drop p.toNat) else none
theorem spec_l14Put.mono_l : ∀ k, (∀ y0 y1 y2, LeO (spec_l14Put.l0 k y0 y1 y2) (spec_l14Put.l0 (k + 1) y0 y1 y2))
  | 0 => fun _ _ _ r h => by simp [spec_l14Put.l0] at h
  | k + 1 => by
    have ih0 := spec_l14Put.mono_l k
    intro y0 y1 y2
    unfold spec_l14Put.l0
    repeat' first
      | (with_reducible exact ih0 _ _ _)
      | (with_reducible exact spec_l14Less.mono _ _ _)
      | (with_reducible exact LeO.refl _)
      | (with_reducible refine LeO.ite ?_ ?_)
      | (with_reducible refine LeO.bind ?_ (fun _ => ?_))
theorem spec_l14Put.mono : ∀ a0 a1 k, LeO (spec_l14Put.f k a0 a1) (spec_l14Put.f (k + 1) a0 a1) := by
  intro a0 a1 k
  unfold spec_l14Put.f
  exact LeO.bind (spec_l14Put.mono_l k _ _ _) (fun _ => LeO.refl _)
theorem own_len (A : Option Addr) (x y c : Nat) : (Value.slice A x c).ownBlock = (Value.slice A y c).ownBlock := by cases A <;> simp [Value.ownBlock]
/-- The last part: the list is cut and put together again. -/
def putQ (w0 w : World) (v : Value) (ps : List (Option Addr × Nat × Nat)) (pu : Option Addr × Nat × Nat) (p : Nat) (e : Ending) (w' : World) : Prop :=
  ∃ v' : Value, e = .returned v' ∧ Kd.R kSl 22 w' w0.heap.size (fun k => some k = v.ownBlock ∨ w.heap.size ≤ k) v' (ps.take p ++ [pu] ++ ps.drop p) ∧ Below w0.heap.size w0 w' ∧ Kept w w' (fun k => some k = v.ownBlock)
theorem putQ_end {w0 w w1 w26 w32 w34 : World} {Ao : Option Addr} {n m co : Nat} {v32 v34 : Value} {ps : List (Option Addr × Nat × Nat)} {pu : Option Addr × Nat × Nat} {p : Nat} (h1 : Below w.heap.size w w1) (h2 : Below w1.heap.size w1 w26) (h3 : w26.grownBy w32 (Value.slice Ao m co).ownBlock) (ht : v32.ownBlock = (Value.slice Ao m co).ownBlock ∨ ∃ b, v32.ownBlock = some b ∧ w26.heap.size ≤ b) (h4 : w32.grownBy w34 v32.ownBlock)
    (hR : Kd.R kSl 22 w34 w0.heap.size (fun k => some k = (.slice Ao n co : Value).ownBlock ∨ w.heap.size ≤ k) v34 (ps.take p ++ [pu] ++ ps.drop p)) (hB : Below w0.heap.size w0 w34) : putQ w0 w (.slice Ao n co) ps pu p (.returned v34) w34 := by
  refine ⟨v34, rfl, hR, hB, Nat.le_trans (below_size h1) (Nat.le_trans (below_size h2) (Nat.le_trans h3.size h4.size)), fun i hi hne => ?_⟩
  have a1 := below_size h1
  have a2 := below_size h2
  have a3 := h3.size
  have e1 : some i ≠ (Value.slice Ao m co).ownBlock := fun he => hne (by rw [own_len Ao n m co]; exact he)
  refine (h4.block i (by omega) (fun he => ?_)).trans ((h3.block i (by omega) e1).trans ((h2.block i (by omega)).trans (h1.block i hi)))
  rcases ht with ht | ⟨b, hb, hle⟩
  · exact e1 (by rw [← ht]; exact he)
  · rw [hb] at he
    have : i = b := Option.some.inj he
    omega
set_option maxHeartbeats 8000000 in
set_option maxRecDepth 100000 in
theorem spec_l14Put.raw (k : Nat) (v : Value) (ps : List (Option Addr × Nat × Nat)) (pu : Option Addr × Nat × Nat) (x : List Int) (l : List (List Int)) (q : Int) (w0 w : World) (hB : Below w0.heap.size w0 w) (hR : Kd.R kSl 22 w w0.heap.size (fun k => some k = v.ownBlock) v ps)
    (hx : pu.2.1 = x.length ∧ x.length ≤ pu.2.2 ∧ Kd.C (Kd.int .i64) w pu.1 x.length x) (hl : ∀ (j : Nat) (r : List Int), l[j]? = some r → ∃ z : Option Addr × Nat × Nat, ps[j]? = some z ∧ z.2.1 = r.length ∧ r.length ≤ z.2.2 ∧ Kd.C (Kd.int .i64) w z.1 r.length r) (hpl : ps.length = l.length)
    (h : spec_l14Put.l0 k l x (l.length : Int) = some q) (hq : 0 ≤ q ∧ q ≤ (l.length : Int) ∧ l.length < 1000000) :
    Calls Try.prog 74 #[v, slV pu] w fun e w' => putQ w0 w v ps pu q.toNat e w' := by
  obtain ⟨Ao, co, e0⟩ := Kd.R_slice hR
  subst e0
  obtain ⟨Au, nu, cu⟩ := pu
  obtain ⟨rfl, hxc, hxC⟩ := hx
  have hv : slV (Au, x.length, cu) = .slice Au x.length cu := rfl
  have HR := Aside0.mk hR
  have HX := Aside0.mk (And.intro hxc hxC)
  have HL := Aside0.mk hl
  have HPL := Aside0.mk hpl
  have HB := Aside0.mk hB
  have HQ := Aside0.mk hq
  have H' := Aside0.mk h
  clear hR hxc hxC hl hpl hB hq h
  go_enter Try.func74, Try.ntmps74
  go_wp2
  go_loopg [5] k (fun kq v5 w' => ∃ (p : Int), v5 = .int .i64 p ∧ Aside0 (spec_l14Put.l0 kq l x p = some q) ∧ Aside0 (kq ≤ k) ∧ Aside0 (0 ≤ p ∧ p ≤ (l.length : Int)) ∧ Aside0 (Below w.heap.size w w'))
  case atStart => exact ⟨(l.length : Int), by rw [HPL.out], H', ⟨Nat.le_refl _⟩, ⟨by omega⟩, ⟨Below.refl _ _⟩⟩
  case round =>
    clear H'
    obtain ⟨p, rfl, HA, HK1, HPR, HBw⟩ := hrel
    cases gk with
    | zero => exact absurd HA.out (by simp [spec_l14Put.l0])
    | succ k1 =>
      have H := HA.out
      clear HA
      simp only [spec_l14Put.l0] at H
      by_cases c4 : 0 < p
      case neg =>
        rw [if_neg c4] at H
        obtain rfl := Option.some.inj H
        have c4b : decide (0 < p) = false := decide_eq_false c4
        have HO := Aside0.mk (Kd.R_below HR.out HBw.out)
        clear H c4 HK1
        generalize wr = w6 at HO HBw ⊢
        obtain ⟨i0, hi0, _, hsz0, _⟩ := info_parts info22
        have hpl2 : p ≤ (ps.length : Int) := by rw [HPL.out]; exact HPR.out.2
        have HP := Aside0.mk (show 0 ≤ p ∧ p.toNat ≤ ps.length ∧ ps.length < 1000000 from ⟨HPR.out.1, by omega, by rw [HPL.out]; exact HQ.out.2.2⟩)
        have hcF := cut_from (P := Try.prog) 34 22 .i64 Try.underlying34 hi0 1 hsz0 Ao ps.length co p HPR.out.1 hpl2
        have hcT := cut_to (P := Try.prog) 34 22 .i64 Try.underlying34 hi0 Ao ps.length co p HPR.out.1 hpl2 (Kd.R_reads' HO.out).2.1
        obtain ⟨AD, hAD⟩ : ∃ A1, A1 = (if co = p.toNat then Ao else Ao.map (·.add (p.toNat * 1))) := ⟨_, rfl⟩
        obtain ⟨cD, hcD⟩ : ∃ c1, c1 = co - p.toNat := ⟨_, rfl⟩
        obtain ⟨dr, hdr⟩ : ∃ d1, d1 = ps.drop p.toNat := ⟨_, rfl⟩
        obtain ⟨tk, htk⟩ : ∃ d1, d1 = ps.take p.toNat := ⟨_, rfl⟩
        have HD := Aside0.mk (show dr = ps.drop p.toNat ∧ dr.length ≤ ps.length ∧ tk = ps.take p.toNat ∧ tk.length ≤ ps.length from ⟨hdr, by rw [hdr, List.length_drop]; omega, htk, by rw [htk, List.length_take]; omega⟩)
        rw [← hAD, ← hcD, show ps.length - p.toNat = dr.length from by rw [hdr, List.length_drop]] at hcF
        clear hdr htk
        have KAD := Aside0.mk (show AD = (if co = p.toNat then Ao else Ao.map (·.add (p.toNat * kSl.sz))) from hAD)
        have p2 := eq_true HPR.out.1
        have q2 := eq_true hpl2
        clear hAD hcD hi0 hsz0 hpl2
        go_wp2_with (first | ((with_reducible refine gate_dst (N := 22) rfl ?_); refine Kd.R_lit kSl _ 22 ?hg (N := 22) ?hd (xs := ([] : List (Option Addr × Nat × Nat))) (inner := []) (ok := fun _ => True) (okp := fun _ => True) ?hr ?hp (fun _ hk => hk) trivial (Below.refl _ _) (Nat.le_refl _) (by simp) ?_; (case hd => rfl); (case hg => rfl); (case hr => first | (go_simp; done) | (go_simp; rfl)); (case hp => exact (Reps.none _ _)); intro v22 w22 ho hb hg_ hnew_; clear hg_ hnew_; have H22 := Aside0.mk ho; have B22 := Aside0.mk hb; clear ho hb) | ((with_reducible refine gate_builtin (b := .append) (xs := #[.tmp 22, .tmp 25]) rfl ?_); at_builtin; refine Kd.R_append_rows kSl (w0 := w6) w6.heap.size rfl (.tmp 22) (.tmp 25) 34 22 (.slice none 0 0) 24 rfl Try.underlying34 info22 rfl (by decide) (by omega) v22 [] dr AD dr.length cD (fun _ => True) (fun _ => False) rfl rfl ?aO ?aR (fun _ _ h => h) (fun _ h => h.elim) ?aF ?aB ?aS ?aL ?_; (case aR => rw [KAD.out]; rw [HD.out.1]; exact Kd.C_below (Kd.C_drop (k := kSl) (c := co) (Kd.R_reads' HO.out).2.2 HP.out.2.1 (Kd.R_reads' HO.out).2.1) B22.out); (case aB => exact B22.out); (case aF => exact (fun _ _ => trivial)); (case aO => exact H22.out); (case aS => exact below_size B22.out); (case aL => have h1 := HP.out.2.2; have h2 := HD.out.2.1; simp only [List.length_nil]; omega); intro v26 w26 ho hb hg_ hat_; clear hg_ hat_; rw [List.nil_append] at ho; have H26 := Aside0.mk ho; have B26 := Aside0.mk hb; clear ho hb H22 B22; obtain ⟨A26, c26, e26⟩ := Kd.R_slice H26.out; subst e26) | ((with_reducible refine gate_builtin (b := .append) (xs := #[.tmp 29, .tmp 31]) rfl ?_); at_builtin; refine Kd.R_append kSl (w0 := w0) w0.heap.size rfl (.tmp 29) (.tmp 31) 34 22 (.slice none 0 0) 24 rfl Try.underlying34 info22 rfl (by decide) (by omega) (.slice Ao p.toNat co) tk (Au, x.length, cu) [.slice Au x.length cu] (fun k => (some k = (.slice Ao ps.length co : Value).ownBlock ∨ w.heap.size ≤ k) ∧ some k ≠ (.slice A26 dr.length c26 : Value).ownBlock) (fun _ => False) rfl rfl ?aP (fun _ hk => hk.elim) ?aF ?aO ?aB ?aS ?aL ?_; (case aP => exact rfl); (case aB => exact below_then (below_then HB.out HB.out.size HBw.out) (Nat.le_trans HB.out.size (below_size HBw.out)) B26.out); (case aF => exact fun k hk => ⟨.inr (Nat.le_trans (below_size HBw.out) (Nat.le_trans (below_size B26.out) hk)), fun he => by have := Kd.R_lt H26.out k he.symm; omega⟩); (case aO => exact Kd.R_mono (Kd.R_bound (HD.out.2.2.1 ▸ Kd.R_take (Kd.R_below HO.out B26.out) HP.out.2.1)) (fun k hk => ⟨.inl hk.1, fun he => by have h1 := Kd.R_base H26.out k he.symm; have h2 := Kd.R_lt HO.out k hk.1.symm; omega⟩)); (case aS => exact Nat.le_trans (Nat.le_trans HB.out.size (below_size HBw.out)) (below_size B26.out)); (case aL => have h1 := HP.out.2.2; have h2 := HD.out.2.2.2; omega); intro v32 w32 ho hb hg hat; have H32 := Aside0.mk ho; have B32 := Aside0.mk hb; have G32 := Aside0.mk hg; have T32 := Aside0.mk hat; have H33 := Aside0.mk (Kd.R_grown (Kd.R_bound H26.out) hg (fun k hk he => by have h1 := hk.2.1; have h2 := Kd.R_lt HO.out k (by rw [own_len Ao ps.length p.toNat co]; exact he.symm); omega)); clear ho hb hg hat) | ((with_reducible refine gate_builtin (b := .append) (xs := #[.tmp 32, .tmp 33]) rfl ?_); at_builtin; refine Kd.R_append_rows kSl (w0 := w0) w0.heap.size rfl (.tmp 32) (.tmp 33) 34 22 (.slice none 0 0) 24 rfl Try.underlying34 info22 rfl (by decide) (by omega) v32 (tk ++ [(Au, x.length, cu)]) dr A26 dr.length c26 (fun k => some k = (.slice Ao ps.length co : Value).ownBlock ∨ w.heap.size ≤ k) (fun _ => False) rfl rfl ?aO ?aR (fun _ _ h => h) (fun _ h => h.elim) ?aF ?aB ?aS ?aL ?_; (case aR => exact (Kd.R_reads' H33.out).2.2); (case aB => exact B32.out); (case aF => exact fun k hk => .inr (Nat.le_trans (below_size HBw.out) (Nat.le_trans (below_size B26.out) (Nat.le_trans G32.out.size hk)))); (case aO => exact Kd.R_mono H32.out (fun k hk => hk.1)); (case aS => exact B32.out.size); (case aL => have h1 := HP.out.2.2; have h2 := HD.out.2.1; have h3 := HD.out.2.2.2; rw [List.length_append, List.length_singleton]; omega); intro v34 w34 ho hb hg hat; have H34 := Aside0.mk ho; have B34 := Aside0.mk hb; have G34 := Aside0.mk hg; clear ho hb hg hat))
        go_ret
        exact putQ_end HBw.out B26.out G32.out T32.out G34.out (by rw [← HD.out.1, ← HD.out.2.2.1]; exact H34.out) B34.out
      case pos =>
        rw [if_pos c4] at H
        have c4b : decide (0 < p) = true := decide_eq_true c4
        by_cases c5 : 0 ≤ p - 1 ∧ p - 1 < (l.length : Int)
        case neg => rw [if_neg c5] at H; exact absurd H (by simp)
        rw [if_pos c5] at H
        obtain ⟨b, A6, H⟩ := Option.bind_eq_some_iff.mp H
        replace A6 := Aside0.mk A6
        obtain ⟨j, hj⟩ : ∃ j : Int, p - 1 = j := ⟨_, rfl⟩
        rw [hj] at H c5 A6
        have hjv : wrap64 (p - 1) = j := by
          have h1 := HQ.out.2.2
          have h2 := HPR.out.2
          rw [← hj]
          unfold wrap64; omega
        have hjw : IntKind.i64.wrap (p - 1) = j := (i64_w _).trans hjv
        have HJ := Aside0.mk hj
        have HO := Aside0.mk (Kd.R_below HR.out HBw.out)
        have hjp : j < (ps.length : Int) := by rw [HPL.out]; exact c5.2
        obtain ⟨g, cg, eg, _, _, _⟩ := Kd.R_form HO.out (by omega)
        cases eg
        obtain ⟨hc1, _⟩ := Kd.R_celln (none, 0, 0) HO.out j c5.1 hjp
        obtain ⟨⟨Az, nz, cz⟩, hz1, hz2, hz3, hz4⟩ := HL.out j.toNat (l.getD j.toNat []) (by rw [List.getD_eq_getElem?_getD, List.getElem?_eq_getElem (by have h1 := c5.1; have h2 := c5.2; omega)]; rfl)
        obtain rfl : nz = (l.getD j.toNat []).length := hz2
        have hrd : rdOf (none, 0, 0) ps j = (Az, (l.getD j.toNat []).length, cz) := by unfold rdOf; rw [List.getD_eq_getElem?_getD, hz1]; rfl
        rw [hrd] at hc1
        generalize l.getD j.toNat [] = y at A6 hc1 hz1 hz3 hz4
        replace hc1 : wr.cell? ⟨g, j.toNat, none⟩ = some (.slice Az y.length cz) := hc1
        have HZ := Aside0.mk (And.intro hz3 (Kd.C_below hz4 HBw.out))
        have HXr := Aside0.mk (Kd.C_below HX.out.2 HBw.out)
        have p1 := eq_true c5.1
        have q1 : (j < (ps.length : Int)) = True := eq_true hjp
        clear c4 c5 hjp hrd hz1 hz3 hz4 hj
        cases b with
        | true =>
          rw [if_pos rfl] at H
          have H' := Aside0.mk H
          clear H
          go_wp2_with (first | (go_at_call 89; (with_reducible refine (spec_l14Less.calls k1 Au cu x Az cz y _ _ HXr.out HX.out.1 HZ.out.2 HZ.out.1 A6.out).mono ?_); rintro e w6 ⟨rfl, hd⟩; have n0_ := Aside0.mk (below_then HBw.out (below_size HBw.out) hd.below); have n1_ := Aside0.mk (Kd.R_below HO.out hd.below); clear HBw HO hd hc1; have HBw := n0_; have HO := n1_; clear n0_ n1_))
          go_roundg k1
          case measure => have := HK1.out; omega
          case rel => exact ⟨j, by first | rfl | (simp only [hjw]) | (simp [hjw]), H', ⟨by have := HK1.out; omega⟩, ⟨by have h1 := of_eq_true p1; have h2 := of_eq_true q1; have h3 := HPL.out; omega⟩, HBw⟩
        | false =>
          rw [if_neg (by simp)] at H
          obtain rfl := Option.some.inj H
          clear H
          obtain ⟨i0, hi0, _, hsz0, _⟩ := info_parts info22
          have hpl2 : p ≤ (ps.length : Int) := by rw [HPL.out]; exact HPR.out.2
          have HP := Aside0.mk (show 0 ≤ p ∧ p.toNat ≤ ps.length ∧ ps.length < 1000000 from ⟨HPR.out.1, by omega, by rw [HPL.out]; exact HQ.out.2.2⟩)
          have hcF := cut_from (P := Try.prog) 34 22 .i64 Try.underlying34 hi0 1 hsz0 (some ⟨g, 0, none⟩ : Option Addr) ps.length co p HPR.out.1 hpl2
          have hcT := cut_to (P := Try.prog) 34 22 .i64 Try.underlying34 hi0 (some ⟨g, 0, none⟩ : Option Addr) ps.length co p HPR.out.1 hpl2 (Kd.R_reads' HO.out).2.1
          obtain ⟨AD, hAD⟩ : ∃ A1, A1 = (if co = p.toNat then (some ⟨g, 0, none⟩ : Option Addr) else (some ⟨g, 0, none⟩ : Option Addr).map (·.add (p.toNat * 1))) := ⟨_, rfl⟩
          obtain ⟨cD, hcD⟩ : ∃ c1, c1 = co - p.toNat := ⟨_, rfl⟩
          obtain ⟨dr, hdr⟩ : ∃ d1, d1 = ps.drop p.toNat := ⟨_, rfl⟩
          obtain ⟨tk, htk⟩ : ∃ d1, d1 = ps.take p.toNat := ⟨_, rfl⟩
          have HD := Aside0.mk (show dr = ps.drop p.toNat ∧ dr.length ≤ ps.length ∧ tk = ps.take p.toNat ∧ tk.length ≤ ps.length from ⟨hdr, by rw [hdr, List.length_drop]; omega, htk, by rw [htk, List.length_take]; omega⟩)
          rw [← hAD, ← hcD, show ps.length - p.toNat = dr.length from by rw [hdr, List.length_drop]] at hcF
          clear hdr htk
          have KAD := Aside0.mk (show AD = (if co = p.toNat then (some ⟨g, 0, none⟩ : Option Addr) else (some ⟨g, 0, none⟩ : Option Addr).map (·.add (p.toNat * kSl.sz))) from hAD)
          have p2 := eq_true HPR.out.1
          have q2 := eq_true hpl2
          clear hAD hcD hi0 hsz0 hpl2
          go_wp2_with (first | ((with_reducible refine gate_dst (N := 22) rfl ?_); refine Kd.R_lit kSl _ 22 ?hg (N := 22) ?hd (xs := ([] : List (Option Addr × Nat × Nat))) (inner := []) (ok := fun _ => True) (okp := fun _ => True) ?hr ?hp (fun _ hk => hk) trivial (Below.refl _ _) (Nat.le_refl _) (by simp) ?_; (case hd => rfl); (case hg => rfl); (case hr => first | (go_simp; done) | (go_simp; rfl)); (case hp => exact (Reps.none _ _)); intro v22 w22 ho hb hg_ hnew_; clear hg_ hnew_; have H22 := Aside0.mk ho; have B22 := Aside0.mk hb; clear ho hb) | ((with_reducible refine gate_builtin (b := .append) (xs := #[.tmp 22, .tmp 25]) rfl ?_); at_builtin; refine Kd.R_append_rows kSl (w0 := w6) w6.heap.size rfl (.tmp 22) (.tmp 25) 34 22 (.slice none 0 0) 24 rfl Try.underlying34 info22 rfl (by decide) (by omega) v22 [] dr AD dr.length cD (fun _ => True) (fun _ => False) rfl rfl ?aO ?aR (fun _ _ h => h) (fun _ h => h.elim) ?aF ?aB ?aS ?aL ?_; (case aR => rw [KAD.out]; rw [HD.out.1]; exact Kd.C_below (Kd.C_drop (k := kSl) (c := co) (Kd.R_reads' HO.out).2.2 HP.out.2.1 (Kd.R_reads' HO.out).2.1) B22.out); (case aB => exact B22.out); (case aF => exact (fun _ _ => trivial)); (case aO => exact H22.out); (case aS => exact below_size B22.out); (case aL => have h1 := HP.out.2.2; have h2 := HD.out.2.1; simp only [List.length_nil]; omega); intro v26 w26 ho hb hg_ hat_; clear hg_ hat_; rw [List.nil_append] at ho; have H26 := Aside0.mk ho; have B26 := Aside0.mk hb; clear ho hb H22 B22; obtain ⟨A26, c26, e26⟩ := Kd.R_slice H26.out; subst e26) | ((with_reducible refine gate_builtin (b := .append) (xs := #[.tmp 29, .tmp 31]) rfl ?_); at_builtin; refine Kd.R_append kSl (w0 := w0) w0.heap.size rfl (.tmp 29) (.tmp 31) 34 22 (.slice none 0 0) 24 rfl Try.underlying34 info22 rfl (by decide) (by omega) (.slice (some ⟨g, 0, none⟩) p.toNat co) tk (Au, x.length, cu) [.slice Au x.length cu] (fun k => (some k = (.slice (some ⟨g, 0, none⟩) ps.length co : Value).ownBlock ∨ w.heap.size ≤ k) ∧ some k ≠ (.slice A26 dr.length c26 : Value).ownBlock) (fun _ => False) rfl rfl ?aP (fun _ hk => hk.elim) ?aF ?aO ?aB ?aS ?aL ?_; (case aP => exact rfl); (case aB => exact below_then (below_then HB.out HB.out.size HBw.out) (Nat.le_trans HB.out.size (below_size HBw.out)) B26.out); (case aF => exact fun k hk => ⟨.inr (Nat.le_trans (below_size HBw.out) (Nat.le_trans (below_size B26.out) hk)), fun he => by have := Kd.R_lt H26.out k he.symm; omega⟩); (case aO => exact Kd.R_mono (Kd.R_bound (HD.out.2.2.1 ▸ Kd.R_take (Kd.R_below HO.out B26.out) HP.out.2.1)) (fun k hk => ⟨.inl hk.1, fun he => by have h1 := Kd.R_base H26.out k he.symm; have h2 := Kd.R_lt HO.out k hk.1.symm; omega⟩)); (case aS => exact Nat.le_trans (Nat.le_trans HB.out.size (below_size HBw.out)) (below_size B26.out)); (case aL => have h1 := HP.out.2.2; have h2 := HD.out.2.2.2; omega); intro v32 w32 ho hb hg hat; have H32 := Aside0.mk ho; have B32 := Aside0.mk hb; have G32 := Aside0.mk hg; have T32 := Aside0.mk hat; have H33 := Aside0.mk (Kd.R_grown (Kd.R_bound H26.out) hg (fun k hk he => by have h1 := hk.2.1; have h2 := Kd.R_lt HO.out k (by rw [own_len (some ⟨g, 0, none⟩) ps.length p.toNat co]; exact he.symm); omega)); clear ho hb hg hat) | ((with_reducible refine gate_builtin (b := .append) (xs := #[.tmp 32, .tmp 33]) rfl ?_); at_builtin; refine Kd.R_append_rows kSl (w0 := w0) w0.heap.size rfl (.tmp 32) (.tmp 33) 34 22 (.slice none 0 0) 24 rfl Try.underlying34 info22 rfl (by decide) (by omega) v32 (tk ++ [(Au, x.length, cu)]) dr A26 dr.length c26 (fun k => some k = (.slice (some ⟨g, 0, none⟩) ps.length co : Value).ownBlock ∨ w.heap.size ≤ k) (fun _ => False) rfl rfl ?aO ?aR (fun _ _ h => h) (fun _ h => h.elim) ?aF ?aB ?aS ?aL ?_; (case aR => exact (Kd.R_reads' H33.out).2.2); (case aB => exact B32.out); (case aF => exact fun k hk => .inr (Nat.le_trans (below_size HBw.out) (Nat.le_trans (below_size B26.out) (Nat.le_trans G32.out.size hk)))); (case aO => exact Kd.R_mono H32.out (fun k hk => hk.1)); (case aS => exact B32.out.size); (case aL => have h1 := HP.out.2.2; have h2 := HD.out.2.1; have h3 := HD.out.2.2.2; rw [List.length_append, List.length_singleton]; omega); intro v34 w34 ho hb hg hat; have H34 := Aside0.mk ho; have B34 := Aside0.mk hb; have G34 := Aside0.mk hg; clear ho hb hg hat) | (go_at_call 89; (with_reducible refine (spec_l14Less.calls k1 Au cu x Az cz y _ _ HXr.out HX.out.1 HZ.out.2 HZ.out.1 A6.out).mono ?_); rintro e w6 ⟨rfl, hd⟩; have n0_ := Aside0.mk (below_then HBw.out (below_size HBw.out) hd.below); have n1_ := Aside0.mk (Kd.R_below HO.out hd.below); clear HBw HO hd hc1; have HBw := n0_; have HO := n1_; clear n0_ n1_))
          go_ret
          exact putQ_end HBw.out B26.out G32.out T32.out G34.out (by rw [← HD.out.1, ← HD.out.2.2.1]; exact H34.out) B34.out


theorem spec_l14Put.calls (k : Nat) (v u : Value) (l : List (List Int)) (x : List Int) (r : List (List Int)) (w0 w : World) (P0 Pu : Nat → Prop) (hB : Below w0.heap.size w0 w) (hS : Kd.S (Kd.slice 3 (Kd.int .i64)) 22 w w0.heap.size P0 v l) (hx : Kd.R (Kd.int .i64) 3 w w0.heap.size Pu u x) (hd : ∀ k, Pu k → ¬ P0 k) (h : spec_l14Put.f k l x = some r) :
    Calls Try.prog 74 #[v, u] w fun e w' => ∃ v' : Value, e = .returned v' ∧ Kd.S (Kd.slice 3 (Kd.int .i64)) 22 w' w0.heap.size (fun k => P0 k ∨ Pu k ∨ w.heap.size ≤ k) v' r ∧ Below w0.heap.size w0 w' ∧ Kept w w' P0 := by
  unfold spec_l14Put.f at h
  obtain ⟨q, h1, h2⟩ := Option.bind_eq_some_iff.mp h
  by_cases hq : 0 ≤ q ∧ q ≤ (l.length : Int) ∧ l.length < 1000000
  case neg => rw [if_neg hq] at h2; cases h2
  rw [if_pos hq] at h2
  obtain rfl := Option.some.inj h2
  have hv0 := (Kd.S_R hS).1
  obtain ⟨zs, rfl, hV, hW⟩ := S_split hS
  obtain ⟨Au, cu, rfl⟩ := Kd.R_slice hx
  have hxr := Kd.R_reads' hx
  have hlen : (zs.map (·.1)).length = (zs.map (·.2)).length := by rw [List.length_map, List.length_map]
  refine (spec_l14Put.raw k v (zs.map (·.1)) (Au, x.length, cu) x (zs.map (·.2)) q w0 w hB (Kd.R_mono hV (fun _ hk => hk.2)) ⟨rfl, hxr.2.1, hxr.2.2⟩ (fun j r hj => ?_) hlen h1 hq).mono ?_
  · rw [List.getElem?_map] at hj
    obtain ⟨z, hz, rfl⟩ := Option.map_eq_some_iff.mp hj
    refine ⟨z.1, by rw [List.getElem?_map, hz]; rfl, ?_⟩
    have hzr := hW.1 z (List.mem_of_getElem? hz)
    obtain ⟨A, c, e⟩ := Kd.R_slice hzr
    obtain ⟨⟨z1, z2, z3⟩, zr⟩ := z
    unfold slV at e
    injection e with e1 e2 e3
    simp only at e1 e2 e3
    subst e1 e2 e3
    have := Kd.R_reads' hzr
    exact ⟨rfl, this.2.1, this.2.2⟩
  · rintro e w' ⟨v', rfl, hR', hB', hK⟩
    have hle : q.toNat ≤ zs.length := by have := hq.2.1; rw [List.length_map] at this; omega
    have hWb : Rws w w0.heap.size (fun k => (P0 k ∧ some k ≠ v.ownBlock) ∧ k < w.heap.size) zs := ⟨fun z hz => Kd.R_mono (Kd.R_bound (hW.1 z hz)) (fun k hk => ⟨hk.1, hk.2.2.1⟩), hW.2⟩
    have hW' := Rws.step hWb (fun k hk hlt => hK.2 k hlt (fun he => hk.1.2 he))
    have hPv : ∀ k, Pu k → some k ≠ v.ownBlock := fun k hk he => hd k hk (hv0 k he.symm)
    have hx' := Kd.R_step (Kd.R_mono (Kd.R_bound hx) (ok' := fun k => Pu k ∧ k < w.heap.size) (fun k hk => ⟨hk.1, hk.2.2.1⟩)) (fun k hk hlt => hK.2 k hlt (hPv k hk.1))
    have hC := Rws.cons (z := ((Au, x.length, cu), x)) (ok := fun k => ((P0 k ∨ Pu k) ∧ some k ≠ v.ownBlock) ∧ k < w.heap.size) hW' hx' (fun k hk h2 => hd k hk.1 h2.1.1) (fun k hk => ⟨⟨.inl hk.1.1, hk.1.2⟩, hk.2⟩) (fun k hk => ⟨⟨.inr hk.1, hPv k hk.1⟩, hk.2⟩)
    have hP : (((Au, x.length, cu), x) :: zs).Perm (zs.take q.toNat ++ ((Au, x.length, cu), x) :: zs.drop q.toNat) := by
      refine List.Perm.trans ?_ List.perm_middle.symm
      rw [List.take_append_drop]
    have hJ := S_join (v := v') (okv := fun k => some k = v.ownBlock ∨ w.heap.size ≤ k) (ok := fun k => P0 k ∨ Pu k ∨ w.heap.size ≤ k) (zs := zs.take q.toNat ++ ((Au, x.length, cu), x) :: zs.drop q.toNat)
      (by rw [List.map_append, List.map_cons, List.map_take, List.map_drop]; rw [List.append_assoc] at hR'; exact hR') (hC.perm hP)
      (fun k hk => hk.elim (fun he => .inl (hv0 k he.symm)) (fun h => .inr (.inr h)))
      (fun k hk => ⟨hk.1.1.elim .inl (fun h => .inr (.inl h)), fun he => by
        rcases hR'.1 k he.symm with h3 | h3
        · exact hk.1.2 h3
        · have := hk.2; omega⟩)
    rw [List.map_append, List.map_cons, List.map_take, List.map_drop] at hJ
    exact ⟨v', rfl, hJ, hB', hK.1, fun i hi hne => hK.2 i hi (fun he => hne (hv0 i he.symm))⟩

end Go.Proofs.Ythibphndihjcaaa.P
