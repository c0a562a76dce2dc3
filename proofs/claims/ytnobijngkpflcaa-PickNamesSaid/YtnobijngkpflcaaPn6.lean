/-
  The law PickNames of package legatelaw11 (a closed statement) returns true. No condition beyond the row's own.
-/
import Derived.Test.YtnobijngkpflcaaPn5
import Derived.ProofKit
import Derived.Test.YtnobijngkpflcaaRows
namespace Go.Eng
def shiftE (m : Nat) (es : Array Edge) : Array Edge := (es.toList.filterMap fun e => if e.on < m then none else some { e with on := e.on - m }).toArray
def shiftO (m : Nat) (o : Oper) : Oper := { o with after := shiftE m o.after, guard := o.guard.map fun q => (q.1 - m, q.2) }
def shiftR (m : Nat) (ops : Array Oper) : Array Oper := ((ops.toList.drop m).map (shiftO m)).toArray
theorem shiftR_get {m : Nat} {ops : Array Oper} (i : Nat) : (shiftR m ops)[i]? = (ops[m + i]?).map (shiftO m) := by
  simp [shiftR, List.getElem?_drop]
theorem shiftR_size {m : Nat} {ops : Array Oper} : (shiftR m ops).size = ops.size - m := by simp [shiftR]
theorem shiftE_mem {m : Nat} {es : Array Edge} {e : Edge} : e ∈ shiftE m es ↔ ∃ e' ∈ es, m ≤ e'.on ∧ e = { e' with on := e'.on - m } := by
  simp only [shiftE, List.mem_toArray, List.mem_filterMap]
  constructor
  · rintro ⟨e', h1, h2⟩
    split at h2
    · cases h2
    · injection h2 with h2
      exact ⟨e', by simpa using h1, by omega, h2.symm⟩
  · rintro ⟨e', h1, h2, rfl⟩
    exact ⟨e', by simpa using h1, by rw [if_neg (by omega)]⟩
theorem oper_wp_shift {P : Program} {m : Nat} {o : Oper} {a : Act} {w : World} {K : Act → World → Prop} {Q : Exit → Act → World → Prop} : (shiftO m o).wp P a w K Q = o.wp P a w K Q := by cases o; rfl
theorem oper_asks_shift {P : Program} {m : Nat} {o : Oper} {a : Act} {w : World} : (shiftO m o).asks P a w = o.asks P a w := by cases o; rfl
section
variable {P : Program} {ops : Array Oper} {m : Nat} {Q : Exit → Act → World → Prop}
theorem wanted_shift {o : Oper} {a : Act} (hg : ∀ j want, o.guard = some (j, want) → m ≤ j) : Region.wanted (shiftO m o) (yielded (shiftR m ops) a.tmps) = Region.wanted o (yielded ops a.tmps) := by
  unfold Region.wanted shiftO
  cases hgd : o.guard with
  | none => simp
  | some q =>
    obtain ⟨j, want⟩ := q
    have hj := hg j want hgd
    simp only [Option.map_some]
    unfold yielded
    rw [shiftR_get, show m + (j - m) = j by omega]
    cases ops[j]? <;> rfl
theorem wpOp_shift {i : Nat} {K K' : Act → World → Prop} {a : Act} {w : World} (hg : ∀ o, ops[m + i]? = some o → ∀ j want, o.guard = some (j, want) → m ≤ j) (hK : ∀ a w, K a w → K' a w) (h : wpOp P (shiftR m ops) Q i K a w) : wpOp P ops Q (m + i) K' a w := by
  unfold wpOp at h ⊢
  rw [shiftR_get] at h
  cases ho : ops[m + i]? with
  | none => rw [ho] at h; exact hK _ _ h
  | some o =>
    rw [ho] at h
    simp only [Option.map_some] at h ⊢
    rw [wanted_shift (hg o ho), oper_wp_shift, oper_asks_shift] at h
    split
    · rename_i hw
      rw [if_pos hw] at h
      exact h.imp (Oper.wp_mono hK) id
    · rename_i hw
      rw [if_neg hw] at h
      exact hK _ _ h
theorem wpAny_shift (hm : m ≤ ops.size) (hg : ∀ i o, m ≤ i → ops[i]? = some o → ∀ j want, o.guard = some (j, want) → m ≤ j) : ∀ (fuel : Nat) (l' l : Array Bool) (a : Act) (W : World), l.size = ops.size → l'.size = (shiftR m ops).size →
    (∀ i, i < m → l.getD i false = true) → (∀ i, l.getD (m + i) false = l'.getD i false) → wpAny P .any (shiftR m ops) Q fuel l' a W → wpAny P .any ops Q fuel l a W := by
  have hbd : ∀ {e : Edge} {n : Nat}, Region.binds .any { e with on := n } = Region.binds .any e := fun {e n} => by cases e; rfl
  have low : ∀ {l : Array Bool}, l.size = ops.size → (∀ i, i < m → l.getD i false = true) → ∀ i, i ∈ Region.ready .any ops l → m ≤ i := fun {l} hs hl i hi => by
    obtain ⟨h0, o, ho, _⟩ := mem_ready.1 hi
    have hlt : i < ops.size := (Array.getElem?_eq_some_iff.1 ho).1
    rcases Nat.lt_or_ge i m with h | h
    · have := hl i h
      have hi' : i < l.size := by omega
      simp only [Array.getD, hi', dif_pos] at h0 this
      rw [h0] at this; cases this
    · exact h
  have rdy : ∀ {l l' : Array Bool}, l.size = ops.size → l'.size = (shiftR m ops).size → (∀ i, i < m → l.getD i false = true) → (∀ i, l.getD (m + i) false = l'.getD i false) → ∀ i, m + i ∈ Region.ready .any ops l ↔ i ∈ Region.ready .any (shiftR m ops) l' := fun {l l'} hs hs' hl hr i => by
    rw [mem_ready, mem_ready, shiftR_get]
    have hsz : l'.size + m = l.size := by rw [hs', shiftR_size]; omega
    have e0 : l.getD (m + i) true = false ↔ l'.getD i true = false := by
      have := hr i
      by_cases h : i < l'.size
      · have h2 : m + i < l.size := by omega
        simp only [Array.getD, h, h2, dif_pos] at this ⊢
        rw [this]
      · have h2 : ¬ m + i < l.size := by omega
        simp only [Array.getD, h, h2, dif_neg, not_false_eq_true]
    rw [e0]
    constructor
    · rintro ⟨h1, o, ho, he⟩
      refine ⟨h1, shiftO m o, by rw [ho]; rfl, fun e hem hb => ?_⟩
      obtain ⟨e', h2, h3, rfl⟩ := shiftE_mem.1 hem
      have := he e' h2 (by rwa [hbd] at hb)
      rw [← hr]
      simp only
      rw [show m + (e'.on - m) = e'.on by omega]
      exact this
    · rintro ⟨h1, o', ho, he⟩
      cases hq : ops[m + i]? with
      | none => rw [hq] at ho; cases ho
      | some o =>
        rw [hq] at ho
        simp only [Option.map_some, Option.some.injEq] at ho
        subst ho
        refine ⟨h1, o, rfl, fun e hem hb => ?_⟩
        rcases Nat.lt_or_ge e.on m with h | h
        · exact hl _ h
        · have := he { e with on := e.on - m } (shiftE_mem.2 ⟨e, hem, h, rfl⟩) (by rw [hbd]; exact hb)
          rw [← hr] at this
          simp only at this
          rwa [show m + (e.on - m) = e.on by omega] at this
  intro fuel
  induction fuel with
  | zero =>
    intro l' l a W hs hs' hl hr h
    obtain ⟨h1, h2⟩ := h
    refine ⟨?_, h2⟩
    cases hq : Region.ready .any ops l with
    | nil => rfl
    | cons i rs =>
      have hi : i ∈ Region.ready .any ops l := by rw [hq]; exact List.mem_cons_self
      have hmi := low hs hl i hi
      have := (rdy hs hs' hl hr (i - m)).1 (by rwa [show m + (i - m) = i by omega])
      rw [h1] at this; cases this
  | succ fuel ih =>
    intro l' l a W hs hs' hl hr h
    obtain ⟨h1, h2⟩ := h
    refine ⟨fun he => h1 ?_, fun i hi => ?_⟩
    · cases hq : Region.ready .any (shiftR m ops) l' with
      | nil => rfl
      | cons i rs =>
        have hi : i ∈ Region.ready .any (shiftR m ops) l' := by rw [hq]; exact List.mem_cons_self
        have := (rdy hs hs' hl hr i).2 hi
        rw [he] at this; cases this
    · have hmi := low hs hl i hi
      obtain ⟨i', rfl⟩ : ∃ i', i = m + i' := ⟨i - m, by omega⟩
      have hi2 := (rdy hs hs' hl hr i').1 hi
      have hlt : i' < l'.size := by
        obtain ⟨_, o, ho, _⟩ := mem_ready.1 hi2
        have := (Array.getElem?_eq_some_iff.1 ho).1
        omega
      have hlt2 : m + i' < l.size := by rw [hs', shiftR_size] at hlt; omega
      refine wpOp_shift (fun o ho => hg _ o (by omega) ho) (fun a w hk => ih _ _ a w (by simpa using hs) (by simpa using hs') (fun j hj => ?_) (fun j => ?_) hk) (h2 i' hi2)
      · rw [getD_or hlt2]; exact .inl (hl j hj)
      · rw [Bool.eq_iff_iff, getD_or hlt2, getD_or hlt, hr j]
        constructor
        · rintro (h | h)
          · exact .inl h
          · exact .inr (by omega)
        · rintro (h | h)
          · exact .inl h
          · exact .inr (by omega)
end
section
variable {P : Program} {ops : Array Oper} {S : Nat → Prop} {w0 : World} {a0 : Act}
variable {m N : Nat} {φ : Nat → Fact} {Γ : Nat → Ctx} {Ψ : Nat → World → Prop} {mn bx lt : Nat → Bool} {need : Nat → Nat → Prop}
theorem count_set {listed : Array Bool} {i : Nat} (hi' : i < listed.size) (hn : listed.getD i false = false) : (listed.setIfInBounds i true).toList.countP (fun b => !b) + 1 = listed.toList.countP (fun b => !b) := by
  have hg : listed.toList[i]'(by simpa using hi') = false := by
    simp only [Array.getD, hi', dif_pos] at hn; simpa using hn
  have e1 : listed.toList = listed.toList.take i ++ false :: listed.toList.drop (i + 1) := by
    conv => lhs; rw [← List.take_append_drop i listed.toList, List.drop_eq_getElem_cons (by simpa using hi'), hg]
  have e2 : (listed.setIfInBounds i true).toList = listed.toList.take i ++ true :: listed.toList.drop (i + 1) := by
    rw [Array.toList_setIfInBounds, List.set_eq_take_append_cons_drop, if_pos (by simpa using hi')]
  rw [e2]
  conv => rhs; rw [e1]
  simp only [List.countP_append, List.countP_cons, Bool.not_false, Bool.not_true, if_true]
  simp
  omega
theorem count_low {listed : Array Bool} (hm : m ≤ listed.size) (hE : ∀ i, listed.getD i false = true ↔ i < m) : listed.toList.countP (fun b => !b) = listed.size - m := by
  have e : listed.toList = List.replicate m true ++ List.replicate (listed.size - m) false := by
    apply List.ext_getElem
    · simp; omega
    · intro i h1 h2
      have hi : i < listed.size := by simpa using h1
      have := hE i
      simp only [Array.getD, hi, dif_pos] at this
      rw [List.getElem_append]
      split
      · rename_i h
        simp at h
        rw [List.getElem_replicate]
        simpa using this.2 h
      · rename_i h
        simp at h
        rw [List.getElem_replicate]
        have h3 : ¬ listed[i] = true := fun h' => by have := this.1 h'; omega
        simpa using h3
  rw [e]
  simp [List.countP_append, List.countP_replicate]
theorem Book.anyTwo (bk : Book P ops S w0 a0 m φ Γ Ψ mn bx) (ft : Fits ops N m mn lt need) (hN : a0.tmps.size = N) {Q : Exit → Act → World → Prop}
    (hed : ∀ (i : Nat) (o : Oper), ops[i]? = some o → ∀ e ∈ o.after.toList, Region.binds .any e = true → e.on < i)
    (hnd : ∀ listed : Array Bool, (∀ (i : Nat) (o : Oper), listed.getD i false = true → ops[i]? = some o → ∀ e ∈ o.after.toList, Region.binds .any e = true → listed.getD e.on false = true) →
      ∀ (i : Nat) (o : Oper), ops[i]? = some o → (∀ e ∈ o.after.toList, Region.binds .any e = true → listed.getD e.on false = true) → ∀ j, need j i → listed.getD j false = true)
    (hsp : ∀ i j, m ≤ i → i < ops.size → j < m → need j i)
    (fin : ∀ a g W (listed : Array Bool), Stand ops S w0 a0 m φ Ψ mn need (fun i => i < m) a g W → listed.size = ops.size → (∀ i, listed.getD i false = true ↔ i < m) → wpAny P .any ops Q (ops.size - m) listed a W) {W : World} (hk : Keeps S w0 W) (hψ : Ψ 0 W) :
    wpAny P .any ops Q ops.size (Array.replicate ops.size false) a0 W := by
  have all_of : ∀ listed : Array Bool, listed.size = ops.size → Region.ready .any ops listed = [] → ∀ i, i < ops.size → listed.getD i false = true := by
    intro listed hs hr i
    induction i using Nat.strongRecOn with
    | _ i ih =>
      intro hi
      cases hl : listed.getD i false with
      | true => rfl
      | false =>
        have ho : ops[i]? = some ops[i] := by simp [hi]
        have : i ∈ Region.ready .any ops listed := by
          refine mem_ready.2 ⟨?_, _, ho, fun e he hb => ih e.on (hed i _ ho e (by simpa using he) hb) (Nat.lt_trans (hed i _ ho e (by simpa using he) hb) hi)⟩
          have h' : i < listed.size := by omega
          simp only [Array.getD, h', dif_pos] at hl ⊢
          exact hl
        rw [hr] at this; cases this
  have main : ∀ (fuel : Nat) (listed : Array Bool) (a : Act) (W : World), listed.size = ops.size →
      (∀ (i : Nat) (o : Oper), listed.getD i false = true → ops[i]? = some o → ∀ e ∈ o.after.toList, Region.binds .any e = true → listed.getD e.on false = true) →
      listed.toList.countP (fun b => !b) = fuel →
      (∃ g, Stand ops S w0 a0 m φ Ψ mn need (fun i => listed.getD i false = true) a g W) → wpAny P .any ops Q fuel listed a W := by
    intro fuel
    induction fuel with
    | zero =>
      intro listed a W hs hdc hc ⟨g, st⟩
      have hall : ∀ i, i < ops.size → listed.getD i false = true := by
        intro i hi
        rw [List.countP_eq_zero] at hc
        have hi' : i < listed.size := by omega
        have := hc listed[i] (by simp)
        simp only [Array.getD, hi', dif_pos]
        simpa using this
      have hE : ∀ i, listed.getD i false = true ↔ i < m := fun i => ⟨st.below i, fun h => hall i (Nat.lt_of_lt_of_le h bk.le)⟩
      have := fin a g W listed (st.congr hE) hs hE
      have e := count_low (by have := bk.le; omega) hE
      rw [hc, hs] at e
      rw [← e] at this
      exact this
    | succ fuel ih =>
      intro listed a W hs hdc hc ⟨g, st⟩
      by_cases hall : ∀ i, i < m → listed.getD i false = true
      · have hE : ∀ i, listed.getD i false = true ↔ i < m := fun i => ⟨st.below i, hall i⟩
        have := fin a g W listed (st.congr hE) hs hE
        have e := count_low (by have := bk.le; omega) hE
        rw [hc, hs] at e
        rw [← e] at this
        exact this
      · refine ⟨fun hr => absurd (fun i hi => all_of listed hs hr i (Nat.lt_of_lt_of_le hi bk.le)) hall, fun i hi => ?_⟩
        obtain ⟨h0, o, ho, hed'⟩ := mem_ready.1 hi
        have hlt' : i < ops.size := (Array.getElem?_eq_some_iff.1 ho).1
        have hi' : i < listed.size := by omega
        have hn : listed.getD i false = false := by simp only [Array.getD, hi', dif_pos] at h0 ⊢; exact h0
        have hedl : ∀ e ∈ o.after.toList, Region.binds .any e = true → listed.getD e.on false = true := fun e he hb => hed' e (by simpa using he) hb
        have hneed := hnd listed hdc i o ho hedl
        have hdc' : ∀ (j : Nat) (p : Oper), (listed.setIfInBounds i true).getD j false = true → ops[j]? = some p → ∀ e ∈ p.after.toList, Region.binds .any e = true → (listed.setIfInBounds i true).getD e.on false = true := by
          intro j p hj hp e he hb
          rw [getD_or hi'] at hj ⊢
          rcases hj with hj | rfl
          · exact .inl (hdc j p hj hp e he hb)
          · rw [ho] at hp; cases hp; exact .inl (hedl e he hb)
        have hc' := count_set hi' hn
        have him : i < m := by
          rcases Nat.lt_or_ge i m with h | h
          · exact h
          · exact absurd (fun j hj => hneed j (hsp i j h hlt' hj)) hall
        exact bk.step ft hN st him (by simp [hn]) hneed fun a' g' W' st' => ih _ a' W' (by simpa using hs) hdc' (by omega) ⟨g', st'.congr fun j => (getD_or hi').symm⟩
  refine main ops.size _ a0 W (by simp) ?_ (by simp [List.countP_replicate]) ⟨[], (stand_zero hk hψ).congr fun j => ?_⟩
  · intro i o h
    simp only [Array.getD] at h
    split at h <;> simp at h
  · constructor
    · exact fun h => h.elim
    · intro h
      simp only [Array.getD] at h
      split at h <;> simp at h
def Nrm (Q : Exit → Act → World → Prop) : Exit → Act → World → Prop := fun e a w => e = .normal ∧ Q .normal a w
def RegAny (P : Program) (ops : Array Oper) (Q : Exit → Act → World → Prop) (a : Act) (W : World) : Prop := wpAny P .any ops Q ops.size (Array.replicate ops.size false) a W
theorem runTail_nrm {Q : Exit → Act → World → Prop} : ∀ (l : List Oper) (a : Act) (W : World), runTail P ops Q l a W → runTail P ops (Nrm Q) l a W
  | [], a, W, h => ⟨rfl, h⟩
  | o :: l, a, W, h => ObRun.mono h fun v W' h' => runTail_nrm l _ _ h'
theorem reg_any {N : Nat} {Q : Exit → Act → World → Prop} {Ψ : World → Prop} (S : Nat → Prop) (hN : a0.tmps.size = N) (hd : a0.defers = []) (hsp : StableE Ψ) (hψ : Ψ w0)
    (h : Chain P ops S w0 a0 (Fin P ops Q S w0 a0 true N) false ops.toList [] Ψ []) : RegAny P ops (Nrm Q) a0 w0 := by
  obtain ⟨m, φ, Γ, Ψ', mn, bx, ms, bk, f, rfl, hms, h0⟩ := h.out (fun _ _ _ _ => True) (fun _ => []) (fun _ => Ψ) (fun _ => false) (fun _ => false)
    ⟨Nat.zero_le _, rfl, fun _ _ h => by simp at h, fun _ _ _ => rfl, fun _ h => by simp at h, fun _ _ => hsp, fun _ _ h => by simp at h, fun _ _ h => by simp at h, fun _ _ h => by simp at h⟩ rfl rfl rfl (fun _ h => by simp at h) (fun _ _ h => by simp at h)
  have ft := fits_congr (chk_fits f.ok) hms
  exact bk.anyOrder ft hN (fun i o ho e he hb => (chk_edges f.ok i o ho).2 e he hb) (fun listed hdc i o ho hed j hj => need_listed f.ok listed hdc i o ho hed j hj) (fun l hl => late_spec (by simpa using hl)) (fun _ _ _ h => by cases h.1) (fun a g W st => runTail_nrm _ _ _ (st.go bk hN hd f)) (.refl _ _) (by rw [h0]; exact hψ)
structure Fin2 (P : Program) (ops : Array Oper) (Q : Exit → Act → World → Prop) (S : Nat → Prop) (w0 : World) (a0 : Act) (N : Nat) (l : List Oper) (Γ : Ctx) (Ψ : World → Prop) (ms : List Bool) : Prop where
  ok : chkW (fun j => decide (ms.length ≤ j)) true (Region.before ops) N ops ms.reverse ms.length = true
  gd : ((List.range ops.size).all fun i => !decide (ms.length ≤ i) || match ops[i]? with | none => true | some p => match p.guard with | none => true | some q => decide (ms.length ≤ q.1)) = true
  go : ∀ a g W, a.tmps.size = N → a.defers = [] → Keeps S w0 W → GOk w0 W g → EnvAll a g W Γ → (∀ t, notIn Γ t = true → sl a t = sl a0 t) → Ψ W → RegAny P (shiftR ms.length ops) (Nrm Q) a W
theorem reg2_any {N : Nat} {Q : Exit → Act → World → Prop} {Ψ : World → Prop} (S : Nat → Prop) (hN : a0.tmps.size = N) (hd : a0.defers = []) (hsp : StableE Ψ) {W : World} (hk0 : Keeps S w0 W) (hψ : Ψ w0) (hψW : Ψ W)
    (h : Chain P ops S w0 a0 (Fin2 P ops Q S w0 a0 N) false ops.toList [] Ψ []) : RegAny P ops (Nrm Q) a0 W := by
  obtain ⟨m, φ, Γ, Ψ', mn, bx, ms, bk, f, rfl, hms, h0⟩ := h.out (fun _ _ _ _ => True) (fun _ => []) (fun _ => Ψ) (fun _ => false) (fun _ => false)
    ⟨Nat.zero_le _, rfl, fun _ _ h => by simp at h, fun _ _ _ => rfl, fun _ h => by simp at h, fun _ _ => hsp, fun _ _ h => by simp at h, fun _ _ h => by simp at h, fun _ _ h => by simp at h⟩ rfl rfl rfl (fun _ h => by simp at h) (fun _ _ h => by simp at h)
  have ft := fits_congr (chk_fits f.ok) hms
  refine bk.anyTwo ft hN (fun i o ho e he hb => (chk_edges f.ok i o ho).2 e he hb) (fun listed hdc i o ho hed j hj => need_listed f.ok listed hdc i o ho hed j hj) (fun i j hi his hj => ?_) (fun a g W listed st hs hE => ?_) hk0 (by rw [h0]; exact hψW)
  · rcases ft.tail i j his (by omega) hi with h | h
    · exact h
    · simp at h; omega
  · have hle := bk.le
    refine wpAny_shift hle (fun i o hi ho j want hg => ?_) _ (Array.replicate (shiftR ms.length ops).size false) listed a W hs (by simp) (fun i hi => (hE i).2 hi) (fun i => ?_) ?_
    · have := List.all_eq_true.1 f.gd i (List.mem_range.2 (Array.getElem?_eq_some_iff.1 ho).1)
      simpa [hi, ho, hg] using this
    · have e1 : listed.getD (ms.length + i) false = false := by
        cases hq : listed.getD (ms.length + i) false with
        | false => rfl
        | true => have := (hE _).1 hq; omega
      rw [e1]
      simp only [Array.getD]
      split <;> simp
    · have := f.go a g W (st.size.trans hN) (st.defers.trans hd) st.keeps st.gok (envAll_of bk st _ (Nat.le_refl _)) (fun t ht => st.rest t fun i o hi ho => notIn_of bk _ (Nat.le_refl _) ht i o hi ho) (by
        obtain ⟨q, hq, hall, hψ⟩ := st.ψ
        have : Ψ' ms.length = Ψ' q := bk.psi_eq hq (Nat.le_refl _) fun j h1 h2 => by
          cases hm : mn j with
          | false => rfl
          | true => have := (hall j h2 hm).1 h2; omega
        rw [this]; exact hψ)
      unfold RegAny at this
      rw [shiftR_size] at this
      rw [shiftR_size]
      exact this
theorem any_two {N : Nat} {Q : Exit → Act → World → Prop} {Ψ : World → Prop} (S : Nat → Prop) (hN : a0.tmps.size = N) (hd : a0.defers = []) (hsp : StableE Ψ) (hψ : Ψ w0)
    (h : Chain P ops S w0 a0 (Fin2 P ops Q S w0 a0 N) false ops.toList [] Ψ []) : RegAny P ops (Nrm Q) a0 w0 := reg2_any S hN hd hsp (.refl _ _) hψ hψ h
theorem wp_reg2 {id N : Nat} {Q : Exit → Act → World → Prop} {Ψ : World → Prop} (S : Nat → Prop) (hm : P.follows .mixedOrders = true) (hN : a0.tmps.size = N) (hd : a0.defers = []) (hsp : StableE Ψ) (hψ : Ψ w0)
    (h : Chain P ops S w0 a0 (Fin2 P ops Q S w0 a0 N) false ops.toList [] Ψ []) : (Code.region id ops true).wp P Q a0 w0 := by
  refine Go.wp_mono (Q := Nrm Q) ?_ (fun e a w h => by obtain ⟨rfl, h⟩ := h; exact h)
  exact wp_region_any hm (reg2_any S hN hd hsp (.drew _) hψ (hsp _ _ (Keeps.drew w0) hψ) h)
end
end Go.Eng
namespace Go.Proofs.Ytnobijngkpflcaa
open Go.Eng
set_option maxRecDepth 100000 in
set_option maxHeartbeats 4000000 in
theorem PickNames_ok (w : World) : Calls Try.prog 6 #[] w (Ret w fun u _ => u = .bool true) := by
 refine enter Try.func6 rfl Try.ntmps6 (lbr rfl) fun a0 y0 zz0 harg => ?_
 have kw := Keeps.refl All w
 clear harg
 refine zq fun K1 hK1 => ?_
 refine rg mixed y0 zz0 ?_
 refine .ac ?_
 refine .dn fun a2 g W2 y2 zz2 hk hg hV hR hP => ?_
 obtain ⟨-, -⟩ := hV
 replace kw := kw.x hk
 clear hR hk hg hP
 refine zn (hK1 _ _ ?_)
 try clear hK1 K1
 refine zq fun K3 hK3 => ?_
 refine zq fun K4 hK4 => ?_
 refine rg mixed y2 zz2 ?_
 refine .i (v := (.bool (true))) (sp_call0  ent28  (fun g  W hk hgk  => awake11_ok W)) ?_
 refine .i (sp_not (hlc rfl)) ?_
 refine .i (sp_move (hlc rfl)) ?_
 refine .i (sp_and (hlc rfl) (Has.cst.toU)) ?_
 refine .i (sp_move (hlc rfl)) ?_
 refine .i (sp_and (hlc rfl) (Has.cst.toU)) ?_
 refine .i (sp_move (hlc rfl)) ?_
 refine .i (sp_and (hlc rfl) (Has.cst.toU)) ?_
 refine .dn fun a5 g W5 y5 zz5 hk hg hV hR hP => ?_
 obtain ⟨e19, -, -, -, -, -, -, -, -⟩ := hV
 replace e19 := e19.q
 replace kw := kw.x hk
 clear hR hk hg hP
 refine zn (hK4 _ _ ?_)
 try clear hK4 K4
 refine wp_cond_false (e19.trans (congrArg Value.bool (by decide))) ?_
 refine wp_skip (hK3 _ _ ?_)
 try clear hK3 K3
 refine zq fun K6 hK6 => ?_
 refine rg mixed y5 zz5 ?_
 refine .i (v := (.agg #[(.int .u8 (3)), (.int .i64 (0)), (.string (⟨#[120]⟩)), (.slice none 0 0), (.slice none 0 0)])) (sp_call1 (φ1 := Is (.string (⟨#[120]⟩))) ent37 Has.cst (fun g u1 W hk hgk h1 => by have h1 : u1 = _ := h1; subst u1; exact pkText_ok (⟨#[120]⟩) W)) ?_
 refine .i (v := (.agg #[(.int .u8 (3)), (.int .i64 (0)), (.string (⟨#[121]⟩)), (.slice none 0 0), (.slice none 0 0)])) (sp_call1 (φ1 := Is (.string (⟨#[121]⟩))) ent37 Has.cst (fun g u1 W hk hgk h1 => by have h1 : u1 = _ := h1; subst u1; exact pkText_ok (⟨#[121]⟩) W)) ?_
 refine .da (X := SF w []) (e := valsD ([V.mk (3) (0) (⟨#[120]⟩) ([]) ([]), V.mk (3) (0) (⟨#[121]⟩) ([]) ([])])) (sp_bsl (ds := [V.d (V.mk (3) (0) (⟨#[120]⟩) ([]) ([])), V.d (V.mk (3) (0) (⟨#[121]⟩) ([]) ([]))]) Try.underlying31 sz33 z33 (lbr rfl) (lbr rfl) ⟨rfl, ((hlc rfl).dat (rdV_mk (Nat.le_of_ble_eq_true (by kernel_rfl)) (rd_nil _) (rd_nil _) : Rd W5 (SF w []) (V.d (V.mk (3) (0) (⟨#[120]⟩) ([]) ([]))) _) sub_all), ⟨rfl, ((hlc rfl).dat (rdV_mk (Nat.le_of_ble_eq_true (by kernel_rfl)) (rd_nil _) (rd_nil _) : Rd W5 (SF w []) (V.d (V.mk (3) (0) (⟨#[121]⟩) ([]) ([]))) _) sub_all), trivial⟩⟩ rfl (by intro e he; simp at he; rcases he with rfl | rfl <;> exact width_V _) (fr_sf kw in_nil)) ?_
 refine .da (X := Fr W5) (e := V.d (V.mk 4 0 ⟨#[]⟩ [] ([V.mk (3) (0) (⟨#[120]⟩) ([]) ([]), V.mk (3) (0) (⟨#[121]⟩) ([]) ([])]))) (sp_call1 (φ1 := IsD (SF w []) (valsD ([V.mk (3) (0) (⟨#[120]⟩) ([]) ([]), V.mk (3) (0) (⟨#[121]⟩) ([]) ([])]))) ent36 (hlc rfl) (fun g u1 W hk hgk h1 => (ListOf_ok ([V.mk (3) (0) (⟨#[120]⟩) ([]) ([]), V.mk (3) (0) (⟨#[121]⟩) ([]) ([])]) (Nat.le_of_ble_eq_true (by kernel_rfl)) (wts_of (by kernel_rfl)) W _ _ (fun b o h => h.1.2.1) h1).mono (ret_fr hk hgk))) ?_
 refine .alloc z33 ?_
 refine .dn fun a7 g W7 y7 zz7 hk hg hV hR hP => ?_
 obtain ⟨⟨b1_7, e1, hb1, own_b1_7⟩, e23, -, -, -, -⟩ := hV
 have lo_b1_7 : w.heap.size ≤ b1_7 := Nat.le_trans kw.size (hg.lo _ _ hb1)
 have own_b1_7 : Own W7 b1_7 [(.int .u8 (0)), (.int .i64 (0)), (.string (⟨#[]⟩)), (.slice none 0 0), (.slice none 0 0)] 33 := own_b1_7
 obtain ⟨v23_7, ev⟩ : ∃ v, sl a7 23 = v := ⟨_, rfl⟩
 rw [ev] at e23
 have D_v23_7 : Rd W7 (SF w [b1_7]) (V.d (V.mk 4 0 ⟨#[]⟩ [] ([V.mk (3) (0) (⟨#[120]⟩) ([]) ([]), V.mk (3) (0) (⟨#[121]⟩) ([]) ([])]))) v23_7 := fr_end (M := []) e23 kw [b1_7] (in_cons ⟨_, hb1⟩ in_nil) in_nil
 replace e23 := ev; clear ev
 obtain ⟨cn23_7a, cn23_7c, ci23_7a, ci23_7c, ev, ht_v23_7, D_cn23_7, D_ci23_7⟩ := rdV_out D_v23_7
 subst ev; clear D_v23_7
 replace kw := kw.x hk
 clear hR hk hg hP hb1
 refine tail_store e1 e23 sz33 rfl own_b1_7 (lbr rfl) (all_cons rfl (all_cons rfl (all_cons rfl (all_cons rfl (all_cons rfl all_nil))))) (fun W8 hs own_b1_7 => ?_)
 have own_b1_7 : Own W8 b1_7 [(.int .u8 ((V.mk 4 0 ⟨#[]⟩ [] ([V.mk (3) (0) (⟨#[120]⟩) ([]) ([]), V.mk (3) (0) (⟨#[121]⟩) ([]) ([])])).k)), (.int .i64 ((V.mk 4 0 ⟨#[]⟩ [] ([V.mk (3) (0) (⟨#[120]⟩) ([]) ([]), V.mk (3) (0) (⟨#[121]⟩) ([]) ([])])).n)), (.string ((V.mk 4 0 ⟨#[]⟩ [] ([V.mk (3) (0) (⟨#[120]⟩) ([]) ([]), V.mk (3) (0) (⟨#[121]⟩) ([]) ([])])).t)), (.slice cn23_7a (((V.mk 4 0 ⟨#[]⟩ [] ([V.mk (3) (0) (⟨#[120]⟩) ([]) ([]), V.mk (3) (0) (⟨#[121]⟩) ([]) ([])])).ns).length) cn23_7c), (.slice ci23_7a (((V.mk 4 0 ⟨#[]⟩ [] ([V.mk (3) (0) (⟨#[120]⟩) ([]) ([]), V.mk (3) (0) (⟨#[121]⟩) ([]) ([])])).xs).length) ci23_7c)] 33 := own_b1_7
 replace D_cn23_7 := sf_store D_cn23_7 hs (by simp)
 replace D_ci23_7 := sf_store D_ci23_7 hs (by simp)
 replace kw := keeps_store kw hs lo_b1_7
 clear hs
 refine zn (hK6 _ _ ?_)
 try clear hK6 K6
 refine zq fun K9 hK9 => ?_
 refine rg mixed y7 zz7 ?_
 refine .i (v := (.agg #[(.int .u8 (2)), (.int .i64 (7)), (.string (⟨#[]⟩)), (.slice none 0 0), (.slice none 0 0)])) (sp_call1 (φ1 := Is (.int .i64 (7))) ent39 Has.cst (fun g u1 W hk hgk h1 => by have h1 : u1 = _ := h1; subst u1; exact pkNum_ok (7) W)) ?_
 refine .i (v := (.agg #[(.string (⟨#[110]⟩)), (.int .u8 (2)), (.int .i64 (7)), (.string (⟨#[]⟩)), (.slice none 0 0), (.slice none 0 0)])) (sp_build (vs := [(0, (.string (⟨#[110]⟩))), (1, (.agg #[(.int .u8 (2)), (.int .i64 (7)), (.string (⟨#[]⟩)), (.slice none 0 0), (.slice none 0 0)]))]) Try.underlying67 z67 (pl67 Try.underlying67) ⟨rfl, Has.cst, rfl, (hlc rfl), trivial⟩ (by kernel_rfl)) ?_
 refine .i (v := (.agg #[(.int .u8 ((V.mk 4 0 ⟨#[]⟩ [] ([V.mk (3) (0) (⟨#[120]⟩) ([]) ([]), V.mk (3) (0) (⟨#[121]⟩) ([]) ([])])).k)), (.int .i64 ((V.mk 4 0 ⟨#[]⟩ [] ([V.mk (3) (0) (⟨#[120]⟩) ([]) ([]), V.mk (3) (0) (⟨#[121]⟩) ([]) ([])])).n)), (.string ((V.mk 4 0 ⟨#[]⟩ [] ([V.mk (3) (0) (⟨#[120]⟩) ([]) ([]), V.mk (3) (0) (⟨#[121]⟩) ([]) ([])])).t)), (.slice cn23_7a (((V.mk 4 0 ⟨#[]⟩ [] ([V.mk (3) (0) (⟨#[120]⟩) ([]) ([]), V.mk (3) (0) (⟨#[121]⟩) ([]) ([])])).ns).length) cn23_7c), (.slice ci23_7a (((V.mk 4 0 ⟨#[]⟩ [] ([V.mk (3) (0) (⟨#[120]⟩) ([]) ([]), V.mk (3) (0) (⟨#[121]⟩) ([]) ([])])).xs).length) ci23_7c)])) (loA (hbs rfl e1) own_b1_7 trivial agg33 sz33 rfl rfl) ?_
 refine .i (v := (.agg #[(.string (⟨#[108]⟩)), (.int .u8 ((V.mk 4 0 ⟨#[]⟩ [] ([V.mk (3) (0) (⟨#[120]⟩) ([]) ([]), V.mk (3) (0) (⟨#[121]⟩) ([]) ([])])).k)), (.int .i64 ((V.mk 4 0 ⟨#[]⟩ [] ([V.mk (3) (0) (⟨#[120]⟩) ([]) ([]), V.mk (3) (0) (⟨#[121]⟩) ([]) ([])])).n)), (.string ((V.mk 4 0 ⟨#[]⟩ [] ([V.mk (3) (0) (⟨#[120]⟩) ([]) ([]), V.mk (3) (0) (⟨#[121]⟩) ([]) ([])])).t)), (.slice cn23_7a (((V.mk 4 0 ⟨#[]⟩ [] ([V.mk (3) (0) (⟨#[120]⟩) ([]) ([]), V.mk (3) (0) (⟨#[121]⟩) ([]) ([])])).ns).length) cn23_7c), (.slice ci23_7a (((V.mk 4 0 ⟨#[]⟩ [] ([V.mk (3) (0) (⟨#[120]⟩) ([]) ([]), V.mk (3) (0) (⟨#[121]⟩) ([]) ([])])).xs).length) ci23_7c)])) (sp_build (vs := [(0, (.string (⟨#[108]⟩))), (1, (.agg #[(.int .u8 ((V.mk 4 0 ⟨#[]⟩ [] ([V.mk (3) (0) (⟨#[120]⟩) ([]) ([]), V.mk (3) (0) (⟨#[121]⟩) ([]) ([])])).k)), (.int .i64 ((V.mk 4 0 ⟨#[]⟩ [] ([V.mk (3) (0) (⟨#[120]⟩) ([]) ([]), V.mk (3) (0) (⟨#[121]⟩) ([]) ([])])).n)), (.string ((V.mk 4 0 ⟨#[]⟩ [] ([V.mk (3) (0) (⟨#[120]⟩) ([]) ([]), V.mk (3) (0) (⟨#[121]⟩) ([]) ([])])).t)), (.slice cn23_7a (((V.mk 4 0 ⟨#[]⟩ [] ([V.mk (3) (0) (⟨#[120]⟩) ([]) ([]), V.mk (3) (0) (⟨#[121]⟩) ([]) ([])])).ns).length) cn23_7c), (.slice ci23_7a (((V.mk 4 0 ⟨#[]⟩ [] ([V.mk (3) (0) (⟨#[120]⟩) ([]) ([]), V.mk (3) (0) (⟨#[121]⟩) ([]) ([])])).xs).length) ci23_7c)]))]) Try.underlying67 z67 (pl67 Try.underlying67) ⟨rfl, Has.cst, rfl, (hlc rfl), trivial⟩ (by kernel_rfl)) ?_
 refine .i (v := (.agg #[(.int .u8 (1)), (.int .i64 (1)), (.string (⟨#[]⟩)), (.slice none 0 0), (.slice none 0 0)])) (sp_call1 (φ1 := Is (.bool (true))) ent40 Has.cst (fun g u1 W hk hgk h1 => by have h1 : u1 = _ := h1; subst u1; exact BoolOf_ok W)) ?_
 refine .i (v := (.agg #[(.string (⟨#[98]⟩)), (.int .u8 (1)), (.int .i64 (1)), (.string (⟨#[]⟩)), (.slice none 0 0), (.slice none 0 0)])) (sp_build (vs := [(0, (.string (⟨#[98]⟩))), (1, (.agg #[(.int .u8 (1)), (.int .i64 (1)), (.string (⟨#[]⟩)), (.slice none 0 0), (.slice none 0 0)]))]) Try.underlying67 z67 (pl67 Try.underlying67) ⟨rfl, Has.cst, rfl, (hlc rfl), trivial⟩ (by kernel_rfl)) ?_
 refine .i (v := (.agg #[(.int .u8 (3)), (.int .i64 (0)), (.string (⟨#[]⟩)), (.slice none 0 0), (.slice none 0 0)])) (sp_call1 (φ1 := Is (.string (⟨#[]⟩))) ent37 Has.cst (fun g u1 W hk hgk h1 => by have h1 : u1 = _ := h1; subst u1; exact pkText_ok (⟨#[]⟩) W)) ?_
 refine .i (v := (.agg #[(.string (⟨#[]⟩)), (.int .u8 (3)), (.int .i64 (0)), (.string (⟨#[]⟩)), (.slice none 0 0), (.slice none 0 0)])) (sp_build (vs := [(0, (.string (⟨#[]⟩))), (1, (.agg #[(.int .u8 (3)), (.int .i64 (0)), (.string (⟨#[]⟩)), (.slice none 0 0), (.slice none 0 0)]))]) Try.underlying67 z67 (pl67 Try.underlying67) ⟨rfl, Has.cst, rfl, (hlc rfl), trivial⟩ (by kernel_rfl)) ?_
 refine .da (X := SF w [b1_7]) (e := mbsD ([Mb.mk (⟨#[110]⟩) (V.mk (2) (7) (⟨#[]⟩) ([]) ([])), Mb.mk (⟨#[108]⟩) ((V.mk 4 0 ⟨#[]⟩ [] ([V.mk (3) (0) (⟨#[120]⟩) ([]) ([]), V.mk (3) (0) (⟨#[121]⟩) ([]) ([])]))), Mb.mk (⟨#[98]⟩) (V.mk (1) (1) (⟨#[]⟩) ([]) ([])), Mb.mk (⟨#[]⟩) (V.mk (3) (0) (⟨#[]⟩) ([]) ([]))])) (sp_bsl (ds := [Mb.d (Mb.mk (⟨#[110]⟩) (V.mk (2) (7) (⟨#[]⟩) ([]) ([]))), Mb.d (Mb.mk (⟨#[108]⟩) ((V.mk 4 0 ⟨#[]⟩ [] ([V.mk (3) (0) (⟨#[120]⟩) ([]) ([]), V.mk (3) (0) (⟨#[121]⟩) ([]) ([])])))), Mb.d (Mb.mk (⟨#[98]⟩) (V.mk (1) (1) (⟨#[]⟩) ([]) ([]))), Mb.d (Mb.mk (⟨#[]⟩) (V.mk (3) (0) (⟨#[]⟩) ([]) ([])))]) Try.underlying82 sz67 z67 (lbr rfl) (lbr rfl) ⟨rfl, ((hlc rfl).dat (rdMb_mk (lbr rfl) (rdV_mk (by decide) (rd_nil _) (rd_nil _) : Rd W8 (SF w [b1_7]) (V.d (V.mk (2) (7) (⟨#[]⟩) ([]) ([]))) _) : Rd W8 (SF w [b1_7]) (Mb.d (Mb.mk (⟨#[110]⟩) (V.mk (2) (7) (⟨#[]⟩) ([]) ([])))) _) sub_all), ⟨rfl, ((hlc rfl).dat (rdMb_mk (lbr rfl) (rdV_in (x := (V.mk 4 0 ⟨#[]⟩ [] ([V.mk (3) (0) (⟨#[120]⟩) ([]) ([]), V.mk (3) (0) (⟨#[121]⟩) ([]) ([])]))) ht_v23_7 D_cn23_7 D_ci23_7 : Rd W8 (SF w [b1_7]) (V.d ((V.mk 4 0 ⟨#[]⟩ [] ([V.mk (3) (0) (⟨#[120]⟩) ([]) ([]), V.mk (3) (0) (⟨#[121]⟩) ([]) ([])])))) _) : Rd W8 (SF w [b1_7]) (Mb.d (Mb.mk (⟨#[108]⟩) ((V.mk 4 0 ⟨#[]⟩ [] ([V.mk (3) (0) (⟨#[120]⟩) ([]) ([]), V.mk (3) (0) (⟨#[121]⟩) ([]) ([])]))))) _) sub_all), ⟨rfl, ((hlc rfl).dat (rdMb_mk (lbr rfl) (rdV_mk (by decide) (rd_nil _) (rd_nil _) : Rd W8 (SF w [b1_7]) (V.d (V.mk (1) (1) (⟨#[]⟩) ([]) ([]))) _) : Rd W8 (SF w [b1_7]) (Mb.d (Mb.mk (⟨#[98]⟩) (V.mk (1) (1) (⟨#[]⟩) ([]) ([])))) _) sub_all), ⟨rfl, ((hlc rfl).dat (rdMb_mk (lbr rfl) (rdV_mk (Nat.le_of_ble_eq_true (by kernel_rfl)) (rd_nil _) (rd_nil _) : Rd W8 (SF w [b1_7]) (V.d (V.mk (3) (0) (⟨#[]⟩) ([]) ([]))) _) : Rd W8 (SF w [b1_7]) (Mb.d (Mb.mk (⟨#[]⟩) (V.mk (3) (0) (⟨#[]⟩) ([]) ([])))) _) sub_all), trivial⟩⟩⟩⟩ rfl (by intro e he; simp at he; rcases he with rfl | rfl | rfl | rfl <;> exact width_Mb _) (fr_sf kw (in_cons own_b1_7.lt in_nil))) ?_
 refine .op (φ := IsT (IsD (Fr W8) (V.d (objM ([Mb.mk (⟨#[110]⟩) (V.mk (2) (7) (⟨#[]⟩) ([]) ([])), Mb.mk (⟨#[108]⟩) ((V.mk 4 0 ⟨#[]⟩ [] ([V.mk (3) (0) (⟨#[120]⟩) ([]) ([]), V.mk (3) (0) (⟨#[121]⟩) ([]) ([])]))), Mb.mk (⟨#[98]⟩) (V.mk (1) (1) (⟨#[]⟩) ([]) ([])), Mb.mk (⟨#[]⟩) (V.mk (3) (0) (⟨#[]⟩) ([]) ([]))])))) (Is (.int .i64 (objE ([Mb.mk (⟨#[110]⟩) (V.mk (2) (7) (⟨#[]⟩) ([]) ([])), Mb.mk (⟨#[108]⟩) ((V.mk 4 0 ⟨#[]⟩ [] ([V.mk (3) (0) (⟨#[120]⟩) ([]) ([]), V.mk (3) (0) (⟨#[121]⟩) ([]) ([])]))), Mb.mk (⟨#[98]⟩) (V.mk (1) (1) (⟨#[]⟩) ([]) ([])), Mb.mk (⟨#[]⟩) (V.mk (3) (0) (⟨#[]⟩) ([]) ([]))]))))) (st_t (st_d sub_all) (st_is _)) (sp_call1 (φ1 := IsD (SF w [b1_7]) (mbsD ([Mb.mk (⟨#[110]⟩) (V.mk (2) (7) (⟨#[]⟩) ([]) ([])), Mb.mk (⟨#[108]⟩) ((V.mk 4 0 ⟨#[]⟩ [] ([V.mk (3) (0) (⟨#[120]⟩) ([]) ([]), V.mk (3) (0) (⟨#[121]⟩) ([]) ([])]))), Mb.mk (⟨#[98]⟩) (V.mk (1) (1) (⟨#[]⟩) ([]) ([])), Mb.mk (⟨#[]⟩) (V.mk (3) (0) (⟨#[]⟩) ([]) ([]))]))) ent38 (hlc rfl) (fun g u1 W hk hgk h1 => (ObjectOf_ok ([Mb.mk (⟨#[110]⟩) (V.mk (2) (7) (⟨#[]⟩) ([]) ([])), Mb.mk (⟨#[108]⟩) ((V.mk 4 0 ⟨#[]⟩ [] ([V.mk (3) (0) (⟨#[120]⟩) ([]) ([]), V.mk (3) (0) (⟨#[121]⟩) ([]) ([])]))), Mb.mk (⟨#[98]⟩) (V.mk (1) (1) (⟨#[]⟩) ([]) ([])), Mb.mk (⟨#[]⟩) (V.mk (3) (0) (⟨#[]⟩) ([]) ([]))]) (lbr rfl) (lbr rfl) (obw_of (by kernel_rfl)) W _ _ (fun b o h => h.1.2.1) h1).mono (fun _ _ ⟨v, h1, h2, r1, h3, h4⟩ => ⟨v, h1, h2, r1, _, h3, fresh_d hk hgk h4, rfl⟩))) ?_
 refine .op (φ := _) (st_t (st_d sub_all) (st_is _)) (sp_move (hlc rfl)) ?_
 refine .da (X := Fr W8) (e := V.d (objM ([Mb.mk (⟨#[110]⟩) (V.mk (2) (7) (⟨#[]⟩) ([]) ([])), Mb.mk (⟨#[108]⟩) ((V.mk 4 0 ⟨#[]⟩ [] ([V.mk (3) (0) (⟨#[120]⟩) ([]) ([]), V.mk (3) (0) (⟨#[121]⟩) ([]) ([])]))), Mb.mk (⟨#[98]⟩) (V.mk (1) (1) (⟨#[]⟩) ([]) ([])), Mb.mk (⟨#[]⟩) (V.mk (3) (0) (⟨#[]⟩) ([]) ([]))]))) (sp_ext2 (hlc rfl) rfl) ?_
 refine .i (v := (.int .i64 (objE ([Mb.mk (⟨#[110]⟩) (V.mk (2) (7) (⟨#[]⟩) ([]) ([])), Mb.mk (⟨#[108]⟩) ((V.mk 4 0 ⟨#[]⟩ [] ([V.mk (3) (0) (⟨#[120]⟩) ([]) ([]), V.mk (3) (0) (⟨#[121]⟩) ([]) ([])]))), Mb.mk (⟨#[98]⟩) (V.mk (1) (1) (⟨#[]⟩) ([]) ([])), Mb.mk (⟨#[]⟩) (V.mk (3) (0) (⟨#[]⟩) ([]) ([]))])))) (sp_ext2' (hlc rfl) rfl) ?_
 refine .alloc z33 ?_
 refine .dn fun a10 g W10 y10 zz10 hk hg hV hR hP => ?_
 obtain ⟨⟨b2_10, e2, hb2, own_b2_10⟩, e36, e35, -, -, -, -, -, -, -, -, -, -, -, -⟩ := hV
 have lo_b2_10 : w.heap.size ≤ b2_10 := Nat.le_trans kw.size (hg.lo _ _ hb2)
 have ne_b1_7_b2_10 : b1_7 ≠ b2_10 := Nat.ne_of_lt (Nat.lt_of_lt_of_le own_b1_7.lt (hg.lo _ _ hb2))
 have own_b2_10 : Own W10 b2_10 [(.int .u8 (0)), (.int .i64 (0)), (.string (⟨#[]⟩)), (.slice none 0 0), (.slice none 0 0)] 33 := own_b2_10
 replace e1 := ft hR e1
 replace D_cn23_7 := sf_more D_cn23_7 hk [b2_10] (in_cons (hg.lo _ _ hb2) in_nil)
 replace D_ci23_7 := sf_more D_ci23_7 hk [b2_10] (in_cons (hg.lo _ _ hb2) in_nil)
 obtain ⟨v35_10, ev⟩ : ∃ v, sl a10 35 = v := ⟨_, rfl⟩
 rw [ev] at e35
 have D_v35_10 : Rd W10 (SF w [b2_10, b1_7]) (V.d (objM ([Mb.mk (⟨#[110]⟩) (V.mk (2) (7) (⟨#[]⟩) ([]) ([])), Mb.mk (⟨#[108]⟩) ((V.mk 4 0 ⟨#[]⟩ [] ([V.mk (3) (0) (⟨#[120]⟩) ([]) ([]), V.mk (3) (0) (⟨#[121]⟩) ([]) ([])]))), Mb.mk (⟨#[98]⟩) (V.mk (1) (1) (⟨#[]⟩) ([]) ([])), Mb.mk (⟨#[]⟩) (V.mk (3) (0) (⟨#[]⟩) ([]) ([]))]))) v35_10 := fr_end (M := [b1_7]) e35 kw [b2_10] (in_cons ⟨_, hb2⟩ in_nil) (in_cons own_b1_7.lt in_nil)
 replace e35 := ev; clear ev
 obtain ⟨cn35_10a, cn35_10c, ci35_10a, ci35_10c, ev, ht_v35_10, D_cn35_10, D_ci35_10⟩ := rdV_out D_v35_10
 subst ev; clear D_v35_10
 replace e36 := e36.q
 replace own_b1_7 := own_b1_7.ext hk
 replace kw := kw.x hk
 clear hR hk hg hP hb2
 refine tail_store e2 e35 sz33 rfl own_b2_10 (lbr rfl) (all_cons rfl (all_cons rfl (all_cons rfl (all_cons rfl (all_cons rfl all_nil))))) (fun W11 hs own_b2_10 => ?_)
 have own_b2_10 : Own W11 b2_10 [(.int .u8 ((objM ([Mb.mk (⟨#[110]⟩) (V.mk (2) (7) (⟨#[]⟩) ([]) ([])), Mb.mk (⟨#[108]⟩) ((V.mk 4 0 ⟨#[]⟩ [] ([V.mk (3) (0) (⟨#[120]⟩) ([]) ([]), V.mk (3) (0) (⟨#[121]⟩) ([]) ([])]))), Mb.mk (⟨#[98]⟩) (V.mk (1) (1) (⟨#[]⟩) ([]) ([])), Mb.mk (⟨#[]⟩) (V.mk (3) (0) (⟨#[]⟩) ([]) ([]))])).k)), (.int .i64 ((objM ([Mb.mk (⟨#[110]⟩) (V.mk (2) (7) (⟨#[]⟩) ([]) ([])), Mb.mk (⟨#[108]⟩) ((V.mk 4 0 ⟨#[]⟩ [] ([V.mk (3) (0) (⟨#[120]⟩) ([]) ([]), V.mk (3) (0) (⟨#[121]⟩) ([]) ([])]))), Mb.mk (⟨#[98]⟩) (V.mk (1) (1) (⟨#[]⟩) ([]) ([])), Mb.mk (⟨#[]⟩) (V.mk (3) (0) (⟨#[]⟩) ([]) ([]))])).n)), (.string ((objM ([Mb.mk (⟨#[110]⟩) (V.mk (2) (7) (⟨#[]⟩) ([]) ([])), Mb.mk (⟨#[108]⟩) ((V.mk 4 0 ⟨#[]⟩ [] ([V.mk (3) (0) (⟨#[120]⟩) ([]) ([]), V.mk (3) (0) (⟨#[121]⟩) ([]) ([])]))), Mb.mk (⟨#[98]⟩) (V.mk (1) (1) (⟨#[]⟩) ([]) ([])), Mb.mk (⟨#[]⟩) (V.mk (3) (0) (⟨#[]⟩) ([]) ([]))])).t)), (.slice cn35_10a (((objM ([Mb.mk (⟨#[110]⟩) (V.mk (2) (7) (⟨#[]⟩) ([]) ([])), Mb.mk (⟨#[108]⟩) ((V.mk 4 0 ⟨#[]⟩ [] ([V.mk (3) (0) (⟨#[120]⟩) ([]) ([]), V.mk (3) (0) (⟨#[121]⟩) ([]) ([])]))), Mb.mk (⟨#[98]⟩) (V.mk (1) (1) (⟨#[]⟩) ([]) ([])), Mb.mk (⟨#[]⟩) (V.mk (3) (0) (⟨#[]⟩) ([]) ([]))])).ns).length) cn35_10c), (.slice ci35_10a (((objM ([Mb.mk (⟨#[110]⟩) (V.mk (2) (7) (⟨#[]⟩) ([]) ([])), Mb.mk (⟨#[108]⟩) ((V.mk 4 0 ⟨#[]⟩ [] ([V.mk (3) (0) (⟨#[120]⟩) ([]) ([]), V.mk (3) (0) (⟨#[121]⟩) ([]) ([])]))), Mb.mk (⟨#[98]⟩) (V.mk (1) (1) (⟨#[]⟩) ([]) ([])), Mb.mk (⟨#[]⟩) (V.mk (3) (0) (⟨#[]⟩) ([]) ([]))])).xs).length) ci35_10c)] 33 := own_b2_10
 replace own_b1_7 := own_store own_b1_7 hs ne_b1_7_b2_10
 replace D_cn23_7 := sf_store D_cn23_7 hs (by simp)
 replace D_ci23_7 := sf_store D_ci23_7 hs (by simp)
 replace D_cn35_10 := sf_store D_cn35_10 hs (by simp)
 replace D_ci35_10 := sf_store D_ci35_10 hs (by simp)
 replace kw := keeps_store kw hs lo_b2_10
 clear hs
 refine tail_assign (v := (.int .i64 (objE ([Mb.mk (⟨#[110]⟩) (V.mk (2) (7) (⟨#[]⟩) ([]) ([])), Mb.mk (⟨#[108]⟩) ((V.mk 4 0 ⟨#[]⟩ [] ([V.mk (3) (0) (⟨#[120]⟩) ([]) ([]), V.mk (3) (0) (⟨#[121]⟩) ([]) ([])]))), Mb.mk (⟨#[98]⟩) (V.mk (1) (1) (⟨#[]⟩) ([]) ([])), Mb.mk (⟨#[]⟩) (V.mk (3) (0) (⟨#[]⟩) ([]) ([]))])))) e36 (by rw [y10]; exact Nat.le_of_ble_eq_true rfl) (fun a12 y12 zz12 e3 hr => ?_)
 replace y12 := y12.trans y10; replace zz12 := zz12.trans zz10
 replace e1 := (hr 1 (by decide)).trans e1
 replace e2 := (hr 2 (by decide)).trans e2
 replace e35 := (hr 35 (by decide)).trans e35
 replace e36 := (hr 36 (by decide)).trans e36
 clear hr
 refine zn (hK9 _ _ ?_)
 try clear hK9 K9
 refine zq fun K13 hK13 => ?_
 refine zq fun K14 hK14 => ?_
 refine rg mixed y12 zz12 ?_
 refine .mb rfl e3 ?_
 refine .i (sp_neq (hlc rfl) Has.cst) ?_
 refine .i (sp_move (hlc rfl)) ?_
 refine .e rfl (hlc rfl) (fun hg => fo 3 (hbs rfl e2) Try.underlying33 rfl sz23 rfl) ?_
 refine .e rfl (hlc rfl) (fun hg => lo1 ((hlc rfl).undE hg) own_b2_10 trivial agg23 sz23 rfl) ?_
 refine .e rfl (hlc rfl) (fun hg => sp_lenSs Try.underlying23 (((hlc rfl).undE hg).dat D_cn35_10 sub_all)) ?_
 refine .e rfl (hlc rfl) (fun hg => sp_neq ((hlc rfl).undE hg) Has.cst) ?_
 refine .i (sp_or (hlc rfl) ((hlc rfl).weak fun hq => hq)) ?_
 refine .i (sp_move (hlc rfl)) ?_
 refine .e rfl (hlc rfl) (fun hg => fo 3 (hbs rfl e2) Try.underlying33 rfl sz23 rfl) ?_
 refine .e rfl (hlc rfl) (fun hg => lo1 ((hlc rfl).undE hg) own_b2_10 trivial agg23 sz23 rfl) ?_
 refine .opE (t := 45) (φ := IsR (SF w [b2_10, b1_7]) (D.str (((objM ([Mb.mk (⟨#[110]⟩) (V.mk (2) (7) (⟨#[]⟩) ([]) ([])), Mb.mk (⟨#[108]⟩) ((V.mk 4 0 ⟨#[]⟩ [] ([V.mk (3) (0) (⟨#[120]⟩) ([]) ([]), V.mk (3) (0) (⟨#[121]⟩) ([]) ([])]))), Mb.mk (⟨#[98]⟩) (V.mk (1) (1) (⟨#[]⟩) ([]) ([])), Mb.mk (⟨#[]⟩) (V.mk (3) (0) (⟨#[]⟩) ([]) ([]))])).ns)[0]'(by first | assumption | exact Nat.le_of_ble_eq_true (by kernel_rfl))))) rfl (hlc rfl) (st_r sub_all) (fun hg => sp_indexS (i := 0) (((hlc rfl).undE hg).dat D_cn35_10 sub_all) Has.cst Try.underlying23 sz9 rfl (by first | assumption | exact Nat.le_of_ble_eq_true (by kernel_rfl))) ?_
 refine .e rfl (hlc rfl) (fun hg => sp_loadStr ((hlc rfl).undE hg) agg9 sz9) ?_
 refine .e rfl (hlc rfl) (fun hg => sp_sNeq ((hlc rfl).undE hg) Has.cst) ?_
 refine .i (sp_or (hlc rfl) ((hlc rfl).weak fun hq => hq)) ?_
 refine .i (sp_move (hlc rfl)) ?_
 refine .e rfl (hlc rfl) (fun hg => fo 3 (hbs rfl e2) Try.underlying33 rfl sz23 rfl) ?_
 refine .e rfl (hlc rfl) (fun hg => lo1 ((hlc rfl).undE hg) own_b2_10 trivial agg23 sz23 rfl) ?_
 refine .opE (t := 52) (φ := IsR (SF w [b2_10, b1_7]) (D.str (((objM ([Mb.mk (⟨#[110]⟩) (V.mk (2) (7) (⟨#[]⟩) ([]) ([])), Mb.mk (⟨#[108]⟩) ((V.mk 4 0 ⟨#[]⟩ [] ([V.mk (3) (0) (⟨#[120]⟩) ([]) ([]), V.mk (3) (0) (⟨#[121]⟩) ([]) ([])]))), Mb.mk (⟨#[98]⟩) (V.mk (1) (1) (⟨#[]⟩) ([]) ([])), Mb.mk (⟨#[]⟩) (V.mk (3) (0) (⟨#[]⟩) ([]) ([]))])).ns)[3]'(by first | assumption | exact Nat.le_of_ble_eq_true (by kernel_rfl))))) rfl (hlc rfl) (st_r sub_all) (fun hg => sp_indexS (i := 3) (((hlc rfl).undE hg).dat D_cn35_10 sub_all) Has.cst Try.underlying23 sz9 rfl (by first | assumption | exact Nat.le_of_ble_eq_true (by kernel_rfl))) ?_
 refine .e rfl (hlc rfl) (fun hg => sp_loadStr ((hlc rfl).undE hg) agg9 sz9) ?_
 refine .e rfl (hlc rfl) (fun hg => sp_sNeq ((hlc rfl).undE hg) Has.cst) ?_
 refine .i (sp_or (hlc rfl) ((hlc rfl).weak fun hq => hq)) ?_
 refine .dn fun a15 g W15 y15 zz15 hk hg hV hR hP => ?_
 obtain ⟨e58, -, -, -, -, -, -, -, -, -, -, -, -, -, -, -, -, -, -, -, -, -, -⟩ := hV
 replace e1 := ft hR e1
 replace e2 := ft hR e2
 replace D_cn23_7 := D_cn23_7.ext hk
 replace D_ci23_7 := D_ci23_7.ext hk
 replace D_cn35_10 := D_cn35_10.ext hk
 replace D_ci35_10 := D_ci35_10.ext hk
 replace e58 := e58.q
 replace own_b1_7 := own_b1_7.ext hk
 replace own_b2_10 := own_b2_10.ext hk
 replace kw := kw.x hk
 clear hR hk hg hP
 refine zn (hK14 _ _ ?_)
 try clear hK14 K14
 refine zc e58 (fun hc => ?_) (fun hc => ?_)
 ·
  exfalso
  exact Bool.noConfusion (hc.symm.trans (by kernel_rfl : _ = false))
 refine wp_skip (hK13 _ _ ?_)
 try clear hK13 K13
 refine zq fun K16 hK16 => ?_
 refine zq fun K17 hK17 => ?_
 refine rg mixed y15 zz15 ?_
 refine .i (v := (.agg #[(.int .u8 (2)), (.string (⟨#[110]⟩)), (.int .i64 (7)), (.int .i64 (7)), (.int .i64 (0)), (.int .i64 (0))])) (sp_build (vs := [(0, (.int .u8 (2))), (1, (.string (⟨#[110]⟩))), (2, (.int .i64 (7))), (3, (.int .i64 (7)))]) Try.underlying54 z54 (pl54 Try.underlying54) ⟨rfl, Has.cst, rfl, Has.cst, rfl, Has.cst, rfl, Has.cst, trivial⟩ rfl) ?_
 refine .i (v := (.agg #[(.int .u8 (2)), (.string (⟨#[110]⟩)), (.int .i64 (7)), (.int .i64 (7)), (.int .i64 (0)), (.int .i64 (0)), (.int .i64 (0))])) (sp_build (vs := [(0, (.agg #[(.int .u8 (2)), (.string (⟨#[110]⟩)), (.int .i64 (7)), (.int .i64 (7)), (.int .i64 (0)), (.int .i64 (0))])), (1, (.int .i64 (0)))]) Try.underlying69 z69 (pl69 Try.underlying69) ⟨rfl, (hlc rfl), rfl, Has.cst, trivial⟩ (by kernel_rfl)) ?_
 refine .i (v := (.agg #[(.int .u8 (2)), (.string (⟨#[110]⟩)), (.int .i64 (8)), (.int .i64 (9)), (.int .i64 (0)), (.int .i64 (0))])) (sp_build (vs := [(0, (.int .u8 (2))), (1, (.string (⟨#[110]⟩))), (2, (.int .i64 (8))), (3, (.int .i64 (9)))]) Try.underlying54 z54 (pl54 Try.underlying54) ⟨rfl, Has.cst, rfl, Has.cst, rfl, Has.cst, rfl, Has.cst, trivial⟩ rfl) ?_
 refine .i (v := (.agg #[(.int .u8 (2)), (.string (⟨#[110]⟩)), (.int .i64 (8)), (.int .i64 (9)), (.int .i64 (0)), (.int .i64 (0)), (.int .i64 (1))])) (sp_build (vs := [(0, (.agg #[(.int .u8 (2)), (.string (⟨#[110]⟩)), (.int .i64 (8)), (.int .i64 (9)), (.int .i64 (0)), (.int .i64 (0))])), (1, (.int .i64 (1)))]) Try.underlying69 z69 (pl69 Try.underlying69) ⟨rfl, (hlc rfl), rfl, Has.cst, trivial⟩ (by kernel_rfl)) ?_
 refine .i (v := (.agg #[(.int .u8 (2)), (.string (⟨#[110]⟩)), (.int .i64 (0)), (.int .i64 (6)), (.int .i64 (0)), (.int .i64 (0))])) (sp_build (vs := [(0, (.int .u8 (2))), (1, (.string (⟨#[110]⟩))), (2, (.int .i64 (0))), (3, (.int .i64 (6)))]) Try.underlying54 z54 (pl54 Try.underlying54) ⟨rfl, Has.cst, rfl, Has.cst, rfl, Has.cst, rfl, Has.cst, trivial⟩ rfl) ?_
 refine .i (v := (.agg #[(.int .u8 (2)), (.string (⟨#[110]⟩)), (.int .i64 (0)), (.int .i64 (6)), (.int .i64 (0)), (.int .i64 (0)), (.int .i64 (1))])) (sp_build (vs := [(0, (.agg #[(.int .u8 (2)), (.string (⟨#[110]⟩)), (.int .i64 (0)), (.int .i64 (6)), (.int .i64 (0)), (.int .i64 (0))])), (1, (.int .i64 (1)))]) Try.underlying69 z69 (pl69 Try.underlying69) ⟨rfl, (hlc rfl), rfl, Has.cst, trivial⟩ (by kernel_rfl)) ?_
 refine .i (v := (.agg #[(.int .u8 (2)), (.string (⟨#[108]⟩)), (.int .i64 (0)), (.int .i64 (0)), (.int .i64 (0)), (.int .i64 (0))])) (sp_build (vs := [(0, (.int .u8 (2))), (1, (.string (⟨#[108]⟩)))]) Try.underlying54 z54 (pl54 Try.underlying54) ⟨rfl, Has.cst, rfl, Has.cst, trivial⟩ rfl) ?_
 refine .i (v := (.agg #[(.int .u8 (2)), (.string (⟨#[108]⟩)), (.int .i64 (0)), (.int .i64 (0)), (.int .i64 (0)), (.int .i64 (0)), (.int .i64 (10))])) (sp_build (vs := [(0, (.agg #[(.int .u8 (2)), (.string (⟨#[108]⟩)), (.int .i64 (0)), (.int .i64 (0)), (.int .i64 (0)), (.int .i64 (0))])), (1, (.int .i64 (10)))]) Try.underlying69 z69 (pl69 Try.underlying69) ⟨rfl, (hlc rfl), rfl, Has.cst, trivial⟩ (by kernel_rfl)) ?_
 refine .i (v := (.agg #[(.int .u8 (2)), (.string (⟨#[120]⟩)), (.int .i64 (0)), (.int .i64 (0)), (.int .i64 (0)), (.int .i64 (0))])) (sp_build (vs := [(0, (.int .u8 (2))), (1, (.string (⟨#[120]⟩)))]) Try.underlying54 z54 (pl54 Try.underlying54) ⟨rfl, Has.cst, rfl, Has.cst, trivial⟩ rfl) ?_
 refine .i (v := (.agg #[(.int .u8 (2)), (.string (⟨#[120]⟩)), (.int .i64 (0)), (.int .i64 (0)), (.int .i64 (0)), (.int .i64 (0)), (.int .i64 (6))])) (sp_build (vs := [(0, (.agg #[(.int .u8 (2)), (.string (⟨#[120]⟩)), (.int .i64 (0)), (.int .i64 (0)), (.int .i64 (0)), (.int .i64 (0))])), (1, (.int .i64 (6)))]) Try.underlying69 z69 (pl69 Try.underlying69) ⟨rfl, (hlc rfl), rfl, Has.cst, trivial⟩ (by kernel_rfl)) ?_
 refine .i (v := (.agg #[(.int .u8 (4)), (.string (⟨#[108]⟩)), (.int .i64 (0)), (.int .i64 (0)), (.int .i64 (2)), (.int .i64 (0))])) (sp_build (vs := [(0, (.int .u8 (4))), (1, (.string (⟨#[108]⟩))), (4, (.int .i64 (2)))]) Try.underlying54 z54 (pl54 Try.underlying54) ⟨rfl, Has.cst, rfl, Has.cst, rfl, Has.cst, trivial⟩ rfl) ?_
 refine .i (v := (.agg #[(.int .u8 (4)), (.string (⟨#[108]⟩)), (.int .i64 (0)), (.int .i64 (0)), (.int .i64 (2)), (.int .i64 (0)), (.int .i64 (0))])) (sp_build (vs := [(0, (.agg #[(.int .u8 (4)), (.string (⟨#[108]⟩)), (.int .i64 (0)), (.int .i64 (0)), (.int .i64 (2)), (.int .i64 (0))])), (1, (.int .i64 (0)))]) Try.underlying69 z69 (pl69 Try.underlying69) ⟨rfl, (hlc rfl), rfl, Has.cst, trivial⟩ (by kernel_rfl)) ?_
 refine .i (v := (.agg #[(.int .u8 (4)), (.string (⟨#[108]⟩)), (.int .i64 (0)), (.int .i64 (0)), (.int .i64 (1)), (.int .i64 (0))])) (sp_build (vs := [(0, (.int .u8 (4))), (1, (.string (⟨#[108]⟩))), (4, (.int .i64 (1)))]) Try.underlying54 z54 (pl54 Try.underlying54) ⟨rfl, Has.cst, rfl, Has.cst, rfl, Has.cst, trivial⟩ rfl) ?_
 refine .i (v := (.agg #[(.int .u8 (4)), (.string (⟨#[108]⟩)), (.int .i64 (0)), (.int .i64 (0)), (.int .i64 (1)), (.int .i64 (0)), (.int .i64 (5))])) (sp_build (vs := [(0, (.agg #[(.int .u8 (4)), (.string (⟨#[108]⟩)), (.int .i64 (0)), (.int .i64 (0)), (.int .i64 (1)), (.int .i64 (0))])), (1, (.int .i64 (5)))]) Try.underlying69 z69 (pl69 Try.underlying69) ⟨rfl, (hlc rfl), rfl, Has.cst, trivial⟩ (by kernel_rfl)) ?_
 refine .i (v := (.agg #[(.int .u8 (4)), (.string (⟨#[108]⟩)), (.int .i64 (0)), (.int .i64 (0)), (.int .i64 (-1)), (.int .i64 (0))])) (sp_build (vs := [(0, (.int .u8 (4))), (1, (.string (⟨#[108]⟩))), (4, (.int .i64 (-1)))]) Try.underlying54 z54 (pl54 Try.underlying54) ⟨rfl, Has.cst, rfl, Has.cst, rfl, Has.cst, trivial⟩ rfl) ?_
 refine .i (v := (.agg #[(.int .u8 (4)), (.string (⟨#[108]⟩)), (.int .i64 (0)), (.int .i64 (0)), (.int .i64 (-1)), (.int .i64 (0)), (.int .i64 (5))])) (sp_build (vs := [(0, (.agg #[(.int .u8 (4)), (.string (⟨#[108]⟩)), (.int .i64 (0)), (.int .i64 (0)), (.int .i64 (-1)), (.int .i64 (0))])), (1, (.int .i64 (5)))]) Try.underlying69 z69 (pl69 Try.underlying69) ⟨rfl, (hlc rfl), rfl, Has.cst, trivial⟩ (by kernel_rfl)) ?_
 refine .i (v := (.agg #[(.int .u8 (5)), (.string (⟨#[108]⟩)), (.int .i64 (0)), (.int .i64 (0)), (.int .i64 (1)), (.int .i64 (0))])) (sp_build (vs := [(0, (.int .u8 (5))), (1, (.string (⟨#[108]⟩))), (4, (.int .i64 (1)))]) Try.underlying54 z54 (pl54 Try.underlying54) ⟨rfl, Has.cst, rfl, Has.cst, rfl, Has.cst, trivial⟩ rfl) ?_
 refine .i (v := (.agg #[(.int .u8 (5)), (.string (⟨#[108]⟩)), (.int .i64 (0)), (.int .i64 (0)), (.int .i64 (1)), (.int .i64 (0)), (.int .i64 (5))])) (sp_build (vs := [(0, (.agg #[(.int .u8 (5)), (.string (⟨#[108]⟩)), (.int .i64 (0)), (.int .i64 (0)), (.int .i64 (1)), (.int .i64 (0))])), (1, (.int .i64 (5)))]) Try.underlying69 z69 (pl69 Try.underlying69) ⟨rfl, (hlc rfl), rfl, Has.cst, trivial⟩ (by kernel_rfl)) ?_
 refine .i (v := (.agg #[(.int .u8 (5)), (.string (⟨#[108]⟩)), (.int .i64 (0)), (.int .i64 (0)), (.int .i64 (9)), (.int .i64 (0))])) (sp_build (vs := [(0, (.int .u8 (5))), (1, (.string (⟨#[108]⟩))), (4, (.int .i64 (9)))]) Try.underlying54 z54 (pl54 Try.underlying54) ⟨rfl, Has.cst, rfl, Has.cst, rfl, Has.cst, trivial⟩ rfl) ?_
 refine .i (v := (.agg #[(.int .u8 (5)), (.string (⟨#[108]⟩)), (.int .i64 (0)), (.int .i64 (0)), (.int .i64 (9)), (.int .i64 (0)), (.int .i64 (0))])) (sp_build (vs := [(0, (.agg #[(.int .u8 (5)), (.string (⟨#[108]⟩)), (.int .i64 (0)), (.int .i64 (0)), (.int .i64 (9)), (.int .i64 (0))])), (1, (.int .i64 (0)))]) Try.underlying69 z69 (pl69 Try.underlying69) ⟨rfl, (hlc rfl), rfl, Has.cst, trivial⟩ (by kernel_rfl)) ?_
 refine .i (v := (.agg #[(.int .u8 (6)), (.string (⟨#[108]⟩)), (.int .i64 (0)), (.int .i64 (0)), (.int .i64 (9)), (.int .i64 (0))])) (sp_build (vs := [(0, (.int .u8 (6))), (1, (.string (⟨#[108]⟩))), (4, (.int .i64 (9)))]) Try.underlying54 z54 (pl54 Try.underlying54) ⟨rfl, Has.cst, rfl, Has.cst, rfl, Has.cst, trivial⟩ rfl) ?_
 refine .i (v := (.agg #[(.int .u8 (6)), (.string (⟨#[108]⟩)), (.int .i64 (0)), (.int .i64 (0)), (.int .i64 (9)), (.int .i64 (0)), (.int .i64 (10))])) (sp_build (vs := [(0, (.agg #[(.int .u8 (6)), (.string (⟨#[108]⟩)), (.int .i64 (0)), (.int .i64 (0)), (.int .i64 (9)), (.int .i64 (0))])), (1, (.int .i64 (10)))]) Try.underlying69 z69 (pl69 Try.underlying69) ⟨rfl, (hlc rfl), rfl, Has.cst, trivial⟩ (by kernel_rfl)) ?_
 refine .i (v := (.agg #[(.int .u8 (3)), (.string (⟨#[98]⟩)), (.int .i64 (0)), (.int .i64 (0)), (.int .i64 (0)), (.int .i64 (0))])) (sp_build (vs := [(0, (.int .u8 (3))), (1, (.string (⟨#[98]⟩)))]) Try.underlying54 z54 (pl54 Try.underlying54) ⟨rfl, Has.cst, rfl, Has.cst, trivial⟩ rfl) ?_
 refine .i (v := (.agg #[(.int .u8 (3)), (.string (⟨#[98]⟩)), (.int .i64 (0)), (.int .i64 (0)), (.int .i64 (0)), (.int .i64 (0)), (.int .i64 (0))])) (sp_build (vs := [(0, (.agg #[(.int .u8 (3)), (.string (⟨#[98]⟩)), (.int .i64 (0)), (.int .i64 (0)), (.int .i64 (0)), (.int .i64 (0))])), (1, (.int .i64 (0)))]) Try.underlying69 z69 (pl69 Try.underlying69) ⟨rfl, (hlc rfl), rfl, Has.cst, trivial⟩ (by kernel_rfl)) ?_
 refine .i (v := (.agg #[(.int .u8 (1)), (.string (⟨#[]⟩)), (.int .i64 (0)), (.int .i64 (0)), (.int .i64 (0)), (.int .i64 (0))])) (sp_build (vs := [(0, (.int .u8 (1))), (1, (.string (⟨#[]⟩)))]) Try.underlying54 z54 (pl54 Try.underlying54) ⟨rfl, Has.cst, rfl, Has.cst, trivial⟩ rfl) ?_
 refine .i (v := (.agg #[(.int .u8 (1)), (.string (⟨#[]⟩)), (.int .i64 (0)), (.int .i64 (0)), (.int .i64 (0)), (.int .i64 (0)), (.int .i64 (0))])) (sp_build (vs := [(0, (.agg #[(.int .u8 (1)), (.string (⟨#[]⟩)), (.int .i64 (0)), (.int .i64 (0)), (.int .i64 (0)), (.int .i64 (0))])), (1, (.int .i64 (0)))]) Try.underlying69 z69 (pl69 Try.underlying69) ⟨rfl, (hlc rfl), rfl, Has.cst, trivial⟩ (by kernel_rfl)) ?_
 refine .i (v := (.agg #[(.int .u8 (1)), (.string (⟨#[98]⟩)), (.int .i64 (0)), (.int .i64 (0)), (.int .i64 (0)), (.int .i64 (0))])) (sp_build (vs := [(0, (.int .u8 (1))), (1, (.string (⟨#[98]⟩)))]) Try.underlying54 z54 (pl54 Try.underlying54) ⟨rfl, Has.cst, rfl, Has.cst, trivial⟩ rfl) ?_
 refine .i (v := (.agg #[(.int .u8 (1)), (.string (⟨#[98]⟩)), (.int .i64 (0)), (.int .i64 (0)), (.int .i64 (0)), (.int .i64 (0)), (.int .i64 (10))])) (sp_build (vs := [(0, (.agg #[(.int .u8 (1)), (.string (⟨#[98]⟩)), (.int .i64 (0)), (.int .i64 (0)), (.int .i64 (0)), (.int .i64 (0))])), (1, (.int .i64 (10)))]) Try.underlying69 z69 (pl69 Try.underlying69) ⟨rfl, (hlc rfl), rfl, Has.cst, trivial⟩ (by kernel_rfl)) ?_
 refine .i (v := (.agg #[(.int .u8 (7)), (.string (⟨#[98]⟩)), (.int .i64 (0)), (.int .i64 (0)), (.int .i64 (0)), (.int .i64 (0))])) (sp_build (vs := [(0, (.int .u8 (7))), (1, (.string (⟨#[98]⟩)))]) Try.underlying54 z54 (pl54 Try.underlying54) ⟨rfl, Has.cst, rfl, Has.cst, trivial⟩ rfl) ?_
 refine .i (v := (.agg #[(.int .u8 (7)), (.string (⟨#[98]⟩)), (.int .i64 (0)), (.int .i64 (0)), (.int .i64 (0)), (.int .i64 (0)), (.int .i64 (0))])) (sp_build (vs := [(0, (.agg #[(.int .u8 (7)), (.string (⟨#[98]⟩)), (.int .i64 (0)), (.int .i64 (0)), (.int .i64 (0)), (.int .i64 (0))])), (1, (.int .i64 (0)))]) Try.underlying69 z69 (pl69 Try.underlying69) ⟨rfl, (hlc rfl), rfl, Has.cst, trivial⟩ (by kernel_rfl)) ?_
 refine .i (v := (.agg #[(.int .u8 (7)), (.string (⟨#[99]⟩)), (.int .i64 (0)), (.int .i64 (0)), (.int .i64 (0)), (.int .i64 (0))])) (sp_build (vs := [(0, (.int .u8 (7))), (1, (.string (⟨#[99]⟩)))]) Try.underlying54 z54 (pl54 Try.underlying54) ⟨rfl, Has.cst, rfl, Has.cst, trivial⟩ rfl) ?_
 refine .i (v := (.agg #[(.int .u8 (7)), (.string (⟨#[99]⟩)), (.int .i64 (0)), (.int .i64 (0)), (.int .i64 (0)), (.int .i64 (0)), (.int .i64 (6))])) (sp_build (vs := [(0, (.agg #[(.int .u8 (7)), (.string (⟨#[99]⟩)), (.int .i64 (0)), (.int .i64 (0)), (.int .i64 (0)), (.int .i64 (0))])), (1, (.int .i64 (6)))]) Try.underlying69 z69 (pl69 Try.underlying69) ⟨rfl, (hlc rfl), rfl, Has.cst, trivial⟩ (by kernel_rfl)) ?_
 refine .i (v := (.agg #[(.int .u8 (8)), (.string (⟨#[]⟩)), (.int .i64 (0)), (.int .i64 (0)), (.int .i64 (0)), (.int .i64 (12))])) (sp_build (vs := [(0, (.int .u8 (8))), (5, (.int .i64 (12)))]) Try.underlying54 z54 (pl54 Try.underlying54) ⟨rfl, Has.cst, rfl, Has.cst, trivial⟩ rfl) ?_
 refine .i (v := (.agg #[(.int .u8 (8)), (.string (⟨#[]⟩)), (.int .i64 (0)), (.int .i64 (0)), (.int .i64 (0)), (.int .i64 (12)), (.int .i64 (12))])) (sp_build (vs := [(0, (.agg #[(.int .u8 (8)), (.string (⟨#[]⟩)), (.int .i64 (0)), (.int .i64 (0)), (.int .i64 (0)), (.int .i64 (12))])), (1, (.int .i64 (12)))]) Try.underlying69 z69 (pl69 Try.underlying69) ⟨rfl, (hlc rfl), rfl, Has.cst, trivial⟩ (by kernel_rfl)) ?_
 refine .i (v := (.agg #[(.int .u8 (8)), (.string (⟨#[]⟩)), (.int .i64 (0)), (.int .i64 (0)), (.int .i64 (0)), (.int .i64 (0))])) (sp_build (vs := [(0, (.int .u8 (8)))]) Try.underlying54 z54 (pl54 Try.underlying54) ⟨rfl, Has.cst, trivial⟩ rfl) ?_
 refine .i (v := (.agg #[(.int .u8 (8)), (.string (⟨#[]⟩)), (.int .i64 (0)), (.int .i64 (0)), (.int .i64 (0)), (.int .i64 (0)), (.int .i64 (0))])) (sp_build (vs := [(0, (.agg #[(.int .u8 (8)), (.string (⟨#[]⟩)), (.int .i64 (0)), (.int .i64 (0)), (.int .i64 (0)), (.int .i64 (0))])), (1, (.int .i64 (0)))]) Try.underlying69 z69 (pl69 Try.underlying69) ⟨rfl, (hlc rfl), rfl, Has.cst, trivial⟩ (by kernel_rfl)) ?_
 refine .i (v := (.agg #[(.int .u8 (0)), (.string (⟨#[110, 111, 110, 101]⟩)), (.int .i64 (0)), (.int .i64 (0)), (.int .i64 (0)), (.int .i64 (0))])) (sp_build (vs := [(1, (.string (⟨#[110, 111, 110, 101]⟩)))]) Try.underlying54 z54 (pl54 Try.underlying54) ⟨rfl, Has.cst, trivial⟩ rfl) ?_
 refine .i (v := (.agg #[(.int .u8 (0)), (.string (⟨#[110, 111, 110, 101]⟩)), (.int .i64 (0)), (.int .i64 (0)), (.int .i64 (0)), (.int .i64 (0)), (.int .i64 (0))])) (sp_build (vs := [(0, (.agg #[(.int .u8 (0)), (.string (⟨#[110, 111, 110, 101]⟩)), (.int .i64 (0)), (.int .i64 (0)), (.int .i64 (0)), (.int .i64 (0))])), (1, (.int .i64 (0)))]) Try.underlying69 z69 (pl69 Try.underlying69) ⟨rfl, (hlc rfl), rfl, Has.cst, trivial⟩ (by kernel_rfl)) ?_
 refine .da (X := SF w [b2_10, b1_7]) (e := pnsD ([Pn.mk (Cl.mk (2) (⟨#[110]⟩) (7) (7) (0) (0)) (0), Pn.mk (Cl.mk (2) (⟨#[110]⟩) (8) (9) (0) (0)) (1), Pn.mk (Cl.mk (2) (⟨#[110]⟩) (0) (6) (0) (0)) (1), Pn.mk (Cl.mk (2) (⟨#[108]⟩) (0) (0) (0) (0)) (10), Pn.mk (Cl.mk (2) (⟨#[120]⟩) (0) (0) (0) (0)) (6), Pn.mk (Cl.mk (4) (⟨#[108]⟩) (0) (0) (2) (0)) (0), Pn.mk (Cl.mk (4) (⟨#[108]⟩) (0) (0) (1) (0)) (5), Pn.mk (Cl.mk (4) (⟨#[108]⟩) (0) (0) (-1) (0)) (5), Pn.mk (Cl.mk (5) (⟨#[108]⟩) (0) (0) (1) (0)) (5), Pn.mk (Cl.mk (5) (⟨#[108]⟩) (0) (0) (9) (0)) (0), Pn.mk (Cl.mk (6) (⟨#[108]⟩) (0) (0) (9) (0)) (10), Pn.mk (Cl.mk (3) (⟨#[98]⟩) (0) (0) (0) (0)) (0), Pn.mk (Cl.mk (1) (⟨#[]⟩) (0) (0) (0) (0)) (0), Pn.mk (Cl.mk (1) (⟨#[98]⟩) (0) (0) (0) (0)) (10), Pn.mk (Cl.mk (7) (⟨#[98]⟩) (0) (0) (0) (0)) (0), Pn.mk (Cl.mk (7) (⟨#[99]⟩) (0) (0) (0) (0)) (6), Pn.mk (Cl.mk (8) (⟨#[]⟩) (0) (0) (0) (12)) (12), Pn.mk (Cl.mk (8) (⟨#[]⟩) (0) (0) (0) (0)) (0), Pn.mk (Cl.mk (0) (⟨#[110, 111, 110, 101]⟩) (0) (0) (0) (0)) (0)])) (sp_bsl (ds := [Pn.d (Pn.mk (Cl.mk (2) (⟨#[110]⟩) (7) (7) (0) (0)) (0)), Pn.d (Pn.mk (Cl.mk (2) (⟨#[110]⟩) (8) (9) (0) (0)) (1)), Pn.d (Pn.mk (Cl.mk (2) (⟨#[110]⟩) (0) (6) (0) (0)) (1)), Pn.d (Pn.mk (Cl.mk (2) (⟨#[108]⟩) (0) (0) (0) (0)) (10)), Pn.d (Pn.mk (Cl.mk (2) (⟨#[120]⟩) (0) (0) (0) (0)) (6)), Pn.d (Pn.mk (Cl.mk (4) (⟨#[108]⟩) (0) (0) (2) (0)) (0)), Pn.d (Pn.mk (Cl.mk (4) (⟨#[108]⟩) (0) (0) (1) (0)) (5)), Pn.d (Pn.mk (Cl.mk (4) (⟨#[108]⟩) (0) (0) (-1) (0)) (5)), Pn.d (Pn.mk (Cl.mk (5) (⟨#[108]⟩) (0) (0) (1) (0)) (5)), Pn.d (Pn.mk (Cl.mk (5) (⟨#[108]⟩) (0) (0) (9) (0)) (0)), Pn.d (Pn.mk (Cl.mk (6) (⟨#[108]⟩) (0) (0) (9) (0)) (10)), Pn.d (Pn.mk (Cl.mk (3) (⟨#[98]⟩) (0) (0) (0) (0)) (0)), Pn.d (Pn.mk (Cl.mk (1) (⟨#[]⟩) (0) (0) (0) (0)) (0)), Pn.d (Pn.mk (Cl.mk (1) (⟨#[98]⟩) (0) (0) (0) (0)) (10)), Pn.d (Pn.mk (Cl.mk (7) (⟨#[98]⟩) (0) (0) (0) (0)) (0)), Pn.d (Pn.mk (Cl.mk (7) (⟨#[99]⟩) (0) (0) (0) (0)) (6)), Pn.d (Pn.mk (Cl.mk (8) (⟨#[]⟩) (0) (0) (0) (12)) (12)), Pn.d (Pn.mk (Cl.mk (8) (⟨#[]⟩) (0) (0) (0) (0)) (0)), Pn.d (Pn.mk (Cl.mk (0) (⟨#[110, 111, 110, 101]⟩) (0) (0) (0) (0)) (0))]) Try.underlying70 sz69 z69 (lbr rfl) (lbr rfl) ⟨rfl, ((hlc rfl).dat (rdPn_mk (rdCl_mk (lbr rfl) : Rd W15 (SF w [b2_10, b1_7]) (Cl.d (Cl.mk (2) (⟨#[110]⟩) (7) (7) (0) (0))) _) : Rd W15 (SF w [b2_10, b1_7]) (Pn.d (Pn.mk (Cl.mk (2) (⟨#[110]⟩) (7) (7) (0) (0)) (0))) _) sub_all), ⟨rfl, ((hlc rfl).dat (rdPn_mk (rdCl_mk (lbr rfl) : Rd W15 (SF w [b2_10, b1_7]) (Cl.d (Cl.mk (2) (⟨#[110]⟩) (8) (9) (0) (0))) _) : Rd W15 (SF w [b2_10, b1_7]) (Pn.d (Pn.mk (Cl.mk (2) (⟨#[110]⟩) (8) (9) (0) (0)) (1))) _) sub_all), ⟨rfl, ((hlc rfl).dat (rdPn_mk (rdCl_mk (lbr rfl) : Rd W15 (SF w [b2_10, b1_7]) (Cl.d (Cl.mk (2) (⟨#[110]⟩) (0) (6) (0) (0))) _) : Rd W15 (SF w [b2_10, b1_7]) (Pn.d (Pn.mk (Cl.mk (2) (⟨#[110]⟩) (0) (6) (0) (0)) (1))) _) sub_all), ⟨rfl, ((hlc rfl).dat (rdPn_mk (rdCl_mk (lbr rfl) : Rd W15 (SF w [b2_10, b1_7]) (Cl.d (Cl.mk (2) (⟨#[108]⟩) (0) (0) (0) (0))) _) : Rd W15 (SF w [b2_10, b1_7]) (Pn.d (Pn.mk (Cl.mk (2) (⟨#[108]⟩) (0) (0) (0) (0)) (10))) _) sub_all), ⟨rfl, ((hlc rfl).dat (rdPn_mk (rdCl_mk (lbr rfl) : Rd W15 (SF w [b2_10, b1_7]) (Cl.d (Cl.mk (2) (⟨#[120]⟩) (0) (0) (0) (0))) _) : Rd W15 (SF w [b2_10, b1_7]) (Pn.d (Pn.mk (Cl.mk (2) (⟨#[120]⟩) (0) (0) (0) (0)) (6))) _) sub_all), ⟨rfl, ((hlc rfl).dat (rdPn_mk (rdCl_mk (lbr rfl) : Rd W15 (SF w [b2_10, b1_7]) (Cl.d (Cl.mk (4) (⟨#[108]⟩) (0) (0) (2) (0))) _) : Rd W15 (SF w [b2_10, b1_7]) (Pn.d (Pn.mk (Cl.mk (4) (⟨#[108]⟩) (0) (0) (2) (0)) (0))) _) sub_all), ⟨rfl, ((hlc rfl).dat (rdPn_mk (rdCl_mk (lbr rfl) : Rd W15 (SF w [b2_10, b1_7]) (Cl.d (Cl.mk (4) (⟨#[108]⟩) (0) (0) (1) (0))) _) : Rd W15 (SF w [b2_10, b1_7]) (Pn.d (Pn.mk (Cl.mk (4) (⟨#[108]⟩) (0) (0) (1) (0)) (5))) _) sub_all), ⟨rfl, ((hlc rfl).dat (rdPn_mk (rdCl_mk (lbr rfl) : Rd W15 (SF w [b2_10, b1_7]) (Cl.d (Cl.mk (4) (⟨#[108]⟩) (0) (0) (-1) (0))) _) : Rd W15 (SF w [b2_10, b1_7]) (Pn.d (Pn.mk (Cl.mk (4) (⟨#[108]⟩) (0) (0) (-1) (0)) (5))) _) sub_all), ⟨rfl, ((hlc rfl).dat (rdPn_mk (rdCl_mk (lbr rfl) : Rd W15 (SF w [b2_10, b1_7]) (Cl.d (Cl.mk (5) (⟨#[108]⟩) (0) (0) (1) (0))) _) : Rd W15 (SF w [b2_10, b1_7]) (Pn.d (Pn.mk (Cl.mk (5) (⟨#[108]⟩) (0) (0) (1) (0)) (5))) _) sub_all), ⟨rfl, ((hlc rfl).dat (rdPn_mk (rdCl_mk (lbr rfl) : Rd W15 (SF w [b2_10, b1_7]) (Cl.d (Cl.mk (5) (⟨#[108]⟩) (0) (0) (9) (0))) _) : Rd W15 (SF w [b2_10, b1_7]) (Pn.d (Pn.mk (Cl.mk (5) (⟨#[108]⟩) (0) (0) (9) (0)) (0))) _) sub_all), ⟨rfl, ((hlc rfl).dat (rdPn_mk (rdCl_mk (lbr rfl) : Rd W15 (SF w [b2_10, b1_7]) (Cl.d (Cl.mk (6) (⟨#[108]⟩) (0) (0) (9) (0))) _) : Rd W15 (SF w [b2_10, b1_7]) (Pn.d (Pn.mk (Cl.mk (6) (⟨#[108]⟩) (0) (0) (9) (0)) (10))) _) sub_all), ⟨rfl, ((hlc rfl).dat (rdPn_mk (rdCl_mk (lbr rfl) : Rd W15 (SF w [b2_10, b1_7]) (Cl.d (Cl.mk (3) (⟨#[98]⟩) (0) (0) (0) (0))) _) : Rd W15 (SF w [b2_10, b1_7]) (Pn.d (Pn.mk (Cl.mk (3) (⟨#[98]⟩) (0) (0) (0) (0)) (0))) _) sub_all), ⟨rfl, ((hlc rfl).dat (rdPn_mk (rdCl_mk (lbr rfl) : Rd W15 (SF w [b2_10, b1_7]) (Cl.d (Cl.mk (1) (⟨#[]⟩) (0) (0) (0) (0))) _) : Rd W15 (SF w [b2_10, b1_7]) (Pn.d (Pn.mk (Cl.mk (1) (⟨#[]⟩) (0) (0) (0) (0)) (0))) _) sub_all), ⟨rfl, ((hlc rfl).dat (rdPn_mk (rdCl_mk (lbr rfl) : Rd W15 (SF w [b2_10, b1_7]) (Cl.d (Cl.mk (1) (⟨#[98]⟩) (0) (0) (0) (0))) _) : Rd W15 (SF w [b2_10, b1_7]) (Pn.d (Pn.mk (Cl.mk (1) (⟨#[98]⟩) (0) (0) (0) (0)) (10))) _) sub_all), ⟨rfl, ((hlc rfl).dat (rdPn_mk (rdCl_mk (lbr rfl) : Rd W15 (SF w [b2_10, b1_7]) (Cl.d (Cl.mk (7) (⟨#[98]⟩) (0) (0) (0) (0))) _) : Rd W15 (SF w [b2_10, b1_7]) (Pn.d (Pn.mk (Cl.mk (7) (⟨#[98]⟩) (0) (0) (0) (0)) (0))) _) sub_all), ⟨rfl, ((hlc rfl).dat (rdPn_mk (rdCl_mk (lbr rfl) : Rd W15 (SF w [b2_10, b1_7]) (Cl.d (Cl.mk (7) (⟨#[99]⟩) (0) (0) (0) (0))) _) : Rd W15 (SF w [b2_10, b1_7]) (Pn.d (Pn.mk (Cl.mk (7) (⟨#[99]⟩) (0) (0) (0) (0)) (6))) _) sub_all), ⟨rfl, ((hlc rfl).dat (rdPn_mk (rdCl_mk (lbr rfl) : Rd W15 (SF w [b2_10, b1_7]) (Cl.d (Cl.mk (8) (⟨#[]⟩) (0) (0) (0) (12))) _) : Rd W15 (SF w [b2_10, b1_7]) (Pn.d (Pn.mk (Cl.mk (8) (⟨#[]⟩) (0) (0) (0) (12)) (12))) _) sub_all), ⟨rfl, ((hlc rfl).dat (rdPn_mk (rdCl_mk (lbr rfl) : Rd W15 (SF w [b2_10, b1_7]) (Cl.d (Cl.mk (8) (⟨#[]⟩) (0) (0) (0) (0))) _) : Rd W15 (SF w [b2_10, b1_7]) (Pn.d (Pn.mk (Cl.mk (8) (⟨#[]⟩) (0) (0) (0) (0)) (0))) _) sub_all), ⟨rfl, ((hlc rfl).dat (rdPn_mk (rdCl_mk (lbr rfl) : Rd W15 (SF w [b2_10, b1_7]) (Cl.d (Cl.mk (0) (⟨#[110, 111, 110, 101]⟩) (0) (0) (0) (0))) _) : Rd W15 (SF w [b2_10, b1_7]) (Pn.d (Pn.mk (Cl.mk (0) (⟨#[110, 111, 110, 101]⟩) (0) (0) (0) (0)) (0))) _) sub_all), trivial⟩⟩⟩⟩⟩⟩⟩⟩⟩⟩⟩⟩⟩⟩⟩⟩⟩⟩⟩ rfl (by intro e he; simp at he; rcases he with rfl | rfl | rfl | rfl | rfl | rfl | rfl | rfl | rfl | rfl | rfl | rfl | rfl | rfl | rfl | rfl | rfl | rfl | rfl <;> exact width_Pn _) (fr_sf kw (in_cons own_b2_10.lt (in_cons own_b1_7.lt in_nil)))) ?_
 refine .i (sp_lenL Try.underlying70 (hlc rfl)) ?_
 refine .i (sp_move Has.cst) ?_
 refine .dn fun a18 g W18 y18 zz18 hk hg hV hR hP => ?_
 obtain ⟨e99, e98, e97, -, -, -, -, -, -, -, -, -, -, -, -, -, -, -, -, -, -, -, -, -, -, -, -, -, -, -, -, -, -, -, -, -, -, -, -, -, -, -⟩ := hV
 replace e1 := ft hR e1
 replace e2 := ft hR e2
 replace D_cn23_7 := D_cn23_7.ext hk
 replace D_ci23_7 := D_ci23_7.ext hk
 replace D_cn35_10 := D_cn35_10.ext hk
 replace D_ci35_10 := D_ci35_10.ext hk
 obtain ⟨v97_18, ev⟩ : ∃ v, sl a18 97 = v := ⟨_, rfl⟩
 rw [ev] at e97
 have D_v97_18 : Rd W18 (SF w [b2_10, b1_7]) (pnsD ([Pn.mk (Cl.mk (2) (⟨#[110]⟩) (7) (7) (0) (0)) (0), Pn.mk (Cl.mk (2) (⟨#[110]⟩) (8) (9) (0) (0)) (1), Pn.mk (Cl.mk (2) (⟨#[110]⟩) (0) (6) (0) (0)) (1), Pn.mk (Cl.mk (2) (⟨#[108]⟩) (0) (0) (0) (0)) (10), Pn.mk (Cl.mk (2) (⟨#[120]⟩) (0) (0) (0) (0)) (6), Pn.mk (Cl.mk (4) (⟨#[108]⟩) (0) (0) (2) (0)) (0), Pn.mk (Cl.mk (4) (⟨#[108]⟩) (0) (0) (1) (0)) (5), Pn.mk (Cl.mk (4) (⟨#[108]⟩) (0) (0) (-1) (0)) (5), Pn.mk (Cl.mk (5) (⟨#[108]⟩) (0) (0) (1) (0)) (5), Pn.mk (Cl.mk (5) (⟨#[108]⟩) (0) (0) (9) (0)) (0), Pn.mk (Cl.mk (6) (⟨#[108]⟩) (0) (0) (9) (0)) (10), Pn.mk (Cl.mk (3) (⟨#[98]⟩) (0) (0) (0) (0)) (0), Pn.mk (Cl.mk (1) (⟨#[]⟩) (0) (0) (0) (0)) (0), Pn.mk (Cl.mk (1) (⟨#[98]⟩) (0) (0) (0) (0)) (10), Pn.mk (Cl.mk (7) (⟨#[98]⟩) (0) (0) (0) (0)) (0), Pn.mk (Cl.mk (7) (⟨#[99]⟩) (0) (0) (0) (0)) (6), Pn.mk (Cl.mk (8) (⟨#[]⟩) (0) (0) (0) (12)) (12), Pn.mk (Cl.mk (8) (⟨#[]⟩) (0) (0) (0) (0)) (0), Pn.mk (Cl.mk (0) (⟨#[110, 111, 110, 101]⟩) (0) (0) (0) (0)) (0)])) v97_18 := sf_end e97 hk [] in_nil
 replace e97 := ev; clear ev
 obtain ⟨v97_18a, v97_18c, ev, D2⟩ := rdPns_out D_v97_18
 subst ev; replace D_v97_18 := D2; clear D2
 replace e98 := e98.q
 replace e99 := e99.q
 replace own_b1_7 := own_b1_7.ext hk
 replace own_b2_10 := own_b2_10.ext hk
 replace kw := kw.x hk
 clear hR hk hg hP
 obtain ⟨L, hL⟩ : ∃ L, L = [Pn.mk (Cl.mk (2) (⟨#[110]⟩) (7) (7) (0) (0)) (0), Pn.mk (Cl.mk (2) (⟨#[110]⟩) (8) (9) (0) (0)) (1), Pn.mk (Cl.mk (2) (⟨#[110]⟩) (0) (6) (0) (0)) (1), Pn.mk (Cl.mk (2) (⟨#[108]⟩) (0) (0) (0) (0)) (10), Pn.mk (Cl.mk (2) (⟨#[120]⟩) (0) (0) (0) (0)) (6), Pn.mk (Cl.mk (4) (⟨#[108]⟩) (0) (0) (2) (0)) (0), Pn.mk (Cl.mk (4) (⟨#[108]⟩) (0) (0) (1) (0)) (5), Pn.mk (Cl.mk (4) (⟨#[108]⟩) (0) (0) (-1) (0)) (5), Pn.mk (Cl.mk (5) (⟨#[108]⟩) (0) (0) (1) (0)) (5), Pn.mk (Cl.mk (5) (⟨#[108]⟩) (0) (0) (9) (0)) (0), Pn.mk (Cl.mk (6) (⟨#[108]⟩) (0) (0) (9) (0)) (10), Pn.mk (Cl.mk (3) (⟨#[98]⟩) (0) (0) (0) (0)) (0), Pn.mk (Cl.mk (1) (⟨#[]⟩) (0) (0) (0) (0)) (0), Pn.mk (Cl.mk (1) (⟨#[98]⟩) (0) (0) (0) (0)) (10), Pn.mk (Cl.mk (7) (⟨#[98]⟩) (0) (0) (0) (0)) (0), Pn.mk (Cl.mk (7) (⟨#[99]⟩) (0) (0) (0) (0)) (6), Pn.mk (Cl.mk (8) (⟨#[]⟩) (0) (0) (0) (12)) (12), Pn.mk (Cl.mk (8) (⟨#[]⟩) (0) (0) (0) (0)) (0), Pn.mk (Cl.mk (0) (⟨#[110, 111, 110, 101]⟩) (0) (0) (0) (0)) (0)] := ⟨_, rfl⟩
 rw [← hL] at e97 e98 D_v97_18
 have hall : L.all rowP = true := by rw [hL]; kernel_rfl
 have hlen : L.length = 19 := by rw [hL]; rfl
 clear hL
 refine zn (hK17 _ _ ?_)
 try clear hK17 K17
 refine wp_block ?_
 refine wp_for (L.length) (fun k a W => a.tmps.size = 246 ∧ a.defers = [] ∧ Keeps All w W ∧ sl a 1 = (.pointer (some ⟨b1_7, 0, none⟩)) ∧ sl a 2 = (.pointer (some ⟨b2_10, 0, none⟩)) ∧ sl a 97 = (.slice v97_18a (L.length) v97_18c) ∧ sl a 98 = (.int .i64 (L.length)) ∧ sl a 99 = (.int .i64 ((k : Nat))) ∧ Own W b1_7 [(.int .u8 ((V.mk 4 0 ⟨#[]⟩ [] ([V.mk (3) (0) (⟨#[120]⟩) ([]) ([]), V.mk (3) (0) (⟨#[121]⟩) ([]) ([])])).k)), (.int .i64 ((V.mk 4 0 ⟨#[]⟩ [] ([V.mk (3) (0) (⟨#[120]⟩) ([]) ([]), V.mk (3) (0) (⟨#[121]⟩) ([]) ([])])).n)), (.string ((V.mk 4 0 ⟨#[]⟩ [] ([V.mk (3) (0) (⟨#[120]⟩) ([]) ([]), V.mk (3) (0) (⟨#[121]⟩) ([]) ([])])).t)), (.slice cn23_7a (((V.mk 4 0 ⟨#[]⟩ [] ([V.mk (3) (0) (⟨#[120]⟩) ([]) ([]), V.mk (3) (0) (⟨#[121]⟩) ([]) ([])])).ns).length) cn23_7c), (.slice ci23_7a (((V.mk 4 0 ⟨#[]⟩ [] ([V.mk (3) (0) (⟨#[120]⟩) ([]) ([]), V.mk (3) (0) (⟨#[121]⟩) ([]) ([])])).xs).length) ci23_7c)] 33 ∧ Own W b2_10 [(.int .u8 ((objM ([Mb.mk (⟨#[110]⟩) (V.mk (2) (7) (⟨#[]⟩) ([]) ([])), Mb.mk (⟨#[108]⟩) ((V.mk 4 0 ⟨#[]⟩ [] ([V.mk (3) (0) (⟨#[120]⟩) ([]) ([]), V.mk (3) (0) (⟨#[121]⟩) ([]) ([])]))), Mb.mk (⟨#[98]⟩) (V.mk (1) (1) (⟨#[]⟩) ([]) ([])), Mb.mk (⟨#[]⟩) (V.mk (3) (0) (⟨#[]⟩) ([]) ([]))])).k)), (.int .i64 ((objM ([Mb.mk (⟨#[110]⟩) (V.mk (2) (7) (⟨#[]⟩) ([]) ([])), Mb.mk (⟨#[108]⟩) ((V.mk 4 0 ⟨#[]⟩ [] ([V.mk (3) (0) (⟨#[120]⟩) ([]) ([]), V.mk (3) (0) (⟨#[121]⟩) ([]) ([])]))), Mb.mk (⟨#[98]⟩) (V.mk (1) (1) (⟨#[]⟩) ([]) ([])), Mb.mk (⟨#[]⟩) (V.mk (3) (0) (⟨#[]⟩) ([]) ([]))])).n)), (.string ((objM ([Mb.mk (⟨#[110]⟩) (V.mk (2) (7) (⟨#[]⟩) ([]) ([])), Mb.mk (⟨#[108]⟩) ((V.mk 4 0 ⟨#[]⟩ [] ([V.mk (3) (0) (⟨#[120]⟩) ([]) ([]), V.mk (3) (0) (⟨#[121]⟩) ([]) ([])]))), Mb.mk (⟨#[98]⟩) (V.mk (1) (1) (⟨#[]⟩) ([]) ([])), Mb.mk (⟨#[]⟩) (V.mk (3) (0) (⟨#[]⟩) ([]) ([]))])).t)), (.slice cn35_10a (((objM ([Mb.mk (⟨#[110]⟩) (V.mk (2) (7) (⟨#[]⟩) ([]) ([])), Mb.mk (⟨#[108]⟩) ((V.mk 4 0 ⟨#[]⟩ [] ([V.mk (3) (0) (⟨#[120]⟩) ([]) ([]), V.mk (3) (0) (⟨#[121]⟩) ([]) ([])]))), Mb.mk (⟨#[98]⟩) (V.mk (1) (1) (⟨#[]⟩) ([]) ([])), Mb.mk (⟨#[]⟩) (V.mk (3) (0) (⟨#[]⟩) ([]) ([]))])).ns).length) cn35_10c), (.slice ci35_10a (((objM ([Mb.mk (⟨#[110]⟩) (V.mk (2) (7) (⟨#[]⟩) ([]) ([])), Mb.mk (⟨#[108]⟩) ((V.mk 4 0 ⟨#[]⟩ [] ([V.mk (3) (0) (⟨#[120]⟩) ([]) ([]), V.mk (3) (0) (⟨#[121]⟩) ([]) ([])]))), Mb.mk (⟨#[98]⟩) (V.mk (1) (1) (⟨#[]⟩) ([]) ([])), Mb.mk (⟨#[]⟩) (V.mk (3) (0) (⟨#[]⟩) ([]) ([]))])).xs).length) ci35_10c)] 33 ∧ Rd W (SF w [b2_10, b1_7]) (strsD ((V.mk 4 0 ⟨#[]⟩ [] ([V.mk (3) (0) (⟨#[120]⟩) ([]) ([]), V.mk (3) (0) (⟨#[121]⟩) ([]) ([])])).ns)) (.slice cn23_7a (((V.mk 4 0 ⟨#[]⟩ [] ([V.mk (3) (0) (⟨#[120]⟩) ([]) ([]), V.mk (3) (0) (⟨#[121]⟩) ([]) ([])])).ns).length) cn23_7c) ∧ Rd W (SF w [b2_10, b1_7]) (valsD ((V.mk 4 0 ⟨#[]⟩ [] ([V.mk (3) (0) (⟨#[120]⟩) ([]) ([]), V.mk (3) (0) (⟨#[121]⟩) ([]) ([])])).xs)) (.slice ci23_7a (((V.mk 4 0 ⟨#[]⟩ [] ([V.mk (3) (0) (⟨#[120]⟩) ([]) ([]), V.mk (3) (0) (⟨#[121]⟩) ([]) ([])])).xs).length) ci23_7c) ∧ Rd W (SF w [b2_10, b1_7]) (strsD ((objM ([Mb.mk (⟨#[110]⟩) (V.mk (2) (7) (⟨#[]⟩) ([]) ([])), Mb.mk (⟨#[108]⟩) ((V.mk 4 0 ⟨#[]⟩ [] ([V.mk (3) (0) (⟨#[120]⟩) ([]) ([]), V.mk (3) (0) (⟨#[121]⟩) ([]) ([])]))), Mb.mk (⟨#[98]⟩) (V.mk (1) (1) (⟨#[]⟩) ([]) ([])), Mb.mk (⟨#[]⟩) (V.mk (3) (0) (⟨#[]⟩) ([]) ([]))])).ns)) (.slice cn35_10a (((objM ([Mb.mk (⟨#[110]⟩) (V.mk (2) (7) (⟨#[]⟩) ([]) ([])), Mb.mk (⟨#[108]⟩) ((V.mk 4 0 ⟨#[]⟩ [] ([V.mk (3) (0) (⟨#[120]⟩) ([]) ([]), V.mk (3) (0) (⟨#[121]⟩) ([]) ([])]))), Mb.mk (⟨#[98]⟩) (V.mk (1) (1) (⟨#[]⟩) ([]) ([])), Mb.mk (⟨#[]⟩) (V.mk (3) (0) (⟨#[]⟩) ([]) ([]))])).ns).length) cn35_10c) ∧ Rd W (SF w [b2_10, b1_7]) (valsD ((objM ([Mb.mk (⟨#[110]⟩) (V.mk (2) (7) (⟨#[]⟩) ([]) ([])), Mb.mk (⟨#[108]⟩) ((V.mk 4 0 ⟨#[]⟩ [] ([V.mk (3) (0) (⟨#[120]⟩) ([]) ([]), V.mk (3) (0) (⟨#[121]⟩) ([]) ([])]))), Mb.mk (⟨#[98]⟩) (V.mk (1) (1) (⟨#[]⟩) ([]) ([])), Mb.mk (⟨#[]⟩) (V.mk (3) (0) (⟨#[]⟩) ([]) ([]))])).xs)) (.slice ci35_10a (((objM ([Mb.mk (⟨#[110]⟩) (V.mk (2) (7) (⟨#[]⟩) ([]) ([])), Mb.mk (⟨#[108]⟩) ((V.mk 4 0 ⟨#[]⟩ [] ([V.mk (3) (0) (⟨#[120]⟩) ([]) ([]), V.mk (3) (0) (⟨#[121]⟩) ([]) ([])]))), Mb.mk (⟨#[98]⟩) (V.mk (1) (1) (⟨#[]⟩) ([]) ([])), Mb.mk (⟨#[]⟩) (V.mk (3) (0) (⟨#[]⟩) ([]) ([]))])).xs).length) ci35_10c) ∧ Rd W (SF w [b2_10, b1_7]) (pnsD (L)) (.slice v97_18a (L.length) v97_18c)) ⟨y18, zz18, kw, e1, e2, e97, e98, (e99.trans (congrArg (Value.int .i64) (rfl))), own_b1_7, own_b2_10, D_cn23_7, D_ci23_7, D_cn35_10, D_ci35_10, D_v97_18⟩ ?_
 clear kw e1 e2 e97 e98 e99 own_b1_7 own_b2_10 D_cn23_7 D_ci23_7 D_cn35_10 D_ci35_10 D_v97_18
 rintro k a19 W19 hkk ⟨y19, zz19, kw, e1, e2, e97, e98, e99, own_b1_7, own_b2_10, D_cn23_7, D_ci23_7, D_cn35_10, D_ci35_10, D_v97_18⟩
 refine zq fun K20 hK20 => ?_
 refine rg mixed y19 zz19 ?_
 refine .i (sp_lss (hbs rfl e99) (hbs rfl e98)) ?_
 refine .dn fun a21 g W21 y21 zz21 hk hg hV hR hP => ?_
 obtain ⟨e100, -⟩ := hV
 replace e1 := ft hR e1
 replace e2 := ft hR e2
 replace e97 := ft hR e97
 replace e98 := ft hR e98
 replace e99 := ft hR e99
 replace D_cn23_7 := D_cn23_7.ext hk
 replace D_ci23_7 := D_ci23_7.ext hk
 replace D_cn35_10 := D_cn35_10.ext hk
 replace D_ci35_10 := D_ci35_10.ext hk
 replace D_v97_18 := D_v97_18.ext hk
 replace e100 := e100.q
 replace own_b1_7 := own_b1_7.ext hk
 replace own_b2_10 := own_b2_10.ext hk
 replace kw := kw.x hk
 clear hR hk hg hP
 refine zn (hK20 _ _ ?_)
 try clear hK20 K20
 refine zq fun K22 hK22 => ?_
 refine zc e100 (fun hc => ?_) (fun hc => ?_)
 ·
  have hlt : k < L.length := by simpa using hc
  have hro := rowP_get hall hlt
  refine wp_skip (hK22 _ _ ?_)
  try clear hK22 K22
  refine zq fun K23 hK23 => ?_
  refine wp_block ?_
  refine zq fun K24 hK24 => ?_
  refine rg mixed y21 zz21 ?_
  refine .rf (X := SF w [b2_10, b1_7]) (e := Pn.d (L[k]'hlt)) (sp_indexL (i := k) ((hbs rfl e97).dat D_v97_18 sub_all) (hbs rfl e99) Try.underlying70 sz69 rfl hlt) ?_
  refine .da (X := SF w [b2_10, b1_7]) (e := Pn.d (L[k]'hlt)) (sp_loadR (hlc rfl) agg69 sz69 (width_Pn _)) ?_
  refine .alloc z69 ?_
  refine .dn fun a25 g W25 y25 zz25 hk hg hV hR hP => ?_
  obtain ⟨⟨b5_25, e5, hb5, own_b5_25⟩, e102, -, -⟩ := hV
  have lo_b5_25 : w.heap.size ≤ b5_25 := Nat.le_trans kw.size (hg.lo _ _ hb5)
  have ne_b1_7_b5_25 : b1_7 ≠ b5_25 := Nat.ne_of_lt (Nat.lt_of_lt_of_le own_b1_7.lt (hg.lo _ _ hb5))
  have ne_b2_10_b5_25 : b2_10 ≠ b5_25 := Nat.ne_of_lt (Nat.lt_of_lt_of_le own_b2_10.lt (hg.lo _ _ hb5))
  have own_b5_25 : Own W25 b5_25 [(.int .u8 (0)), (.string (⟨#[]⟩)), (.int .i64 (0)), (.int .i64 (0)), (.int .i64 (0)), (.int .i64 (0)), (.int .i64 (0))] 69 := own_b5_25
  replace e1 := ft hR e1
  replace e2 := ft hR e2
  replace e97 := ft hR e97
  replace e98 := ft hR e98
  replace e99 := ft hR e99
  replace D_cn23_7 := sf_more D_cn23_7 hk [b5_25] (in_cons (hg.lo _ _ hb5) in_nil)
  replace D_ci23_7 := sf_more D_ci23_7 hk [b5_25] (in_cons (hg.lo _ _ hb5) in_nil)
  replace D_cn35_10 := sf_more D_cn35_10 hk [b5_25] (in_cons (hg.lo _ _ hb5) in_nil)
  replace D_ci35_10 := sf_more D_ci35_10 hk [b5_25] (in_cons (hg.lo _ _ hb5) in_nil)
  replace D_v97_18 := sf_more D_v97_18 hk [b5_25] (in_cons (hg.lo _ _ hb5) in_nil)
  obtain ⟨v102_25, ev⟩ : ∃ v, sl a25 102 = v := ⟨_, rfl⟩
  rw [ev] at e102
  have D_v102_25 : Rd W25 (SF w [b5_25, b2_10, b1_7]) (Pn.d (L[k]'hlt)) v102_25 := sf_end e102 hk [b5_25] (in_cons ⟨_, hb5⟩ in_nil)
  replace e102 := ev; clear ev
  obtain ⟨ev, hb_v102_25_1⟩ := rdPn_out D_v102_25
  subst ev; clear D_v102_25
  replace own_b1_7 := own_b1_7.ext hk
  replace own_b2_10 := own_b2_10.ext hk
  replace kw := kw.x hk
  clear hR hk hg hP hb5
  refine tail_store e5 e102 sz69 rfl own_b5_25 (lbr rfl) (all_cons rfl (all_cons rfl (all_cons rfl (all_cons rfl (all_cons rfl (all_cons rfl (all_cons rfl all_nil))))))) (fun W26 hs own_b5_25 => ?_)
  have own_b5_25 : Own W26 b5_25 [(.int .u8 ((L[k]'hlt).c.wh)), (.string ((L[k]'hlt).c.nm)), (.int .i64 ((L[k]'hlt).c.lo)), (.int .i64 ((L[k]'hlt).c.hi)), (.int .i64 ((L[k]'hlt).c.mo)), (.int .i64 ((L[k]'hlt).c.er)), (.int .i64 ((L[k]'hlt).e))] 69 := own_b5_25
  replace own_b1_7 := own_store own_b1_7 hs ne_b1_7_b5_25
  replace own_b2_10 := own_store own_b2_10 hs ne_b2_10_b5_25
  replace D_cn23_7 := sf_store D_cn23_7 hs (by simp)
  replace D_ci23_7 := sf_store D_ci23_7 hs (by simp)
  replace D_cn35_10 := sf_store D_cn35_10 hs (by simp)
  replace D_ci35_10 := sf_store D_ci35_10 hs (by simp)
  replace D_v97_18 := sf_store D_v97_18 hs (by simp)
  replace kw := keeps_store kw hs lo_b5_25
  clear hs
  refine zn (hK24 _ _ ?_)
  try clear hK24 K24
  refine zq fun K27 hK27 => ?_
  refine rg mixed y25 zz25 ?_
  refine .i (v := (.agg #[(.int .u8 ((objM ([Mb.mk (⟨#[110]⟩) (V.mk (2) (7) (⟨#[]⟩) ([]) ([])), Mb.mk (⟨#[108]⟩) ((V.mk 4 0 ⟨#[]⟩ [] ([V.mk (3) (0) (⟨#[120]⟩) ([]) ([]), V.mk (3) (0) (⟨#[121]⟩) ([]) ([])]))), Mb.mk (⟨#[98]⟩) (V.mk (1) (1) (⟨#[]⟩) ([]) ([])), Mb.mk (⟨#[]⟩) (V.mk (3) (0) (⟨#[]⟩) ([]) ([]))])).k)), (.int .i64 ((objM ([Mb.mk (⟨#[110]⟩) (V.mk (2) (7) (⟨#[]⟩) ([]) ([])), Mb.mk (⟨#[108]⟩) ((V.mk 4 0 ⟨#[]⟩ [] ([V.mk (3) (0) (⟨#[120]⟩) ([]) ([]), V.mk (3) (0) (⟨#[121]⟩) ([]) ([])]))), Mb.mk (⟨#[98]⟩) (V.mk (1) (1) (⟨#[]⟩) ([]) ([])), Mb.mk (⟨#[]⟩) (V.mk (3) (0) (⟨#[]⟩) ([]) ([]))])).n)), (.string ((objM ([Mb.mk (⟨#[110]⟩) (V.mk (2) (7) (⟨#[]⟩) ([]) ([])), Mb.mk (⟨#[108]⟩) ((V.mk 4 0 ⟨#[]⟩ [] ([V.mk (3) (0) (⟨#[120]⟩) ([]) ([]), V.mk (3) (0) (⟨#[121]⟩) ([]) ([])]))), Mb.mk (⟨#[98]⟩) (V.mk (1) (1) (⟨#[]⟩) ([]) ([])), Mb.mk (⟨#[]⟩) (V.mk (3) (0) (⟨#[]⟩) ([]) ([]))])).t)), (.slice cn35_10a (((objM ([Mb.mk (⟨#[110]⟩) (V.mk (2) (7) (⟨#[]⟩) ([]) ([])), Mb.mk (⟨#[108]⟩) ((V.mk 4 0 ⟨#[]⟩ [] ([V.mk (3) (0) (⟨#[120]⟩) ([]) ([]), V.mk (3) (0) (⟨#[121]⟩) ([]) ([])]))), Mb.mk (⟨#[98]⟩) (V.mk (1) (1) (⟨#[]⟩) ([]) ([])), Mb.mk (⟨#[]⟩) (V.mk (3) (0) (⟨#[]⟩) ([]) ([]))])).ns).length) cn35_10c), (.slice ci35_10a (((objM ([Mb.mk (⟨#[110]⟩) (V.mk (2) (7) (⟨#[]⟩) ([]) ([])), Mb.mk (⟨#[108]⟩) ((V.mk 4 0 ⟨#[]⟩ [] ([V.mk (3) (0) (⟨#[120]⟩) ([]) ([]), V.mk (3) (0) (⟨#[121]⟩) ([]) ([])]))), Mb.mk (⟨#[98]⟩) (V.mk (1) (1) (⟨#[]⟩) ([]) ([])), Mb.mk (⟨#[]⟩) (V.mk (3) (0) (⟨#[]⟩) ([]) ([]))])).xs).length) ci35_10c)])) (loA (hbs rfl e2) own_b2_10 trivial agg33 sz33 rfl rfl) ?_
  refine .op (φ := IsPk W26 74 ((objM ([Mb.mk (⟨#[110]⟩) (V.mk (2) (7) (⟨#[]⟩) ([]) ([])), Mb.mk (⟨#[108]⟩) ((V.mk 4 0 ⟨#[]⟩ [] ([V.mk (3) (0) (⟨#[120]⟩) ([]) ([]), V.mk (3) (0) (⟨#[121]⟩) ([]) ([])]))), Mb.mk (⟨#[98]⟩) (V.mk (1) (1) (⟨#[]⟩) ([]) ([])), Mb.mk (⟨#[]⟩) (V.mk (3) (0) (⟨#[]⟩) ([]) ([]))]))) ([]) (0)) st_pk (sp_call1 (φ1 := IsD (SF w [b5_25, b2_10, b1_7]) (V.d ((objM ([Mb.mk (⟨#[110]⟩) (V.mk (2) (7) (⟨#[]⟩) ([]) ([])), Mb.mk (⟨#[108]⟩) ((V.mk 4 0 ⟨#[]⟩ [] ([V.mk (3) (0) (⟨#[120]⟩) ([]) ([]), V.mk (3) (0) (⟨#[121]⟩) ([]) ([])]))), Mb.mk (⟨#[98]⟩) (V.mk (1) (1) (⟨#[]⟩) ([]) ([])), Mb.mk (⟨#[]⟩) (V.mk (3) (0) (⟨#[]⟩) ([]) ([]))]))))) ent21 ((hlc rfl).dat (rdV_in (x := (objM ([Mb.mk (⟨#[110]⟩) (V.mk (2) (7) (⟨#[]⟩) ([]) ([])), Mb.mk (⟨#[108]⟩) ((V.mk 4 0 ⟨#[]⟩ [] ([V.mk (3) (0) (⟨#[120]⟩) ([]) ([]), V.mk (3) (0) (⟨#[121]⟩) ([]) ([])]))), Mb.mk (⟨#[98]⟩) (V.mk (1) (1) (⟨#[]⟩) ([]) ([])), Mb.mk (⟨#[]⟩) (V.mk (3) (0) (⟨#[]⟩) ([]) ([]))]))) ht_v35_10 D_cn35_10 D_ci35_10 : Rd W26 (SF w [b5_25, b2_10, b1_7]) (V.d ((objM ([Mb.mk (⟨#[110]⟩) (V.mk (2) (7) (⟨#[]⟩) ([]) ([])), Mb.mk (⟨#[108]⟩) ((V.mk 4 0 ⟨#[]⟩ [] ([V.mk (3) (0) (⟨#[120]⟩) ([]) ([]), V.mk (3) (0) (⟨#[121]⟩) ([]) ([])]))), Mb.mk (⟨#[98]⟩) (V.mk (1) (1) (⟨#[]⟩) ([]) ([])), Mb.mk (⟨#[]⟩) (V.mk (3) (0) (⟨#[]⟩) ([]) ([]))])))) _) sub_all) (fun g u1 W hk hgk h1 => (Of_ok ((objM ([Mb.mk (⟨#[110]⟩) (V.mk (2) (7) (⟨#[]⟩) ([]) ([])), Mb.mk (⟨#[108]⟩) ((V.mk 4 0 ⟨#[]⟩ [] ([V.mk (3) (0) (⟨#[120]⟩) ([]) ([]), V.mk (3) (0) (⟨#[121]⟩) ([]) ([])]))), Mb.mk (⟨#[98]⟩) (V.mk (1) (1) (⟨#[]⟩) ([]) ([])), Mb.mk (⟨#[]⟩) (V.mk (3) (0) (⟨#[]⟩) ([]) ([]))]))) (Nat.le_of_ble_eq_true (by kernel_rfl)) (by kernel_rfl) W _ _ (fun b o h => h.1.2.1) h1).mono (fun _ _ ⟨v, h1, h2, h3⟩ => ⟨v, h1, h2, pk_up hk h3⟩))) ?_
  refine .dn fun a28 g W28 y28 zz28 hk hg hV hR hP => ?_
  obtain ⟨e104, -, -⟩ := hV
  replace e1 := ft hR e1
  replace e2 := ft hR e2
  replace e97 := ft hR e97
  replace e98 := ft hR e98
  replace e99 := ft hR e99
  replace e5 := ft hR e5
  obtain ⟨bo104_28, bm104_28, cn104_28v, ci104_28v, e104, lr_bo104_28, lr_bm104_28, ne_bo104_28_bm104_28, own_bo104_28, own_bm104_28, D_cn104_28, D_ci104_28, tb104_28⟩ := e104
  obtain ⟨cn104_28a, cn104_28c, ev, D2⟩ := rdS_out D_cn104_28; subst ev; replace D_cn104_28 := D2; clear D2
  obtain ⟨ci104_28a, ci104_28c, ev, D2⟩ := rdVs_out D_ci104_28; subst ev; replace D_ci104_28 := D2; clear D2
  have e104 : sl a28 104 = (.pointer (some ⟨bo104_28, 0, none⟩)) := e104
  have lo_bo104_28 : w.heap.size ≤ bo104_28 := Nat.le_trans kw.size lr_bo104_28
  have ne_b1_7_bo104_28 : b1_7 ≠ bo104_28 := Nat.ne_of_lt (Nat.lt_of_lt_of_le own_b1_7.lt lr_bo104_28)
  have ne_b2_10_bo104_28 : b2_10 ≠ bo104_28 := Nat.ne_of_lt (Nat.lt_of_lt_of_le own_b2_10.lt lr_bo104_28)
  have ne_b5_25_bo104_28 : b5_25 ≠ bo104_28 := Nat.ne_of_lt (Nat.lt_of_lt_of_le own_b5_25.lt lr_bo104_28)
  have lo_bm104_28 : w.heap.size ≤ bm104_28 := Nat.le_trans kw.size lr_bm104_28
  have ne_b1_7_bm104_28 : b1_7 ≠ bm104_28 := Nat.ne_of_lt (Nat.lt_of_lt_of_le own_b1_7.lt lr_bm104_28)
  have ne_b2_10_bm104_28 : b2_10 ≠ bm104_28 := Nat.ne_of_lt (Nat.lt_of_lt_of_le own_b2_10.lt lr_bm104_28)
  have ne_b5_25_bm104_28 : b5_25 ≠ bm104_28 := Nat.ne_of_lt (Nat.lt_of_lt_of_le own_b5_25.lt lr_bm104_28)
  replace D_cn23_7 : Rd W28 (SF w [bo104_28, bm104_28, b5_25, b2_10, b1_7]) (strsD ((V.mk 4 0 ⟨#[]⟩ [] ([V.mk (3) (0) (⟨#[120]⟩) ([]) ([]), V.mk (3) (0) (⟨#[121]⟩) ([]) ([])])).ns)) (.slice cn23_7a (((V.mk 4 0 ⟨#[]⟩ [] ([V.mk (3) (0) (⟨#[120]⟩) ([]) ([]), V.mk (3) (0) (⟨#[121]⟩) ([]) ([])])).ns).length) cn23_7c) := sf_more D_cn23_7 hk [bo104_28, bm104_28] (in_cons lr_bo104_28 (in_cons lr_bm104_28 in_nil))
  replace D_ci23_7 : Rd W28 (SF w [bo104_28, bm104_28, b5_25, b2_10, b1_7]) (valsD ((V.mk 4 0 ⟨#[]⟩ [] ([V.mk (3) (0) (⟨#[120]⟩) ([]) ([]), V.mk (3) (0) (⟨#[121]⟩) ([]) ([])])).xs)) (.slice ci23_7a (((V.mk 4 0 ⟨#[]⟩ [] ([V.mk (3) (0) (⟨#[120]⟩) ([]) ([]), V.mk (3) (0) (⟨#[121]⟩) ([]) ([])])).xs).length) ci23_7c) := sf_more D_ci23_7 hk [bo104_28, bm104_28] (in_cons lr_bo104_28 (in_cons lr_bm104_28 in_nil))
  replace D_cn35_10 : Rd W28 (SF w [bo104_28, bm104_28, b5_25, b2_10, b1_7]) (strsD ((objM ([Mb.mk (⟨#[110]⟩) (V.mk (2) (7) (⟨#[]⟩) ([]) ([])), Mb.mk (⟨#[108]⟩) ((V.mk 4 0 ⟨#[]⟩ [] ([V.mk (3) (0) (⟨#[120]⟩) ([]) ([]), V.mk (3) (0) (⟨#[121]⟩) ([]) ([])]))), Mb.mk (⟨#[98]⟩) (V.mk (1) (1) (⟨#[]⟩) ([]) ([])), Mb.mk (⟨#[]⟩) (V.mk (3) (0) (⟨#[]⟩) ([]) ([]))])).ns)) (.slice cn35_10a (((objM ([Mb.mk (⟨#[110]⟩) (V.mk (2) (7) (⟨#[]⟩) ([]) ([])), Mb.mk (⟨#[108]⟩) ((V.mk 4 0 ⟨#[]⟩ [] ([V.mk (3) (0) (⟨#[120]⟩) ([]) ([]), V.mk (3) (0) (⟨#[121]⟩) ([]) ([])]))), Mb.mk (⟨#[98]⟩) (V.mk (1) (1) (⟨#[]⟩) ([]) ([])), Mb.mk (⟨#[]⟩) (V.mk (3) (0) (⟨#[]⟩) ([]) ([]))])).ns).length) cn35_10c) := sf_more D_cn35_10 hk [bo104_28, bm104_28] (in_cons lr_bo104_28 (in_cons lr_bm104_28 in_nil))
  replace D_ci35_10 : Rd W28 (SF w [bo104_28, bm104_28, b5_25, b2_10, b1_7]) (valsD ((objM ([Mb.mk (⟨#[110]⟩) (V.mk (2) (7) (⟨#[]⟩) ([]) ([])), Mb.mk (⟨#[108]⟩) ((V.mk 4 0 ⟨#[]⟩ [] ([V.mk (3) (0) (⟨#[120]⟩) ([]) ([]), V.mk (3) (0) (⟨#[121]⟩) ([]) ([])]))), Mb.mk (⟨#[98]⟩) (V.mk (1) (1) (⟨#[]⟩) ([]) ([])), Mb.mk (⟨#[]⟩) (V.mk (3) (0) (⟨#[]⟩) ([]) ([]))])).xs)) (.slice ci35_10a (((objM ([Mb.mk (⟨#[110]⟩) (V.mk (2) (7) (⟨#[]⟩) ([]) ([])), Mb.mk (⟨#[108]⟩) ((V.mk 4 0 ⟨#[]⟩ [] ([V.mk (3) (0) (⟨#[120]⟩) ([]) ([]), V.mk (3) (0) (⟨#[121]⟩) ([]) ([])]))), Mb.mk (⟨#[98]⟩) (V.mk (1) (1) (⟨#[]⟩) ([]) ([])), Mb.mk (⟨#[]⟩) (V.mk (3) (0) (⟨#[]⟩) ([]) ([]))])).xs).length) ci35_10c) := sf_more D_ci35_10 hk [bo104_28, bm104_28] (in_cons lr_bo104_28 (in_cons lr_bm104_28 in_nil))
  replace D_v97_18 : Rd W28 (SF w [bo104_28, bm104_28, b5_25, b2_10, b1_7]) (pnsD (L)) (.slice v97_18a (L.length) v97_18c) := sf_more D_v97_18 hk [bo104_28, bm104_28] (in_cons lr_bo104_28 (in_cons lr_bm104_28 in_nil))
  replace D_cn104_28 : Rd W28 (SF w [bo104_28, bm104_28, b5_25, b2_10, b1_7]) (strsD ((objM ([Mb.mk (⟨#[110]⟩) (V.mk (2) (7) (⟨#[]⟩) ([]) ([])), Mb.mk (⟨#[108]⟩) ((V.mk 4 0 ⟨#[]⟩ [] ([V.mk (3) (0) (⟨#[120]⟩) ([]) ([]), V.mk (3) (0) (⟨#[121]⟩) ([]) ([])]))), Mb.mk (⟨#[98]⟩) (V.mk (1) (1) (⟨#[]⟩) ([]) ([])), Mb.mk (⟨#[]⟩) (V.mk (3) (0) (⟨#[]⟩) ([]) ([]))])).ns)) (.slice cn104_28a (((objM ([Mb.mk (⟨#[110]⟩) (V.mk (2) (7) (⟨#[]⟩) ([]) ([])), Mb.mk (⟨#[108]⟩) ((V.mk 4 0 ⟨#[]⟩ [] ([V.mk (3) (0) (⟨#[120]⟩) ([]) ([]), V.mk (3) (0) (⟨#[121]⟩) ([]) ([])]))), Mb.mk (⟨#[98]⟩) (V.mk (1) (1) (⟨#[]⟩) ([]) ([])), Mb.mk (⟨#[]⟩) (V.mk (3) (0) (⟨#[]⟩) ([]) ([]))])).ns).length) cn104_28c) := pk_data kw (in_cons own_b5_25.lt (in_cons own_b2_10.lt (in_cons own_b1_7.lt in_nil))) D_cn104_28
  replace D_ci104_28 : Rd W28 (SF w [bo104_28, bm104_28, b5_25, b2_10, b1_7]) (valsD ((objM ([Mb.mk (⟨#[110]⟩) (V.mk (2) (7) (⟨#[]⟩) ([]) ([])), Mb.mk (⟨#[108]⟩) ((V.mk 4 0 ⟨#[]⟩ [] ([V.mk (3) (0) (⟨#[120]⟩) ([]) ([]), V.mk (3) (0) (⟨#[121]⟩) ([]) ([])]))), Mb.mk (⟨#[98]⟩) (V.mk (1) (1) (⟨#[]⟩) ([]) ([])), Mb.mk (⟨#[]⟩) (V.mk (3) (0) (⟨#[]⟩) ([]) ([]))])).xs)) (.slice ci104_28a (((objM ([Mb.mk (⟨#[110]⟩) (V.mk (2) (7) (⟨#[]⟩) ([]) ([])), Mb.mk (⟨#[108]⟩) ((V.mk 4 0 ⟨#[]⟩ [] ([V.mk (3) (0) (⟨#[120]⟩) ([]) ([]), V.mk (3) (0) (⟨#[121]⟩) ([]) ([])]))), Mb.mk (⟨#[98]⟩) (V.mk (1) (1) (⟨#[]⟩) ([]) ([])), Mb.mk (⟨#[]⟩) (V.mk (3) (0) (⟨#[]⟩) ([]) ([]))])).xs).length) ci104_28c) := pk_data kw (in_cons own_b5_25.lt (in_cons own_b2_10.lt (in_cons own_b1_7.lt in_nil))) D_ci104_28
  have own_bo104_28 : Own W28 bo104_28 [(.int .u8 ((objM ([Mb.mk (⟨#[110]⟩) (V.mk (2) (7) (⟨#[]⟩) ([]) ([])), Mb.mk (⟨#[108]⟩) ((V.mk 4 0 ⟨#[]⟩ [] ([V.mk (3) (0) (⟨#[120]⟩) ([]) ([]), V.mk (3) (0) (⟨#[121]⟩) ([]) ([])]))), Mb.mk (⟨#[98]⟩) (V.mk (1) (1) (⟨#[]⟩) ([]) ([])), Mb.mk (⟨#[]⟩) (V.mk (3) (0) (⟨#[]⟩) ([]) ([]))])).k)), (.int .i64 ((objM ([Mb.mk (⟨#[110]⟩) (V.mk (2) (7) (⟨#[]⟩) ([]) ([])), Mb.mk (⟨#[108]⟩) ((V.mk 4 0 ⟨#[]⟩ [] ([V.mk (3) (0) (⟨#[120]⟩) ([]) ([]), V.mk (3) (0) (⟨#[121]⟩) ([]) ([])]))), Mb.mk (⟨#[98]⟩) (V.mk (1) (1) (⟨#[]⟩) ([]) ([])), Mb.mk (⟨#[]⟩) (V.mk (3) (0) (⟨#[]⟩) ([]) ([]))])).n)), (.string ((objM ([Mb.mk (⟨#[110]⟩) (V.mk (2) (7) (⟨#[]⟩) ([]) ([])), Mb.mk (⟨#[108]⟩) ((V.mk 4 0 ⟨#[]⟩ [] ([V.mk (3) (0) (⟨#[120]⟩) ([]) ([]), V.mk (3) (0) (⟨#[121]⟩) ([]) ([])]))), Mb.mk (⟨#[98]⟩) (V.mk (1) (1) (⟨#[]⟩) ([]) ([])), Mb.mk (⟨#[]⟩) (V.mk (3) (0) (⟨#[]⟩) ([]) ([]))])).t)), (.slice cn104_28a (((objM ([Mb.mk (⟨#[110]⟩) (V.mk (2) (7) (⟨#[]⟩) ([]) ([])), Mb.mk (⟨#[108]⟩) ((V.mk 4 0 ⟨#[]⟩ [] ([V.mk (3) (0) (⟨#[120]⟩) ([]) ([]), V.mk (3) (0) (⟨#[121]⟩) ([]) ([])]))), Mb.mk (⟨#[98]⟩) (V.mk (1) (1) (⟨#[]⟩) ([]) ([])), Mb.mk (⟨#[]⟩) (V.mk (3) (0) (⟨#[]⟩) ([]) ([]))])).ns).length) cn104_28c), (.slice ci104_28a (((objM ([Mb.mk (⟨#[110]⟩) (V.mk (2) (7) (⟨#[]⟩) ([]) ([])), Mb.mk (⟨#[108]⟩) ((V.mk 4 0 ⟨#[]⟩ [] ([V.mk (3) (0) (⟨#[120]⟩) ([]) ([]), V.mk (3) (0) (⟨#[121]⟩) ([]) ([])]))), Mb.mk (⟨#[98]⟩) (V.mk (1) (1) (⟨#[]⟩) ([]) ([])), Mb.mk (⟨#[]⟩) (V.mk (3) (0) (⟨#[]⟩) ([]) ([]))])).xs).length) ci104_28c), (.map (some bm104_28)), (.int .i64 (0))] 74 := own_bo104_28
  have own_bm104_28 : OwnM W28 bm104_28 ([]) := own_bm104_28
  replace own_b1_7 := own_b1_7.ext hk
  replace own_b2_10 := own_b2_10.ext hk
  replace own_b5_25 := own_b5_25.ext hk
  replace kw := kw.x hk
  clear hR hk hg hP lr_bo104_28 lr_bm104_28
  refine tail_assign (v := (.pointer (some ⟨bo104_28, 0, none⟩))) e104 (by rw [y28]; exact Nat.le_of_ble_eq_true rfl) (fun a29 y29 zz29 e6 hr => ?_)
  replace y29 := y29.trans y28; replace zz29 := zz29.trans zz28
  replace e1 := (hr 1 (by decide)).trans e1
  replace e2 := (hr 2 (by decide)).trans e2
  replace e97 := (hr 97 (by decide)).trans e97
  replace e98 := (hr 98 (by decide)).trans e98
  replace e99 := (hr 99 (by decide)).trans e99
  replace e5 := (hr 5 (by decide)).trans e5
  replace e104 := (hr 104 (by decide)).trans e104
  clear hr
  refine zn (hK27 _ _ ?_)
  try clear hK27 K27
  refine zq fun K30 hK30 => ?_
  refine wp_reg2 All mixed y29 zz29 st_tr trivial ?_
  refine .mb rfl e6 ?_
  refine .i (v := (.agg #[(.int .u8 ((objM ([Mb.mk (⟨#[110]⟩) (V.mk (2) (7) (⟨#[]⟩) ([]) ([])), Mb.mk (⟨#[108]⟩) ((V.mk 4 0 ⟨#[]⟩ [] ([V.mk (3) (0) (⟨#[120]⟩) ([]) ([]), V.mk (3) (0) (⟨#[121]⟩) ([]) ([])]))), Mb.mk (⟨#[98]⟩) (V.mk (1) (1) (⟨#[]⟩) ([]) ([])), Mb.mk (⟨#[]⟩) (V.mk (3) (0) (⟨#[]⟩) ([]) ([]))])).k)), (.int .i64 ((objM ([Mb.mk (⟨#[110]⟩) (V.mk (2) (7) (⟨#[]⟩) ([]) ([])), Mb.mk (⟨#[108]⟩) ((V.mk 4 0 ⟨#[]⟩ [] ([V.mk (3) (0) (⟨#[120]⟩) ([]) ([]), V.mk (3) (0) (⟨#[121]⟩) ([]) ([])]))), Mb.mk (⟨#[98]⟩) (V.mk (1) (1) (⟨#[]⟩) ([]) ([])), Mb.mk (⟨#[]⟩) (V.mk (3) (0) (⟨#[]⟩) ([]) ([]))])).n)), (.string ((objM ([Mb.mk (⟨#[110]⟩) (V.mk (2) (7) (⟨#[]⟩) ([]) ([])), Mb.mk (⟨#[108]⟩) ((V.mk 4 0 ⟨#[]⟩ [] ([V.mk (3) (0) (⟨#[120]⟩) ([]) ([]), V.mk (3) (0) (⟨#[121]⟩) ([]) ([])]))), Mb.mk (⟨#[98]⟩) (V.mk (1) (1) (⟨#[]⟩) ([]) ([])), Mb.mk (⟨#[]⟩) (V.mk (3) (0) (⟨#[]⟩) ([]) ([]))])).t)), (.slice cn35_10a (((objM ([Mb.mk (⟨#[110]⟩) (V.mk (2) (7) (⟨#[]⟩) ([]) ([])), Mb.mk (⟨#[108]⟩) ((V.mk 4 0 ⟨#[]⟩ [] ([V.mk (3) (0) (⟨#[120]⟩) ([]) ([]), V.mk (3) (0) (⟨#[121]⟩) ([]) ([])]))), Mb.mk (⟨#[98]⟩) (V.mk (1) (1) (⟨#[]⟩) ([]) ([])), Mb.mk (⟨#[]⟩) (V.mk (3) (0) (⟨#[]⟩) ([]) ([]))])).ns).length) cn35_10c), (.slice ci35_10a (((objM ([Mb.mk (⟨#[110]⟩) (V.mk (2) (7) (⟨#[]⟩) ([]) ([])), Mb.mk (⟨#[108]⟩) ((V.mk 4 0 ⟨#[]⟩ [] ([V.mk (3) (0) (⟨#[120]⟩) ([]) ([]), V.mk (3) (0) (⟨#[121]⟩) ([]) ([])]))), Mb.mk (⟨#[98]⟩) (V.mk (1) (1) (⟨#[]⟩) ([]) ([])), Mb.mk (⟨#[]⟩) (V.mk (3) (0) (⟨#[]⟩) ([]) ([]))])).xs).length) ci35_10c)])) (loA (hbs rfl e2) own_b2_10 trivial agg33 sz33 rfl rfl) ?_
  refine .op (φ := IsNB W28 [(.int .u8 ((objM ([Mb.mk (⟨#[110]⟩) (V.mk (2) (7) (⟨#[]⟩) ([]) ([])), Mb.mk (⟨#[108]⟩) ((V.mk 4 0 ⟨#[]⟩ [] ([V.mk (3) (0) (⟨#[120]⟩) ([]) ([]), V.mk (3) (0) (⟨#[121]⟩) ([]) ([])]))), Mb.mk (⟨#[98]⟩) (V.mk (1) (1) (⟨#[]⟩) ([]) ([])), Mb.mk (⟨#[]⟩) (V.mk (3) (0) (⟨#[]⟩) ([]) ([]))])).k)), (.int .i64 ((objM ([Mb.mk (⟨#[110]⟩) (V.mk (2) (7) (⟨#[]⟩) ([]) ([])), Mb.mk (⟨#[108]⟩) ((V.mk 4 0 ⟨#[]⟩ [] ([V.mk (3) (0) (⟨#[120]⟩) ([]) ([]), V.mk (3) (0) (⟨#[121]⟩) ([]) ([])]))), Mb.mk (⟨#[98]⟩) (V.mk (1) (1) (⟨#[]⟩) ([]) ([])), Mb.mk (⟨#[]⟩) (V.mk (3) (0) (⟨#[]⟩) ([]) ([]))])).n)), (.string ((objM ([Mb.mk (⟨#[110]⟩) (V.mk (2) (7) (⟨#[]⟩) ([]) ([])), Mb.mk (⟨#[108]⟩) ((V.mk 4 0 ⟨#[]⟩ [] ([V.mk (3) (0) (⟨#[120]⟩) ([]) ([]), V.mk (3) (0) (⟨#[121]⟩) ([]) ([])]))), Mb.mk (⟨#[98]⟩) (V.mk (1) (1) (⟨#[]⟩) ([]) ([])), Mb.mk (⟨#[]⟩) (V.mk (3) (0) (⟨#[]⟩) ([]) ([]))])).t)), (.slice cn35_10a (((objM ([Mb.mk (⟨#[110]⟩) (V.mk (2) (7) (⟨#[]⟩) ([]) ([])), Mb.mk (⟨#[108]⟩) ((V.mk 4 0 ⟨#[]⟩ [] ([V.mk (3) (0) (⟨#[120]⟩) ([]) ([]), V.mk (3) (0) (⟨#[121]⟩) ([]) ([])]))), Mb.mk (⟨#[98]⟩) (V.mk (1) (1) (⟨#[]⟩) ([]) ([])), Mb.mk (⟨#[]⟩) (V.mk (3) (0) (⟨#[]⟩) ([]) ([]))])).ns).length) cn35_10c), (.slice ci35_10a (((objM ([Mb.mk (⟨#[110]⟩) (V.mk (2) (7) (⟨#[]⟩) ([]) ([])), Mb.mk (⟨#[108]⟩) ((V.mk 4 0 ⟨#[]⟩ [] ([V.mk (3) (0) (⟨#[120]⟩) ([]) ([]), V.mk (3) (0) (⟨#[121]⟩) ([]) ([])]))), Mb.mk (⟨#[98]⟩) (V.mk (1) (1) (⟨#[]⟩) ([]) ([])), Mb.mk (⟨#[]⟩) (V.mk (3) (0) (⟨#[]⟩) ([]) ([]))])).xs).length) ci35_10c), (.slice none 0 0), (.int .i64 (0))] 56) st_nb (sp_call1 (φ1 := Is (.agg #[(.int .u8 ((objM ([Mb.mk (⟨#[110]⟩) (V.mk (2) (7) (⟨#[]⟩) ([]) ([])), Mb.mk (⟨#[108]⟩) ((V.mk 4 0 ⟨#[]⟩ [] ([V.mk (3) (0) (⟨#[120]⟩) ([]) ([]), V.mk (3) (0) (⟨#[121]⟩) ([]) ([])]))), Mb.mk (⟨#[98]⟩) (V.mk (1) (1) (⟨#[]⟩) ([]) ([])), Mb.mk (⟨#[]⟩) (V.mk (3) (0) (⟨#[]⟩) ([]) ([]))])).k)), (.int .i64 ((objM ([Mb.mk (⟨#[110]⟩) (V.mk (2) (7) (⟨#[]⟩) ([]) ([])), Mb.mk (⟨#[108]⟩) ((V.mk 4 0 ⟨#[]⟩ [] ([V.mk (3) (0) (⟨#[120]⟩) ([]) ([]), V.mk (3) (0) (⟨#[121]⟩) ([]) ([])]))), Mb.mk (⟨#[98]⟩) (V.mk (1) (1) (⟨#[]⟩) ([]) ([])), Mb.mk (⟨#[]⟩) (V.mk (3) (0) (⟨#[]⟩) ([]) ([]))])).n)), (.string ((objM ([Mb.mk (⟨#[110]⟩) (V.mk (2) (7) (⟨#[]⟩) ([]) ([])), Mb.mk (⟨#[108]⟩) ((V.mk 4 0 ⟨#[]⟩ [] ([V.mk (3) (0) (⟨#[120]⟩) ([]) ([]), V.mk (3) (0) (⟨#[121]⟩) ([]) ([])]))), Mb.mk (⟨#[98]⟩) (V.mk (1) (1) (⟨#[]⟩) ([]) ([])), Mb.mk (⟨#[]⟩) (V.mk (3) (0) (⟨#[]⟩) ([]) ([]))])).t)), (.slice cn35_10a (((objM ([Mb.mk (⟨#[110]⟩) (V.mk (2) (7) (⟨#[]⟩) ([]) ([])), Mb.mk (⟨#[108]⟩) ((V.mk 4 0 ⟨#[]⟩ [] ([V.mk (3) (0) (⟨#[120]⟩) ([]) ([]), V.mk (3) (0) (⟨#[121]⟩) ([]) ([])]))), Mb.mk (⟨#[98]⟩) (V.mk (1) (1) (⟨#[]⟩) ([]) ([])), Mb.mk (⟨#[]⟩) (V.mk (3) (0) (⟨#[]⟩) ([]) ([]))])).ns).length) cn35_10c), (.slice ci35_10a (((objM ([Mb.mk (⟨#[110]⟩) (V.mk (2) (7) (⟨#[]⟩) ([]) ([])), Mb.mk (⟨#[108]⟩) ((V.mk 4 0 ⟨#[]⟩ [] ([V.mk (3) (0) (⟨#[120]⟩) ([]) ([]), V.mk (3) (0) (⟨#[121]⟩) ([]) ([])]))), Mb.mk (⟨#[98]⟩) (V.mk (1) (1) (⟨#[]⟩) ([]) ([])), Mb.mk (⟨#[]⟩) (V.mk (3) (0) (⟨#[]⟩) ([]) ([]))])).xs).length) ci35_10c)])) ent30 (hlc rfl) (fun g u1 W hk hgk h1 => by have h1 : u1 = _ := h1; subst u1; exact (rOf_ok ((objM ([Mb.mk (⟨#[110]⟩) (V.mk (2) (7) (⟨#[]⟩) ([]) ([])), Mb.mk (⟨#[108]⟩) ((V.mk 4 0 ⟨#[]⟩ [] ([V.mk (3) (0) (⟨#[120]⟩) ([]) ([]), V.mk (3) (0) (⟨#[121]⟩) ([]) ([])]))), Mb.mk (⟨#[98]⟩) (V.mk (1) (1) (⟨#[]⟩) ([]) ([])), Mb.mk (⟨#[]⟩) (V.mk (3) (0) (⟨#[]⟩) ([]) ([]))]))) ht_v35_10 rfl rfl (by kernel_rfl) W _ _ _ (rd_base D_cn35_10 hk hgk sub_all) (rd_base D_ci35_10 hk hgk sub_all)).mono (fun _ _ ⟨v, h1, h2, b, h3, h4, h5⟩ => ⟨v, h1, h2, nb_up hk ⟨b, h3, h4, h5⟩⟩))) ?_
  refine .i (fo 0 (hbs rfl e5) Try.underlying69 rfl sz54 rfl) ?_
  refine .i (v := (.agg #[(.int .u8 ((L[k]'hlt).c.wh)), (.string ((L[k]'hlt).c.nm)), (.int .i64 ((L[k]'hlt).c.lo)), (.int .i64 ((L[k]'hlt).c.hi)), (.int .i64 ((L[k]'hlt).c.mo)), (.int .i64 ((L[k]'hlt).c.er))])) (loA (hlc rfl) own_b5_25 trivial agg54 sz54 rfl rfl) ?_
  refine .done ⟨by kernel_rfl, by kernel_rfl, fun a31 g W31 y31 zz31 hk hg hV hR hP => ?_⟩
  obtain ⟨e109, -, e107, -, e105, -⟩ := hV
  replace e1 := ft hR e1
  replace e2 := ft hR e2
  replace e97 := ft hR e97
  replace e98 := ft hR e98
  replace e99 := ft hR e99
  replace e5 := ft hR e5
  replace e6 := ft hR e6
  obtain ⟨bo107_31, e107, lr_bo107_31, own_bo107_31⟩ := e107
  have e107 : sl a31 107 = (.pointer (some ⟨bo107_31, 0, none⟩)) := e107
  have lo_bo107_31 : w.heap.size ≤ bo107_31 := Nat.le_trans kw.size lr_bo107_31
  have ne_b1_7_bo107_31 : b1_7 ≠ bo107_31 := Nat.ne_of_lt (Nat.lt_of_lt_of_le own_b1_7.lt lr_bo107_31)
  have ne_b2_10_bo107_31 : b2_10 ≠ bo107_31 := Nat.ne_of_lt (Nat.lt_of_lt_of_le own_b2_10.lt lr_bo107_31)
  have ne_b5_25_bo107_31 : b5_25 ≠ bo107_31 := Nat.ne_of_lt (Nat.lt_of_lt_of_le own_b5_25.lt lr_bo107_31)
  have ne_bo104_28_bo107_31 : bo104_28 ≠ bo107_31 := Nat.ne_of_lt (Nat.lt_of_lt_of_le own_bo104_28.lt lr_bo107_31)
  have ne_bm104_28_bo107_31 : bm104_28 ≠ bo107_31 := Nat.ne_of_lt (Nat.lt_of_lt_of_le own_bm104_28.lt lr_bo107_31)
  replace D_cn23_7 : Rd W31 (SF w [bo107_31, bo104_28, bm104_28, b5_25, b2_10, b1_7]) (strsD ((V.mk 4 0 ⟨#[]⟩ [] ([V.mk (3) (0) (⟨#[120]⟩) ([]) ([]), V.mk (3) (0) (⟨#[121]⟩) ([]) ([])])).ns)) (.slice cn23_7a (((V.mk 4 0 ⟨#[]⟩ [] ([V.mk (3) (0) (⟨#[120]⟩) ([]) ([]), V.mk (3) (0) (⟨#[121]⟩) ([]) ([])])).ns).length) cn23_7c) := sf_more D_cn23_7 hk [bo107_31] (in_cons lr_bo107_31 in_nil)
  replace D_ci23_7 : Rd W31 (SF w [bo107_31, bo104_28, bm104_28, b5_25, b2_10, b1_7]) (valsD ((V.mk 4 0 ⟨#[]⟩ [] ([V.mk (3) (0) (⟨#[120]⟩) ([]) ([]), V.mk (3) (0) (⟨#[121]⟩) ([]) ([])])).xs)) (.slice ci23_7a (((V.mk 4 0 ⟨#[]⟩ [] ([V.mk (3) (0) (⟨#[120]⟩) ([]) ([]), V.mk (3) (0) (⟨#[121]⟩) ([]) ([])])).xs).length) ci23_7c) := sf_more D_ci23_7 hk [bo107_31] (in_cons lr_bo107_31 in_nil)
  replace D_cn35_10 : Rd W31 (SF w [bo107_31, bo104_28, bm104_28, b5_25, b2_10, b1_7]) (strsD ((objM ([Mb.mk (⟨#[110]⟩) (V.mk (2) (7) (⟨#[]⟩) ([]) ([])), Mb.mk (⟨#[108]⟩) ((V.mk 4 0 ⟨#[]⟩ [] ([V.mk (3) (0) (⟨#[120]⟩) ([]) ([]), V.mk (3) (0) (⟨#[121]⟩) ([]) ([])]))), Mb.mk (⟨#[98]⟩) (V.mk (1) (1) (⟨#[]⟩) ([]) ([])), Mb.mk (⟨#[]⟩) (V.mk (3) (0) (⟨#[]⟩) ([]) ([]))])).ns)) (.slice cn35_10a (((objM ([Mb.mk (⟨#[110]⟩) (V.mk (2) (7) (⟨#[]⟩) ([]) ([])), Mb.mk (⟨#[108]⟩) ((V.mk 4 0 ⟨#[]⟩ [] ([V.mk (3) (0) (⟨#[120]⟩) ([]) ([]), V.mk (3) (0) (⟨#[121]⟩) ([]) ([])]))), Mb.mk (⟨#[98]⟩) (V.mk (1) (1) (⟨#[]⟩) ([]) ([])), Mb.mk (⟨#[]⟩) (V.mk (3) (0) (⟨#[]⟩) ([]) ([]))])).ns).length) cn35_10c) := sf_more D_cn35_10 hk [bo107_31] (in_cons lr_bo107_31 in_nil)
  replace D_ci35_10 : Rd W31 (SF w [bo107_31, bo104_28, bm104_28, b5_25, b2_10, b1_7]) (valsD ((objM ([Mb.mk (⟨#[110]⟩) (V.mk (2) (7) (⟨#[]⟩) ([]) ([])), Mb.mk (⟨#[108]⟩) ((V.mk 4 0 ⟨#[]⟩ [] ([V.mk (3) (0) (⟨#[120]⟩) ([]) ([]), V.mk (3) (0) (⟨#[121]⟩) ([]) ([])]))), Mb.mk (⟨#[98]⟩) (V.mk (1) (1) (⟨#[]⟩) ([]) ([])), Mb.mk (⟨#[]⟩) (V.mk (3) (0) (⟨#[]⟩) ([]) ([]))])).xs)) (.slice ci35_10a (((objM ([Mb.mk (⟨#[110]⟩) (V.mk (2) (7) (⟨#[]⟩) ([]) ([])), Mb.mk (⟨#[108]⟩) ((V.mk 4 0 ⟨#[]⟩ [] ([V.mk (3) (0) (⟨#[120]⟩) ([]) ([]), V.mk (3) (0) (⟨#[121]⟩) ([]) ([])]))), Mb.mk (⟨#[98]⟩) (V.mk (1) (1) (⟨#[]⟩) ([]) ([])), Mb.mk (⟨#[]⟩) (V.mk (3) (0) (⟨#[]⟩) ([]) ([]))])).xs).length) ci35_10c) := sf_more D_ci35_10 hk [bo107_31] (in_cons lr_bo107_31 in_nil)
  replace D_v97_18 : Rd W31 (SF w [bo107_31, bo104_28, bm104_28, b5_25, b2_10, b1_7]) (pnsD (L)) (.slice v97_18a (L.length) v97_18c) := sf_more D_v97_18 hk [bo107_31] (in_cons lr_bo107_31 in_nil)
  replace D_cn104_28 : Rd W31 (SF w [bo107_31, bo104_28, bm104_28, b5_25, b2_10, b1_7]) (strsD ((objM ([Mb.mk (⟨#[110]⟩) (V.mk (2) (7) (⟨#[]⟩) ([]) ([])), Mb.mk (⟨#[108]⟩) ((V.mk 4 0 ⟨#[]⟩ [] ([V.mk (3) (0) (⟨#[120]⟩) ([]) ([]), V.mk (3) (0) (⟨#[121]⟩) ([]) ([])]))), Mb.mk (⟨#[98]⟩) (V.mk (1) (1) (⟨#[]⟩) ([]) ([])), Mb.mk (⟨#[]⟩) (V.mk (3) (0) (⟨#[]⟩) ([]) ([]))])).ns)) (.slice cn104_28a (((objM ([Mb.mk (⟨#[110]⟩) (V.mk (2) (7) (⟨#[]⟩) ([]) ([])), Mb.mk (⟨#[108]⟩) ((V.mk 4 0 ⟨#[]⟩ [] ([V.mk (3) (0) (⟨#[120]⟩) ([]) ([]), V.mk (3) (0) (⟨#[121]⟩) ([]) ([])]))), Mb.mk (⟨#[98]⟩) (V.mk (1) (1) (⟨#[]⟩) ([]) ([])), Mb.mk (⟨#[]⟩) (V.mk (3) (0) (⟨#[]⟩) ([]) ([]))])).ns).length) cn104_28c) := sf_more D_cn104_28 hk [bo107_31] (in_cons lr_bo107_31 in_nil)
  replace D_ci104_28 : Rd W31 (SF w [bo107_31, bo104_28, bm104_28, b5_25, b2_10, b1_7]) (valsD ((objM ([Mb.mk (⟨#[110]⟩) (V.mk (2) (7) (⟨#[]⟩) ([]) ([])), Mb.mk (⟨#[108]⟩) ((V.mk 4 0 ⟨#[]⟩ [] ([V.mk (3) (0) (⟨#[120]⟩) ([]) ([]), V.mk (3) (0) (⟨#[121]⟩) ([]) ([])]))), Mb.mk (⟨#[98]⟩) (V.mk (1) (1) (⟨#[]⟩) ([]) ([])), Mb.mk (⟨#[]⟩) (V.mk (3) (0) (⟨#[]⟩) ([]) ([]))])).xs)) (.slice ci104_28a (((objM ([Mb.mk (⟨#[110]⟩) (V.mk (2) (7) (⟨#[]⟩) ([]) ([])), Mb.mk (⟨#[108]⟩) ((V.mk 4 0 ⟨#[]⟩ [] ([V.mk (3) (0) (⟨#[120]⟩) ([]) ([]), V.mk (3) (0) (⟨#[121]⟩) ([]) ([])]))), Mb.mk (⟨#[98]⟩) (V.mk (1) (1) (⟨#[]⟩) ([]) ([])), Mb.mk (⟨#[]⟩) (V.mk (3) (0) (⟨#[]⟩) ([]) ([]))])).xs).length) ci104_28c) := sf_more D_ci104_28 hk [bo107_31] (in_cons lr_bo107_31 in_nil)
  have own_bo107_31 : Own W31 bo107_31 [(.int .u8 ((objM ([Mb.mk (⟨#[110]⟩) (V.mk (2) (7) (⟨#[]⟩) ([]) ([])), Mb.mk (⟨#[108]⟩) ((V.mk 4 0 ⟨#[]⟩ [] ([V.mk (3) (0) (⟨#[120]⟩) ([]) ([]), V.mk (3) (0) (⟨#[121]⟩) ([]) ([])]))), Mb.mk (⟨#[98]⟩) (V.mk (1) (1) (⟨#[]⟩) ([]) ([])), Mb.mk (⟨#[]⟩) (V.mk (3) (0) (⟨#[]⟩) ([]) ([]))])).k)), (.int .i64 ((objM ([Mb.mk (⟨#[110]⟩) (V.mk (2) (7) (⟨#[]⟩) ([]) ([])), Mb.mk (⟨#[108]⟩) ((V.mk 4 0 ⟨#[]⟩ [] ([V.mk (3) (0) (⟨#[120]⟩) ([]) ([]), V.mk (3) (0) (⟨#[121]⟩) ([]) ([])]))), Mb.mk (⟨#[98]⟩) (V.mk (1) (1) (⟨#[]⟩) ([]) ([])), Mb.mk (⟨#[]⟩) (V.mk (3) (0) (⟨#[]⟩) ([]) ([]))])).n)), (.string ((objM ([Mb.mk (⟨#[110]⟩) (V.mk (2) (7) (⟨#[]⟩) ([]) ([])), Mb.mk (⟨#[108]⟩) ((V.mk 4 0 ⟨#[]⟩ [] ([V.mk (3) (0) (⟨#[120]⟩) ([]) ([]), V.mk (3) (0) (⟨#[121]⟩) ([]) ([])]))), Mb.mk (⟨#[98]⟩) (V.mk (1) (1) (⟨#[]⟩) ([]) ([])), Mb.mk (⟨#[]⟩) (V.mk (3) (0) (⟨#[]⟩) ([]) ([]))])).t)), (.slice cn35_10a (((objM ([Mb.mk (⟨#[110]⟩) (V.mk (2) (7) (⟨#[]⟩) ([]) ([])), Mb.mk (⟨#[108]⟩) ((V.mk 4 0 ⟨#[]⟩ [] ([V.mk (3) (0) (⟨#[120]⟩) ([]) ([]), V.mk (3) (0) (⟨#[121]⟩) ([]) ([])]))), Mb.mk (⟨#[98]⟩) (V.mk (1) (1) (⟨#[]⟩) ([]) ([])), Mb.mk (⟨#[]⟩) (V.mk (3) (0) (⟨#[]⟩) ([]) ([]))])).ns).length) cn35_10c), (.slice ci35_10a (((objM ([Mb.mk (⟨#[110]⟩) (V.mk (2) (7) (⟨#[]⟩) ([]) ([])), Mb.mk (⟨#[108]⟩) ((V.mk 4 0 ⟨#[]⟩ [] ([V.mk (3) (0) (⟨#[120]⟩) ([]) ([]), V.mk (3) (0) (⟨#[121]⟩) ([]) ([])]))), Mb.mk (⟨#[98]⟩) (V.mk (1) (1) (⟨#[]⟩) ([]) ([])), Mb.mk (⟨#[]⟩) (V.mk (3) (0) (⟨#[]⟩) ([]) ([]))])).xs).length) ci35_10c), (.slice none 0 0), (.int .i64 (0))] 56 := own_bo107_31
  have e105 : sl a31 105 = (.pointer (some ⟨bo104_28, 0, none⟩)) := e105
  replace e109 := e109.q
  replace own_b1_7 := own_b1_7.ext hk
  replace own_b2_10 := own_b2_10.ext hk
  replace own_b5_25 := own_b5_25.ext hk
  replace own_bo104_28 := own_bo104_28.ext hk
  replace own_bm104_28 := own_bm104_28.ext hk
  replace kw := kw.x hk
  clear hR hk hg hP lr_bo107_31
  simp only [shiftR, shiftO, List.length_cons, List.length_nil, Nat.reduceAdd, List.drop_succ_cons, List.drop_zero, List.map_cons, List.map_nil, Option.map_some, Option.map_none, Nat.reduceSub]
  refine any_two (fun k => k ∉ [bo104_28, bm104_28, bo107_31]) (Ψ := fun W => Own W bo104_28 [(.int .u8 ((objM ([Mb.mk (⟨#[110]⟩) (V.mk (2) (7) (⟨#[]⟩) ([]) ([])), Mb.mk (⟨#[108]⟩) ((V.mk 4 0 ⟨#[]⟩ [] ([V.mk (3) (0) (⟨#[120]⟩) ([]) ([]), V.mk (3) (0) (⟨#[121]⟩) ([]) ([])]))), Mb.mk (⟨#[98]⟩) (V.mk (1) (1) (⟨#[]⟩) ([]) ([])), Mb.mk (⟨#[]⟩) (V.mk (3) (0) (⟨#[]⟩) ([]) ([]))])).k)), (.int .i64 ((objM ([Mb.mk (⟨#[110]⟩) (V.mk (2) (7) (⟨#[]⟩) ([]) ([])), Mb.mk (⟨#[108]⟩) ((V.mk 4 0 ⟨#[]⟩ [] ([V.mk (3) (0) (⟨#[120]⟩) ([]) ([]), V.mk (3) (0) (⟨#[121]⟩) ([]) ([])]))), Mb.mk (⟨#[98]⟩) (V.mk (1) (1) (⟨#[]⟩) ([]) ([])), Mb.mk (⟨#[]⟩) (V.mk (3) (0) (⟨#[]⟩) ([]) ([]))])).n)), (.string ((objM ([Mb.mk (⟨#[110]⟩) (V.mk (2) (7) (⟨#[]⟩) ([]) ([])), Mb.mk (⟨#[108]⟩) ((V.mk 4 0 ⟨#[]⟩ [] ([V.mk (3) (0) (⟨#[120]⟩) ([]) ([]), V.mk (3) (0) (⟨#[121]⟩) ([]) ([])]))), Mb.mk (⟨#[98]⟩) (V.mk (1) (1) (⟨#[]⟩) ([]) ([])), Mb.mk (⟨#[]⟩) (V.mk (3) (0) (⟨#[]⟩) ([]) ([]))])).t)), (.slice cn104_28a (((objM ([Mb.mk (⟨#[110]⟩) (V.mk (2) (7) (⟨#[]⟩) ([]) ([])), Mb.mk (⟨#[108]⟩) ((V.mk 4 0 ⟨#[]⟩ [] ([V.mk (3) (0) (⟨#[120]⟩) ([]) ([]), V.mk (3) (0) (⟨#[121]⟩) ([]) ([])]))), Mb.mk (⟨#[98]⟩) (V.mk (1) (1) (⟨#[]⟩) ([]) ([])), Mb.mk (⟨#[]⟩) (V.mk (3) (0) (⟨#[]⟩) ([]) ([]))])).ns).length) cn104_28c), (.slice ci104_28a (((objM ([Mb.mk (⟨#[110]⟩) (V.mk (2) (7) (⟨#[]⟩) ([]) ([])), Mb.mk (⟨#[108]⟩) ((V.mk 4 0 ⟨#[]⟩ [] ([V.mk (3) (0) (⟨#[120]⟩) ([]) ([]), V.mk (3) (0) (⟨#[121]⟩) ([]) ([])]))), Mb.mk (⟨#[98]⟩) (V.mk (1) (1) (⟨#[]⟩) ([]) ([])), Mb.mk (⟨#[]⟩) (V.mk (3) (0) (⟨#[]⟩) ([]) ([]))])).xs).length) ci104_28c), (.map (some bm104_28)), (.int .i64 (0))] 74 ∧ OwnM W bm104_28 ([]) ∧ Own W bo107_31 [(.int .u8 ((objM ([Mb.mk (⟨#[110]⟩) (V.mk (2) (7) (⟨#[]⟩) ([]) ([])), Mb.mk (⟨#[108]⟩) ((V.mk 4 0 ⟨#[]⟩ [] ([V.mk (3) (0) (⟨#[120]⟩) ([]) ([]), V.mk (3) (0) (⟨#[121]⟩) ([]) ([])]))), Mb.mk (⟨#[98]⟩) (V.mk (1) (1) (⟨#[]⟩) ([]) ([])), Mb.mk (⟨#[]⟩) (V.mk (3) (0) (⟨#[]⟩) ([]) ([]))])).k)), (.int .i64 ((objM ([Mb.mk (⟨#[110]⟩) (V.mk (2) (7) (⟨#[]⟩) ([]) ([])), Mb.mk (⟨#[108]⟩) ((V.mk 4 0 ⟨#[]⟩ [] ([V.mk (3) (0) (⟨#[120]⟩) ([]) ([]), V.mk (3) (0) (⟨#[121]⟩) ([]) ([])]))), Mb.mk (⟨#[98]⟩) (V.mk (1) (1) (⟨#[]⟩) ([]) ([])), Mb.mk (⟨#[]⟩) (V.mk (3) (0) (⟨#[]⟩) ([]) ([]))])).n)), (.string ((objM ([Mb.mk (⟨#[110]⟩) (V.mk (2) (7) (⟨#[]⟩) ([]) ([])), Mb.mk (⟨#[108]⟩) ((V.mk 4 0 ⟨#[]⟩ [] ([V.mk (3) (0) (⟨#[120]⟩) ([]) ([]), V.mk (3) (0) (⟨#[121]⟩) ([]) ([])]))), Mb.mk (⟨#[98]⟩) (V.mk (1) (1) (⟨#[]⟩) ([]) ([])), Mb.mk (⟨#[]⟩) (V.mk (3) (0) (⟨#[]⟩) ([]) ([]))])).t)), (.slice cn35_10a (((objM ([Mb.mk (⟨#[110]⟩) (V.mk (2) (7) (⟨#[]⟩) ([]) ([])), Mb.mk (⟨#[108]⟩) ((V.mk 4 0 ⟨#[]⟩ [] ([V.mk (3) (0) (⟨#[120]⟩) ([]) ([]), V.mk (3) (0) (⟨#[121]⟩) ([]) ([])]))), Mb.mk (⟨#[98]⟩) (V.mk (1) (1) (⟨#[]⟩) ([]) ([])), Mb.mk (⟨#[]⟩) (V.mk (3) (0) (⟨#[]⟩) ([]) ([]))])).ns).length) cn35_10c), (.slice ci35_10a (((objM ([Mb.mk (⟨#[110]⟩) (V.mk (2) (7) (⟨#[]⟩) ([]) ([])), Mb.mk (⟨#[108]⟩) ((V.mk 4 0 ⟨#[]⟩ [] ([V.mk (3) (0) (⟨#[120]⟩) ([]) ([]), V.mk (3) (0) (⟨#[121]⟩) ([]) ([])]))), Mb.mk (⟨#[98]⟩) (V.mk (1) (1) (⟨#[]⟩) ([]) ([])), Mb.mk (⟨#[]⟩) (V.mk (3) (0) (⟨#[]⟩) ([]) ([]))])).xs).length) ci35_10c), (.slice none 0 0), (.int .i64 (0))] 56) y31 zz31 (stE_and stE_own (stE_and stE_ownM stE_own)) ⟨own_bo104_28, own_bm104_28, own_bo107_31⟩ ?_
  refine .callL3 (φ1 := Is (.pointer (some ⟨bo104_28, 0, none⟩))) (φ2 := Is (.pointer (some ⟨bo107_31, 0, none⟩))) (φ3 := IsD (SF w [bo107_31, bo104_28, bm104_28, b5_25, b2_10, b1_7]) (Cl.d ((L[k]'hlt).c))) (φ := Is (.bool (aR (objM ([Mb.mk (⟨#[110]⟩) (V.mk (2) (7) (⟨#[]⟩) ([]) ([])), Mb.mk (⟨#[108]⟩) ((V.mk 4 0 ⟨#[]⟩ [] ([V.mk (3) (0) (⟨#[120]⟩) ([]) ([]), V.mk (3) (0) (⟨#[121]⟩) ([]) ([])]))), Mb.mk (⟨#[98]⟩) (V.mk (1) (1) (⟨#[]⟩) ([]) ([])), Mb.mk (⟨#[]⟩) (V.mk (3) (0) (⟨#[]⟩) ([]) ([]))])) 0 (objM ([Mb.mk (⟨#[110]⟩) (V.mk (2) (7) (⟨#[]⟩) ([]) ([])), Mb.mk (⟨#[108]⟩) ((V.mk 4 0 ⟨#[]⟩ [] ([V.mk (3) (0) (⟨#[120]⟩) ([]) ([]), V.mk (3) (0) (⟨#[121]⟩) ([]) ([])]))), Mb.mk (⟨#[98]⟩) (V.mk (1) (1) (⟨#[]⟩) ([]) ([])), Mb.mk (⟨#[]⟩) (V.mk (3) (0) (⟨#[]⟩) ([]) ([]))])) ((L[k]'hlt).c)))) (Ψ' := fun W => Own W bo104_28 [(.int .u8 ((objM ([Mb.mk (⟨#[110]⟩) (V.mk (2) (7) (⟨#[]⟩) ([]) ([])), Mb.mk (⟨#[108]⟩) ((V.mk 4 0 ⟨#[]⟩ [] ([V.mk (3) (0) (⟨#[120]⟩) ([]) ([]), V.mk (3) (0) (⟨#[121]⟩) ([]) ([])]))), Mb.mk (⟨#[98]⟩) (V.mk (1) (1) (⟨#[]⟩) ([]) ([])), Mb.mk (⟨#[]⟩) (V.mk (3) (0) (⟨#[]⟩) ([]) ([]))])).k)), (.int .i64 ((objM ([Mb.mk (⟨#[110]⟩) (V.mk (2) (7) (⟨#[]⟩) ([]) ([])), Mb.mk (⟨#[108]⟩) ((V.mk 4 0 ⟨#[]⟩ [] ([V.mk (3) (0) (⟨#[120]⟩) ([]) ([]), V.mk (3) (0) (⟨#[121]⟩) ([]) ([])]))), Mb.mk (⟨#[98]⟩) (V.mk (1) (1) (⟨#[]⟩) ([]) ([])), Mb.mk (⟨#[]⟩) (V.mk (3) (0) (⟨#[]⟩) ([]) ([]))])).n)), (.string ((objM ([Mb.mk (⟨#[110]⟩) (V.mk (2) (7) (⟨#[]⟩) ([]) ([])), Mb.mk (⟨#[108]⟩) ((V.mk 4 0 ⟨#[]⟩ [] ([V.mk (3) (0) (⟨#[120]⟩) ([]) ([]), V.mk (3) (0) (⟨#[121]⟩) ([]) ([])]))), Mb.mk (⟨#[98]⟩) (V.mk (1) (1) (⟨#[]⟩) ([]) ([])), Mb.mk (⟨#[]⟩) (V.mk (3) (0) (⟨#[]⟩) ([]) ([]))])).t)), (.slice cn104_28a (((objM ([Mb.mk (⟨#[110]⟩) (V.mk (2) (7) (⟨#[]⟩) ([]) ([])), Mb.mk (⟨#[108]⟩) ((V.mk 4 0 ⟨#[]⟩ [] ([V.mk (3) (0) (⟨#[120]⟩) ([]) ([]), V.mk (3) (0) (⟨#[121]⟩) ([]) ([])]))), Mb.mk (⟨#[98]⟩) (V.mk (1) (1) (⟨#[]⟩) ([]) ([])), Mb.mk (⟨#[]⟩) (V.mk (3) (0) (⟨#[]⟩) ([]) ([]))])).ns).length) cn104_28c), (.slice ci104_28a (((objM ([Mb.mk (⟨#[110]⟩) (V.mk (2) (7) (⟨#[]⟩) ([]) ([])), Mb.mk (⟨#[108]⟩) ((V.mk 4 0 ⟨#[]⟩ [] ([V.mk (3) (0) (⟨#[120]⟩) ([]) ([]), V.mk (3) (0) (⟨#[121]⟩) ([]) ([])]))), Mb.mk (⟨#[98]⟩) (V.mk (1) (1) (⟨#[]⟩) ([]) ([])), Mb.mk (⟨#[]⟩) (V.mk (3) (0) (⟨#[]⟩) ([]) ([]))])).xs).length) ci104_28c), (.map (some bm104_28)), (.int .i64 (qE (objM ([Mb.mk (⟨#[110]⟩) (V.mk (2) (7) (⟨#[]⟩) ([]) ([])), Mb.mk (⟨#[108]⟩) ((V.mk 4 0 ⟨#[]⟩ [] ([V.mk (3) (0) (⟨#[120]⟩) ([]) ([]), V.mk (3) (0) (⟨#[121]⟩) ([]) ([])]))), Mb.mk (⟨#[98]⟩) (V.mk (1) (1) (⟨#[]⟩) ([]) ([])), Mb.mk (⟨#[]⟩) (V.mk (3) (0) (⟨#[]⟩) ([]) ([]))])) 0 ((L[k]'hlt).c)))] 74 ∧ OwnM W bm104_28 (qA (objM ([Mb.mk (⟨#[110]⟩) (V.mk (2) (7) (⟨#[]⟩) ([]) ([])), Mb.mk (⟨#[108]⟩) ((V.mk 4 0 ⟨#[]⟩ [] ([V.mk (3) (0) (⟨#[120]⟩) ([]) ([]), V.mk (3) (0) (⟨#[121]⟩) ([]) ([])]))), Mb.mk (⟨#[98]⟩) (V.mk (1) (1) (⟨#[]⟩) ([]) ([])), Mb.mk (⟨#[]⟩) (V.mk (3) (0) (⟨#[]⟩) ([]) ([]))])) ([]) 0 ((L[k]'hlt).c)) ∧ True) ent31 (hbs rfl e105) (hbs rfl e107) ((hbs rfl e109).dat (rdCl_mk hb_v102_25_1 : Rd W31 (SF w [bo107_31, bo104_28, bm104_28, b5_25, b2_10, b1_7]) (Cl.d ((L[k]'hlt).c)) _) (sub_nlF (by simp))) (st_is _) (stE_and stE_own (stE_and stE_ownM stE_tr)) (fun g u1 u2 u3 W hk hg h1 h2 h3 hP => by have h1 : u1 = _ := h1; subst u1; have h2 : u2 = _ := h2; subst u2; exact ((asks_ok ((objM ([Mb.mk (⟨#[110]⟩) (V.mk (2) (7) (⟨#[]⟩) ([]) ([])), Mb.mk (⟨#[108]⟩) ((V.mk 4 0 ⟨#[]⟩ [] ([V.mk (3) (0) (⟨#[120]⟩) ([]) ([]), V.mk (3) (0) (⟨#[121]⟩) ([]) ([])]))), Mb.mk (⟨#[98]⟩) (V.mk (1) (1) (⟨#[]⟩) ([]) ([])), Mb.mk (⟨#[]⟩) (V.mk (3) (0) (⟨#[]⟩) ([]) ([]))]))) ([]) (0) (AB.nil.mono (by omega)) (Nat.le_of_ble_eq_true (by kernel_rfl)) tb104_28 ((L[k]'hlt).c) hro.2.1 hro.2.2.2.2 W _ _ _ bo104_28 bm104_28 bo107_31 (fun b o h => h.1.2.1) (fun b hb o h => (sf_notin (by simp : ∀ b ∈ [bo104_28, bm104_28, bo107_31], b ∈ [bo107_31, bo104_28, bm104_28, b5_25, b2_10, b1_7])) b hb o h.1) ne_bo104_28_bm104_28 (rd_base D_cn104_28 hk hg (sub_nlF (by simp))) (rd_base D_ci104_28 hk hg (sub_nlF (by simp))) hP.1 hP.2.1 ((objM ([Mb.mk (⟨#[110]⟩) (V.mk (2) (7) (⟨#[]⟩) ([]) ([])), Mb.mk (⟨#[108]⟩) ((V.mk 4 0 ⟨#[]⟩ [] ([V.mk (3) (0) (⟨#[120]⟩) ([]) ([]), V.mk (3) (0) (⟨#[121]⟩) ([]) ([])]))), Mb.mk (⟨#[98]⟩) (V.mk (1) (1) (⟨#[]⟩) ([]) ([])), Mb.mk (⟨#[]⟩) (V.mk (3) (0) (⟨#[]⟩) ([]) ([]))]))) ht_v35_10 _ _ (rd_base D_cn35_10 hk hg (sub_nlF (by simp))) (rd_base D_ci35_10 hk hg (sub_nlF (by simp))) hP.2.2 ne_bo104_28_bo107_31 ne_bm104_28_bo107_31 hro.2.2.2.1 _ (rdCl_any h3)).mono fun _ _ ⟨v, h1, h2, h3, h4, h5⟩ => ⟨v, h1, h2, h3, h4, h5, trivial⟩)) ?_
  refine .i (sp_not (hlc rfl)) ?_
  refine .done ⟨by kernel_rfl, by kernel_rfl, fun a32 g W32 y32 zz32 hk hg hV hR hP => ?_⟩
  obtain ⟨e111, -, -⟩ := hV
  replace e1 := ft hR e1
  replace e2 := ft hR e2
  replace e97 := ft hR e97
  replace e98 := ft hR e98
  replace e99 := ft hR e99
  replace e5 := ft hR e5
  replace e6 := ft hR e6
  replace e111 := e111.q
  replace D_cn23_7 := sf_keepL D_cn23_7 hk (by simp)
  replace D_ci23_7 := sf_keepL D_ci23_7 hk (by simp)
  replace D_cn35_10 := sf_keepL D_cn35_10 hk (by simp)
  replace D_ci35_10 := sf_keepL D_ci35_10 hk (by simp)
  replace D_v97_18 := sf_keepL D_v97_18 hk (by simp)
  replace D_cn104_28 := sf_keepL D_cn104_28 hk (by simp)
  replace D_ci104_28 := sf_keepL D_ci104_28 hk (by simp)
  replace own_b1_7 := own_keepL own_b1_7 hk (by simp [ne_b1_7_bo104_28, ne_b1_7_bm104_28, ne_b1_7_bo107_31])
  replace own_b2_10 := own_keepL own_b2_10 hk (by simp [ne_b2_10_bo104_28, ne_b2_10_bm104_28, ne_b2_10_bo107_31])
  replace own_b5_25 := own_keepL own_b5_25 hk (by simp [ne_b5_25_bo104_28, ne_b5_25_bm104_28, ne_b5_25_bo107_31])
  obtain ⟨own_bo104_28, own_bm104_28, own_bo107_31⟩ := hP
  replace own_bo104_28 : Own W32 bo104_28 [(.int .u8 ((objM ([Mb.mk (⟨#[110]⟩) (V.mk (2) (7) (⟨#[]⟩) ([]) ([])), Mb.mk (⟨#[108]⟩) ((V.mk 4 0 ⟨#[]⟩ [] ([V.mk (3) (0) (⟨#[120]⟩) ([]) ([]), V.mk (3) (0) (⟨#[121]⟩) ([]) ([])]))), Mb.mk (⟨#[98]⟩) (V.mk (1) (1) (⟨#[]⟩) ([]) ([])), Mb.mk (⟨#[]⟩) (V.mk (3) (0) (⟨#[]⟩) ([]) ([]))])).k)), (.int .i64 ((objM ([Mb.mk (⟨#[110]⟩) (V.mk (2) (7) (⟨#[]⟩) ([]) ([])), Mb.mk (⟨#[108]⟩) ((V.mk 4 0 ⟨#[]⟩ [] ([V.mk (3) (0) (⟨#[120]⟩) ([]) ([]), V.mk (3) (0) (⟨#[121]⟩) ([]) ([])]))), Mb.mk (⟨#[98]⟩) (V.mk (1) (1) (⟨#[]⟩) ([]) ([])), Mb.mk (⟨#[]⟩) (V.mk (3) (0) (⟨#[]⟩) ([]) ([]))])).n)), (.string ((objM ([Mb.mk (⟨#[110]⟩) (V.mk (2) (7) (⟨#[]⟩) ([]) ([])), Mb.mk (⟨#[108]⟩) ((V.mk 4 0 ⟨#[]⟩ [] ([V.mk (3) (0) (⟨#[120]⟩) ([]) ([]), V.mk (3) (0) (⟨#[121]⟩) ([]) ([])]))), Mb.mk (⟨#[98]⟩) (V.mk (1) (1) (⟨#[]⟩) ([]) ([])), Mb.mk (⟨#[]⟩) (V.mk (3) (0) (⟨#[]⟩) ([]) ([]))])).t)), (.slice cn104_28a (((objM ([Mb.mk (⟨#[110]⟩) (V.mk (2) (7) (⟨#[]⟩) ([]) ([])), Mb.mk (⟨#[108]⟩) ((V.mk 4 0 ⟨#[]⟩ [] ([V.mk (3) (0) (⟨#[120]⟩) ([]) ([]), V.mk (3) (0) (⟨#[121]⟩) ([]) ([])]))), Mb.mk (⟨#[98]⟩) (V.mk (1) (1) (⟨#[]⟩) ([]) ([])), Mb.mk (⟨#[]⟩) (V.mk (3) (0) (⟨#[]⟩) ([]) ([]))])).ns).length) cn104_28c), (.slice ci104_28a (((objM ([Mb.mk (⟨#[110]⟩) (V.mk (2) (7) (⟨#[]⟩) ([]) ([])), Mb.mk (⟨#[108]⟩) ((V.mk 4 0 ⟨#[]⟩ [] ([V.mk (3) (0) (⟨#[120]⟩) ([]) ([]), V.mk (3) (0) (⟨#[121]⟩) ([]) ([])]))), Mb.mk (⟨#[98]⟩) (V.mk (1) (1) (⟨#[]⟩) ([]) ([])), Mb.mk (⟨#[]⟩) (V.mk (3) (0) (⟨#[]⟩) ([]) ([]))])).xs).length) ci104_28c), (.map (some bm104_28)), (.int .i64 (qE (objM ([Mb.mk (⟨#[110]⟩) (V.mk (2) (7) (⟨#[]⟩) ([]) ([])), Mb.mk (⟨#[108]⟩) ((V.mk 4 0 ⟨#[]⟩ [] ([V.mk (3) (0) (⟨#[120]⟩) ([]) ([]), V.mk (3) (0) (⟨#[121]⟩) ([]) ([])]))), Mb.mk (⟨#[98]⟩) (V.mk (1) (1) (⟨#[]⟩) ([]) ([])), Mb.mk (⟨#[]⟩) (V.mk (3) (0) (⟨#[]⟩) ([]) ([]))])) 0 ((L[k]'hlt).c)))] 74 := own_bo104_28
  replace own_bm104_28 : OwnM W32 bm104_28 (qA (objM ([Mb.mk (⟨#[110]⟩) (V.mk (2) (7) (⟨#[]⟩) ([]) ([])), Mb.mk (⟨#[108]⟩) ((V.mk 4 0 ⟨#[]⟩ [] ([V.mk (3) (0) (⟨#[120]⟩) ([]) ([]), V.mk (3) (0) (⟨#[121]⟩) ([]) ([])]))), Mb.mk (⟨#[98]⟩) (V.mk (1) (1) (⟨#[]⟩) ([]) ([])), Mb.mk (⟨#[]⟩) (V.mk (3) (0) (⟨#[]⟩) ([]) ([]))])) ([]) 0 ((L[k]'hlt).c)) := own_bm104_28
  clear own_bo107_31
  replace kw := keeps_L kw hk (in_cons (.inl lo_bo104_28) (in_cons (.inl lo_bm104_28) (in_cons (.inl lo_bo107_31) in_nil)))
  clear hR hk hg
  simp only [shiftR, shiftO, List.length_cons, List.length_nil, Nat.reduceAdd, List.drop_succ_cons, List.drop_zero, List.map_cons, List.map_nil, Option.map_some, Option.map_none, Nat.reduceSub]
  refine reg_any All y32 zz32 st_tr trivial ?_
  refine .mb rfl e111 ?_
  refine .em rfl (hlc rfl) rfl e6 ?_
  refine .e (v := (.int .i64 (errK ((objM ([Mb.mk (⟨#[110]⟩) (V.mk (2) (7) (⟨#[]⟩) ([]) ([])), Mb.mk (⟨#[108]⟩) ((V.mk 4 0 ⟨#[]⟩ [] ([V.mk (3) (0) (⟨#[120]⟩) ([]) ([]), V.mk (3) (0) (⟨#[121]⟩) ([]) ([])]))), Mb.mk (⟨#[98]⟩) (V.mk (1) (1) (⟨#[]⟩) ([]) ([])), Mb.mk (⟨#[]⟩) (V.mk (3) (0) (⟨#[]⟩) ([]) ([]))])).k) (qE (objM ([Mb.mk (⟨#[110]⟩) (V.mk (2) (7) (⟨#[]⟩) ([]) ([])), Mb.mk (⟨#[108]⟩) ((V.mk 4 0 ⟨#[]⟩ [] ([V.mk (3) (0) (⟨#[120]⟩) ([]) ([]), V.mk (3) (0) (⟨#[121]⟩) ([]) ([])]))), Mb.mk (⟨#[98]⟩) (V.mk (1) (1) (⟨#[]⟩) ([]) ([])), Mb.mk (⟨#[]⟩) (V.mk (3) (0) (⟨#[]⟩) ([]) ([]))])) 0 ((L[k]'hlt).c))))) rfl (hlc rfl) (fun hg => sp_call1 (φ1 := Is (.pointer (some ⟨bo104_28, 0, none⟩))) ent24 ((hlc rfl).undE hg) (fun g u1 W hk hgk h1 => by have h1 : u1 = _ := h1; subst u1; exact Err_ok _ _ _ _ _ _ _ W _ (own_bo104_28.ext hk))) ?_
  refine .e rfl (hlc rfl) (fun hg => fo 6 (hbs rfl e5) Try.underlying69 rfl sz28 rfl) ?_
  refine .e rfl (hlc rfl) (fun hg => lo1 ((hlc rfl).undE hg) own_b5_25 trivial agg28 sz28 rfl) ?_
  refine .e rfl (hlc rfl) (fun hg => sp_neq ((hlc rfl).undE hg) ((hlc rfl).undE hg)) ?_
  refine .i (sp_or (hlc rfl) ((hlc rfl).weak fun hq => hq)) ?_
  refine .dn fun a33 g W33 y33 zz33 hk hg hV hR hP => ?_
  obtain ⟨e118, -, -, -, -, -, -, -⟩ := hV
  replace e1 := ft hR e1
  replace e2 := ft hR e2
  replace e97 := ft hR e97
  replace e98 := ft hR e98
  replace e99 := ft hR e99
  replace D_cn23_7 := D_cn23_7.ext hk
  replace D_ci23_7 := D_ci23_7.ext hk
  replace D_cn35_10 := D_cn35_10.ext hk
  replace D_ci35_10 := D_ci35_10.ext hk
  replace D_v97_18 := D_v97_18.ext hk
  replace D_cn104_28 := D_cn104_28.ext hk
  replace D_ci104_28 := D_ci104_28.ext hk
  replace e118 := e118.q
  replace own_b1_7 := own_b1_7.ext hk
  replace own_b2_10 := own_b2_10.ext hk
  replace own_b5_25 := own_b5_25.ext hk
  replace own_bo104_28 := own_bo104_28.ext hk
  replace own_bm104_28 := own_bm104_28.ext hk
  replace kw := kw.x hk
  clear hR hk hg hP
  refine zn (hK30 _ _ ?_)
  try clear hK30 K30
  refine zc e118 (fun hc => ?_) (fun hc => ?_)
  ·
   exfalso
   have hc2 : ((!(aR pnV 0 pnV (L[k]'hlt).c)) || ((errK pnV.k (qE pnV 0 (L[k]'hlt).c) : Int) != ((L[k]'hlt).e : Int))) = true := hc
   rw [hro.1, hro.2.2.1] at hc2
   simp at hc2
  refine wp_skip (hK23 _ _ ?_)
  try clear hK23 K23
  refine rg mixed y33 zz33 ?_
  refine .i (sp_add (hbs rfl e99) Has.cst (i64_in (by omega))) ?_
  refine .i (sp_move (hlc rfl)) ?_
  refine .dn fun a34 g W34 y34 zz34 hk hg hV hR hP => ?_
  obtain ⟨e99, -, -⟩ := hV
  replace e1 := ft hR e1
  replace e2 := ft hR e2
  replace e97 := ft hR e97
  replace e98 := ft hR e98
  replace D_cn23_7 := D_cn23_7.ext hk
  replace D_ci23_7 := D_ci23_7.ext hk
  replace D_cn35_10 := D_cn35_10.ext hk
  replace D_ci35_10 := D_ci35_10.ext hk
  replace D_v97_18 := D_v97_18.ext hk
  replace e99 := e99.q
  replace own_b1_7 := own_b1_7.ext hk
  replace own_b2_10 := own_b2_10.ext hk
  replace own_b5_25 := own_b5_25.ext hk
  replace own_bo104_28 := own_bo104_28.ext hk
  replace own_bm104_28 := own_bm104_28.ext hk
  replace kw := kw.x hk
  clear hR hk hg hP
  exact tail_nil ⟨hlt, y34, zz34, kw, e1, e2, e97, e98, (e99.trans (congrArg (Value.int .i64) (by simp))), own_b1_7, own_b2_10, (sf_less D_cn23_7 (ls_skip (ls_skip (ls_skip (ls_skip (ls_keep (ls_keep ls_nil))))))), (sf_less D_ci23_7 (ls_skip (ls_skip (ls_skip (ls_skip (ls_keep (ls_keep ls_nil))))))), (sf_less D_cn35_10 (ls_skip (ls_skip (ls_skip (ls_skip (ls_keep (ls_keep ls_nil))))))), (sf_less D_ci35_10 (ls_skip (ls_skip (ls_skip (ls_skip (ls_keep (ls_keep ls_nil))))))), (sf_less D_v97_18 (ls_skip (ls_skip (ls_skip (ls_skip (ls_keep (ls_keep ls_nil)))))))⟩
 have hge0 : ¬ k < L.length := by simpa using hc
 have hge : k = L.length := by omega
 refine wp_exit (hK16 _ _ ?_)
 try clear hK16 K16
 refine zq fun K35 hK35 => ?_
 refine rg mixed y21 zz21 ?_
 refine .i (v := (.agg #[(.int .u8 (3)), (.int .i64 (0)), (.string (⟨#[120]⟩)), (.slice none 0 0), (.slice none 0 0)])) (sp_call1 (φ1 := Is (.string (⟨#[120]⟩))) ent37 Has.cst (fun g u1 W hk hgk h1 => by have h1 : u1 = _ := h1; subst u1; exact pkText_ok (⟨#[120]⟩) W)) ?_
 refine .i (v := (.agg #[(.int .u8 (2)), (.int .i64 (1)), (.string (⟨#[]⟩)), (.slice none 0 0), (.slice none 0 0)])) (sp_call1 (φ1 := Is (.int .i64 (1))) ent39 Has.cst (fun g u1 W hk hgk h1 => by have h1 : u1 = _ := h1; subst u1; exact pkNum_ok (1) W)) ?_
 refine .da (X := SF w [b2_10, b1_7]) (e := valsD ([V.mk (3) (0) (⟨#[120]⟩) ([]) ([]), V.mk (2) (1) (⟨#[]⟩) ([]) ([])])) (sp_bsl (ds := [V.d (V.mk (3) (0) (⟨#[120]⟩) ([]) ([])), V.d (V.mk (2) (1) (⟨#[]⟩) ([]) ([]))]) Try.underlying31 sz33 z33 (lbr rfl) (lbr rfl) ⟨rfl, ((hlc rfl).dat (rdV_mk (Nat.le_of_ble_eq_true (by kernel_rfl)) (rd_nil _) (rd_nil _) : Rd W21 (SF w [b2_10, b1_7]) (V.d (V.mk (3) (0) (⟨#[120]⟩) ([]) ([]))) _) sub_all), ⟨rfl, ((hlc rfl).dat (rdV_mk (by decide) (rd_nil _) (rd_nil _) : Rd W21 (SF w [b2_10, b1_7]) (V.d (V.mk (2) (1) (⟨#[]⟩) ([]) ([]))) _) sub_all), trivial⟩⟩ rfl (by intro e he; simp at he; rcases he with rfl | rfl <;> exact width_V _) (fr_sf kw (in_cons own_b2_10.lt (in_cons own_b1_7.lt in_nil)))) ?_
 refine .da (X := Fr W21) (e := V.d (V.mk 4 0 ⟨#[]⟩ [] ([V.mk (3) (0) (⟨#[120]⟩) ([]) ([]), V.mk (2) (1) (⟨#[]⟩) ([]) ([])]))) (sp_call1 (φ1 := IsD (SF w [b2_10, b1_7]) (valsD ([V.mk (3) (0) (⟨#[120]⟩) ([]) ([]), V.mk (2) (1) (⟨#[]⟩) ([]) ([])]))) ent36 (hlc rfl) (fun g u1 W hk hgk h1 => (ListOf_ok ([V.mk (3) (0) (⟨#[120]⟩) ([]) ([]), V.mk (2) (1) (⟨#[]⟩) ([]) ([])]) (Nat.le_of_ble_eq_true (by kernel_rfl)) (wts_of (by kernel_rfl)) W _ _ (fun b o h => h.1.2.1) h1).mono (ret_fr hk hgk))) ?_
 refine .da (X := Fr W21) (e := Mb.d (Mb.mk (⟨#[109]⟩) (V.mk 4 0 ⟨#[]⟩ [] ([V.mk (3) (0) (⟨#[120]⟩) ([]) ([]), V.mk (2) (1) (⟨#[]⟩) ([]) ([])])))) (sp_buildD (zd := [D.str ⟨#[]⟩, V.d V.zero]) (es := [(0, D.str (⟨#[109]⟩)), (1, V.d (V.mk 4 0 ⟨#[]⟩ [] ([V.mk (3) (0) (⟨#[120]⟩) ([]) ([]), V.mk (2) (1) (⟨#[]⟩) ([]) ([])])))]) Try.underlying67 z67 (pl67 Try.underlying67) ⟨rfl, Has.cst.str (lbr rfl), ⟨rfl, (hlc rfl), trivial⟩⟩ zMb (by first | rfl | simp [plOf, width, width_V, hssD]) (by simp [fits, width, strsD, valsD, hssD, width_V]) rfl) ?_
 refine .da (X := SF w [b2_10, b1_7]) (e := mbsD ([Mb.mk (⟨#[109]⟩) (V.mk 4 0 ⟨#[]⟩ [] ([V.mk (3) (0) (⟨#[120]⟩) ([]) ([]), V.mk (2) (1) (⟨#[]⟩) ([]) ([])]))])) (sp_bsl (ds := [Mb.d (Mb.mk (⟨#[109]⟩) (V.mk 4 0 ⟨#[]⟩ [] ([V.mk (3) (0) (⟨#[120]⟩) ([]) ([]), V.mk (2) (1) (⟨#[]⟩) ([]) ([])])))]) Try.underlying82 sz67 z67 (lbr rfl) (lbr rfl) ⟨rfl, ((hlc rfl).sup (fr_sf kw (in_cons own_b2_10.lt (in_cons own_b1_7.lt in_nil)))), trivial⟩ rfl (by intro e he; simp at he; rcases he with rfl <;> exact width_Mb _) (fr_sf kw (in_cons own_b2_10.lt (in_cons own_b1_7.lt in_nil)))) ?_
 refine .op (φ := IsT (IsD (Fr W21) (V.d (objM ([Mb.mk (⟨#[109]⟩) (V.mk 4 0 ⟨#[]⟩ [] ([V.mk (3) (0) (⟨#[120]⟩) ([]) ([]), V.mk (2) (1) (⟨#[]⟩) ([]) ([])]))])))) (Is (.int .i64 (objE ([Mb.mk (⟨#[109]⟩) (V.mk 4 0 ⟨#[]⟩ [] ([V.mk (3) (0) (⟨#[120]⟩) ([]) ([]), V.mk (2) (1) (⟨#[]⟩) ([]) ([])]))]))))) (st_t (st_d sub_all) (st_is _)) (sp_call1 (φ1 := IsD (SF w [b2_10, b1_7]) (mbsD ([Mb.mk (⟨#[109]⟩) (V.mk 4 0 ⟨#[]⟩ [] ([V.mk (3) (0) (⟨#[120]⟩) ([]) ([]), V.mk (2) (1) (⟨#[]⟩) ([]) ([])]))]))) ent38 (hlc rfl) (fun g u1 W hk hgk h1 => (ObjectOf_ok ([Mb.mk (⟨#[109]⟩) (V.mk 4 0 ⟨#[]⟩ [] ([V.mk (3) (0) (⟨#[120]⟩) ([]) ([]), V.mk (2) (1) (⟨#[]⟩) ([]) ([])]))]) (lbr rfl) (lbr rfl) (obw_of (by kernel_rfl)) W _ _ (fun b o h => h.1.2.1) h1).mono (fun _ _ ⟨v, h1, h2, r1, h3, h4⟩ => ⟨v, h1, h2, r1, _, h3, fresh_d hk hgk h4, rfl⟩))) ?_
 refine .op (φ := IsT (IsD (Fr W21) (V.d (objM ([Mb.mk (⟨#[109]⟩) (V.mk 4 0 ⟨#[]⟩ [] ([V.mk (3) (0) (⟨#[120]⟩) ([]) ([]), V.mk (2) (1) (⟨#[]⟩) ([]) ([])]))])))) (Is (.int .i64 (objE ([Mb.mk (⟨#[109]⟩) (V.mk 4 0 ⟨#[]⟩ [] ([V.mk (3) (0) (⟨#[120]⟩) ([]) ([]), V.mk (2) (1) (⟨#[]⟩) ([]) ([])]))]))))) (st_t (st_d sub_all) (st_is _)) (sp_move (hlc rfl)) ?_
 refine .da (X := Fr W21) (e := V.d (objM ([Mb.mk (⟨#[109]⟩) (V.mk 4 0 ⟨#[]⟩ [] ([V.mk (3) (0) (⟨#[120]⟩) ([]) ([]), V.mk (2) (1) (⟨#[]⟩) ([]) ([])]))]))) (sp_ext2 (hlc rfl) rfl) ?_
 refine .i (v := (.int .i64 (objE ([Mb.mk (⟨#[109]⟩) (V.mk 4 0 ⟨#[]⟩ [] ([V.mk (3) (0) (⟨#[120]⟩) ([]) ([]), V.mk (2) (1) (⟨#[]⟩) ([]) ([])]))])))) (sp_ext2' (hlc rfl) rfl) ?_
 refine .alloc z33 ?_
 refine .dn fun a36 g W36 y36 zz36 hk hg hV hR hP => ?_
 obtain ⟨⟨b7_36, e7, hb7, own_b7_36⟩, e129, e128, -, -, -, -, -, -, -, -, -⟩ := hV
 have lo_b7_36 : w.heap.size ≤ b7_36 := Nat.le_trans kw.size (hg.lo _ _ hb7)
 have ne_b1_7_b7_36 : b1_7 ≠ b7_36 := Nat.ne_of_lt (Nat.lt_of_lt_of_le own_b1_7.lt (hg.lo _ _ hb7))
 have ne_b2_10_b7_36 : b2_10 ≠ b7_36 := Nat.ne_of_lt (Nat.lt_of_lt_of_le own_b2_10.lt (hg.lo _ _ hb7))
 have own_b7_36 : Own W36 b7_36 [(.int .u8 (0)), (.int .i64 (0)), (.string (⟨#[]⟩)), (.slice none 0 0), (.slice none 0 0)] 33 := own_b7_36
 replace e1 := ft hR e1
 replace D_cn23_7 := sf_more D_cn23_7 hk [b7_36] (in_cons (hg.lo _ _ hb7) in_nil)
 replace D_ci23_7 := sf_more D_ci23_7 hk [b7_36] (in_cons (hg.lo _ _ hb7) in_nil)
 replace D_cn35_10 := sf_more D_cn35_10 hk [b7_36] (in_cons (hg.lo _ _ hb7) in_nil)
 replace D_ci35_10 := sf_more D_ci35_10 hk [b7_36] (in_cons (hg.lo _ _ hb7) in_nil)
 replace D_v97_18 := sf_more D_v97_18 hk [b7_36] (in_cons (hg.lo _ _ hb7) in_nil)
 obtain ⟨v128_36, ev⟩ : ∃ v, sl a36 128 = v := ⟨_, rfl⟩
 rw [ev] at e128
 have D_v128_36 : Rd W36 (SF w [b7_36, b2_10, b1_7]) (V.d (objM ([Mb.mk (⟨#[109]⟩) (V.mk 4 0 ⟨#[]⟩ [] ([V.mk (3) (0) (⟨#[120]⟩) ([]) ([]), V.mk (2) (1) (⟨#[]⟩) ([]) ([])]))]))) v128_36 := fr_end (M := [b2_10, b1_7]) e128 kw [b7_36] (in_cons ⟨_, hb7⟩ in_nil) (in_cons own_b2_10.lt (in_cons own_b1_7.lt in_nil))
 replace e128 := ev; clear ev
 obtain ⟨cn128_36a, cn128_36c, ci128_36a, ci128_36c, ev, ht_v128_36, D_cn128_36, D_ci128_36⟩ := rdV_out D_v128_36
 subst ev; clear D_v128_36
 replace e129 := e129.q
 replace own_b1_7 := own_b1_7.ext hk
 replace own_b2_10 := own_b2_10.ext hk
 replace kw := kw.x hk
 clear hR hk hg hP hb7
 refine tail_store e7 e128 sz33 rfl own_b7_36 (lbr rfl) (all_cons rfl (all_cons rfl (all_cons rfl (all_cons rfl (all_cons rfl all_nil))))) (fun W37 hs own_b7_36 => ?_)
 have own_b7_36 : Own W37 b7_36 [(.int .u8 ((objM ([Mb.mk (⟨#[109]⟩) (V.mk 4 0 ⟨#[]⟩ [] ([V.mk (3) (0) (⟨#[120]⟩) ([]) ([]), V.mk (2) (1) (⟨#[]⟩) ([]) ([])]))])).k)), (.int .i64 ((objM ([Mb.mk (⟨#[109]⟩) (V.mk 4 0 ⟨#[]⟩ [] ([V.mk (3) (0) (⟨#[120]⟩) ([]) ([]), V.mk (2) (1) (⟨#[]⟩) ([]) ([])]))])).n)), (.string ((objM ([Mb.mk (⟨#[109]⟩) (V.mk 4 0 ⟨#[]⟩ [] ([V.mk (3) (0) (⟨#[120]⟩) ([]) ([]), V.mk (2) (1) (⟨#[]⟩) ([]) ([])]))])).t)), (.slice cn128_36a (((objM ([Mb.mk (⟨#[109]⟩) (V.mk 4 0 ⟨#[]⟩ [] ([V.mk (3) (0) (⟨#[120]⟩) ([]) ([]), V.mk (2) (1) (⟨#[]⟩) ([]) ([])]))])).ns).length) cn128_36c), (.slice ci128_36a (((objM ([Mb.mk (⟨#[109]⟩) (V.mk 4 0 ⟨#[]⟩ [] ([V.mk (3) (0) (⟨#[120]⟩) ([]) ([]), V.mk (2) (1) (⟨#[]⟩) ([]) ([])]))])).xs).length) ci128_36c)] 33 := own_b7_36
 replace own_b1_7 := own_store own_b1_7 hs ne_b1_7_b7_36
 replace own_b2_10 := own_store own_b2_10 hs ne_b2_10_b7_36
 replace D_cn23_7 := sf_store D_cn23_7 hs (by simp)
 replace D_ci23_7 := sf_store D_ci23_7 hs (by simp)
 replace D_cn35_10 := sf_store D_cn35_10 hs (by simp)
 replace D_ci35_10 := sf_store D_ci35_10 hs (by simp)
 replace D_v97_18 := sf_store D_v97_18 hs (by simp)
 replace D_cn128_36 := sf_store D_cn128_36 hs (by simp)
 replace D_ci128_36 := sf_store D_ci128_36 hs (by simp)
 replace kw := keeps_store kw hs lo_b7_36
 clear hs
 refine tail_assign (v := (.int .i64 (objE ([Mb.mk (⟨#[109]⟩) (V.mk 4 0 ⟨#[]⟩ [] ([V.mk (3) (0) (⟨#[120]⟩) ([]) ([]), V.mk (2) (1) (⟨#[]⟩) ([]) ([])]))])))) e129 (by rw [y36]; exact Nat.le_of_ble_eq_true rfl) (fun a38 y38 zz38 e8 hr => ?_)
 replace y38 := y38.trans y36; replace zz38 := zz38.trans zz36
 replace e1 := (hr 1 (by decide)).trans e1
 replace e7 := (hr 7 (by decide)).trans e7
 replace e128 := (hr 128 (by decide)).trans e128
 replace e129 := (hr 129 (by decide)).trans e129
 clear hr
 refine zn (hK35 _ _ ?_)
 try clear hK35 K35
 refine zq fun K39 hK39 => ?_
 refine rg mixed y38 zz38 ?_
 refine .i (v := (.agg #[(.int .u8 ((objM ([Mb.mk (⟨#[109]⟩) (V.mk 4 0 ⟨#[]⟩ [] ([V.mk (3) (0) (⟨#[120]⟩) ([]) ([]), V.mk (2) (1) (⟨#[]⟩) ([]) ([])]))])).k)), (.int .i64 ((objM ([Mb.mk (⟨#[109]⟩) (V.mk 4 0 ⟨#[]⟩ [] ([V.mk (3) (0) (⟨#[120]⟩) ([]) ([]), V.mk (2) (1) (⟨#[]⟩) ([]) ([])]))])).n)), (.string ((objM ([Mb.mk (⟨#[109]⟩) (V.mk 4 0 ⟨#[]⟩ [] ([V.mk (3) (0) (⟨#[120]⟩) ([]) ([]), V.mk (2) (1) (⟨#[]⟩) ([]) ([])]))])).t)), (.slice cn128_36a (((objM ([Mb.mk (⟨#[109]⟩) (V.mk 4 0 ⟨#[]⟩ [] ([V.mk (3) (0) (⟨#[120]⟩) ([]) ([]), V.mk (2) (1) (⟨#[]⟩) ([]) ([])]))])).ns).length) cn128_36c), (.slice ci128_36a (((objM ([Mb.mk (⟨#[109]⟩) (V.mk 4 0 ⟨#[]⟩ [] ([V.mk (3) (0) (⟨#[120]⟩) ([]) ([]), V.mk (2) (1) (⟨#[]⟩) ([]) ([])]))])).xs).length) ci128_36c)])) (loA (hbs rfl e7) own_b7_36 trivial agg33 sz33 rfl rfl) ?_
 refine .op (φ := IsPk W37 74 ((objM ([Mb.mk (⟨#[109]⟩) (V.mk 4 0 ⟨#[]⟩ [] ([V.mk (3) (0) (⟨#[120]⟩) ([]) ([]), V.mk (2) (1) (⟨#[]⟩) ([]) ([])]))]))) ([]) (0)) st_pk (sp_call1 (φ1 := IsD (SF w [b7_36, b2_10, b1_7]) (V.d ((objM ([Mb.mk (⟨#[109]⟩) (V.mk 4 0 ⟨#[]⟩ [] ([V.mk (3) (0) (⟨#[120]⟩) ([]) ([]), V.mk (2) (1) (⟨#[]⟩) ([]) ([])]))]))))) ent21 ((hlc rfl).dat (rdV_in (x := (objM ([Mb.mk (⟨#[109]⟩) (V.mk 4 0 ⟨#[]⟩ [] ([V.mk (3) (0) (⟨#[120]⟩) ([]) ([]), V.mk (2) (1) (⟨#[]⟩) ([]) ([])]))]))) ht_v128_36 D_cn128_36 D_ci128_36 : Rd W37 (SF w [b7_36, b2_10, b1_7]) (V.d ((objM ([Mb.mk (⟨#[109]⟩) (V.mk 4 0 ⟨#[]⟩ [] ([V.mk (3) (0) (⟨#[120]⟩) ([]) ([]), V.mk (2) (1) (⟨#[]⟩) ([]) ([])]))])))) _) sub_all) (fun g u1 W hk hgk h1 => (Of_ok ((objM ([Mb.mk (⟨#[109]⟩) (V.mk 4 0 ⟨#[]⟩ [] ([V.mk (3) (0) (⟨#[120]⟩) ([]) ([]), V.mk (2) (1) (⟨#[]⟩) ([]) ([])]))]))) (Nat.le_of_ble_eq_true (by kernel_rfl)) (by kernel_rfl) W _ _ (fun b o h => h.1.2.1) h1).mono (fun _ _ ⟨v, h1, h2, h3⟩ => ⟨v, h1, h2, pk_up hk h3⟩))) ?_
 refine .dn fun a40 g W40 y40 zz40 hk hg hV hR hP => ?_
 obtain ⟨e131, -, -⟩ := hV
 replace e1 := ft hR e1
 obtain ⟨bo131_40, bm131_40, cn131_40v, ci131_40v, e131, lr_bo131_40, lr_bm131_40, ne_bo131_40_bm131_40, own_bo131_40, own_bm131_40, D_cn131_40, D_ci131_40, tb131_40⟩ := e131
 obtain ⟨cn131_40a, cn131_40c, ev, D2⟩ := rdS_out D_cn131_40; subst ev; replace D_cn131_40 := D2; clear D2
 obtain ⟨ci131_40a, ci131_40c, ev, D2⟩ := rdVs_out D_ci131_40; subst ev; replace D_ci131_40 := D2; clear D2
 have e131 : sl a40 131 = (.pointer (some ⟨bo131_40, 0, none⟩)) := e131
 have lo_bo131_40 : w.heap.size ≤ bo131_40 := Nat.le_trans kw.size lr_bo131_40
 have ne_b1_7_bo131_40 : b1_7 ≠ bo131_40 := Nat.ne_of_lt (Nat.lt_of_lt_of_le own_b1_7.lt lr_bo131_40)
 have ne_b2_10_bo131_40 : b2_10 ≠ bo131_40 := Nat.ne_of_lt (Nat.lt_of_lt_of_le own_b2_10.lt lr_bo131_40)
 have ne_b7_36_bo131_40 : b7_36 ≠ bo131_40 := Nat.ne_of_lt (Nat.lt_of_lt_of_le own_b7_36.lt lr_bo131_40)
 have lo_bm131_40 : w.heap.size ≤ bm131_40 := Nat.le_trans kw.size lr_bm131_40
 have ne_b1_7_bm131_40 : b1_7 ≠ bm131_40 := Nat.ne_of_lt (Nat.lt_of_lt_of_le own_b1_7.lt lr_bm131_40)
 have ne_b2_10_bm131_40 : b2_10 ≠ bm131_40 := Nat.ne_of_lt (Nat.lt_of_lt_of_le own_b2_10.lt lr_bm131_40)
 have ne_b7_36_bm131_40 : b7_36 ≠ bm131_40 := Nat.ne_of_lt (Nat.lt_of_lt_of_le own_b7_36.lt lr_bm131_40)
 replace D_cn23_7 : Rd W40 (SF w [bo131_40, bm131_40, b7_36, b2_10, b1_7]) (strsD ((V.mk 4 0 ⟨#[]⟩ [] ([V.mk (3) (0) (⟨#[120]⟩) ([]) ([]), V.mk (3) (0) (⟨#[121]⟩) ([]) ([])])).ns)) (.slice cn23_7a (((V.mk 4 0 ⟨#[]⟩ [] ([V.mk (3) (0) (⟨#[120]⟩) ([]) ([]), V.mk (3) (0) (⟨#[121]⟩) ([]) ([])])).ns).length) cn23_7c) := sf_more D_cn23_7 hk [bo131_40, bm131_40] (in_cons lr_bo131_40 (in_cons lr_bm131_40 in_nil))
 replace D_ci23_7 : Rd W40 (SF w [bo131_40, bm131_40, b7_36, b2_10, b1_7]) (valsD ((V.mk 4 0 ⟨#[]⟩ [] ([V.mk (3) (0) (⟨#[120]⟩) ([]) ([]), V.mk (3) (0) (⟨#[121]⟩) ([]) ([])])).xs)) (.slice ci23_7a (((V.mk 4 0 ⟨#[]⟩ [] ([V.mk (3) (0) (⟨#[120]⟩) ([]) ([]), V.mk (3) (0) (⟨#[121]⟩) ([]) ([])])).xs).length) ci23_7c) := sf_more D_ci23_7 hk [bo131_40, bm131_40] (in_cons lr_bo131_40 (in_cons lr_bm131_40 in_nil))
 replace D_cn128_36 : Rd W40 (SF w [bo131_40, bm131_40, b7_36, b2_10, b1_7]) (strsD ((objM ([Mb.mk (⟨#[109]⟩) (V.mk 4 0 ⟨#[]⟩ [] ([V.mk (3) (0) (⟨#[120]⟩) ([]) ([]), V.mk (2) (1) (⟨#[]⟩) ([]) ([])]))])).ns)) (.slice cn128_36a (((objM ([Mb.mk (⟨#[109]⟩) (V.mk 4 0 ⟨#[]⟩ [] ([V.mk (3) (0) (⟨#[120]⟩) ([]) ([]), V.mk (2) (1) (⟨#[]⟩) ([]) ([])]))])).ns).length) cn128_36c) := sf_more D_cn128_36 hk [bo131_40, bm131_40] (in_cons lr_bo131_40 (in_cons lr_bm131_40 in_nil))
 replace D_ci128_36 : Rd W40 (SF w [bo131_40, bm131_40, b7_36, b2_10, b1_7]) (valsD ((objM ([Mb.mk (⟨#[109]⟩) (V.mk 4 0 ⟨#[]⟩ [] ([V.mk (3) (0) (⟨#[120]⟩) ([]) ([]), V.mk (2) (1) (⟨#[]⟩) ([]) ([])]))])).xs)) (.slice ci128_36a (((objM ([Mb.mk (⟨#[109]⟩) (V.mk 4 0 ⟨#[]⟩ [] ([V.mk (3) (0) (⟨#[120]⟩) ([]) ([]), V.mk (2) (1) (⟨#[]⟩) ([]) ([])]))])).xs).length) ci128_36c) := sf_more D_ci128_36 hk [bo131_40, bm131_40] (in_cons lr_bo131_40 (in_cons lr_bm131_40 in_nil))
 replace D_cn131_40 : Rd W40 (SF w [bo131_40, bm131_40, b7_36, b2_10, b1_7]) (strsD ((objM ([Mb.mk (⟨#[109]⟩) (V.mk 4 0 ⟨#[]⟩ [] ([V.mk (3) (0) (⟨#[120]⟩) ([]) ([]), V.mk (2) (1) (⟨#[]⟩) ([]) ([])]))])).ns)) (.slice cn131_40a (((objM ([Mb.mk (⟨#[109]⟩) (V.mk 4 0 ⟨#[]⟩ [] ([V.mk (3) (0) (⟨#[120]⟩) ([]) ([]), V.mk (2) (1) (⟨#[]⟩) ([]) ([])]))])).ns).length) cn131_40c) := pk_data kw (in_cons own_b7_36.lt (in_cons own_b2_10.lt (in_cons own_b1_7.lt in_nil))) D_cn131_40
 replace D_ci131_40 : Rd W40 (SF w [bo131_40, bm131_40, b7_36, b2_10, b1_7]) (valsD ((objM ([Mb.mk (⟨#[109]⟩) (V.mk 4 0 ⟨#[]⟩ [] ([V.mk (3) (0) (⟨#[120]⟩) ([]) ([]), V.mk (2) (1) (⟨#[]⟩) ([]) ([])]))])).xs)) (.slice ci131_40a (((objM ([Mb.mk (⟨#[109]⟩) (V.mk 4 0 ⟨#[]⟩ [] ([V.mk (3) (0) (⟨#[120]⟩) ([]) ([]), V.mk (2) (1) (⟨#[]⟩) ([]) ([])]))])).xs).length) ci131_40c) := pk_data kw (in_cons own_b7_36.lt (in_cons own_b2_10.lt (in_cons own_b1_7.lt in_nil))) D_ci131_40
 have own_bo131_40 : Own W40 bo131_40 [(.int .u8 ((objM ([Mb.mk (⟨#[109]⟩) (V.mk 4 0 ⟨#[]⟩ [] ([V.mk (3) (0) (⟨#[120]⟩) ([]) ([]), V.mk (2) (1) (⟨#[]⟩) ([]) ([])]))])).k)), (.int .i64 ((objM ([Mb.mk (⟨#[109]⟩) (V.mk 4 0 ⟨#[]⟩ [] ([V.mk (3) (0) (⟨#[120]⟩) ([]) ([]), V.mk (2) (1) (⟨#[]⟩) ([]) ([])]))])).n)), (.string ((objM ([Mb.mk (⟨#[109]⟩) (V.mk 4 0 ⟨#[]⟩ [] ([V.mk (3) (0) (⟨#[120]⟩) ([]) ([]), V.mk (2) (1) (⟨#[]⟩) ([]) ([])]))])).t)), (.slice cn131_40a (((objM ([Mb.mk (⟨#[109]⟩) (V.mk 4 0 ⟨#[]⟩ [] ([V.mk (3) (0) (⟨#[120]⟩) ([]) ([]), V.mk (2) (1) (⟨#[]⟩) ([]) ([])]))])).ns).length) cn131_40c), (.slice ci131_40a (((objM ([Mb.mk (⟨#[109]⟩) (V.mk 4 0 ⟨#[]⟩ [] ([V.mk (3) (0) (⟨#[120]⟩) ([]) ([]), V.mk (2) (1) (⟨#[]⟩) ([]) ([])]))])).xs).length) ci131_40c), (.map (some bm131_40)), (.int .i64 (0))] 74 := own_bo131_40
 have own_bm131_40 : OwnM W40 bm131_40 ([]) := own_bm131_40
 replace own_b1_7 := own_b1_7.ext hk
 replace own_b2_10 := own_b2_10.ext hk
 replace own_b7_36 := own_b7_36.ext hk
 replace kw := kw.x hk
 clear hR hk hg hP lr_bo131_40 lr_bm131_40
 refine tail_assign (v := (.pointer (some ⟨bo131_40, 0, none⟩))) e131 (by rw [y40]; exact Nat.le_of_ble_eq_true rfl) (fun a41 y41 zz41 e9 hr => ?_)
 replace y41 := y41.trans y40; replace zz41 := zz41.trans zz40
 replace e1 := (hr 1 (by decide)).trans e1
 replace e131 := (hr 131 (by decide)).trans e131
 clear hr
 refine zn (hK39 _ _ ?_)
 try clear hK39 K39
 refine zq fun K42 hK42 => ?_
 refine zq fun K43 hK43 => ?_
 refine wp_reg (fun k => k ∉ [bo131_40, bm131_40]) (Ψ := fun W => Own W bo131_40 [(.int .u8 ((objM ([Mb.mk (⟨#[109]⟩) (V.mk 4 0 ⟨#[]⟩ [] ([V.mk (3) (0) (⟨#[120]⟩) ([]) ([]), V.mk (2) (1) (⟨#[]⟩) ([]) ([])]))])).k)), (.int .i64 ((objM ([Mb.mk (⟨#[109]⟩) (V.mk 4 0 ⟨#[]⟩ [] ([V.mk (3) (0) (⟨#[120]⟩) ([]) ([]), V.mk (2) (1) (⟨#[]⟩) ([]) ([])]))])).n)), (.string ((objM ([Mb.mk (⟨#[109]⟩) (V.mk 4 0 ⟨#[]⟩ [] ([V.mk (3) (0) (⟨#[120]⟩) ([]) ([]), V.mk (2) (1) (⟨#[]⟩) ([]) ([])]))])).t)), (.slice cn131_40a (((objM ([Mb.mk (⟨#[109]⟩) (V.mk 4 0 ⟨#[]⟩ [] ([V.mk (3) (0) (⟨#[120]⟩) ([]) ([]), V.mk (2) (1) (⟨#[]⟩) ([]) ([])]))])).ns).length) cn131_40c), (.slice ci131_40a (((objM ([Mb.mk (⟨#[109]⟩) (V.mk 4 0 ⟨#[]⟩ [] ([V.mk (3) (0) (⟨#[120]⟩) ([]) ([]), V.mk (2) (1) (⟨#[]⟩) ([]) ([])]))])).xs).length) ci131_40c), (.map (some bm131_40)), (.int .i64 (0))] 74 ∧ OwnM W bm131_40 ([])) mixed y41 zz41 (stE_and stE_own stE_ownM) ⟨own_bo131_40, own_bm131_40⟩ ?_
 refine .mb rfl e9 ?_
 refine .callL3 (φ1 := Is (.pointer (some ⟨bo131_40, 0, none⟩))) (φ2 := Is (.string (⟨#[109]⟩))) (φ3 := Is (.int .i64 (2))) (φ := IsD (Fr W40) (strsD (if tkB (objM ([Mb.mk (⟨#[109]⟩) (V.mk 4 0 ⟨#[]⟩ [] ([V.mk (3) (0) (⟨#[120]⟩) ([]) ([]), V.mk (2) (1) (⟨#[]⟩) ([]) ([])]))])) 0 ⟨#[109]⟩ (textsE 2) then textsL 2 (getV (objM ([Mb.mk (⟨#[109]⟩) (V.mk 4 0 ⟨#[]⟩ [] ([V.mk (3) (0) (⟨#[120]⟩) ([]) ([]), V.mk (2) (1) (⟨#[]⟩) ([]) ([])]))])) ⟨#[109]⟩) else []))) (Ψ' := fun W => Own W bo131_40 [(.int .u8 ((objM ([Mb.mk (⟨#[109]⟩) (V.mk 4 0 ⟨#[]⟩ [] ([V.mk (3) (0) (⟨#[120]⟩) ([]) ([]), V.mk (2) (1) (⟨#[]⟩) ([]) ([])]))])).k)), (.int .i64 ((objM ([Mb.mk (⟨#[109]⟩) (V.mk 4 0 ⟨#[]⟩ [] ([V.mk (3) (0) (⟨#[120]⟩) ([]) ([]), V.mk (2) (1) (⟨#[]⟩) ([]) ([])]))])).n)), (.string ((objM ([Mb.mk (⟨#[109]⟩) (V.mk 4 0 ⟨#[]⟩ [] ([V.mk (3) (0) (⟨#[120]⟩) ([]) ([]), V.mk (2) (1) (⟨#[]⟩) ([]) ([])]))])).t)), (.slice cn131_40a (((objM ([Mb.mk (⟨#[109]⟩) (V.mk 4 0 ⟨#[]⟩ [] ([V.mk (3) (0) (⟨#[120]⟩) ([]) ([]), V.mk (2) (1) (⟨#[]⟩) ([]) ([])]))])).ns).length) cn131_40c), (.slice ci131_40a (((objM ([Mb.mk (⟨#[109]⟩) (V.mk 4 0 ⟨#[]⟩ [] ([V.mk (3) (0) (⟨#[120]⟩) ([]) ([]), V.mk (2) (1) (⟨#[]⟩) ([]) ([])]))])).xs).length) ci131_40c), (.map (some bm131_40)), (.int .i64 (tkE (objM ([Mb.mk (⟨#[109]⟩) (V.mk 4 0 ⟨#[]⟩ [] ([V.mk (3) (0) (⟨#[120]⟩) ([]) ([]), V.mk (2) (1) (⟨#[]⟩) ([]) ([])]))])) 0 ⟨#[109]⟩ (textsE 2)))] 74 ∧ OwnM W bm131_40 (tkA (objM ([Mb.mk (⟨#[109]⟩) (V.mk 4 0 ⟨#[]⟩ [] ([V.mk (3) (0) (⟨#[120]⟩) ([]) ([]), V.mk (2) (1) (⟨#[]⟩) ([]) ([])]))])) ([]) 0 ⟨#[109]⟩ (textsE 2))) ent41 (hlc rfl) Has.cst Has.cst (st_d (sub_frnl (in_cons own_bo131_40.lt (in_cons own_bm131_40.lt in_nil)))) (stE_and stE_own stE_ownM) (fun g u1 u2 u3 W hk hg h1 h2 h3 hP => by have h1 : u1 = _ := h1; subst u1; have h2 : u2 = _ := h2; subst u2; have h3 : u3 = _ := h3; subst u3; exact (Texts_ok ((objM ([Mb.mk (⟨#[109]⟩) (V.mk 4 0 ⟨#[]⟩ [] ([V.mk (3) (0) (⟨#[120]⟩) ([]) ([]), V.mk (2) (1) (⟨#[]⟩) ([]) ([])]))]))) ([]) (0) (AB.nil.mono (by omega)) (Nat.le_of_ble_eq_true (by kernel_rfl)) tb131_40 ⟨#[109]⟩ 2 W _ _ _ _ _ (fun b o h => h.2.1) (sf_notin (by simp)) ne_bo131_40_bm131_40 (sf_keepL D_cn131_40 hk (by simp)) (sf_keepL D_ci131_40 hk (by simp)) hP.1 hP.2).mono (fun _ _ ⟨v, h1, h2, h3, h4⟩ => ⟨v, h1, h2, fresh_d hk hg h3, h4⟩)) ?_
 refine .i (sp_lenSs Try.underlying23 (hlc rfl)) ?_
 refine .i (sp_neq (hlc rfl) Has.cst) ?_
 refine .i (sp_move (hlc rfl)) ?_
 refine .dn fun a44 g W44 y44 zz44 hk hg hV hR hP => ?_
 obtain ⟨e136, -, -, -, -, -⟩ := hV
 replace e1 := ft hR e1
 replace e9 := ft hR e9
 replace e136 := e136.q
 replace D_cn23_7 := sf_keepL D_cn23_7 hk (by simp)
 replace D_ci23_7 := sf_keepL D_ci23_7 hk (by simp)
 replace D_cn131_40 := sf_keepL D_cn131_40 hk (by simp)
 replace D_ci131_40 := sf_keepL D_ci131_40 hk (by simp)
 replace own_b1_7 := own_keepL own_b1_7 hk (by simp [ne_b1_7_bo131_40, ne_b1_7_bm131_40])
 replace own_b2_10 := own_keepL own_b2_10 hk (by simp [ne_b2_10_bo131_40, ne_b2_10_bm131_40])
 replace own_b7_36 := own_keepL own_b7_36 hk (by simp [ne_b7_36_bo131_40, ne_b7_36_bm131_40])
 obtain ⟨own_bo131_40, own_bm131_40⟩ := hP
 replace own_bo131_40 : Own W44 bo131_40 [(.int .u8 ((objM ([Mb.mk (⟨#[109]⟩) (V.mk 4 0 ⟨#[]⟩ [] ([V.mk (3) (0) (⟨#[120]⟩) ([]) ([]), V.mk (2) (1) (⟨#[]⟩) ([]) ([])]))])).k)), (.int .i64 ((objM ([Mb.mk (⟨#[109]⟩) (V.mk 4 0 ⟨#[]⟩ [] ([V.mk (3) (0) (⟨#[120]⟩) ([]) ([]), V.mk (2) (1) (⟨#[]⟩) ([]) ([])]))])).n)), (.string ((objM ([Mb.mk (⟨#[109]⟩) (V.mk 4 0 ⟨#[]⟩ [] ([V.mk (3) (0) (⟨#[120]⟩) ([]) ([]), V.mk (2) (1) (⟨#[]⟩) ([]) ([])]))])).t)), (.slice cn131_40a (((objM ([Mb.mk (⟨#[109]⟩) (V.mk 4 0 ⟨#[]⟩ [] ([V.mk (3) (0) (⟨#[120]⟩) ([]) ([]), V.mk (2) (1) (⟨#[]⟩) ([]) ([])]))])).ns).length) cn131_40c), (.slice ci131_40a (((objM ([Mb.mk (⟨#[109]⟩) (V.mk 4 0 ⟨#[]⟩ [] ([V.mk (3) (0) (⟨#[120]⟩) ([]) ([]), V.mk (2) (1) (⟨#[]⟩) ([]) ([])]))])).xs).length) ci131_40c), (.map (some bm131_40)), (.int .i64 (tkE (objM ([Mb.mk (⟨#[109]⟩) (V.mk 4 0 ⟨#[]⟩ [] ([V.mk (3) (0) (⟨#[120]⟩) ([]) ([]), V.mk (2) (1) (⟨#[]⟩) ([]) ([])]))])) 0 ⟨#[109]⟩ (textsE 2)))] 74 := own_bo131_40
 replace own_bm131_40 : OwnM W44 bm131_40 (tkA (objM ([Mb.mk (⟨#[109]⟩) (V.mk 4 0 ⟨#[]⟩ [] ([V.mk (3) (0) (⟨#[120]⟩) ([]) ([]), V.mk (2) (1) (⟨#[]⟩) ([]) ([])]))])) ([]) 0 ⟨#[109]⟩ (textsE 2)) := own_bm131_40
 replace kw := keeps_L kw hk (in_cons (.inl lo_bo131_40) (in_cons (.inl lo_bm131_40) in_nil))
 clear hR hk hg
 refine tail_ung 4 136 false rfl 3 rfl (e136.trans (congrArg Value.bool (by kernel_rfl))) ?_
 refine tail_reg 5 All y44 zz44 st_tr trivial rfl ?_
 refine .mb rfl e9 ?_
 refine .i (v := (.int .i64 (errK ((objM ([Mb.mk (⟨#[109]⟩) (V.mk 4 0 ⟨#[]⟩ [] ([V.mk (3) (0) (⟨#[120]⟩) ([]) ([]), V.mk (2) (1) (⟨#[]⟩) ([]) ([])]))])).k) (tkE (objM ([Mb.mk (⟨#[109]⟩) (V.mk 4 0 ⟨#[]⟩ [] ([V.mk (3) (0) (⟨#[120]⟩) ([]) ([]), V.mk (2) (1) (⟨#[]⟩) ([]) ([])]))])) 0 ⟨#[109]⟩ (textsE 2))))) (sp_call1 (φ1 := Is (.pointer (some ⟨bo131_40, 0, none⟩))) ent24 (hlc rfl) (fun g u1 W hk hgk h1 => by have h1 : u1 = _ := h1; subst u1; exact Err_ok _ _ _ _ _ _ _ W _ (own_bo131_40.ext hk))) ?_
 refine .i (sp_neq (hlc rfl) Has.cst) ?_
 refine .i (sp_or (hbs rfl e136) ((hlc rfl).toU)) ?_
 refine .i (sp_move (hlc rfl)) ?_
 refine .dn fun a45 g W45 y45 zz45 hk hg hV hR hP => ?_
 refine tail_nil ?_
 show runTail _ _ _ _ _ _
 obtain ⟨e141, -, -, -, -, -⟩ := hV
 replace e1 := ft hR e1
 replace D_cn23_7 := D_cn23_7.ext hk
 replace D_ci23_7 := D_ci23_7.ext hk
 replace D_cn131_40 := D_cn131_40.ext hk
 replace D_ci131_40 := D_ci131_40.ext hk
 replace e141 := e141.q
 replace own_b1_7 := own_b1_7.ext hk
 replace own_b2_10 := own_b2_10.ext hk
 replace own_b7_36 := own_b7_36.ext hk
 replace own_bo131_40 := own_bo131_40.ext hk
 replace own_bm131_40 := own_bm131_40.ext hk
 replace kw := kw.x hk
 clear hR hk hg hP
 refine tail_ung 9 141 false rfl 8 rfl (e141.trans (congrArg Value.bool (by kernel_rfl))) ?_
 refine tail_reg 6 All y45 zz45 st_tr trivial rfl ?_
 refine .da (X := SF w [bo131_40, bm131_40, b7_36, b2_10, b1_7]) (e := strsD ([⟨#[97]⟩, ⟨#[97]⟩])) (sp_bsl (ds := [D.str (⟨#[97]⟩), D.str (⟨#[97]⟩)]) Try.underlying23 sz9 z9 (lbr rfl) (lbr rfl) ⟨rfl, (Has.cst.str (lbr rfl)), ⟨rfl, (Has.cst.str (lbr rfl)), trivial⟩⟩ rfl (by simp [width]) (fr_sf kw (in_cons own_bo131_40.lt (in_cons own_bm131_40.lt (in_cons own_b7_36.lt (in_cons own_b2_10.lt (in_cons own_b1_7.lt in_nil))))))) ?_
 refine .i (v := (.agg #[(.int .u8 ((V.mk 4 0 ⟨#[]⟩ [] ([V.mk (3) (0) (⟨#[120]⟩) ([]) ([]), V.mk (3) (0) (⟨#[121]⟩) ([]) ([])])).k)), (.int .i64 ((V.mk 4 0 ⟨#[]⟩ [] ([V.mk (3) (0) (⟨#[120]⟩) ([]) ([]), V.mk (3) (0) (⟨#[121]⟩) ([]) ([])])).n)), (.string ((V.mk 4 0 ⟨#[]⟩ [] ([V.mk (3) (0) (⟨#[120]⟩) ([]) ([]), V.mk (3) (0) (⟨#[121]⟩) ([]) ([])])).t)), (.slice cn23_7a (((V.mk 4 0 ⟨#[]⟩ [] ([V.mk (3) (0) (⟨#[120]⟩) ([]) ([]), V.mk (3) (0) (⟨#[121]⟩) ([]) ([])])).ns).length) cn23_7c), (.slice ci23_7a (((V.mk 4 0 ⟨#[]⟩ [] ([V.mk (3) (0) (⟨#[120]⟩) ([]) ([]), V.mk (3) (0) (⟨#[121]⟩) ([]) ([])])).xs).length) ci23_7c)])) (loA (hbs rfl e1) own_b1_7 trivial agg33 sz33 rfl rfl) ?_
 refine .i (v := (.agg #[(.int .u8 ((V.mk 4 0 ⟨#[]⟩ [] ([V.mk (3) (0) (⟨#[120]⟩) ([]) ([]), V.mk (3) (0) (⟨#[121]⟩) ([]) ([])])).k)), (.int .i64 ((V.mk 4 0 ⟨#[]⟩ [] ([V.mk (3) (0) (⟨#[120]⟩) ([]) ([]), V.mk (3) (0) (⟨#[121]⟩) ([]) ([])])).n)), (.string ((V.mk 4 0 ⟨#[]⟩ [] ([V.mk (3) (0) (⟨#[120]⟩) ([]) ([]), V.mk (3) (0) (⟨#[121]⟩) ([]) ([])])).t)), (.slice cn23_7a (((V.mk 4 0 ⟨#[]⟩ [] ([V.mk (3) (0) (⟨#[120]⟩) ([]) ([]), V.mk (3) (0) (⟨#[121]⟩) ([]) ([])])).ns).length) cn23_7c), (.slice ci23_7a (((V.mk 4 0 ⟨#[]⟩ [] ([V.mk (3) (0) (⟨#[120]⟩) ([]) ([]), V.mk (3) (0) (⟨#[121]⟩) ([]) ([])])).xs).length) ci23_7c)])) (loA (hbs rfl e1) own_b1_7 trivial agg33 sz33 rfl rfl) ?_
 refine .da (X := SF w [bo131_40, bm131_40, b7_36, b2_10, b1_7]) (e := valsD ([(V.mk 4 0 ⟨#[]⟩ [] ([V.mk (3) (0) (⟨#[120]⟩) ([]) ([]), V.mk (3) (0) (⟨#[121]⟩) ([]) ([])])), (V.mk 4 0 ⟨#[]⟩ [] ([V.mk (3) (0) (⟨#[120]⟩) ([]) ([]), V.mk (3) (0) (⟨#[121]⟩) ([]) ([])]))])) (sp_bsl (ds := [V.d ((V.mk 4 0 ⟨#[]⟩ [] ([V.mk (3) (0) (⟨#[120]⟩) ([]) ([]), V.mk (3) (0) (⟨#[121]⟩) ([]) ([])]))), V.d ((V.mk 4 0 ⟨#[]⟩ [] ([V.mk (3) (0) (⟨#[120]⟩) ([]) ([]), V.mk (3) (0) (⟨#[121]⟩) ([]) ([])])))]) Try.underlying31 sz33 z33 (lbr rfl) (lbr rfl) ⟨rfl, ((hlc rfl).dat (rdV_in (x := (V.mk 4 0 ⟨#[]⟩ [] ([V.mk (3) (0) (⟨#[120]⟩) ([]) ([]), V.mk (3) (0) (⟨#[121]⟩) ([]) ([])]))) ht_v23_7 D_cn23_7 D_ci23_7 : Rd W45 (SF w [bo131_40, bm131_40, b7_36, b2_10, b1_7]) (V.d ((V.mk 4 0 ⟨#[]⟩ [] ([V.mk (3) (0) (⟨#[120]⟩) ([]) ([]), V.mk (3) (0) (⟨#[121]⟩) ([]) ([])])))) _) sub_all), ⟨rfl, ((hlc rfl).dat (rdV_in (x := (V.mk 4 0 ⟨#[]⟩ [] ([V.mk (3) (0) (⟨#[120]⟩) ([]) ([]), V.mk (3) (0) (⟨#[121]⟩) ([]) ([])]))) ht_v23_7 D_cn23_7 D_ci23_7 : Rd W45 (SF w [bo131_40, bm131_40, b7_36, b2_10, b1_7]) (V.d ((V.mk 4 0 ⟨#[]⟩ [] ([V.mk (3) (0) (⟨#[120]⟩) ([]) ([]), V.mk (3) (0) (⟨#[121]⟩) ([]) ([])])))) _) sub_all), trivial⟩⟩ rfl (by intro e he; simp at he; rcases he with rfl | rfl <;> exact width_V _) (fr_sf kw (in_cons own_bo131_40.lt (in_cons own_bm131_40.lt (in_cons own_b7_36.lt (in_cons own_b2_10.lt (in_cons own_b1_7.lt in_nil))))))) ?_
 refine .da (X := SF w [bo131_40, bm131_40, b7_36, b2_10, b1_7]) (e := V.d (V.mk (5) (0) (⟨#[]⟩) ([⟨#[97]⟩, ⟨#[97]⟩]) ([(V.mk 4 0 ⟨#[]⟩ [] ([V.mk (3) (0) (⟨#[120]⟩) ([]) ([]), V.mk (3) (0) (⟨#[121]⟩) ([]) ([])])), (V.mk 4 0 ⟨#[]⟩ [] ([V.mk (3) (0) (⟨#[120]⟩) ([]) ([]), V.mk (3) (0) (⟨#[121]⟩) ([]) ([])]))]))) (sp_buildD (zd := [.int .u8 0, .int .i64 0, .str ⟨#[]⟩, strsD [], valsD []]) (es := [(0, D.int .u8 (5)), (3, strsD ([⟨#[97]⟩, ⟨#[97]⟩])), (4, valsD ([(V.mk 4 0 ⟨#[]⟩ [] ([V.mk (3) (0) (⟨#[120]⟩) ([]) ([]), V.mk (3) (0) (⟨#[121]⟩) ([]) ([])])), (V.mk 4 0 ⟨#[]⟩ [] ([V.mk (3) (0) (⟨#[120]⟩) ([]) ([]), V.mk (3) (0) (⟨#[121]⟩) ([]) ([])]))]))]) Try.underlying33 z33 (pl33 Try.underlying33) ⟨rfl, Has.cst.int, ⟨rfl, (hlc rfl), ⟨rfl, (hlc rfl), trivial⟩⟩⟩ zV rfl (by simp [fits, width, strsD, valsD]) (by rw [V.d_eq]; rfl)) ?_
 refine .op (φ := IsPkD W45 74 (ofE (V.mk (5) (0) (⟨#[]⟩) ([⟨#[97]⟩, ⟨#[97]⟩]) ([(V.mk 4 0 ⟨#[]⟩ [] ([V.mk (3) (0) (⟨#[120]⟩) ([]) ([]), V.mk (3) (0) (⟨#[121]⟩) ([]) ([])])), (V.mk 4 0 ⟨#[]⟩ [] ([V.mk (3) (0) (⟨#[120]⟩) ([]) ([]), V.mk (3) (0) (⟨#[121]⟩) ([]) ([])]))])))) st_pkd (sp_call1 (φ1 := IsD (SF w [bo131_40, bm131_40, b7_36, b2_10, b1_7]) (V.d (V.mk (5) (0) (⟨#[]⟩) ([⟨#[97]⟩, ⟨#[97]⟩]) ([(V.mk 4 0 ⟨#[]⟩ [] ([V.mk (3) (0) (⟨#[120]⟩) ([]) ([]), V.mk (3) (0) (⟨#[121]⟩) ([]) ([])])), (V.mk 4 0 ⟨#[]⟩ [] ([V.mk (3) (0) (⟨#[120]⟩) ([]) ([]), V.mk (3) (0) (⟨#[121]⟩) ([]) ([])]))])))) ent21 (hlc rfl) (fun g u1 W hk hgk h1 => (OfD_ok (V.mk (5) (0) (⟨#[]⟩) ([⟨#[97]⟩, ⟨#[97]⟩]) ([(V.mk 4 0 ⟨#[]⟩ [] ([V.mk (3) (0) (⟨#[120]⟩) ([]) ([]), V.mk (3) (0) (⟨#[121]⟩) ([]) ([])])), (V.mk 4 0 ⟨#[]⟩ [] ([V.mk (3) (0) (⟨#[120]⟩) ([]) ([]), V.mk (3) (0) (⟨#[121]⟩) ([]) ([])]))])) (by rw [show ofE (V.mk (5) (0) (⟨#[]⟩) ([⟨#[97]⟩, ⟨#[97]⟩]) ([(V.mk 4 0 ⟨#[]⟩ [] ([V.mk (3) (0) (⟨#[120]⟩) ([]) ([]), V.mk (3) (0) (⟨#[121]⟩) ([]) ([])])), (V.mk 4 0 ⟨#[]⟩ [] ([V.mk (3) (0) (⟨#[120]⟩) ([]) ([]), V.mk (3) (0) (⟨#[121]⟩) ([]) ([])]))])) = 3 from by kernel_rfl]; decide) W _ _ h1).mono (fun _ _ ⟨v, h1, h2, h3⟩ => ⟨v, h1, h2, pkd_up hk h3⟩))) ?_
 refine .dn fun a46 g W46 y46 zz46 hk hg hV hR hP => ?_
 refine tail_nil ?_
 show runTail _ _ _ _ _ _
 obtain ⟨e147, -, -, -, -, -, -⟩ := hV
 replace e1 := ft hR e1
 replace e141 := ft hR e141
 obtain ⟨bo147_46, e147, lr_bo147_46, own_bo147_46⟩ := e147
 have e147 : sl a46 147 = (.pointer (some ⟨bo147_46, 0, none⟩)) := e147
 have lo_bo147_46 : w.heap.size ≤ bo147_46 := Nat.le_trans kw.size lr_bo147_46
 have ne_b1_7_bo147_46 : b1_7 ≠ bo147_46 := Nat.ne_of_lt (Nat.lt_of_lt_of_le own_b1_7.lt lr_bo147_46)
 have ne_b2_10_bo147_46 : b2_10 ≠ bo147_46 := Nat.ne_of_lt (Nat.lt_of_lt_of_le own_b2_10.lt lr_bo147_46)
 have ne_b7_36_bo147_46 : b7_36 ≠ bo147_46 := Nat.ne_of_lt (Nat.lt_of_lt_of_le own_b7_36.lt lr_bo147_46)
 have ne_bo131_40_bo147_46 : bo131_40 ≠ bo147_46 := Nat.ne_of_lt (Nat.lt_of_lt_of_le own_bo131_40.lt lr_bo147_46)
 have ne_bm131_40_bo147_46 : bm131_40 ≠ bo147_46 := Nat.ne_of_lt (Nat.lt_of_lt_of_le own_bm131_40.lt lr_bo147_46)
 replace D_cn23_7 : Rd W46 (SF w [bo147_46, bo131_40, bm131_40, b7_36, b2_10, b1_7]) (strsD ((V.mk 4 0 ⟨#[]⟩ [] ([V.mk (3) (0) (⟨#[120]⟩) ([]) ([]), V.mk (3) (0) (⟨#[121]⟩) ([]) ([])])).ns)) (.slice cn23_7a (((V.mk 4 0 ⟨#[]⟩ [] ([V.mk (3) (0) (⟨#[120]⟩) ([]) ([]), V.mk (3) (0) (⟨#[121]⟩) ([]) ([])])).ns).length) cn23_7c) := sf_more D_cn23_7 hk [bo147_46] (in_cons lr_bo147_46 in_nil)
 replace D_ci23_7 : Rd W46 (SF w [bo147_46, bo131_40, bm131_40, b7_36, b2_10, b1_7]) (valsD ((V.mk 4 0 ⟨#[]⟩ [] ([V.mk (3) (0) (⟨#[120]⟩) ([]) ([]), V.mk (3) (0) (⟨#[121]⟩) ([]) ([])])).xs)) (.slice ci23_7a (((V.mk 4 0 ⟨#[]⟩ [] ([V.mk (3) (0) (⟨#[120]⟩) ([]) ([]), V.mk (3) (0) (⟨#[121]⟩) ([]) ([])])).xs).length) ci23_7c) := sf_more D_ci23_7 hk [bo147_46] (in_cons lr_bo147_46 in_nil)
 have own_bo147_46 : Own W46 bo147_46 [(.int .u8 (0)), (.int .i64 (0)), (.string (⟨#[]⟩)), (.slice none 0 0), (.slice none 0 0), (.map none), (.int .i64 (ofE (V.mk (5) (0) (⟨#[]⟩) ([⟨#[97]⟩, ⟨#[97]⟩]) ([(V.mk 4 0 ⟨#[]⟩ [] ([V.mk (3) (0) (⟨#[120]⟩) ([]) ([]), V.mk (3) (0) (⟨#[121]⟩) ([]) ([])])), (V.mk 4 0 ⟨#[]⟩ [] ([V.mk (3) (0) (⟨#[120]⟩) ([]) ([]), V.mk (3) (0) (⟨#[121]⟩) ([]) ([])]))]))))] 74 := own_bo147_46
 replace own_b1_7 := own_b1_7.ext hk
 replace own_b2_10 := own_b2_10.ext hk
 replace own_b7_36 := own_b7_36.ext hk
 replace own_bo131_40 := own_bo131_40.ext hk
 replace own_bm131_40 := own_bm131_40.ext hk
 replace kw := kw.x hk
 clear hR hk hg hP lr_bo147_46
 refine tail_reg 4 All y46 zz46 st_tr trivial rfl ?_
 refine .i (v := (.int .i64 (errK 0 (ofE (V.mk (5) (0) (⟨#[]⟩) ([⟨#[97]⟩, ⟨#[97]⟩]) ([(V.mk 4 0 ⟨#[]⟩ [] ([V.mk (3) (0) (⟨#[120]⟩) ([]) ([]), V.mk (3) (0) (⟨#[121]⟩) ([]) ([])])), (V.mk 4 0 ⟨#[]⟩ [] ([V.mk (3) (0) (⟨#[120]⟩) ([]) ([]), V.mk (3) (0) (⟨#[121]⟩) ([]) ([])]))])))))) (sp_call1 (φ1 := Is (.pointer (some ⟨bo147_46, 0, none⟩))) ent24 (hbs rfl e147) (fun g u1 W hk hgk h1 => by have h1 : u1 = _ := h1; subst u1; exact Err_ok _ _ _ _ _ _ _ W _ (own_bo147_46.ext hk))) ?_
 refine .i (sp_neq (hlc rfl) Has.cst) ?_
 refine .i (sp_or (hbs rfl e141) ((hlc rfl).toU)) ?_
 refine .i (sp_move (hlc rfl)) ?_
 refine .dn fun a47 g W47 y47 zz47 hk hg hV hR hP => ?_
 refine tail_nil ?_
 show runTail _ _ _ _ _ _
 obtain ⟨e151, -, -, -, -⟩ := hV
 replace e1 := ft hR e1
 replace D_cn23_7 := D_cn23_7.ext hk
 replace D_ci23_7 := D_ci23_7.ext hk
 replace e151 := e151.q
 replace own_b1_7 := own_b1_7.ext hk
 replace own_b2_10 := own_b2_10.ext hk
 replace own_b7_36 := own_b7_36.ext hk
 replace own_bo131_40 := own_bo131_40.ext hk
 replace own_bm131_40 := own_bm131_40.ext hk
 replace own_bo147_46 := own_bo147_46.ext hk
 replace kw := kw.x hk
 clear hR hk hg hP
 refine tail_ung 19 151 false rfl 5 rfl (e151.trans (congrArg Value.bool (by kernel_rfl))) ?_
 refine tail_reg 3 All y47 zz47 st_tr trivial rfl ?_
 refine .da (X := SF w [bo147_46, bo131_40, bm131_40, b7_36, b2_10, b1_7]) (e := strsD ([⟨#[97]⟩])) (sp_bsl (ds := [D.str (⟨#[97]⟩)]) Try.underlying23 sz9 z9 (lbr rfl) (lbr rfl) ⟨rfl, (Has.cst.str (lbr rfl)), trivial⟩ rfl (by simp [width]) (fr_sf kw (in_cons own_bo147_46.lt (in_cons own_bo131_40.lt (in_cons own_bm131_40.lt (in_cons own_b7_36.lt (in_cons own_b2_10.lt (in_cons own_b1_7.lt in_nil)))))))) ?_
 refine .da (X := SF w [bo147_46, bo131_40, bm131_40, b7_36, b2_10, b1_7]) (e := V.d (V.mk (5) (0) (⟨#[]⟩) ([⟨#[97]⟩]) ([]))) (sp_buildD (zd := [.int .u8 0, .int .i64 0, .str ⟨#[]⟩, strsD [], valsD []]) (es := [(0, D.int .u8 (5)), (3, strsD ([⟨#[97]⟩]))]) Try.underlying33 z33 (pl33 Try.underlying33) ⟨rfl, Has.cst.int, ⟨rfl, (hlc rfl), trivial⟩⟩ zV rfl (by simp [fits, width, strsD, valsD]) (by rw [V.d_eq]; rfl)) ?_
 refine .op (φ := IsPkD W47 74 (ofE (V.mk (5) (0) (⟨#[]⟩) ([⟨#[97]⟩]) ([])))) st_pkd (sp_call1 (φ1 := IsD (SF w [bo147_46, bo131_40, bm131_40, b7_36, b2_10, b1_7]) (V.d (V.mk (5) (0) (⟨#[]⟩) ([⟨#[97]⟩]) ([])))) ent21 (hlc rfl) (fun g u1 W hk hgk h1 => (OfD_ok (V.mk (5) (0) (⟨#[]⟩) ([⟨#[97]⟩]) ([])) (by rw [show ofE (V.mk (5) (0) (⟨#[]⟩) ([⟨#[97]⟩]) ([])) = 3 from by kernel_rfl]; decide) W _ _ h1).mono (fun _ _ ⟨v, h1, h2, h3⟩ => ⟨v, h1, h2, pkd_up hk h3⟩))) ?_
 refine .dn fun a48 g W48 y48 zz48 hk hg hV hR hP => ?_
 refine tail_nil ?_
 show runTail _ _ _ _ _ _
 obtain ⟨e154, -, -, -⟩ := hV
 replace e1 := ft hR e1
 replace e151 := ft hR e151
 obtain ⟨bo154_48, e154, lr_bo154_48, own_bo154_48⟩ := e154
 have e154 : sl a48 154 = (.pointer (some ⟨bo154_48, 0, none⟩)) := e154
 have lo_bo154_48 : w.heap.size ≤ bo154_48 := Nat.le_trans kw.size lr_bo154_48
 have ne_b1_7_bo154_48 : b1_7 ≠ bo154_48 := Nat.ne_of_lt (Nat.lt_of_lt_of_le own_b1_7.lt lr_bo154_48)
 have ne_b2_10_bo154_48 : b2_10 ≠ bo154_48 := Nat.ne_of_lt (Nat.lt_of_lt_of_le own_b2_10.lt lr_bo154_48)
 have ne_b7_36_bo154_48 : b7_36 ≠ bo154_48 := Nat.ne_of_lt (Nat.lt_of_lt_of_le own_b7_36.lt lr_bo154_48)
 have ne_bo131_40_bo154_48 : bo131_40 ≠ bo154_48 := Nat.ne_of_lt (Nat.lt_of_lt_of_le own_bo131_40.lt lr_bo154_48)
 have ne_bm131_40_bo154_48 : bm131_40 ≠ bo154_48 := Nat.ne_of_lt (Nat.lt_of_lt_of_le own_bm131_40.lt lr_bo154_48)
 have ne_bo147_46_bo154_48 : bo147_46 ≠ bo154_48 := Nat.ne_of_lt (Nat.lt_of_lt_of_le own_bo147_46.lt lr_bo154_48)
 replace D_cn23_7 : Rd W48 (SF w [bo154_48, bo147_46, bo131_40, bm131_40, b7_36, b2_10, b1_7]) (strsD ((V.mk 4 0 ⟨#[]⟩ [] ([V.mk (3) (0) (⟨#[120]⟩) ([]) ([]), V.mk (3) (0) (⟨#[121]⟩) ([]) ([])])).ns)) (.slice cn23_7a (((V.mk 4 0 ⟨#[]⟩ [] ([V.mk (3) (0) (⟨#[120]⟩) ([]) ([]), V.mk (3) (0) (⟨#[121]⟩) ([]) ([])])).ns).length) cn23_7c) := sf_more D_cn23_7 hk [bo154_48] (in_cons lr_bo154_48 in_nil)
 replace D_ci23_7 : Rd W48 (SF w [bo154_48, bo147_46, bo131_40, bm131_40, b7_36, b2_10, b1_7]) (valsD ((V.mk 4 0 ⟨#[]⟩ [] ([V.mk (3) (0) (⟨#[120]⟩) ([]) ([]), V.mk (3) (0) (⟨#[121]⟩) ([]) ([])])).xs)) (.slice ci23_7a (((V.mk 4 0 ⟨#[]⟩ [] ([V.mk (3) (0) (⟨#[120]⟩) ([]) ([]), V.mk (3) (0) (⟨#[121]⟩) ([]) ([])])).xs).length) ci23_7c) := sf_more D_ci23_7 hk [bo154_48] (in_cons lr_bo154_48 in_nil)
 have own_bo154_48 : Own W48 bo154_48 [(.int .u8 (0)), (.int .i64 (0)), (.string (⟨#[]⟩)), (.slice none 0 0), (.slice none 0 0), (.map none), (.int .i64 (ofE (V.mk (5) (0) (⟨#[]⟩) ([⟨#[97]⟩]) ([]))))] 74 := own_bo154_48
 replace own_b1_7 := own_b1_7.ext hk
 replace own_b2_10 := own_b2_10.ext hk
 replace own_b7_36 := own_b7_36.ext hk
 replace own_bo131_40 := own_bo131_40.ext hk
 replace own_bm131_40 := own_bm131_40.ext hk
 replace own_bo147_46 := own_bo147_46.ext hk
 replace kw := kw.x hk
 clear hR hk hg hP lr_bo154_48
 refine tail_reg 4 All y48 zz48 st_tr trivial rfl ?_
 refine .i (v := (.int .i64 (errK 0 (ofE (V.mk (5) (0) (⟨#[]⟩) ([⟨#[97]⟩]) ([])))))) (sp_call1 (φ1 := Is (.pointer (some ⟨bo154_48, 0, none⟩))) ent24 (hbs rfl e154) (fun g u1 W hk hgk h1 => by have h1 : u1 = _ := h1; subst u1; exact Err_ok _ _ _ _ _ _ _ W _ (own_bo154_48.ext hk))) ?_
 refine .i (sp_neq (hlc rfl) Has.cst) ?_
 refine .i (sp_or (hbs rfl e151) ((hlc rfl).toU)) ?_
 refine .i (sp_move (hlc rfl)) ?_
 refine .dn fun a49 g W49 y49 zz49 hk hg hV hR hP => ?_
 refine tail_nil ?_
 show runTail _ _ _ _ _ _
 obtain ⟨e158, -, -, -, -⟩ := hV
 replace e1 := ft hR e1
 replace D_cn23_7 := D_cn23_7.ext hk
 replace D_ci23_7 := D_ci23_7.ext hk
 replace e158 := e158.q
 replace own_b1_7 := own_b1_7.ext hk
 replace own_b2_10 := own_b2_10.ext hk
 replace own_b7_36 := own_b7_36.ext hk
 replace own_bo131_40 := own_bo131_40.ext hk
 replace own_bm131_40 := own_bm131_40.ext hk
 replace own_bo147_46 := own_bo147_46.ext hk
 replace own_bo154_48 := own_bo154_48.ext hk
 replace kw := kw.x hk
 clear hR hk hg hP
 refine tail_ung 26 158 false rfl 4 rfl (e158.trans (congrArg Value.bool (by kernel_rfl))) ?_
 refine tail_reg 2 All y49 zz49 st_tr trivial rfl ?_
 refine .i (v := (.agg #[(.int .u8 ((V.mk 4 0 ⟨#[]⟩ [] ([V.mk (3) (0) (⟨#[120]⟩) ([]) ([]), V.mk (3) (0) (⟨#[121]⟩) ([]) ([])])).k)), (.int .i64 ((V.mk 4 0 ⟨#[]⟩ [] ([V.mk (3) (0) (⟨#[120]⟩) ([]) ([]), V.mk (3) (0) (⟨#[121]⟩) ([]) ([])])).n)), (.string ((V.mk 4 0 ⟨#[]⟩ [] ([V.mk (3) (0) (⟨#[120]⟩) ([]) ([]), V.mk (3) (0) (⟨#[121]⟩) ([]) ([])])).t)), (.slice cn23_7a (((V.mk 4 0 ⟨#[]⟩ [] ([V.mk (3) (0) (⟨#[120]⟩) ([]) ([]), V.mk (3) (0) (⟨#[121]⟩) ([]) ([])])).ns).length) cn23_7c), (.slice ci23_7a (((V.mk 4 0 ⟨#[]⟩ [] ([V.mk (3) (0) (⟨#[120]⟩) ([]) ([]), V.mk (3) (0) (⟨#[121]⟩) ([]) ([])])).xs).length) ci23_7c)])) (loA (hbs rfl e1) own_b1_7 trivial agg33 sz33 rfl rfl) ?_
 refine .op (φ := IsPkD W49 74 (ofE (V.mk 4 0 ⟨#[]⟩ [] ([V.mk (3) (0) (⟨#[120]⟩) ([]) ([]), V.mk (3) (0) (⟨#[121]⟩) ([]) ([])])))) st_pkd (sp_call1 (φ1 := IsD (SF w [bo154_48, bo147_46, bo131_40, bm131_40, b7_36, b2_10, b1_7]) (V.d ((V.mk 4 0 ⟨#[]⟩ [] ([V.mk (3) (0) (⟨#[120]⟩) ([]) ([]), V.mk (3) (0) (⟨#[121]⟩) ([]) ([])]))))) ent21 ((hlc rfl).dat (rdV_in (x := (V.mk 4 0 ⟨#[]⟩ [] ([V.mk (3) (0) (⟨#[120]⟩) ([]) ([]), V.mk (3) (0) (⟨#[121]⟩) ([]) ([])]))) ht_v23_7 D_cn23_7 D_ci23_7 : Rd W49 (SF w [bo154_48, bo147_46, bo131_40, bm131_40, b7_36, b2_10, b1_7]) (V.d ((V.mk 4 0 ⟨#[]⟩ [] ([V.mk (3) (0) (⟨#[120]⟩) ([]) ([]), V.mk (3) (0) (⟨#[121]⟩) ([]) ([])])))) _) sub_all) (fun g u1 W hk hgk h1 => (OfD_ok ((V.mk 4 0 ⟨#[]⟩ [] ([V.mk (3) (0) (⟨#[120]⟩) ([]) ([]), V.mk (3) (0) (⟨#[121]⟩) ([]) ([])]))) (by rw [show ofE ((V.mk 4 0 ⟨#[]⟩ [] ([V.mk (3) (0) (⟨#[120]⟩) ([]) ([]), V.mk (3) (0) (⟨#[121]⟩) ([]) ([])]))) = 10 from by kernel_rfl]; decide) W _ _ h1).mono (fun _ _ ⟨v, h1, h2, h3⟩ => ⟨v, h1, h2, pkd_up hk h3⟩))) ?_
 refine .dn fun a50 g W50 y50 zz50 hk hg hV hR hP => ?_
 refine tail_nil ?_
 show runTail _ _ _ _ _ _
 obtain ⟨e160, -, -⟩ := hV
 replace e158 := ft hR e158
 obtain ⟨bo160_50, e160, lr_bo160_50, own_bo160_50⟩ := e160
 have e160 : sl a50 160 = (.pointer (some ⟨bo160_50, 0, none⟩)) := e160
 have lo_bo160_50 : w.heap.size ≤ bo160_50 := Nat.le_trans kw.size lr_bo160_50
 have ne_b1_7_bo160_50 : b1_7 ≠ bo160_50 := Nat.ne_of_lt (Nat.lt_of_lt_of_le own_b1_7.lt lr_bo160_50)
 have ne_b2_10_bo160_50 : b2_10 ≠ bo160_50 := Nat.ne_of_lt (Nat.lt_of_lt_of_le own_b2_10.lt lr_bo160_50)
 have ne_b7_36_bo160_50 : b7_36 ≠ bo160_50 := Nat.ne_of_lt (Nat.lt_of_lt_of_le own_b7_36.lt lr_bo160_50)
 have ne_bo131_40_bo160_50 : bo131_40 ≠ bo160_50 := Nat.ne_of_lt (Nat.lt_of_lt_of_le own_bo131_40.lt lr_bo160_50)
 have ne_bm131_40_bo160_50 : bm131_40 ≠ bo160_50 := Nat.ne_of_lt (Nat.lt_of_lt_of_le own_bm131_40.lt lr_bo160_50)
 have ne_bo147_46_bo160_50 : bo147_46 ≠ bo160_50 := Nat.ne_of_lt (Nat.lt_of_lt_of_le own_bo147_46.lt lr_bo160_50)
 have ne_bo154_48_bo160_50 : bo154_48 ≠ bo160_50 := Nat.ne_of_lt (Nat.lt_of_lt_of_le own_bo154_48.lt lr_bo160_50)
 replace D_cn23_7 : Rd W50 (SF w [bo160_50, bo154_48, bo147_46, bo131_40, bm131_40, b7_36, b2_10, b1_7]) (strsD ((V.mk 4 0 ⟨#[]⟩ [] ([V.mk (3) (0) (⟨#[120]⟩) ([]) ([]), V.mk (3) (0) (⟨#[121]⟩) ([]) ([])])).ns)) (.slice cn23_7a (((V.mk 4 0 ⟨#[]⟩ [] ([V.mk (3) (0) (⟨#[120]⟩) ([]) ([]), V.mk (3) (0) (⟨#[121]⟩) ([]) ([])])).ns).length) cn23_7c) := sf_more D_cn23_7 hk [bo160_50] (in_cons lr_bo160_50 in_nil)
 replace D_ci23_7 : Rd W50 (SF w [bo160_50, bo154_48, bo147_46, bo131_40, bm131_40, b7_36, b2_10, b1_7]) (valsD ((V.mk 4 0 ⟨#[]⟩ [] ([V.mk (3) (0) (⟨#[120]⟩) ([]) ([]), V.mk (3) (0) (⟨#[121]⟩) ([]) ([])])).xs)) (.slice ci23_7a (((V.mk 4 0 ⟨#[]⟩ [] ([V.mk (3) (0) (⟨#[120]⟩) ([]) ([]), V.mk (3) (0) (⟨#[121]⟩) ([]) ([])])).xs).length) ci23_7c) := sf_more D_ci23_7 hk [bo160_50] (in_cons lr_bo160_50 in_nil)
 have own_bo160_50 : Own W50 bo160_50 [(.int .u8 (0)), (.int .i64 (0)), (.string (⟨#[]⟩)), (.slice none 0 0), (.slice none 0 0), (.map none), (.int .i64 (ofE (V.mk 4 0 ⟨#[]⟩ [] ([V.mk (3) (0) (⟨#[120]⟩) ([]) ([]), V.mk (3) (0) (⟨#[121]⟩) ([]) ([])]))))] 74 := own_bo160_50
 replace own_b1_7 := own_b1_7.ext hk
 replace own_b2_10 := own_b2_10.ext hk
 replace own_b7_36 := own_b7_36.ext hk
 replace own_bo131_40 := own_bo131_40.ext hk
 replace own_bm131_40 := own_bm131_40.ext hk
 replace own_bo147_46 := own_bo147_46.ext hk
 replace own_bo154_48 := own_bo154_48.ext hk
 replace kw := kw.x hk
 clear hR hk hg hP lr_bo160_50
 refine tail_reg 4 All y50 zz50 st_tr trivial rfl ?_
 refine .i (v := (.int .i64 (errK 0 (ofE (V.mk 4 0 ⟨#[]⟩ [] ([V.mk (3) (0) (⟨#[120]⟩) ([]) ([]), V.mk (3) (0) (⟨#[121]⟩) ([]) ([])])))))) (sp_call1 (φ1 := Is (.pointer (some ⟨bo160_50, 0, none⟩))) ent24 (hbs rfl e160) (fun g u1 W hk hgk h1 => by have h1 : u1 = _ := h1; subst u1; exact Err_ok _ _ _ _ _ _ _ W _ (own_bo160_50.ext hk))) ?_
 refine .i (sp_neq (hlc rfl) Has.cst) ?_
 refine .i (sp_or (hbs rfl e158) ((hlc rfl).toU)) ?_
 refine .i (sp_move (hlc rfl)) ?_
 refine .dn fun a51 g W51 y51 zz51 hk hg hV hR hP => ?_
 refine tail_nil ?_
 show runTail _ _ _ _ _ _
 obtain ⟨e164, -, -, -, -⟩ := hV
 replace e164 := e164.q
 replace own_b1_7 := own_b1_7.ext hk
 replace own_b2_10 := own_b2_10.ext hk
 replace own_b7_36 := own_b7_36.ext hk
 replace own_bo131_40 := own_bo131_40.ext hk
 replace own_bm131_40 := own_bm131_40.ext hk
 replace own_bo147_46 := own_bo147_46.ext hk
 replace own_bo154_48 := own_bo154_48.ext hk
 replace own_bo160_50 := own_bo160_50.ext hk
 replace kw := kw.x hk
 clear hR hk hg hP
 refine tail_ung 32 164 false rfl 4 rfl (e164.trans (congrArg Value.bool (by kernel_rfl))) ?_
 refine tail_reg 2 All y51 zz51 st_tr trivial rfl ?_
 refine .i (v := (.agg #[(.int .u8 (5)), (.int .i64 (0)), (.string (⟨#[]⟩)), (.slice none 0 0), (.slice none 0 0)])) (sp_build (vs := [(0, (.int .u8 (5)))]) Try.underlying33 z33 (pl33 Try.underlying33) ⟨rfl, Has.cst, trivial⟩ rfl) ?_
 refine .op (φ := IsPk W51 74 (V.mk (5) (0) (⟨#[]⟩) ([]) ([])) ([]) (0)) st_pk (sp_call1 (φ1 := IsD (SF w [bo160_50, bo154_48, bo147_46, bo131_40, bm131_40, b7_36, b2_10, b1_7]) (V.d (V.mk (5) (0) (⟨#[]⟩) ([]) ([])))) ent21 ((hlc rfl).dat (rdV_mk (lbr rfl) (rd_nil _) (rd_nil _) : Rd W51 (SF w [bo160_50, bo154_48, bo147_46, bo131_40, bm131_40, b7_36, b2_10, b1_7]) (V.d (V.mk (5) (0) (⟨#[]⟩) ([]) ([]))) _) sub_all) (fun g u1 W hk hgk h1 => (Of_ok (V.mk (5) (0) (⟨#[]⟩) ([]) ([])) (Nat.le_of_ble_eq_true (by kernel_rfl)) (by kernel_rfl) W _ _ (fun b o h => h.1.2.1) h1).mono (fun _ _ ⟨v, h1, h2, h3⟩ => ⟨v, h1, h2, pk_up hk h3⟩))) ?_
 refine .dn fun a52 g W52 y52 zz52 hk hg hV hR hP => ?_
 refine tail_nil ?_
 show runTail _ _ _ _ _ _
 obtain ⟨e166, -, -⟩ := hV
 replace e164 := ft hR e164
 obtain ⟨bo166_52, bm166_52, cn166_52v, ci166_52v, e166, lr_bo166_52, lr_bm166_52, ne_bo166_52_bm166_52, own_bo166_52, own_bm166_52, D_cn166_52, D_ci166_52, tb166_52⟩ := e166
 obtain ⟨cn166_52a, cn166_52c, ev, D2⟩ := rdS_out D_cn166_52; subst ev; replace D_cn166_52 := D2; clear D2
 obtain ⟨ci166_52a, ci166_52c, ev, D2⟩ := rdVs_out D_ci166_52; subst ev; replace D_ci166_52 := D2; clear D2
 have e166 : sl a52 166 = (.pointer (some ⟨bo166_52, 0, none⟩)) := e166
 have lo_bo166_52 : w.heap.size ≤ bo166_52 := Nat.le_trans kw.size lr_bo166_52
 have ne_b1_7_bo166_52 : b1_7 ≠ bo166_52 := Nat.ne_of_lt (Nat.lt_of_lt_of_le own_b1_7.lt lr_bo166_52)
 have ne_b2_10_bo166_52 : b2_10 ≠ bo166_52 := Nat.ne_of_lt (Nat.lt_of_lt_of_le own_b2_10.lt lr_bo166_52)
 have ne_b7_36_bo166_52 : b7_36 ≠ bo166_52 := Nat.ne_of_lt (Nat.lt_of_lt_of_le own_b7_36.lt lr_bo166_52)
 have ne_bo131_40_bo166_52 : bo131_40 ≠ bo166_52 := Nat.ne_of_lt (Nat.lt_of_lt_of_le own_bo131_40.lt lr_bo166_52)
 have ne_bm131_40_bo166_52 : bm131_40 ≠ bo166_52 := Nat.ne_of_lt (Nat.lt_of_lt_of_le own_bm131_40.lt lr_bo166_52)
 have ne_bo147_46_bo166_52 : bo147_46 ≠ bo166_52 := Nat.ne_of_lt (Nat.lt_of_lt_of_le own_bo147_46.lt lr_bo166_52)
 have ne_bo154_48_bo166_52 : bo154_48 ≠ bo166_52 := Nat.ne_of_lt (Nat.lt_of_lt_of_le own_bo154_48.lt lr_bo166_52)
 have ne_bo160_50_bo166_52 : bo160_50 ≠ bo166_52 := Nat.ne_of_lt (Nat.lt_of_lt_of_le own_bo160_50.lt lr_bo166_52)
 have lo_bm166_52 : w.heap.size ≤ bm166_52 := Nat.le_trans kw.size lr_bm166_52
 have ne_b1_7_bm166_52 : b1_7 ≠ bm166_52 := Nat.ne_of_lt (Nat.lt_of_lt_of_le own_b1_7.lt lr_bm166_52)
 have ne_b2_10_bm166_52 : b2_10 ≠ bm166_52 := Nat.ne_of_lt (Nat.lt_of_lt_of_le own_b2_10.lt lr_bm166_52)
 have ne_b7_36_bm166_52 : b7_36 ≠ bm166_52 := Nat.ne_of_lt (Nat.lt_of_lt_of_le own_b7_36.lt lr_bm166_52)
 have ne_bo131_40_bm166_52 : bo131_40 ≠ bm166_52 := Nat.ne_of_lt (Nat.lt_of_lt_of_le own_bo131_40.lt lr_bm166_52)
 have ne_bm131_40_bm166_52 : bm131_40 ≠ bm166_52 := Nat.ne_of_lt (Nat.lt_of_lt_of_le own_bm131_40.lt lr_bm166_52)
 have ne_bo147_46_bm166_52 : bo147_46 ≠ bm166_52 := Nat.ne_of_lt (Nat.lt_of_lt_of_le own_bo147_46.lt lr_bm166_52)
 have ne_bo154_48_bm166_52 : bo154_48 ≠ bm166_52 := Nat.ne_of_lt (Nat.lt_of_lt_of_le own_bo154_48.lt lr_bm166_52)
 have ne_bo160_50_bm166_52 : bo160_50 ≠ bm166_52 := Nat.ne_of_lt (Nat.lt_of_lt_of_le own_bo160_50.lt lr_bm166_52)
 replace D_cn166_52 : Rd W52 (SF w [bo166_52, bm166_52, bo160_50, bo154_48, bo147_46, bo131_40, bm131_40, b7_36, b2_10, b1_7]) (strsD ((V.mk (5) (0) (⟨#[]⟩) ([]) ([])).ns)) (.slice cn166_52a (((V.mk (5) (0) (⟨#[]⟩) ([]) ([])).ns).length) cn166_52c) := pk_data kw (in_cons own_bo160_50.lt (in_cons own_bo154_48.lt (in_cons own_bo147_46.lt (in_cons own_bo131_40.lt (in_cons own_bm131_40.lt (in_cons own_b7_36.lt (in_cons own_b2_10.lt (in_cons own_b1_7.lt in_nil)))))))) D_cn166_52
 replace D_ci166_52 : Rd W52 (SF w [bo166_52, bm166_52, bo160_50, bo154_48, bo147_46, bo131_40, bm131_40, b7_36, b2_10, b1_7]) (valsD ((V.mk (5) (0) (⟨#[]⟩) ([]) ([])).xs)) (.slice ci166_52a (((V.mk (5) (0) (⟨#[]⟩) ([]) ([])).xs).length) ci166_52c) := pk_data kw (in_cons own_bo160_50.lt (in_cons own_bo154_48.lt (in_cons own_bo147_46.lt (in_cons own_bo131_40.lt (in_cons own_bm131_40.lt (in_cons own_b7_36.lt (in_cons own_b2_10.lt (in_cons own_b1_7.lt in_nil)))))))) D_ci166_52
 have own_bo166_52 : Own W52 bo166_52 [(.int .u8 ((V.mk (5) (0) (⟨#[]⟩) ([]) ([])).k)), (.int .i64 ((V.mk (5) (0) (⟨#[]⟩) ([]) ([])).n)), (.string ((V.mk (5) (0) (⟨#[]⟩) ([]) ([])).t)), (.slice cn166_52a (((V.mk (5) (0) (⟨#[]⟩) ([]) ([])).ns).length) cn166_52c), (.slice ci166_52a (((V.mk (5) (0) (⟨#[]⟩) ([]) ([])).xs).length) ci166_52c), (.map (some bm166_52)), (.int .i64 (0))] 74 := own_bo166_52
 have own_bm166_52 : OwnM W52 bm166_52 ([]) := own_bm166_52
 replace own_b1_7 := own_b1_7.ext hk
 replace own_b2_10 := own_b2_10.ext hk
 replace own_b7_36 := own_b7_36.ext hk
 replace own_bo131_40 := own_bo131_40.ext hk
 replace own_bm131_40 := own_bm131_40.ext hk
 replace own_bo147_46 := own_bo147_46.ext hk
 replace own_bo154_48 := own_bo154_48.ext hk
 replace own_bo160_50 := own_bo160_50.ext hk
 replace kw := kw.x hk
 clear hR hk hg hP lr_bo166_52 lr_bm166_52
 refine tail_reg 3 All y52 zz52 st_tr trivial rfl ?_
 refine .i (v := (.int .i64 (doneE (V.mk (5) (0) (⟨#[]⟩) ([]) ([])) ([]) 0))) (sp_call1 (φ1 := Is (.pointer (some ⟨bo166_52, 0, none⟩))) ent32 (hbs rfl e166) (fun g u1 W hk hgk h1 => by have h1 : u1 = _ := h1; subst u1; exact Done_ok ((V.mk (5) (0) (⟨#[]⟩) ([]) ([]))) ([]) (0) W _ _ _ _ _ (D_cn166_52.ext hk) (own_bo166_52.ext hk) (own_bm166_52.ext hk))) ?_
 refine .i (sp_neq (hlc rfl) Has.cst) ?_
 refine .i (sp_or (hbs rfl e164) ((hlc rfl).toU)) ?_
 refine .dn fun a53 g W53 y53 zz53 hk hg hV hR hP => ?_
 refine tail_nil ?_
 show runTail _ _ _ _ _ _
 obtain ⟨e169, -, -, -⟩ := hV
 replace D_cn166_52 := D_cn166_52.ext hk
 replace D_ci166_52 := D_ci166_52.ext hk
 replace e169 := e169.q
 replace own_b1_7 := own_b1_7.ext hk
 replace own_b2_10 := own_b2_10.ext hk
 replace own_b7_36 := own_b7_36.ext hk
 replace own_bo131_40 := own_bo131_40.ext hk
 replace own_bm131_40 := own_bm131_40.ext hk
 replace own_bo147_46 := own_bo147_46.ext hk
 replace own_bo154_48 := own_bo154_48.ext hk
 replace own_bo160_50 := own_bo160_50.ext hk
 replace own_bo166_52 := own_bo166_52.ext hk
 replace own_bm166_52 := own_bm166_52.ext hk
 replace kw := kw.x hk
 clear hR hk hg hP
 refine zn (hK43 _ _ ?_)
 try clear hK43 K43
 refine zc e169 (fun hc => ?_) (fun hc => ?_)
 ·
  exfalso
  exact Bool.noConfusion (hc.symm.trans (by kernel_rfl : _ = false))
 refine wp_skip (hK42 _ _ ?_)
 try clear hK42 K42
 refine zq fun K54 hK54 => ?_
 refine rg mixed y53 zz53 ?_
 refine .ac ?_
 refine .dn fun a55 g W55 y55 zz55 hk hg hV hR hP => ?_
 obtain ⟨e10, -⟩ := hV
 have e10 : sl a55 10 = (.pointer none) := e10
 replace own_b1_7 := own_b1_7.ext hk
 replace own_b2_10 := own_b2_10.ext hk
 replace own_b7_36 := own_b7_36.ext hk
 replace own_bo131_40 := own_bo131_40.ext hk
 replace own_bm131_40 := own_bm131_40.ext hk
 replace own_bo147_46 := own_bo147_46.ext hk
 replace own_bo154_48 := own_bo154_48.ext hk
 replace own_bo160_50 := own_bo160_50.ext hk
 replace own_bo166_52 := own_bo166_52.ext hk
 replace own_bm166_52 := own_bm166_52.ext hk
 replace kw := kw.x hk
 clear hR hk hg hP
 refine zn (hK54 _ _ ?_)
 try clear hK54 K54
 refine zq fun K56 hK56 => ?_
 refine rg mixed y55 zz55 ?_
 refine .mb rfl e10 ?_
 refine .i (v := (.tuple #[])) (sp_call2 (φ1 := Is (.pointer none)) (φ2 := Is (.int .i64 (1))) ent22 (hlc rfl) Has.cst (fun g u1 u2 W hk hgk h1 h2 => by have h1 : u1 = _ := h1; subst u1; have h2 : u2 = _ := h2; subst u2; exact FailN_ok (1) W)) ?_
 refine .dn fun a57 g W57 y57 zz57 hk hg hV hR hP => ?_
 obtain ⟨-, -, -⟩ := hV
 replace e10 := ft hR e10
 replace own_b1_7 := own_b1_7.ext hk
 replace own_b2_10 := own_b2_10.ext hk
 replace own_b7_36 := own_b7_36.ext hk
 replace own_bo131_40 := own_bo131_40.ext hk
 replace own_bm131_40 := own_bm131_40.ext hk
 replace own_bo147_46 := own_bo147_46.ext hk
 replace own_bo154_48 := own_bo154_48.ext hk
 replace own_bo160_50 := own_bo160_50.ext hk
 replace own_bo166_52 := own_bo166_52.ext hk
 replace own_bm166_52 := own_bm166_52.ext hk
 replace kw := kw.x hk
 clear hR hk hg hP
 refine zn (hK56 _ _ ?_)
 try clear hK56 K56
 refine zq fun K58 hK58 => ?_
 refine rg mixed y57 zz57 ?_
 refine .i (v := (.agg #[(.int .u8 (0)), (.int .i64 (0)), (.string (⟨#[]⟩)), (.slice none 0 0), (.slice none 0 0), (.map none), (.int .i64 (0))])) (sp_build (vs := []) Try.underlying74 z74 (pl74 Try.underlying74) trivial rfl) ?_
 refine .boxOp (v := (.agg #[(.int .u8 (0)), (.int .i64 (0)), (.string (⟨#[]⟩)), (.slice none 0 0), (.slice none 0 0), (.map none), (.int .i64 (0))])) (hlc rfl) ?_
 refine .dn fun a59 g W59 y59 zz59 hk hg hV hR hP => ?_
 obtain ⟨⟨b173_59, e173, hb173, own_b173_59⟩, -, -⟩ := hV
 have lo_b173_59 : w.heap.size ≤ b173_59 := Nat.le_trans kw.size (hg.lo _ _ hb173)
 have ne_b1_7_b173_59 : b1_7 ≠ b173_59 := Nat.ne_of_lt (Nat.lt_of_lt_of_le own_b1_7.lt (hg.lo _ _ hb173))
 have ne_b2_10_b173_59 : b2_10 ≠ b173_59 := Nat.ne_of_lt (Nat.lt_of_lt_of_le own_b2_10.lt (hg.lo _ _ hb173))
 have ne_b7_36_b173_59 : b7_36 ≠ b173_59 := Nat.ne_of_lt (Nat.lt_of_lt_of_le own_b7_36.lt (hg.lo _ _ hb173))
 have ne_bo131_40_b173_59 : bo131_40 ≠ b173_59 := Nat.ne_of_lt (Nat.lt_of_lt_of_le own_bo131_40.lt (hg.lo _ _ hb173))
 have ne_bm131_40_b173_59 : bm131_40 ≠ b173_59 := Nat.ne_of_lt (Nat.lt_of_lt_of_le own_bm131_40.lt (hg.lo _ _ hb173))
 have ne_bo147_46_b173_59 : bo147_46 ≠ b173_59 := Nat.ne_of_lt (Nat.lt_of_lt_of_le own_bo147_46.lt (hg.lo _ _ hb173))
 have ne_bo154_48_b173_59 : bo154_48 ≠ b173_59 := Nat.ne_of_lt (Nat.lt_of_lt_of_le own_bo154_48.lt (hg.lo _ _ hb173))
 have ne_bo160_50_b173_59 : bo160_50 ≠ b173_59 := Nat.ne_of_lt (Nat.lt_of_lt_of_le own_bo160_50.lt (hg.lo _ _ hb173))
 have ne_bo166_52_b173_59 : bo166_52 ≠ b173_59 := Nat.ne_of_lt (Nat.lt_of_lt_of_le own_bo166_52.lt (hg.lo _ _ hb173))
 have ne_bm166_52_b173_59 : bm166_52 ≠ b173_59 := Nat.ne_of_lt (Nat.lt_of_lt_of_le own_bm166_52.lt (hg.lo _ _ hb173))
 have own_b173_59 : Own W59 b173_59 [(.int .u8 (0)), (.int .i64 (0)), (.string (⟨#[]⟩)), (.slice none 0 0), (.slice none 0 0), (.map none), (.int .i64 (0))] 74 := own_b173_59
 replace e10 := ft hR e10
 replace own_b1_7 := own_b1_7.ext hk
 replace own_b2_10 := own_b2_10.ext hk
 replace own_b7_36 := own_b7_36.ext hk
 replace own_bo131_40 := own_bo131_40.ext hk
 replace own_bm131_40 := own_bm131_40.ext hk
 replace own_bo147_46 := own_bo147_46.ext hk
 replace own_bo154_48 := own_bo154_48.ext hk
 replace own_bo160_50 := own_bo160_50.ext hk
 replace own_bo166_52 := own_bo166_52.ext hk
 replace own_bm166_52 := own_bm166_52.ext hk
 replace kw := kw.x hk
 clear hR hk hg hP hb173
 refine tail_assign (v := (.pointer (some ⟨b173_59, 0, none⟩))) e173 (by rw [y59]; exact Nat.le_of_ble_eq_true rfl) (fun a60 y60 zz60 e11 hr => ?_)
 replace y60 := y60.trans y59; replace zz60 := zz60.trans zz59
 replace e10 := (hr 10 (by decide)).trans e10
 replace e173 := (hr 173 (by decide)).trans e173
 clear hr
 refine zn (hK58 _ _ ?_)
 try clear hK58 K58
 refine zq fun K61 hK61 => ?_
 refine rg mixed y60 zz60 ?_
 refine .mb rfl e10 ?_
 refine .i (v := (.bool (false))) (sp_call2 (φ1 := Is (.pointer none)) (φ2 := Is (.string (⟨#[97]⟩))) ent42 (hlc rfl) Has.cst (fun g u1 u2 W hk hgk h1 h2 => by have h1 : u1 = _ := h1; subst u1; have h2 : u2 = _ := h2; subst u2; exact HasN_ok _ W)) ?_
 refine .i (sp_not (hlc rfl)) ?_
 refine .i (sp_move (hlc rfl)) ?_
 refine .em rfl (hlc rfl) rfl e10 ?_
 refine .e (v := (.string (⟨#[]⟩))) rfl (hlc rfl) (fun hg => sp_call2 (φ1 := Is (.pointer none)) (φ2 := Is (.string (⟨#[97]⟩))) ent43 ((hlc rfl).undE hg) Has.cst (fun g u1 u2 W hk hgk h1 h2 => by have h1 : u1 = _ := h1; subst u1; have h2 : u2 = _ := h2; subst u2; exact TextN_ok _ W)) ?_
 refine .e rfl (hlc rfl) (fun hg => sp_sEql ((hlc rfl).undE hg) Has.cst) ?_
 refine .i (sp_and (hlc rfl) ((hlc rfl).weak fun hq => hq)) ?_
 refine .i (sp_move (hlc rfl)) ?_
 refine .em rfl (hlc rfl) rfl e10 ?_
 refine .e (v := (.int .i64 (0))) rfl (hlc rfl) (fun hg => sp_call4 (φ1 := Is (.pointer none)) (φ2 := Is (.string (⟨#[97]⟩))) (φ3 := Is (.int .i64 (0))) (φ4 := Is (.int .i64 (1))) ent44 ((hlc rfl).undE hg) Has.cst Has.cst Has.cst (fun g u1 u2 u3 u4 W hk hgk h1 h2 h3 h4 => by have h1 : u1 = _ := h1; subst u1; have h2 : u2 = _ := h2; subst u2; have h3 : u3 = _ := h3; subst u3; have h4 : u4 = _ := h4; subst u4; exact NumN_ok _ _ _ W)) ?_
 refine .e rfl (hlc rfl) (fun hg => sp_eql ((hlc rfl).undE hg) Has.cst) ?_
 refine .i (sp_and (hlc rfl) ((hlc rfl).weak fun hq => hq)) ?_
 refine .i (sp_move (hlc rfl)) ?_
 refine .em rfl (hlc rfl) rfl e10 ?_
 refine .e (v := (.bool (false))) rfl (hlc rfl) (fun hg => sp_call2 (φ1 := Is (.pointer none)) (φ2 := Is (.string (⟨#[97]⟩))) ent45 ((hlc rfl).undE hg) Has.cst (fun g u1 u2 W hk hgk h1 h2 => by have h1 : u1 = _ := h1; subst u1; have h2 : u2 = _ := h2; subst u2; exact BoolN_ok _ W)) ?_
 refine .e rfl (hlc rfl) (fun hg => sp_not ((hlc rfl).undE hg)) ?_
 refine .i (sp_and (hlc rfl) ((hlc rfl).weak fun hq => hq)) ?_
 refine .i (sp_move (hlc rfl)) ?_
 refine .em rfl (hlc rfl) rfl e10 ?_
 refine .e (v := (.slice none 0 0)) rfl (hlc rfl) (fun hg => sp_call3 (φ1 := Is (.pointer none)) (φ2 := Is (.string (⟨#[97]⟩))) (φ3 := Is (.int .i64 (1))) ent46 ((hlc rfl).undE hg) Has.cst Has.cst (fun g u1 u2 u3 W hk hgk h1 h2 h3 => by have h1 : u1 = _ := h1; subst u1; have h2 : u2 = _ := h2; subst u2; have h3 : u3 = _ := h3; subst u3; exact ListN_ok _ _ W)) ?_
 refine .e rfl (hlc rfl) (fun hg => sp_lenV Try.underlying31 ((hlc rfl).undE hg)) ?_
 refine .e rfl (hlc rfl) (fun hg => sp_eql ((hlc rfl).undE hg) Has.cst) ?_
 refine .i (sp_and (hlc rfl) ((hlc rfl).weak fun hq => hq)) ?_
 refine .i (sp_move (hlc rfl)) ?_
 refine .em rfl (hlc rfl) rfl e10 ?_
 refine .e (v := (.slice none 0 0)) rfl (hlc rfl) (fun hg => sp_call3 (φ1 := Is (.pointer none)) (φ2 := Is (.string (⟨#[97]⟩))) (φ3 := Is (.int .i64 (1))) ent41 ((hlc rfl).undE hg) Has.cst Has.cst (fun g u1 u2 u3 W hk hgk h1 h2 h3 => by have h1 : u1 = _ := h1; subst u1; have h2 : u2 = _ := h2; subst u2; have h3 : u3 = _ := h3; subst u3; exact TextsN_ok _ _ W)) ?_
 refine .e rfl (hlc rfl) (fun hg => sp_lenV Try.underlying23 ((hlc rfl).undE hg)) ?_
 refine .e rfl (hlc rfl) (fun hg => sp_eql ((hlc rfl).undE hg) Has.cst) ?_
 refine .i (sp_and (hlc rfl) ((hlc rfl).weak fun hq => hq)) ?_
 refine .i (sp_move (hlc rfl)) ?_
 refine .em rfl (hlc rfl) rfl e10 ?_
 refine .e (v := (.agg #[(.int .u8 (0)), (.int .i64 (0)), (.string (⟨#[]⟩)), (.slice none 0 0), (.slice none 0 0)])) rfl (hlc rfl) (fun hg => sp_call3 (φ1 := Is (.pointer none)) (φ2 := Is (.string (⟨#[97]⟩))) (φ3 := Is (.int .i64 (1))) ent47 ((hlc rfl).undE hg) Has.cst Has.cst (fun g u1 u2 u3 W hk hgk h1 h2 h3 => by have h1 : u1 = _ := h1; subst u1; have h2 : u2 = _ := h2; subst u2; have h3 : u3 = _ := h3; subst u3; exact ObjectN_ok _ _ W)) ?_
 refine .e (v := (.int .u8 (0))) rfl (hlc rfl) (fun hg => sp_field1 ((hlc rfl).undE hg) Try.underlying33 rfl agg5 rfl) ?_
 refine .e rfl (hlc rfl) (fun hg => sp_eql ((hlc rfl).undE hg) Has.cst) ?_
 refine .i (sp_and (hlc rfl) ((hlc rfl).weak fun hq => hq)) ?_
 refine .i (sp_move (hlc rfl)) ?_
 refine .em rfl (hlc rfl) rfl e10 ?_
 refine .e (v := (.agg #[(.int .u8 (0)), (.int .i64 (0)), (.string (⟨#[]⟩)), (.slice none 0 0), (.slice none 0 0)])) rfl (hlc rfl) (fun hg => sp_call2 (φ1 := Is (.pointer none)) (φ2 := Is (.string (⟨#[97]⟩))) ent48 ((hlc rfl).undE hg) Has.cst (fun g u1 u2 W hk hgk h1 h2 => by have h1 : u1 = _ := h1; subst u1; have h2 : u2 = _ := h2; subst u2; exact AnyN_ok _ W)) ?_
 refine .e (v := (.int .u8 (0))) rfl (hlc rfl) (fun hg => sp_field1 ((hlc rfl).undE hg) Try.underlying33 rfl agg5 rfl) ?_
 refine .e rfl (hlc rfl) (fun hg => sp_eql ((hlc rfl).undE hg) Has.cst) ?_
 refine .i (sp_and (hlc rfl) ((hlc rfl).weak fun hq => hq)) ?_
 refine .i (sp_move (hlc rfl)) ?_
 refine .em rfl (hlc rfl) rfl e10 ?_
 refine .e (v := (.int .i64 (2))) rfl (hlc rfl) (fun hg => sp_call1 (φ1 := Is (.pointer none)) ent24 ((hlc rfl).undE hg) (fun g u1 W hk hgk h1 => by have h1 : u1 = _ := h1; subst u1; exact ErrN_ok W)) ?_
 refine .e rfl (hlc rfl) (fun hg => sp_eql ((hlc rfl).undE hg) Has.cst) ?_
 refine .i (sp_and (hlc rfl) ((hlc rfl).weak fun hq => hq)) ?_
 refine .i (sp_move (hlc rfl)) ?_
 refine .em rfl (hlc rfl) rfl e10 ?_
 refine .e (v := (.int .i64 (2))) rfl (hlc rfl) (fun hg => sp_call1 (φ1 := Is (.pointer none)) ent32 ((hlc rfl).undE hg) (fun g u1 W hk hgk h1 => by have h1 : u1 = _ := h1; subst u1; exact DoneN_ok W)) ?_
 refine .e rfl (hlc rfl) (fun hg => sp_eql ((hlc rfl).undE hg) Has.cst) ?_
 refine .i (sp_and (hlc rfl) ((hlc rfl).weak fun hq => hq)) ?_
 refine .i (sp_move (hlc rfl)) ?_
 refine .em rfl (hlc rfl) rfl e11 ?_
 refine .e (v := (.string (⟨#[]⟩))) rfl (hlc rfl) (fun hg => sp_call2 (φ1 := Is (.pointer (some ⟨b173_59, 0, none⟩))) (φ2 := Is (.string (⟨#[97]⟩))) ent43 ((hlc rfl).undE hg) Has.cst (fun g u1 u2 W hk hgk h1 h2 => by have h1 : u1 = _ := h1; subst u1; have h2 : u2 = _ := h2; subst u2; exact TextD_ok _ _ _ _ _ _ _ (by decide) _ W _ (own_b173_59.ext hk))) ?_
 refine .e rfl (hlc rfl) (fun hg => sp_sEql ((hlc rfl).undE hg) Has.cst) ?_
 refine .i (sp_and (hlc rfl) ((hlc rfl).weak fun hq => hq)) ?_
 refine .i (sp_move (hlc rfl)) ?_
 refine .em rfl (hlc rfl) rfl e11 ?_
 refine .e (v := (.int .i64 (errK 0 0))) rfl (hlc rfl) (fun hg => sp_call1 (φ1 := Is (.pointer (some ⟨b173_59, 0, none⟩))) ent24 ((hlc rfl).undE hg) (fun g u1 W hk hgk h1 => by have h1 : u1 = _ := h1; subst u1; exact Err_ok _ _ _ _ _ _ _ W _ (own_b173_59.ext hk))) ?_
 refine .e rfl (hlc rfl) (fun hg => sp_eql ((hlc rfl).undE hg) Has.cst) ?_
 refine .i (sp_and (hlc rfl) ((hlc rfl).weak fun hq => hq)) ?_
 refine .i (sp_move (hlc rfl)) ?_
 refine .em rfl (hlc rfl) rfl e11 ?_
 refine .e (v := (.int .i64 (errK 0 0))) rfl (hlc rfl) (fun hg => sp_call1 (φ1 := Is (.pointer (some ⟨b173_59, 0, none⟩))) ent32 ((hlc rfl).undE hg) (fun g u1 W hk hgk h1 => by have h1 : u1 = _ := h1; subst u1; exact DoneD_ok _ _ _ _ _ _ _ (by decide) W _ (own_b173_59.ext hk))) ?_
 refine .e rfl (hlc rfl) (fun hg => sp_eql ((hlc rfl).undE hg) Has.cst) ?_
 refine .i (sp_and (hlc rfl) ((hlc rfl).weak fun hq => hq)) ?_
 refine .i (sp_move (hlc rfl)) ?_
 refine .em rfl (hlc rfl) rfl e11 ?_
 refine .e (v := (.bool (false))) rfl (hlc rfl) (fun hg => sp_call2 (φ1 := Is (.pointer (some ⟨b173_59, 0, none⟩))) (φ2 := Is (.string (⟨#[]⟩))) ent42 ((hlc rfl).undE hg) Has.cst (fun g u1 u2 W hk hgk h1 h2 => by have h1 : u1 = _ := h1; subst u1; have h2 : u2 = _ := h2; subst u2; exact HasOD_ok _ _ _ _ _ _ _ (by decide) _ W _ (own_b173_59.ext hk))) ?_
 refine .e rfl (hlc rfl) (fun hg => sp_not ((hlc rfl).undE hg)) ?_
 refine .i (sp_and (hlc rfl) ((hlc rfl).weak fun hq => hq)) ?_
 refine .al rfl ?_
 refine .dn fun a62 g W62 y62 zz62 hk hg hV hR hP => ?_
 obtain ⟨e0, -, -, -, -, -, -, -, -, -, -, -, -, -, -, -, -, -, -, -, -, -, -, -, -, -, -, -, -, -, -, -, -, -, -, -, -, -, -, -, -, -, -, -, -, -, -, -, -, -, -, -, -, -, -, -, -, -, -, -, -, -, -, -, -, -, -, -, -, -, -, -, -, -⟩ := hV
 replace e0 := e0.q
 replace own_b1_7 := own_b1_7.ext hk
 replace own_b2_10 := own_b2_10.ext hk
 replace own_b7_36 := own_b7_36.ext hk
 replace own_bo131_40 := own_bo131_40.ext hk
 replace own_bm131_40 := own_bm131_40.ext hk
 replace own_bo147_46 := own_bo147_46.ext hk
 replace own_bo154_48 := own_bo154_48.ext hk
 replace own_bo160_50 := own_bo160_50.ext hk
 replace own_bo166_52 := own_bo166_52.ext hk
 replace own_bm166_52 := own_bm166_52.ext hk
 replace own_b173_59 := own_b173_59.ext hk
 replace kw := kw.x hk
 clear hR hk hg hP
 refine zn (hK61 _ _ ?_)
 try clear hK61 K61
 refine wp_ret ?_
 refine ret1 rfl zz62 e0 ⟨_, rfl, kw, ?_⟩
 exact congrArg Value.bool (by kernel_rfl)
end Go.Proofs.Ytnobijngkpflcaa
namespace Go.Eng
open Go.ChangeShapes Go.WideShapes Go.ChangeAt Go.RowKit
section
variable {H : Type} {enc : TypeId × Value → H} {P : Program} {W : World}
theorem trodAll_stays (hl : laidOutB P = true) {W' : World} (hb : Below W.heap.size W W') : ∀ (ts : List TypeId) (vs : List Value) (ds : List (DataW H)) (ps : List MemPlace), (∀ t ∈ ts, P.readableRec t = true ∧ t < P.types.size) → (∀ x ∈ ps, x.block < W.heap.size) →
    DataW.TrodAll enc P W 0 (fun _ => true) true ts vs ds ps → DataW.TrodAll enc P W' 0 (fun b => decide (b < W.heap.size)) true ts vs ds ps
  | [], [], [], _, _, _, h => h
  | t :: ts, v :: vs, d :: ds, ps, ht, hlt, h => by
    obtain ⟨p, q, h1, h2, rfl⟩ := h
    exact ⟨p, q, Below.trod hl (ht t List.mem_cons_self).1 (ht t List.mem_cons_self).2 h1 hb (fun x hx => hlt x (List.mem_append_left _ hx)),
      trodAll_stays hl hb ts vs ds q (fun t h => ht t (List.mem_cons_of_mem _ h)) (fun x hx => hlt x (List.mem_append_right _ hx)) h2, rfl⟩
  | [], [], _ :: _, _, _, _, h => h.elim
  | [], _ :: _, _, _, _, _, h => h.elim
  | _ :: _, [], _, _, _, _, h => h.elim
  | _ :: _, _ :: _, [], _, _, _, h => h.elim
theorem law_post {f : Func} {s : ChangeSpec} {W' : World} {args : Array Value} {ds gs : List (DataW H)} {before : List MemPlace} {tb : TypeId} (hl : laidOutB P = true) (hpar : ∀ t ∈ f.params.toList, P.readableRec t = true ∧ t < P.types.size)
    (hvars : s.vars = []) (hrt : f.resultTypes = #[tb]) (hb : P.underlying tb = some .bool) (hfn : s.fn H (ds ++ gs) = { results := [.lit (.bool true)], args := ds })
    (hW : DataW.Whole enc P f.params.toList s.vars false W args.toList ds gs before) (hk : Ext W W') : s.post enc P f false true false false W args (.bool true) W' := by
  have hlt := hW.lt
  have hW' := hW
  obtain ⟨p, q, hA, hV, rfl, hfz, hnd⟩ := hW
  have hbel : Below W.heap.size W W' := ⟨hk.os, hk.tape, hk.output, hk.size, fun k h => hk.block k h trivial⟩
  refine ⟨ds, gs, p ++ q, [], p, [], hW', ?_, ?_, ?_, ?_, fun h => by cases h⟩
  · rw [hfn, hrt]
    exact ⟨[], [], ⟨1, by simp [Value.resultList, Value.cells, DataW.trod, hb]⟩, rfl, rfl⟩
  · rw [hfn]
    exact trodAll_stays hl hbel _ _ _ _ hpar (fun x hx => hlt x (List.mem_append_left _ hx)) hA
  · rw [hfn, hvars]; rfl
  · refine ⟨hk.os, hk.output, fun i hi => ?_⟩
    rw [hk.block i hi trivial]
    cases hq : W.heap[i]? with
    | none => rfl
    | some o => cases o <;> simp
end
end Go.Eng
namespace Go.Proofs.Ytnobijngkpflcaa
open Go.Eng Go.ChangeShapes Go.WideShapes Go.ChangeAt Go.RowKit
theorem Try.own : ownKnob Try.prog.godebug = none := by kernel_rfl
theorem Try.laidOut : laidOutB Try.prog = true := by kernel_rfl
set_option maxRecDepth 100000 in
theorem PickNames_lifted (os : Os) (started : os.Started) (H : Type) (enc : TypeId × Value → H) :
    ReturnsInHanded {} Try.checked os 6 .any (Rows.pickNamesSpec.pre6 enc Try.prog Try.f6 Rows.pickNamesRow.domain false) (Rows.pickNamesSpec.post enc Try.prog Try.f6 false true false false) := by
  refine returnsInHanded_of_change (C := Try.checked) Try.own started (by kernel_rfl) Try.func6
    (ChangeSpec.witness6 (enc := enc) (C := Try.checked) false ⟨#[], #[], []⟩ 8 (by kernel_rfl) (by kernel_rfl) (by kernel_rfl) (by kernel_rfl)) ?_
  intro W base args ds gs before hval0 hW hcnd _
  have hval : ∀ (j : Nat) t v, Try.f6.params[j]? = some t → args[j]? = some v → Value.okWide Try.prog W .any base t v := hval0
  have hW' := hW
  obtain ⟨p, q, hA0, hV, rfl, hfz, hnd⟩ := hW
  have hA : DataW.TrodAll enc Try.prog W 0 (fun _ => true) true Try.f6.params.toList args.toList ds p := hA0
  rw [Try.params6] at hA hval
  obtain ⟨hargs, rfl, rfl⟩ := trodAll_nil hA
  have hargs : args = #[] := by simpa using hargs
  subst hargs
  obtain ⟨rfl, rfl⟩ := trodVars_none hV
  refine (PickNames_ok W).mono fun e W' ⟨v, he, hk, hv⟩ => ?_
  subst hv
  exact ⟨_, he, law_post Try.laidOut (of_decide_eq_true (by kernel_rfl)) rfl (tb := 4) (by kernel_rfl) Try.underlying4 rfl hW' hk⟩
theorem pickNames_holds : Rows.PickNamesSaid :=
  OpenClaim.holds_of_wide 6 Try.f6 rfl rfl rfl rfl rfl rfl rfl ⟨rfl, rfl, rfl, rfl, rfl⟩ rfl rfl rfl rfl rfl (by kernel_rfl) Try.func6 (by kernel_rfl)
    (of_decide_eq_true (by kernel_rfl)) (by unfold Func.isWrapper; first | (rw [if_pos (by decide +kernel)]; kernel_rfl) | (rw [if_neg (by decide +kernel)]; exact ⟨rfl, rfl⟩))
    (fun os started H enc _ => PickNames_lifted os started H enc)
end Go.Proofs.Ytnobijngkpflcaa
