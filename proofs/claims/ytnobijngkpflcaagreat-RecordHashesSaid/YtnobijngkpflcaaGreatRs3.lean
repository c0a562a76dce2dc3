/-
  The law RecordHashes of package legatelaw21 returns true for every input, and leaves its arguments as they were. No condition beyond the row's own.
-/
import Derived.Test.YtnobijngkpflcaaGreatRs2
import Derived.Shelf.SlSortCmp.InsertionK
import Derived.Lib.Bytealg
import Derived.Laws.StructEq
import Derived.KernelRfl
namespace Go.Eng
def RetL (W : World) (L : List Nat) (φ : Value → World → Prop) : Ending → World → Prop := fun e W' => ∃ v, e = .returned v ∧ Keeps (fun k => k ∉ L) W W' ∧ φ v W'
theorem sa_notin {w : World} {S' : BSet} {M L : List Nat} (hb : ∀ b ∈ L, b ∈ M) : ∀ b ∈ L, ∀ o, ¬ SA w S' M b o := fun b h o hs => hs.2.2 (hb b h)
theorem sf_notin {w : World} {M L : List Nat} (hb : ∀ b ∈ L, b ∈ M) : ∀ b ∈ L, ∀ o, ¬ SF w M b o := fun b h o hs => hs.2.2 (hb b h)
theorem sub_frnl {W : World} {L : List Nat} (hb : ∀ b ∈ L, b < W.heap.size) : ∀ b' o, Fr W b' o → b' ∉ L := fun b' _ h e => by have := hb b' e; have := h.1; omega
section
variable {w W W' : World} {S : BSet} {M L : List Nat} {d : D} {v : Value} {S0 : Nat → Prop}
theorem sa_keepL (h : Rd W (SA w S M) d v) (k : Keeps (fun x => x ∉ L) W W') (hb : ∀ b ∈ L, b ∈ M) : Rd W' (SA w S M) d v := h.keeps k fun x _ hx e => hx.2.2 (hb x e)
theorem sf_keepL (h : Rd W (SF w M) d v) (k : Keeps (fun x => x ∉ L) W W') (hb : ∀ b ∈ L, b ∈ M) : Rd W' (SF w M) d v := h.keeps k fun x _ hx e => hx.2.2 (hb x e)
theorem own_keepL {b : Nat} {cs : List Value} {T : TypeId} (h : Own W b cs T) (k : Keeps (fun x => x ∉ L) W W') (hne : b ∉ L) : Own W' b cs T := h.keeps k hne
theorem ownM_keepL {b : Nat} {A : As} (h : OwnM W b A) (k : Keeps (fun x => x ∉ L) W W') (hne : b ∉ L) : OwnM W' b A := h.keeps k hne
theorem keeps_L (h : Keeps S0 w W) (k : Keeps (fun x => x ∉ L) W W') (hb : ∀ b ∈ L, w.heap.size ≤ b ∨ ¬ S0 b) : Keeps S0 w W' :=
  ⟨k.os.trans h.os, k.tape.trans h.tape, k.output.trans h.output, Nat.le_trans h.size k.size, fun i hi hs => by
    rw [k.block i (Nat.lt_of_lt_of_le hi h.size) (fun hm => (hb i hm).elim (fun h => by omega) (fun h => h hs))]; exact h.block i hi hs⟩
theorem keeps_storeN {b : Nat} (h : Keeps S0 w W) (k : Keeps (fun x => x ≠ b) W W') (hb : ¬ S0 b) : Keeps S0 w W' :=
  ⟨k.os.trans h.os, k.tape.trans h.tape, k.output.trans h.output, Nat.le_trans h.size k.size, fun i hi hs => by
    rw [k.block i (Nat.lt_of_lt_of_le hi h.size) (fun e => hb (e ▸ hs))]; exact h.block i hi hs⟩
end
section
variable {P : Program} {ops : Array Oper} {S : Nat → Prop} {w0 : World} {a0 : Act} {Γ : Ctx}
variable {d : Option Tmp} {ty : TypeId} {pos : String} {af : Array Edge}
variable {K : List Oper → Ctx → (World → Prop) → List Bool → Prop} {l : List Oper} {Ψ Ψ' : World → Prop} {ms : List Bool}
theorem Chain.callL {f : FuncId} {xs : Array Operand} {ts : Array TypeId} {φ : Fact} (hf : Enters P f) (hst : Stable S φ) (hst' : StableE Ψ')
    (hc : ∀ a g W, Keeps S w0 W → GOk w0 W g → Env Γ a0 a g W (Oper.looksAt ops ⟨d, .call ⟨.value (.func f), xs, ts⟩, ty, pos, af, none⟩) → Ψ W → Calls P f (xs.map a.eval) W fun e W' => ∃ v, e = .returned v ∧ Keeps S W W' ∧ φ g v W' ∧ Ψ' W')
    (h : Chain P ops S w0 a0 K false l ((d, φ) :: Γ) Ψ' (true :: ms)) :
    Chain P ops S w0 a0 K false (⟨d, .call ⟨.value (.func f), xs, ts⟩, ty, pos, af, none⟩ :: l) Γ Ψ ms := by
  refine Chain.main φ Ψ' hst hst' (fun a g W hk hg he hψ => ?_) h
  have hw : Region.wanted (⟨d, .call ⟨.value (.func f), xs, ts⟩, ty, pos, af, none⟩ : Oper) (yielded ops a.tmps) = true := rfl
  unfold ObRun; rw [if_pos hw]
  unfold OpRuns
  rw [run_call rfl hf]
  exact hc a g W hk hg he hψ
theorem Chain.callL1 {f : FuncId} {x : Operand} {ts : Array TypeId} {φ1 φ : Fact} (hf : Enters P f) (hx : Has S w0 a0 Γ x φ1) (hst : Stable S φ) (hst' : StableE Ψ')
    (hc : ∀ g u1 W, Keeps S w0 W → GOk w0 W g → φ1 g u1 W → Ψ W → Calls P f #[u1] W fun e W' => ∃ v, e = .returned v ∧ Keeps S W W' ∧ φ g v W' ∧ Ψ' W')
    (h : Chain P ops S w0 a0 K false l ((d, φ) :: Γ) Ψ' (true :: ms)) : Chain P ops S w0 a0 K false (⟨d, .call ⟨.value (.func f), #[x], ts⟩, ty, pos, af, none⟩ :: l) Γ Ψ ms :=
  Chain.callL hf hst hst' (fun a g W hk hg he hψ => by simpa using hc g _ W hk hg (hx.of_env hk hg he (by simp [Op.operands, Call.operands])) hψ) h
theorem Chain.callL2 {f : FuncId} {x y : Operand} {ts : Array TypeId} {φ1 φ2 φ : Fact} (hf : Enters P f) (hx : Has S w0 a0 Γ x φ1) (hy : Has S w0 a0 Γ y φ2) (hst : Stable S φ) (hst' : StableE Ψ')
    (hc : ∀ g u1 u2 W, Keeps S w0 W → GOk w0 W g → φ1 g u1 W → φ2 g u2 W → Ψ W → Calls P f #[u1, u2] W fun e W' => ∃ v, e = .returned v ∧ Keeps S W W' ∧ φ g v W' ∧ Ψ' W')
    (h : Chain P ops S w0 a0 K false l ((d, φ) :: Γ) Ψ' (true :: ms)) : Chain P ops S w0 a0 K false (⟨d, .call ⟨.value (.func f), #[x, y], ts⟩, ty, pos, af, none⟩ :: l) Γ Ψ ms :=
  Chain.callL hf hst hst' (fun a g W hk hg he hψ => by simpa using hc g _ _ W hk hg (hx.of_env hk hg he (by simp [Op.operands, Call.operands])) (hy.of_env hk hg he (by simp [Op.operands, Call.operands])) hψ) h
theorem Chain.callL3 {f : FuncId} {x y z : Operand} {ts : Array TypeId} {φ1 φ2 φ3 φ : Fact} (hf : Enters P f) (hx : Has S w0 a0 Γ x φ1) (hy : Has S w0 a0 Γ y φ2) (hz : Has S w0 a0 Γ z φ3) (hst : Stable S φ) (hst' : StableE Ψ')
    (hc : ∀ g u1 u2 u3 W, Keeps S w0 W → GOk w0 W g → φ1 g u1 W → φ2 g u2 W → φ3 g u3 W → Ψ W → Calls P f #[u1, u2, u3] W fun e W' => ∃ v, e = .returned v ∧ Keeps S W W' ∧ φ g v W' ∧ Ψ' W')
    (h : Chain P ops S w0 a0 K false l ((d, φ) :: Γ) Ψ' (true :: ms)) : Chain P ops S w0 a0 K false (⟨d, .call ⟨.value (.func f), #[x, y, z], ts⟩, ty, pos, af, none⟩ :: l) Γ Ψ ms :=
  Chain.callL hf hst hst' (fun a g W hk hg he hψ => by simpa using hc g _ _ _ W hk hg (hx.of_env hk hg he (by simp [Op.operands, Call.operands])) (hy.of_env hk hg he (by simp [Op.operands, Call.operands])) (hz.of_env hk hg he (by simp [Op.operands, Call.operands])) hψ) h
theorem Chain.callL4 {f : FuncId} {x y z q : Operand} {ts : Array TypeId} {φ1 φ2 φ3 φ4 φ : Fact} (hf : Enters P f) (hx : Has S w0 a0 Γ x φ1) (hy : Has S w0 a0 Γ y φ2) (hz : Has S w0 a0 Γ z φ3) (hq : Has S w0 a0 Γ q φ4) (hst : Stable S φ) (hst' : StableE Ψ')
    (hc : ∀ g u1 u2 u3 u4 W, Keeps S w0 W → GOk w0 W g → φ1 g u1 W → φ2 g u2 W → φ3 g u3 W → φ4 g u4 W → Ψ W → Calls P f #[u1, u2, u3, u4] W fun e W' => ∃ v, e = .returned v ∧ Keeps S W W' ∧ φ g v W' ∧ Ψ' W')
    (h : Chain P ops S w0 a0 K false l ((d, φ) :: Γ) Ψ' (true :: ms)) : Chain P ops S w0 a0 K false (⟨d, .call ⟨.value (.func f), #[x, y, z, q], ts⟩, ty, pos, af, none⟩ :: l) Γ Ψ ms :=
  Chain.callL hf hst hst' (fun a g W hk hg he hψ => by simpa using hc g _ _ _ _ W hk hg (hx.of_env hk hg he (by simp [Op.operands, Call.operands])) (hy.of_env hk hg he (by simp [Op.operands, Call.operands])) (hz.of_env hk hg he (by simp [Op.operands, Call.operands])) (hq.of_env hk hg he (by simp [Op.operands, Call.operands])) hψ) h
theorem sp_mkF1 {gd : Option (Nat × Bool)} {x : Operand} {f : FuncId} {u : Value} (hx : Has S w0 a0 Γ x (Is u)) : Spec P ops S w0 a0 Γ ⟨d, .makeFunc (.func f) #[] #[x], ty, pos, af, gd⟩ (Is (.func (.func f) #[] #[u])) := sp_mkF0 fun a g W hk hg he => by
  have e1 : a.eval x = u := hx.of_env hk hg he (by simp [Op.operands])
  simp [e1]
theorem stE_and {Ψ1 Ψ2 : World → Prop} (h1 : StableE Ψ1) (h2 : StableE Ψ2) : StableE fun W => Ψ1 W ∧ Ψ2 W := fun W W' k h => ⟨h1 W W' k h.1, h2 W W' k h.2⟩
theorem stE_own {b : Nat} {cs : List Value} {T : TypeId} : StableE fun W => Own W b cs T := fun _ _ k h => h.ext k
theorem stE_ownM {b : Nat} {A : As} : StableE fun W => OwnM W b A := fun _ _ k h => h.ext k
end
end Go.Eng
namespace Go.Eng
instance : Inhabited Mb := ⟨⟨⟨#[]⟩, V.zero⟩⟩
def cfM (a b : Mb) : Int := Lib.compareBytes a.nm.data.toList b.nm.data.toList
def ltM (a b : Mb) : Bool := decide (cfM a b < 0)
def outerF {α : Type} [Inhabited α] (lt : α → α → Bool) : Nat → Nat → Array α → Array α
  | 0, _, d => d
  | f + 1, i, d => outerF lt f (i + 1) (Sort.insInner lt 0 i d)
def sortMb (L : List Mb) : List Mb := (outerF ltM (L.length - 1) 1 L.toArray).toList
theorem insOuter_eq {α : Type} [Inhabited α] (lt : α → α → Bool) (b : Nat) : ∀ (f i : Nat) (d : Array α), b - i = f → Sort.insOuter lt 0 b i d = outerF lt f i d
  | 0, i, d, h => by rw [Sort.insOuter, if_neg (by omega)]; rfl
  | f + 1, i, d, h => by rw [Sort.insOuter, if_pos (by omega), insOuter_eq lt b f (i + 1) _ (by omega)]; rfl
theorem get!_map {α β : Type} [Inhabited α] [Inhabited β] (g : α → β) (hg : g default = default) (d : Array α) (j : Nat) : (d.map g)[j]! = g d[j]! := by
  by_cases h : j < d.size
  · rw [getElem!_pos _ j (by simpa using h), getElem!_pos d j h]; simp
  · rw [getElem!_neg _ j (by simpa using h), getElem!_neg d j h, hg]
theorem insInner_map {α β : Type} [Inhabited α] [Inhabited β] {lt : α → α → Bool} {lt' : β → β → Bool} (g : α → β) (hg : g default = default) (hl : ∀ x y, lt' (g x) (g y) = lt x y) : ∀ (j : Nat) (d : Array α), (Sort.insInner lt 0 j d).map g = Sort.insInner lt' 0 j (d.map g)
  | 0, d => rfl
  | j + 1, d => by
    rw [Sort.insInner, Sort.insInner, get!_map g hg, get!_map g hg, hl]
    split
    · rw [insInner_map g hg hl j]
      congr 1
      unfold Sort.swp
      rw [get!_map g hg, get!_map g hg]
      simp
    · rfl
theorem outerF_map {α β : Type} [Inhabited α] [Inhabited β] {lt : α → α → Bool} {lt' : β → β → Bool} (g : α → β) (hg : g default = default) (hl : ∀ x y, lt' (g x) (g y) = lt x y) : ∀ (f i : Nat) (d : Array α), (outerF lt f i d).map g = outerF lt' f i (d.map g)
  | 0, _, d => rfl
  | f + 1, i, d => by rw [outerF, outerF, outerF_map g hg hl f, insInner_map g hg hl]
theorem insInner_size {α : Type} [Inhabited α] (lt : α → α → Bool) : ∀ (j : Nat) (d : Array α), (Sort.insInner lt 0 j d).size = d.size
  | 0, d => rfl
  | j + 1, d => by
    rw [Sort.insInner]
    split
    · rw [insInner_size lt j]; simp [Sort.swp]
    · rfl
theorem outerF_size {α : Type} [Inhabited α] (lt : α → α → Bool) : ∀ (f i : Nat) (d : Array α), (outerF lt f i d).size = d.size
  | 0, _, d => rfl
  | f + 1, i, d => by rw [outerF, outerF_size lt f, insInner_size]
theorem sortMb_len (L : List Mb) : (sortMb L).length = L.length := by unfold sortMb; rw [Array.length_toList, outerF_size]; simp
theorem outerF_id {α : Type} [Inhabited α] (lt : α → α → Bool) (d : Array α) (h : ∀ j, j + 1 < d.size → lt d[j + 1]! d[j]! = false) : ∀ (f i : Nat), i + f ≤ d.size → outerF lt f i d = d
  | 0, _, _ => rfl
  | f + 1, i, hi => by
    have : Sort.insInner lt 0 i d = d := by
      cases i with
      | zero => rfl
      | succ j => rw [Sort.insInner, h j (by omega)]; simp
    rw [outerF, this, outerF_id lt d h f (i + 1) (by omega)]
theorem sortMb_id (L : List Mb) (h : ∀ j (hj : j + 1 < L.length), ltM L[j + 1] L[j] = false) : sortMb L = L := by
  cases L with
  | nil => rfl
  | cons x xs =>
    unfold sortMb
    rw [outerF_id]
    · intro j hj
      simp at hj
      rw [getElem!_pos _ (j + 1) (by simp; omega), getElem!_pos _ j (by simp; omega)]
      simp only [List.getElem_toArray]
      exact h j (by simp; omega)
    · simp; omega
structure MbC (w : World) (X : BSet) where
  enc : List Value
  mb : Mb
  ok : RdC w X mb.d enc
instance (w : World) (X : BSet) : Inhabited (MbC w X) := ⟨⟨[.string ⟨#[]⟩, .int .u8 0, .int .i64 0, .string ⟨#[]⟩, .slice none 0 0, .slice none 0 0], ⟨⟨#[]⟩, V.zero⟩, by simp only [Mb.d, RdC]; exact zMb w X⟩⟩
theorem MbC.len {w : World} {X : BSet} (p : MbC w X) : p.enc.length = 6 := (rdc_width _ _ p.ok).trans (width_Mb _)
theorem MbC.mbd {w : World} {X : BSet} : (default : MbC w X).mb = default := rfl
theorem row_split {w : World} {X : BSet} : ∀ (L : List Mb) (cs : List Value), RowIs w X 6 (L.map Mb.d) cs → ∃ l : List (MbC w X), l.map MbC.mb = L ∧ cs = (l.map MbC.enc).flatten
  | [], cs, h => ⟨[], rfl, by simp only [List.map_nil, RowIs] at h; rw [h]; rfl⟩
  | m :: L, cs, h => by
    simp only [List.map_cons, RowIs] at h
    obtain ⟨c, r, rfl, h1, h2, h3⟩ := h
    obtain ⟨l, e1, e2⟩ := row_split L r h3
    exact ⟨⟨c, m, h2⟩ :: l, by rw [List.map_cons, e1], by rw [e2]; rfl⟩
theorem row_join {w W : World} {X : BSet} (hs : w.heap.size ≤ W.heap.size) (hk : ∀ b, X b w.heap[b]? → b < w.heap.size → W.heap[b]? = w.heap[b]?) : ∀ (l : List (MbC w X)), RowIs W X 6 ((l.map MbC.mb).map Mb.d) (l.map MbC.enc).flatten
  | [] => rfl
  | p :: l => ⟨p.enc, _, rfl, p.len, rdc_move hs (fun b hb hlt => ⟨hk b hb hlt, by rw [hk b hb hlt]; exact hb⟩) _ _ p.ok, row_join hs hk l⟩
theorem flat_at {w : World} {X : BSet} : ∀ (l : List (MbC w X)) (t : Nat), t < l.length * 6 → (l.map MbC.enc).flatten[t]? = some (((l[t / 6]?).getD default).enc[t % 6]!)
  | [], t, h => by simp at h
  | p :: l, t, h => by
    rw [List.map_cons, List.flatten_cons]
    have hp := p.len
    by_cases ht : t < 6
    · rw [List.getElem?_append_left (by omega), Nat.div_eq_of_lt ht, Nat.mod_eq_of_lt ht, getElem!_pos _ t (by simp; omega)]
      simp [List.getElem?_eq_getElem (show t < p.enc.length by omega)]
    · have hd : t / 6 = (t - 6) / 6 + 1 := by omega
      have hm : t % 6 = (t - 6) % 6 := by omega
      rw [List.getElem?_append_right (by omega), hp, hd, hm, flat_at l (t - 6) (by simp at h; omega)]
      simp
theorem flat_len {w : World} {X : BSet} : ∀ (l : List (MbC w X)), (l.map MbC.enc).flatten.length = l.length * 6
  | [] => rfl
  | p :: l => by rw [List.map_cons, List.flatten_cons, List.length_append, p.len, flat_len l, List.length_cons]; omega
theorem flat_eq {w : World} {X : BSet} (l : List (MbC w X)) : (Sort.flatK MbC.enc 6 l.toArray).toList = (l.map MbC.enc).flatten := by
  apply List.ext_getElem?
  intro t
  by_cases h : t < l.length * 6
  · rw [flat_at l t h]
    have h' : t < (Sort.flatK MbC.enc 6 l.toArray).size := by simpa using h
    have := Sort.get_flatK MbC.enc 6 l.toArray t (by simpa using h)
    rw [getElem!_pos _ t h'] at this
    rw [Array.getElem?_toList, Array.getElem?_eq_getElem h', this]
    congr 2
    simp [Array.getElem!_eq_getD, Array.getD_eq_getD_getElem?]
  · rw [List.getElem?_eq_none (by simpa using h), List.getElem?_eq_none (by rw [flat_len]; omega)]
def RetA (W : World) (hd : Option Nat) (φ : Value → World → Prop) : Ending → World → Prop := fun e W' => ∃ v, e = .returned v ∧ Keeps (fun k => k ∉ blks hd) W W' ∧ φ v W'
set_option maxHeartbeats 1000000 in
theorem ins_row {P : Program} {ρ : Shelf.Ren} (Ly : Proofs.SlLaysF0.n20 P ρ) (aE : ∀ w, (isAgg (ρ.t 24)).run P w = .ok true w) (zE : ∀ w, (Go.sizeOf (ρ.t 24)).run P w = .ok 6 w) (f : Nat) (ef : Enters P f)
    (hf : ∀ (a b : ByteArray) (c1 c2 c3 c4 c5 d1 d2 d3 d4 d5 : Value) (W : World), Calls P f #[.agg #[.string a, c1, c2, c3, c4, c5], .agg #[.string b, d1, d2, d3, d4, d5]] W fun e w' => e = .returned (.int .i64 (Lib.compareBytes a.data.toList b.data.toList)) ∧ ∃ q os, w' = Sort.grow (W.drewN q) os)
    (L : List Mb) (hn : 0 < L.length) (h12 : L.length ≤ 12) (w : World) (lo : Nat) (X : BSet) (v : Value) (hd : Option Nat) (hX : ∀ b o, X b o → b ∉ blks hd) {E : TypeId} (hE : E = ρ.t 24) (hA : Arr w lo E 6 X (L.map Mb.d) v hd) :
    Calls P (ρ.f 20) #[v, .int .i64 0, .int .i64 L.length, .func (.func f) #[] #[]] w (RetA w hd fun u W => u = .tuple #[] ∧ Arr W lo E 6 X ((sortMb L).map Mb.d) v hd) := by
  obtain ⟨g, cap, rfl, rfl⟩ := arr_open hA (by simpa using hn)
  have hA' := hA
  obtain ⟨_, cs, hown, hrow⟩ := hA
  obtain ⟨l, hl, rfl⟩ := row_split L cs hrow
  have hll : l.length = L.length := by rw [← hl, List.length_map]
  obtain ⟨hlen, hown⟩ := hown
  rcases hown with ⟨h0, _⟩ | ⟨g', cap', cur, hs, hlo, hg, hnc, hcm, hcs, htake⟩
  · cases h0
  simp at hs
  obtain ⟨rfl, rfl⟩ := hs
  rw [List.length_map] at hnc htake hlen
  have hsz : l.length * 6 ≤ cur.size := by rw [hcs, hll]; exact Nat.mul_le_mul_right _ hnc
  have hblk : g < w.heap.size := (Array.getElem?_eq_some_iff.1 hg).1
  have hH : Sort.HoldsK MbC.enc 6 w g 0 l.toArray := by
    intro j hj
    simp only [Sort.size_flatK, List.size_toArray] at hj
    constructor
    · have h1 := Sort.get_flatK MbC.enc 6 l.toArray j (by simpa using hj)
      have h2 := flat_at l j hj
      rw [← htake, List.getElem?_take, if_pos (by omega), Array.getElem?_toList] at h2
      unfold World.cell?
      rw [hg]
      simp only [Nat.zero_add]
      rw [h2, h1]
      simp [Array.getElem!_eq_getD, Array.getD_eq_getD_getElem?]
    · simp [World.frozen?, hg]
  have hc := Proofs.AnyQ.insertionSortCmpFunc (α := MbC w X) Ly 6 aE zE MbC.enc MbC.len (fun x u hu => by rw [oneC_eq]; exact rdc_one _ _ x.ok u hu) (fun x y => cfM x.mb y.mb) f #[] g 0 cap 0 l.length l.toArray w ef (fun m os dk _ x y => by
      obtain ⟨cx, mx, hx⟩ := x
      obtain ⟨cy, my, hy⟩ := y
      obtain ⟨a1, c1, a2, c2, ex, _⟩ := rdMb_out (⟨cx, hx, rfl⟩ : Rd w X mx.d (asm mx.d cx))
      obtain ⟨a1', c1', a2', c2', ey, _⟩ := rdMb_out (⟨cy, hy, rfl⟩ : Rd w X my.d (asm my.d cy))
      have ex' : Value.agg cx.toArray = _ := ex
      have ey' : Value.agg cy.toArray = _ := ey
      show Calls P f (#[.agg cx.toArray, .agg cy.toArray] ++ #[]) _ _
      rw [ex', ey']
      exact hf _ _ _ _ _ _ _ _ _ _ _ _ _) hH hblk (Nat.zero_le _) (by simp) (by simp only [maxLen] at hcm; simp; omega)
  have he : Sort.insertionSort (Proofs.ltOf fun x y : MbC w X => cfM x.mb y.mb) l.toArray 0 l.length = outerF (Proofs.ltOf fun x y : MbC w X => cfM x.mb y.mb) (L.length - 1) 1 l.toArray := by
    unfold Sort.insertionSort
    exact insOuter_eq _ _ _ _ _ (by omega)
  rw [he] at hc
  obtain ⟨d', hd'⟩ : ∃ d', d' = outerF (Proofs.ltOf fun x y : MbC w X => cfM x.mb y.mb) (L.length - 1) 1 l.toArray := ⟨_, rfl⟩
  rw [← hd'] at hc
  have hds : d'.size = l.length := by rw [hd', outerF_size]; simp
  have hmap : d'.toList.map MbC.mb = sortMb L := by
    have := outerF_map (lt := Proofs.ltOf fun x y : MbC w X => cfM x.mb y.mb) (lt' := ltM) MbC.mb MbC.mbd (fun x y => rfl) (L.length - 1) 1 l.toArray
    rw [← hd'] at this
    have h2 : (d'.map MbC.mb).toList = _ := congrArg Array.toList this
    rw [Array.toList_map] at h2
    rw [h2, sortMb]
    congr 2
    rw [← hl]; simp
  have hcs' : ((#[Value.slice (some ⟨g, 0, none⟩) L.length cap, .int .i64 (0 : Nat), .int .i64 (l.length : Nat), .func (.func f) #[] #[]] : Array Value)) = #[.slice (some ⟨g, 0, none⟩) (L.map Mb.d).length cap, .int .i64 0, .int .i64 L.length, .func (.func f) #[] #[]] := by rw [hll]; simp
  have hc2 := hc
  rw [show l.toArray.size = L.length by simpa using hll] at hc2
  rw [hcs'] at hc2
  refine hc2.mono ?_
  rintro e W ⟨rfl, n, os, rfl⟩
  have hflat : (Sort.flatK MbC.enc 6 d').toList = (d'.toList.map MbC.enc).flatten := by
    have := flat_eq d'.toList
    simpa using this
  have hput : (Proofs.sortWorldK MbC.enc 6 w g 0 n d' os).heap[g]? = some (.cells (Sort.putCells id 0 (Sort.flatK MbC.enc 6 d') cur) E (0, 0)) := by
    unfold Proofs.sortWorldK Sort.putRowK Sort.putRow
    rw [Sort.heap_grow_old _ _ (by simpa [Sort.mapBlock, Sort.ahead] using hblk)]
    simp [Sort.mapBlock, Sort.ahead, Array.getElem?_modify, hg, Sort.onCells]
  have hoth : ∀ k, k < w.heap.size → k ≠ g → (Proofs.sortWorldK MbC.enc 6 w g 0 n d' os).heap[k]? = w.heap[k]? := fun k hk hne => by
    unfold Proofs.sortWorldK Sort.putRowK Sort.putRow
    rw [Sort.heap_grow_old _ _ (by simpa [Sort.mapBlock, Sort.ahead] using hk)]
    simp [Sort.mapBlock, Sort.ahead, Array.getElem?_modify, Ne.symm hne]
  have hsize : w.heap.size ≤ (Proofs.sortWorldK MbC.enc 6 w g 0 n d' os).heap.size := by
    unfold Proofs.sortWorldK
    rw [Sort.size_grow]
    simp [Sort.putRowK, Sort.putRow, Sort.mapBlock, Sort.ahead]
  refine ⟨_, rfl, ⟨rfl, rfl, rfl, hsize, fun k hk hs => hoth k hk (fun e => hs (by simp [blks, e]))⟩, rfl, rfl, (d'.toList.map MbC.enc).flatten, ⟨?_, .inr ⟨g, cap, _, ?_, hlo, hput, ?_, hcm, ?_, ?_⟩⟩, ?_⟩
  · rw [flat_len, List.length_map, sortMb_len]; simp [hds, hll]
  · rw [List.length_map, List.length_map, sortMb_len]
  · rw [List.length_map, sortMb_len]; exact hnc
  · simp [Sort.putCells, hcs]
  · rw [List.length_map, sortMb_len, ← hflat]
    apply List.ext_getElem?
    intro t
    rw [List.getElem?_take]
    split
    · rename_i ht
      have h1 : t < cur.size := by omega
      have h2 : t < (Sort.flatK MbC.enc 6 d').size := by simp [hds]; omega
      simp only [Sort.putCells, Array.getElem?_toList, Array.getElem?_mapIdx, Array.getElem?_eq_getElem h1, Option.map_some, Array.getElem?_eq_getElem h2]
      rw [if_pos ⟨Nat.zero_le _, by omega⟩, Nat.sub_zero, getElem!_pos _ t h2]
      rfl
    · rw [List.getElem?_eq_none]
      simp [hds]; omega
  · rw [← hmap]
    exact row_join hsize (fun b hb hlt => hoth b hlt (fun e => hX b _ hb (by simp [blks, e]))) _
section
variable {P : Program} {ops : Array Oper} {S : Nat → Prop} {w0 : World} {a0 : Act} {Γ : Ctx}
variable {d : Option Tmp} {ty : TypeId} {pos : String} {af : Array Edge} {gd : Option (Nat × Bool)}
variable {K : List Oper → Ctx → (World → Prop) → List Bool → Prop} {l : List Oper} {Ψ Ψ' : World → Prop} {ms : List Bool}
theorem Has.fn {f : FuncId} : Has S w0 a0 Γ (.func f) (Is (.func (.func f) #[] #[])) := fun _ _ _ _ _ _ => rfl
theorem sp_indexStrK {x y : Operand} {T : TypeId} {s : ByteArray} {k : IntKind} {j : Int} {i : Nat} (hT : P.underlying T = some .string) (hx : Has S w0 a0 Γ x (Is (.string s))) (hy : Has S w0 a0 Γ y (Is (.int k j))) (hj : j = i) (hi : i < s.size) :
    Spec P ops S w0 a0 Γ ⟨d, .index T x y, ty, pos, af, gd⟩ (Is (.int .u8 ((s[i]'hi).toNat : Nat))) := sp_val fun a g W hk hg he => by
  have e1 : a.eval x = .string s := hx.of_env hk hg he (by simp [Op.operands])
  have e2 : a.eval y = .int k j := hy.of_env hk hg he (by simp [Op.operands])
  subst hj
  have hs : s[(i : Int).toNat]? = some (s[i]'hi) := by simp [hi]
  have h0 : (0 : Int) ≤ (i : Int) := by omega
  simp [execOp, e1, e2, Instr.index, asIntOf, run_und hT, h0, hi]
theorem u8i64 (x : UInt8) : IntKind.i64.wrap ((x.toNat : Nat) : Int) = ((x.toNat : Nat) : Int) := i64_in (by have := UInt8.toNat_lt x; omega)
end
end Go.Eng
namespace Go.Proofs.YtnobijngkpflcaaGreat
open Go.Eng
set_option maxRecDepth 100000 in
set_option maxHeartbeats 1000000 in
theorem cmpStr_ok (a b : ByteArray) (w : World) : Calls Tryz.prog 83 #[.string a, .string b] w fun e w' => e = .returned (.int .i64 (Lib.compareBytes a.data.toList b.data.toList)) ∧ w' = w := by
  go_enter Tryz.func83, Tryz.ntmps83
  go_wp2
  rw [run_callFunc_extern Tryz.func101 (by kernel_rfl) (by kernel_rfl) (by kernel_rfl) (e := Extern.BytealgCompare.compare) (by kernel_rfl), Lib.run_compareString]
  simp only [Result.andThen]
  rw [Oper.upon_value]
  go_wp2
  go_ret
  exact ⟨rfl, rfl⟩
theorem compare_ok (a b : ByteArray) (w : World) : Calls Tryz.prog 70 #[.string a, .string b] w fun e w' => e = .returned (.int .i64 (Lib.compareBytes a.data.toList b.data.toList)) ∧ w' = w := by
  go_enter Tryz.func70, Tryz.ntmps70
  go_wp2_with (go_at_call 83; refine (cmpStr_ok _ _ _).mono ?_; rintro e w' ⟨rfl, rfl⟩)
  go_ret
  exact ⟨rfl, rfl⟩
theorem cmpMb_ok (a b : ByteArray) (c1 c2 c3 c4 c5 d1 d2 d3 d4 d5 : Value) (W : World) : Calls Tryz.prog 69 #[.agg #[.string a, c1, c2, c3, c4, c5], .agg #[.string b, d1, d2, d3, d4, d5]] W fun e w' => e = .returned (.int .i64 (Lib.compareBytes a.data.toList b.data.toList)) ∧ ∃ q os, w' = Sort.grow (W.drewN q) os := by
  have hcon := fun W' => compare_ok a b W'
  generalize Lib.compareBytes a.data.toList b.data.toList = r at hcon ⊢
  go_enter Tryz.func69, Tryz.ntmps69
  go_wp2_with (go_at_call 70; refine (hcon _).mono ?_; rintro e w' ⟨rfl, rfl⟩)
  go_ret
  exact ⟨rfl, 0, _, by rw [Sort.alloc_eq_grow, Sort.alloc_eq_grow, Sort.grow_grow]; rfl⟩
def renS : Shelf.Ren := ⟨fun x => if x = 20 then 91 else x, fun x => if x = 22 then 64 else if x = 24 then 66 else if x = 25 then 91 else x, fun x => x⟩
theorem bears20 : Bears Tryz.prog (renS.f 20) (SlBodyF.n20 renS) := ⟨_, by kernel_rfl, Tryz.func91⟩
theorem lays20 : SlLaysF0.n20 Tryz.prog renS := ⟨by kernel_rfl, bears20, Tryz.underlying0, Tryz.isAgg0, Tryz.sizeOf0, Tryz.zeroValue0, Tryz.underlying3, Tryz.isAgg3, Tryz.sizeOf3, Tryz.zeroValue3, Tryz.underlying4, Tryz.isAgg4, Tryz.sizeOf4, Tryz.zeroValue4, Tryz.underlying64, Tryz.isAgg64, Tryz.sizeOf64, Tryz.zeroValue64, Tryz.underlying91, Tryz.isAgg91, Tryz.sizeOf91, Tryz.zeroValue91⟩
theorem ins_ok (L : List Mb) (hn : 0 < L.length) (h12 : L.length ≤ 12) (w : World) (lo : Nat) (X : BSet) (v : Value) (hd : Option Nat) (hX : ∀ b o, X b o → b ∉ blks hd) (hA : Arr w lo 66 6 X (L.map Mb.d) v hd) :
    Calls Tryz.prog 91 #[v, .int .i64 0, .int .i64 L.length, .func (.func 69) #[] #[]] w (RetA w hd fun u W => u = .tuple #[] ∧ Arr W lo 66 6 X ((sortMb L).map Mb.d) v hd) :=
  ins_row lays20 Tryz.isAgg66 Tryz.sizeOf66 69 ent69 cmpMb_ok L hn h12 w lo X v hd hX rfl hA
theorem u8i (x : UInt8) : IntKind.i64.wrap ((0 : Int) + (((x.toNat : Nat) : Int) : Int)) = (0 : Int) + (((x.toNat : Nat) : Int) : Int) := i64_in (by have := UInt8.toNat_lt x; omega)
set_option maxRecDepth 100000 in
theorem len64_ok (n : Nat) (h : n ≤ 12) (w : World) : Calls Tryz.prog 100 #[.int .u64 n] w (Ret w fun u _ => ∃ l : Int, u = .int .i64 l) := by
 refine enter Tryz.func100 rfl Tryz.ntmps100 (lbr rfl) fun a0 y0 zz0 harg => ?_
 have e0 : sl a0 0 = (.int .u64 ((n : Nat))) := harg 0 (lbr rfl)
 have kw := Keeps.refl All w
 clear harg
 refine zq fun K1 hK1 => ?_
 refine rg mixed y0 zz0 ?_
 refine .ac ?_
 refine .dn fun a2 g W2 y2 zz2 hk hg hV hR hP => ?_
 obtain ⟨e2, -⟩ := hV
 replace e0 := ft hR e0
 replace e2 := e2.q
 replace kw := kw.x hk
 clear hR hk hg hP
 refine zn (hK1 _ _ ?_)
 refine zq fun K3 hK3 => ?_
 refine zq fun K4 hK4 => ?_
 refine rg mixed y2 zz2 ?_
 refine .mb rfl e0 ?_
 refine .i (sp_geq (hlc rfl) Has.cst) ?_
 refine .dn fun a5 g W5 y5 zz5 hk hg hV hR hP => ?_
 obtain ⟨e4, -, -⟩ := hV
 replace e0 := ft hR e0
 replace e2 := ft hR e2
 replace e4 := e4.q
 replace kw := kw.x hk
 clear hR hk hg hP
 refine zn (hK4 _ _ ?_)
 refine zc e4 (fun hc => ?_) (fun hc => ?_)
 ·
  exfalso
  have := of_decide_eq_true hc
  omega
 refine wp_skip (hK3 _ _ ?_)
 refine zq fun K6 hK6 => ?_
 refine zq fun K7 hK7 => ?_
 refine rg mixed y5 zz5 ?_
 refine .mb rfl e0 ?_
 refine .i (sp_geq (hlc rfl) Has.cst) ?_
 refine .dn fun a8 g W8 y8 zz8 hk hg hV hR hP => ?_
 obtain ⟨e8, -, -⟩ := hV
 replace e0 := ft hR e0
 replace e2 := ft hR e2
 replace e8 := e8.q
 replace kw := kw.x hk
 clear hR hk hg hP
 refine zn (hK7 _ _ ?_)
 refine zc e8 (fun hc => ?_) (fun hc => ?_)
 ·
  exfalso
  have := of_decide_eq_true hc
  omega
 refine wp_skip (hK6 _ _ ?_)
 refine zq fun K9 hK9 => ?_
 refine zq fun K10 hK10 => ?_
 refine rg mixed y8 zz8 ?_
 refine .mb rfl e0 ?_
 refine .i (sp_geq (hlc rfl) Has.cst) ?_
 refine .dn fun a11 g W11 y11 zz11 hk hg hV hR hP => ?_
 obtain ⟨e14, -, -⟩ := hV
 replace e0 := ft hR e0
 replace e2 := ft hR e2
 replace e14 := e14.q
 replace kw := kw.x hk
 clear hR hk hg hP
 refine zn (hK10 _ _ ?_)
 refine zc e14 (fun hc => ?_) (fun hc => ?_)
 ·
  exfalso
  have := of_decide_eq_true hc
  omega
 refine wp_skip (hK9 _ _ ?_)
 refine zq fun K12 hK12 => ?_
 refine rg mixed y11 zz11 ?_
 refine .mb rfl e2 ?_
 refine .mb rfl e0 ?_
 refine .i (v := (.int .u8 ((n : Nat)))) (sp_conv Tryz.underlying121 Tryz.underlying5 (hlc rfl) (u8_in (by omega))) ?_
 refine .i (v := (.int .u8 ((((⟨#[0, 1, 2, 2, 3, 3, 3, 3, 4, 4, 4, 4, 4, 4, 4, 4, 5, 5, 5, 5, 5, 5, 5, 5, 5, 5, 5, 5, 5, 5, 5, 5, 6, 6, 6, 6, 6, 6, 6, 6, 6, 6, 6, 6, 6, 6, 6, 6, 6, 6, 6, 6, 6, 6, 6, 6, 6, 6, 6, 6, 6, 6, 6, 6, 7, 7, 7, 7, 7, 7, 7, 7, 7, 7, 7, 7, 7, 7, 7, 7, 7, 7, 7, 7, 7, 7, 7, 7, 7, 7, 7, 7, 7, 7, 7, 7, 7, 7, 7, 7, 7, 7, 7, 7, 7, 7, 7, 7, 7, 7, 7, 7, 7, 7, 7, 7, 7, 7, 7, 7, 7, 7, 7, 7, 7, 7, 7, 7, 8, 8, 8, 8, 8, 8, 8, 8, 8, 8, 8, 8, 8, 8, 8, 8, 8, 8, 8, 8, 8, 8, 8, 8, 8, 8, 8, 8, 8, 8, 8, 8, 8, 8, 8, 8, 8, 8, 8, 8, 8, 8, 8, 8, 8, 8, 8, 8, 8, 8, 8, 8, 8, 8, 8, 8, 8, 8, 8, 8, 8, 8, 8, 8, 8, 8, 8, 8, 8, 8, 8, 8, 8, 8, 8, 8, 8, 8, 8, 8, 8, 8, 8, 8, 8, 8, 8, 8, 8, 8, 8, 8, 8, 8, 8, 8, 8, 8, 8, 8, 8, 8, 8, 8, 8, 8, 8, 8, 8, 8, 8, 8, 8, 8, 8, 8, 8, 8, 8, 8, 8, 8, 8, 8, 8, 8, 8, 8]⟩ : ByteArray)[n]'(Nat.lt_of_le_of_lt h (lbr rfl))).toNat : Nat)))) (sp_indexStrK (i := n) Tryz.underlying9 Has.cst (hlc rfl) rfl (Nat.lt_of_le_of_lt h (lbr rfl))) ?_
 refine .i (v := (.int .i64 ((((⟨#[0, 1, 2, 2, 3, 3, 3, 3, 4, 4, 4, 4, 4, 4, 4, 4, 5, 5, 5, 5, 5, 5, 5, 5, 5, 5, 5, 5, 5, 5, 5, 5, 6, 6, 6, 6, 6, 6, 6, 6, 6, 6, 6, 6, 6, 6, 6, 6, 6, 6, 6, 6, 6, 6, 6, 6, 6, 6, 6, 6, 6, 6, 6, 6, 7, 7, 7, 7, 7, 7, 7, 7, 7, 7, 7, 7, 7, 7, 7, 7, 7, 7, 7, 7, 7, 7, 7, 7, 7, 7, 7, 7, 7, 7, 7, 7, 7, 7, 7, 7, 7, 7, 7, 7, 7, 7, 7, 7, 7, 7, 7, 7, 7, 7, 7, 7, 7, 7, 7, 7, 7, 7, 7, 7, 7, 7, 7, 7, 8, 8, 8, 8, 8, 8, 8, 8, 8, 8, 8, 8, 8, 8, 8, 8, 8, 8, 8, 8, 8, 8, 8, 8, 8, 8, 8, 8, 8, 8, 8, 8, 8, 8, 8, 8, 8, 8, 8, 8, 8, 8, 8, 8, 8, 8, 8, 8, 8, 8, 8, 8, 8, 8, 8, 8, 8, 8, 8, 8, 8, 8, 8, 8, 8, 8, 8, 8, 8, 8, 8, 8, 8, 8, 8, 8, 8, 8, 8, 8, 8, 8, 8, 8, 8, 8, 8, 8, 8, 8, 8, 8, 8, 8, 8, 8, 8, 8, 8, 8, 8, 8, 8, 8, 8, 8, 8, 8, 8, 8, 8, 8, 8, 8, 8, 8, 8, 8, 8, 8, 8, 8, 8, 8, 8, 8, 8, 8]⟩ : ByteArray)[n]'(Nat.lt_of_le_of_lt h (lbr rfl))).toNat : Nat)))) (sp_conv Tryz.underlying5 Tryz.underlying3 (hlc rfl) (u8i64 _)) ?_
 refine .i (sp_add (hlc rfl) (hlc rfl) (u8i _)) ?_
 refine .al rfl ?_
 refine .dn fun a13 g W13 y13 zz13 hk hg hV hR hP => ?_
 obtain ⟨e2, -, -, -, -, -, -, -⟩ := hV
 replace e2 := e2.q
 replace kw := kw.x hk
 clear hR hk hg hP
 refine zn (hK12 _ _ ?_)
 refine wp_ret ?_
 refine ret1 rfl zz13 e2 ⟨_, rfl, kw, ?_⟩
 exact ⟨_, rfl⟩
theorem len_ok (n : Nat) (h : n ≤ 12) (w : World) : Calls Tryz.prog 82 #[.int .u64 n] w (Ret w fun u _ => ∃ l : Int, u = .int .i64 l) := by
  have hcon := fun W => len64_ok n h W
  go_enter Tryz.func82, Tryz.ntmps82
  go_wp2_with (go_at_call 100; refine (hcon _).mono ?_; rintro e w' ⟨u, rfl, hk, l, rfl⟩)
  go_ret
  exact ⟨_, rfl, hk, _, rfl⟩
set_option maxHeartbeats 1000000 in
theorem pdq_ok (L : List Mb) (hn : 0 < L.length) (h12 : L.length ≤ 12) (lim : Int) (w : World) (lo : Nat) (X : BSet) (v : Value) (hd : Option Nat) (hX : ∀ b o, X b o → b ∉ blks hd) (hA : Arr w lo 66 6 X (L.map Mb.d) v hd) :
    Calls Tryz.prog 81 #[v, .int .i64 0, .int .i64 L.length, .int .i64 lim, .func (.func 69) #[] #[]] w (RetA w hd fun u W => u = .tuple #[] ∧ Arr W lo 66 6 X ((sortMb L).map Mb.d) v hd) := by
  have hc := ins_ok L hn h12 w lo X v hd hX hA
  have h1 : (L.length : Int) ≤ 12 := by omega
  go_enter Tryz.func81, Tryz.ntmps81
  go_wp2
  refine wp_loopAt (loopAt ?_)
  go_wp2_with (go_at_call 91; refine hc.mono ?_; rintro e w' ⟨u, rfl, hk, rfl, hA2⟩)
  go_end0
  exact ⟨_, rfl, hk, rfl, hA2⟩
set_option maxHeartbeats 1000000 in
theorem sort_ok (L : List Mb) (hn : 0 < L.length) (h12 : L.length ≤ 12) (w : World) (lo : Nat) (X : BSet) (v : Value) (hd : Option Nat) (hX : ∀ b o, X b o → b ∉ blks hd) (hA : Arr w lo 66 6 X (L.map Mb.d) v hd) :
    Calls Tryz.prog 68 #[v, .func (.func 69) #[] #[]] w (RetA w hd fun u W => u = .tuple #[] ∧ Arr W lo 66 6 X ((sortMb L).map Mb.d) v hd) := by
  have hc := fun lim W (k : Ext w W) => pdq_ok L hn h12 lim W lo X v hd hX (hA.ext k)
  have hl := fun W => len_ok L.length h12 W
  obtain ⟨g, cap, rfl, rfl⟩ := arr_open hA (by simpa using hn)
  rw [List.length_map] at hc ⊢
  have hw : IntKind.u64.wrap (L.length : Int) = L.length := u64_in (by omega)
  go_enter Tryz.func68, Tryz.ntmps68
  go_wp2_with fail
  refine (hl _).mono ?_
  rintro e w' ⟨u, rfl, hk, l, rfl⟩
  go_wp2_with fail
  refine (hc _ _ hk).mono ?_
  rintro e w' ⟨u, rfl, hk2, rfl, hA2⟩
  go_wp2
  go_end0
  exact ⟨_, rfl, (Keeps.of_ext hk).trans hk2, rfl, hA2⟩
end Go.Proofs.YtnobijngkpflcaaGreat
namespace Go.Eng
theorem Arr.lo {W : World} {lo lo' : Nat} {e : TypeId} {sz : Nat} {X : BSet} {ds : List D} {v : Value} {hd : Option Nat} (h : Arr W lo e sz X ds v hd) (hl : lo' ≤ lo) : Arr W lo' e sz X ds v hd := by
  obtain ⟨h1, cs, ⟨h2, h3⟩, h4⟩ := h
  exact ⟨h1, cs, ⟨h2, h3.imp id fun ⟨g, cap, cur, a, b, c⟩ => ⟨g, cap, cur, a, Nat.le_trans hl b, c⟩⟩, h4⟩
section
variable {S0 S1 : Nat → Prop} {w w0 W W' : World} {S : BSet} {M : List Nat} {g : Gh} {e : TypeId} {sz : Nat} {ds : List D} {u : Value}
theorem arr_arA (kw : Keeps S0 w w0) (hM : ∀ b ∈ M, b < w0.heap.size) (hk : Keeps S1 w0 W) (h : ∃ hd, Arr W' W.heap.size e sz (fun b o => Ar W (fun b o => SA w S M b o ∧ Out g b) b o ∧ b ∉ blks hd) ds u hd) : IsArr w0 w.heap.size e sz (SA w S M) ds none g u W' := by
  obtain ⟨hd, h⟩ := h
  refine ⟨hd, (h.lo (Nat.le_trans kw.size hk.size)).mono fun b o hb hlt => ⟨?_, hb.2⟩, fun b hb => .inr (Nat.le_trans hk.size (h.ge b hb))⟩
  by_cases hb' : b < W.heap.size
  · exact (hb.1.1 hb').1
  · have h1 := kw.size
    have h2 := hk.size
    exact ⟨fun h => by omega, fun _ => hb.1.2 (by omega), fun hm => by have := hM b hm; omega⟩
theorem arr_sa_ar {hd : Option Nat} {v : Value} (h : Arr W w.heap.size e sz (SA w S (blks hd ++ [])) ds v hd) : ∃ hd, Arr W w.heap.size e sz (fun b o => Ar w S b o ∧ b ∉ blks hd) ds v hd :=
  ⟨hd, h.mono fun b o hb _ => ⟨⟨hb.1, hb.2.1⟩, fun hm => hb.2.2 (by simpa using hm)⟩⟩
end
def adj : List Mb → Bool
  | a :: b :: r => decide (a.nm = b.nm) || adj (b :: r)
  | _ => false
theorem adj_true : ∀ (L : List Mb) (i : Nat) (h : i + 1 < L.length), L[i].nm = L[i + 1].nm → adj L = true
  | [], i, h, _ => by simp at h
  | [a], i, h, _ => by simp at h
  | a :: b :: r, 0, _, he => by simp at he; simp [adj, he]
  | a :: b :: r, i + 1, h, he => by
    have := adj_true (b :: r) i (by simpa using h) (by simpa using he)
    simp [adj, this]
theorem adj_false : ∀ (L : List Mb), (∀ i (h : i + 1 < L.length), L[i].nm ≠ L[i + 1].nm) → adj L = false
  | [], _ => rfl
  | [a], _ => rfl
  | a :: b :: r, h => by
    have h0 := h 0 (by simp)
    have := adj_false (b :: r) fun i hi => h (i + 1) (by simpa using hi)
    simp at h0
    simp [adj, h0, this]
def objE (L : List Mb) : Int := if adj (sortMb L) then 7 else 0
def objM (L : List Mb) : V := if adj (sortMb L) then ⟨0, 0, ⟨#[]⟩, [], []⟩ else ⟨5, 0, ⟨#[]⟩, (sortMb L).map Mb.nm, (sortMb L).map Mb.v⟩
theorem all_set {α : Type} {p : α → Prop} (d : Array α) (i : Nat) (x : α) (h : ∀ y ∈ d, p y) (hx : p x) : ∀ y ∈ d.setIfInBounds i x, p y := fun y hy => by
  rw [← Array.mem_toList_iff, Array.toList_setIfInBounds] at hy
  rcases List.mem_or_eq_of_mem_set hy with h1 | h1
  · exact h y (by rwa [Array.mem_toList_iff] at h1)
  · exact h1 ▸ hx
theorem insInner_all {α : Type} [Inhabited α] {p : α → Prop} (lt : α → α → Bool) : ∀ (j : Nat) (d : Array α), j < d.size → (∀ y ∈ d, p y) → ∀ y ∈ Sort.insInner lt 0 j d, p y
  | 0, d, _, h => h
  | j + 1, d, hj, h => by
    rw [Sort.insInner]
    split
    · refine insInner_all lt j _ (by simp [Sort.swp]; omega) ?_
      have g : ∀ i, i < d.size → p d[i]! := fun i hi => by rw [getElem!_pos d i hi]; exact h _ (Array.getElem_mem hi)
      exact all_set _ _ _ (all_set _ _ _ h (g j (by omega))) (g (j + 1) hj)
    · exact h
theorem outerF_all {α : Type} [Inhabited α] {p : α → Prop} (lt : α → α → Bool) : ∀ (f i : Nat) (d : Array α), i + f ≤ d.size → (∀ y ∈ d, p y) → ∀ y ∈ outerF lt f i d, p y
  | 0, _, d, _, h => h
  | f + 1, i, d, hi, h => by
    rw [outerF]
    exact outerF_all lt f (i + 1) _ (by rw [insInner_size]; omega) (insInner_all lt i d (by omega) h)
theorem sortMb_all {p : Mb → Prop} (L : List Mb) (h : ∀ m ∈ L, p m) : ∀ m ∈ sortMb L, p m := by
  cases L with
  | nil => intro m hm; simp [sortMb, outerF] at hm
  | cons x xs =>
    intro m hm
    unfold sortMb at hm
    rw [Array.mem_toList_iff] at hm
    exact outerF_all ltM _ _ _ (by simp; omega) (fun y hy => h y (by simpa using hy)) m hm
end Go.Eng
namespace Go.Eng
def DjV (u : Value) : Prop := ∀ k n t x y, u = .agg #[k, n, t, x, y] → ∀ b, x.ownBlock = some b → y.ownBlock ≠ some b
theorem djV_mk {k n t x y : Value} (h : ∀ b, x.ownBlock = some b → y.ownBlock ≠ some b) : DjV (.agg #[k, n, t, x, y]) := fun _ _ _ _ _ e => by
  injection e with e
  simp at e
  obtain ⟨-, -, -, rfl, rfl⟩ := e
  exact h
theorem djV_out {k n t x y : Value} (h : DjV (.agg #[k, n, t, x, y])) : ∀ b, x.ownBlock = some b → y.ownBlock ≠ some b := h _ _ _ _ _ rfl
def IsJ (φ : Fact) : Fact := fun g u W => φ g u W ∧ DjV u
theorem st_j {S : Nat → Prop} {φ : Fact} (h : Stable S φ) : Stable S (IsJ φ) := ⟨fun _ _ _ _ k h1 => ⟨h.world _ _ _ _ k h1.1, h1.2⟩, fun _ _ _ _ _ hb h1 => ⟨h.ghost _ _ _ _ _ hb h1.1, h1.2⟩⟩
theorem arr_own {W : World} {lo : Nat} {e : TypeId} {sz : Nat} {X : BSet} {ds : List D} {v : Value} {hd : Option Nat} (h : Arr W lo e sz X ds v hd) : v.ownBlock = hd := h.1
theorem dj_arr {W W2 : World} {lo lo2 : Nat} {e e2 : TypeId} {sz sz2 : Nat} {X X2 : BSet} {ds ds2 : List D} {v v2 : Value} {h1 h2 : Option Nat} (a : Arr W lo e sz X ds v h1) (b : Arr W2 lo2 e2 sz2 X2 ds2 v2 h2) (hd : ∀ b ∈ blks h1, b ∉ blks h2) : ∀ b, v.ownBlock = some b → v2.ownBlock ≠ some b := fun c hc hc2 => by
  rw [arr_own a] at hc
  rw [arr_own b] at hc2
  exact hd c (mem_blks.2 hc) (mem_blks.2 hc2)
end Go.Eng
namespace Go.Proofs.YtnobijngkpflcaaGreat
open Go.Eng
set_option maxRecDepth 100000 in
theorem cloneM_ok (L : List Mb) (hn : L.length ≤ 1073741824) (w : World) (S : BSet) (v : Value) (hv : Rd w S (mbsD L) v) : Calls Tryz.prog 67 #[v] w (Ret w fun u W => ∃ hd, Arr W w.heap.size 66 6 (fun b o => Ar w S b o ∧ b ∉ blks hd) (L.map Mb.d) u hd) := by
 obtain ⟨va, vc, ev, D_v⟩ := rdMbs_out (rd_arg hv)
 subst ev
 refine enter Tryz.func67 rfl Tryz.ntmps67 (lbr rfl) fun a0 y0 zz0 harg => ?_
 have e0 : sl a0 0 = (.slice va (L.length) vc) := harg 0 (lbr rfl)
 have kw := Keeps.refl All w
 clear harg
 refine zq fun K1 hK1 => ?_
 refine rg mixed y0 zz0 ?_
 refine .ac ?_
 refine .dn fun a2 g W2 y2 zz2 hk hg hV hR hP => ?_
 obtain ⟨-, -⟩ := hV
 replace e0 := ft hR e0
 replace D_v := D_v.ext hk
 replace kw := kw.x hk
 clear hR hk hg hP
 refine zn (hK1 _ _ ?_)
 refine zq fun K3 hK3 => ?_
 refine zq fun K4 hK4 => ?_
 refine rg mixed y2 zz2 ?_
 refine .mb rfl e0 ?_
 refine .i (v := (.bool (va.isNone))) (sp_slNil Tryz.underlying64 (hlc rfl) Has.cst) ?_
 refine .dn fun a5 g W5 y5 zz5 hk hg hV hR hP => ?_
 obtain ⟨e4, -, -⟩ := hV
 replace e0 := ft hR e0
 replace D_v := D_v.ext hk
 replace e4 := e4.q
 replace kw := kw.x hk
 clear hR hk hg hP
 refine zn (hK4 _ _ ?_)
 refine zc e4 (fun hc => ?_) (fun hc => ?_)
 ·
  have hns : L = [] := by simpa using rd_none (ds := L.map Mb.d) D_v hc
  subst hns
  refine zq fun K6 hK6 => ?_
  refine rg mixed y5 zz5 ?_
  refine .ac ?_
  refine .dn fun a7 g W7 y7 zz7 hk hg hV hR hP => ?_
  obtain ⟨e2, -⟩ := hV
  replace D_v := D_v.ext hk
  replace e2 := e2.q
  replace kw := kw.x hk
  clear hR hk hg hP
  refine zn (hK6 _ _ ?_)
  refine wp_ret ?_
  refine ret1 rfl zz7 e2 ⟨_, rfl, kw, ?_⟩
  exact ⟨none, arr_nil _ _ _ _ _⟩
 refine wp_skip (hK3 _ _ ?_)
 refine zq fun K8 hK8 => ?_
 refine rg mixed y5 zz5 ?_
 refine .op (φ := IsArr W5 w.heap.size 66 6 (SA w S []) ([]) none) st_arr (sp_bslA Tryz.underlying64 sz66 kw.size) ?_
 refine .dn fun a9 g W9 y9 zz9 hk hg hV hR hP => ?_
 obtain ⟨e5, -⟩ := hV
 replace e0 := ft hR e0
 obtain ⟨v5_9, ev⟩ : ∃ v, sl a9 5 = v := ⟨_, rfl⟩
 rw [ev] at e5
 obtain ⟨hd5_9, A_5_9, hf5_9⟩ := e5
 have e5 := ev; clear ev
 replace hf5_9 := row_new hf5_9
 obtain ⟨v5_9a, v5_9n, v5_9c, ev⟩ := arr_sl A_5_9; subst ev
 replace A_5_9 : Arr W9 w.heap.size 66 6 (SA w S (blks hd5_9 ++ [])) (List.map Mb.d ([])) (.slice v5_9a v5_9n v5_9c) hd5_9 := arrA_new A_5_9 (M' := (blks hd5_9 ++ [])) (fun b hb => (List.mem_append.1 hb).symm)
 replace D_v : Rd W9 (SA w S (blks hd5_9 ++ [])) (mbsD (L)) (.slice va (L.length) vc) := sa_more D_v hk (blks hd5_9) hf5_9
 replace kw := kw.x hk
 clear hR hk hg hP hf5_9
 refine tail_reg 2 (fun k => k ∉ blks hd5_9) (Ψ := fun W => Arr W w.heap.size 66 6 (SA w S (blks hd5_9 ++ [])) (List.map Mb.d ([])) (.slice v5_9a v5_9n v5_9c) hd5_9) y9 zz9 (fun W W' k h => h.ext k) A_5_9 rfl ?_
 refine .mb rfl e0 ?_
 refine .appB (ds := List.map Mb.d ([])) (es := List.map Mb.d (L)) (X := SA w S (blks hd5_9 ++ [])) Tryz.underlying64 inf66 (lbr rfl) (hbs rfl e5) ((hlc rfl).dat D_v (sub_nb (fun b hb => List.mem_append_left _ hb))) (sub_nb (fun b hb => List.mem_append_left _ hb)) (by simp [maxLen]; omega) (by simp; omega) kw.size ?_
 refine .dn fun a10 g W10 y10 zz10 hk hg hV hR hP => ?_
 refine tail_nil ?_
 show runTail _ _ _ _ _ _
 obtain ⟨e7, -, -⟩ := hV
 obtain ⟨v7_10, ev⟩ : ∃ v, sl a10 7 = v := ⟨_, rfl⟩
 rw [ev] at e7
 obtain ⟨hd7_10, A_7_10, hf7_10⟩ := e7
 have e7 := ev; clear ev
 obtain ⟨v7_10a, v7_10n, v7_10c, ev⟩ := arr_sl A_7_10; subst ev
 replace A_7_10 := arrA_new (M' := (blks hd7_10 ++ [])) A_7_10 (rep_app (rep_q fun _ h => h) rep_nil)
 replace A_7_10 : Arr W10 w.heap.size 66 6 (SA w S (blks hd7_10 ++ [])) (List.map Mb.d (L)) (.slice v7_10a v7_10n v7_10c) hd7_10 := by first | exact A_7_10 | (rw [List.map_append]; exact A_7_10)
 replace D_v := sa_app (M' := (blks hd7_10 ++ [])) D_v hk (fun b hb => List.mem_append_left _ hb) (rep_app hf7_10 rep_nil)
 replace kw := keeps_app kw hk A_5_9.ge
 clear hR hk hg hP hf7_10 A_5_9
 refine tail_assign (v := (.slice v7_10a v7_10n v7_10c)) e7 (by rw [y10]; exact Nat.le_of_ble_eq_true rfl) (fun a11 y11 zz11 e2 hr => ?_)
 replace y11 := y11.trans y10; replace zz11 := zz11.trans zz10
 replace e7 := (hr 7 (by decide)).trans e7
 clear hr
 refine zn (hK8 _ _ ?_)
 refine wp_ret ?_
 refine ret1 rfl zz11 e2 ⟨_, rfl, kw, ?_⟩
 exact arr_sa_ar A_7_10
set_option maxRecDepth 100000 in
theorem ObjectOfJ_ok (L : List Mb) (hn : 0 < L.length) (h12 : L.length ≤ 12) (hw : ∀ m ∈ L, m.v.wt ≤ 1073741824) (w : World) (S : BSet) (v : Value) (hS : ∀ b o, S b o → Cln o) (hv : Rd w S (mbsD L) v) : Calls Tryz.prog 46 #[v] w (Ret w fun r W => ∃ r1, r = .tuple #[r1, .int .i64 (objE L)] ∧ Rd W (Fr w) (objM L).d r1 ∧ DjV r1) := by
 have hsl := sortMb_len L
 have hwS := sortMb_all L hw
 obtain ⟨va, vc, ev, D_v⟩ := rdMbs_out (rd_arg hv)
 subst ev
 refine enter Tryz.func46 rfl Tryz.ntmps46 (lbr rfl) fun a0 y0 zz0 harg => ?_
 have e0 : sl a0 0 = (.slice va (L.length) vc) := harg 0 (lbr rfl)
 have kw := Keeps.refl All w
 clear harg
 refine zq fun K1 hK1 => ?_
 refine rg mixed y0 zz0 ?_
 refine .alloc z26 ?_
 refine .ac ?_
 refine .dn fun a2 g W2 y2 zz2 hk hg hV hR hP => ?_
 obtain ⟨-, ⟨b2_2, e2, hb2, own_b2_2⟩, -⟩ := hV
 have lo_b2_2 : w.heap.size ≤ b2_2 := Nat.le_trans kw.size (hg.lo _ _ hb2)
 have own_b2_2 : Own W2 b2_2 [(.int .u8 (0)), (.int .i64 (0)), (.string (⟨#[]⟩)), (.slice none 0 0), (.slice none 0 0)] 26 := own_b2_2
 replace e0 := ft hR e0
 replace D_v := sa_more D_v hk [b2_2] (in_cons (hg.lo _ _ hb2) in_nil)
 replace kw := kw.x hk
 clear hR hk hg hP hb2
 refine zn (hK1 _ _ ?_)
 refine zq fun K3 hK3 => ?_
 refine rg mixed y2 zz2 ?_
 refine .mb rfl e0 ?_
 refine .op (φ := IsArr W2 w.heap.size 66 6 (SA w S [b2_2]) (List.map Mb.d (L)) none) st_arr (sp_call1 (φ1 := IsD (SA w S [b2_2]) (mbsD (L))) ent67 ((hlc rfl).dat D_v sub_all) (fun g u1 W hk hgk h1 => (cloneM_ok (L) (by omega) W _ _ h1).mono (fun _ _ ⟨v, h1, h2, h3⟩ => ⟨v, h1, h2, arr_arA kw (in_cons own_b2_2.lt in_nil) hk h3⟩))) ?_
 refine .dn fun a4 g W4 y4 zz4 hk hg hV hR hP => ?_
 obtain ⟨e9, -, -⟩ := hV
 replace e2 := ft hR e2
 obtain ⟨v9_4, ev⟩ : ∃ v, sl a4 9 = v := ⟨_, rfl⟩
 rw [ev] at e9
 obtain ⟨hd9_4, A_9_4, hf9_4⟩ := e9
 have e9 := ev; clear ev
 replace hf9_4 := row_new hf9_4
 obtain ⟨v9_4a, v9_4n, v9_4c, ev⟩ := arr_sl A_9_4; subst ev
 replace A_9_4 : Arr W4 w.heap.size 66 6 (SA w S (blks hd9_4 ++ (b2_2 :: []))) (List.map Mb.d (L)) (.slice v9_4a v9_4n v9_4c) hd9_4 := arrA_new A_9_4 (M' := (blks hd9_4 ++ (b2_2 :: []))) (fun b hb => (List.mem_append.1 hb).symm)
 have nb_b2_2_4 : b2_2 ∉ blks hd9_4 := fun hm => absurd (hf9_4 _ hm) (Nat.not_le.2 own_b2_2.lt)
 replace D_v : Rd W4 (SA w S (blks hd9_4 ++ (b2_2 :: []))) (mbsD (L)) (.slice va (L.length) vc) := sa_more D_v hk (blks hd9_4) hf9_4
 replace own_b2_2 := own_b2_2.ext hk
 replace kw := kw.x hk
 clear hR hk hg hP hf9_4
 refine tail_assign (v := (.slice v9_4a v9_4n v9_4c)) e9 (by rw [y4]; exact Nat.le_of_ble_eq_true rfl) (fun a5 y5 zz5 e4 hr => ?_)
 replace y5 := y5.trans y4; replace zz5 := zz5.trans zz4
 replace e2 := (hr 2 (by decide)).trans e2
 replace e9 := (hr 9 (by decide)).trans e9
 clear hr
 refine zn (hK3 _ _ ?_)
 refine zq fun K6 hK6 => ?_
 refine wp_reg (fun k => k ∉ blks hd9_4) (Ψ := fun W => Arr W w.heap.size 66 6 (SA w S (blks hd9_4 ++ (b2_2 :: []))) (List.map Mb.d (L)) (.slice v9_4a v9_4n v9_4c) hd9_4) mixed y5 zz5 (fun W W' k h => h.ext k) A_9_4 ?_
 refine .mb rfl e4 ?_
 refine .callL2 (φ1 := Is (.slice v9_4a v9_4n v9_4c)) (φ2 := Is (.func (.func 69) #[] #[])) (φ := Is (.tuple #[])) (Ψ' := fun W => Arr W w.heap.size 66 6 (SA w S (blks hd9_4 ++ (b2_2 :: []))) (List.map Mb.d (sortMb L)) (.slice v9_4a v9_4n v9_4c) hd9_4) ent68 (hlc rfl) Has.fn (st_is _) (fun W W' k h => h.ext k) (fun g u1 u2 W hk hg h1 h2 hP => by have h1 : u1 = _ := h1; subst u1; have h2 : u2 = _ := h2; subst u2; exact sort_ok (L) hn h12 W _ _ _ _ (sub_nb (fun b hb => List.mem_append_left _ hb)) hP) ?_
 refine .dn fun a7 g W7 y7 zz7 hk hg hV hR hP => ?_
 obtain ⟨-, -, -⟩ := hV
 replace e2 := ft hR e2
 replace e4 := ft hR e4
 replace own_b2_2 := own_keepL own_b2_2 hk nb_b2_2_4
 replace kw := keeps_app kw hk A_9_4.ge
 have A_w7 : Arr W7 w.heap.size 66 6 (SA w S (blks hd9_4 ++ (b2_2 :: []))) (List.map Mb.d (sortMb L)) (.slice v9_4a v9_4n v9_4c) hd9_4 := hP
 clear hR hk hg hP A_9_4
 have D_v9_4 : Rd W7 (SA w S [b2_2]) (mbsD (sortMb L)) (.slice v9_4a v9_4n v9_4c) := arrA_rd A_w7 (ls_skipA (ls_keep ls_nil)) (nin_cons nb_b2_2_4 nin_nil)
 obtain ⟨xa, xc, ev, D2⟩ := rdMbs_out D_v9_4
 injection ev with h1 h2 h3; subst h1 h2 h3; replace D_v9_4 := D2; clear D2
 refine zn (hK6 _ _ ?_)
 refine zq fun K8 hK8 => ?_
 refine rg mixed y7 zz7 ?_
 refine .i (v := (.agg #[(.int .u8 (5)), (.int .i64 (0)), (.string (⟨#[]⟩)), (.slice none 0 0), (.slice none 0 0)])) (sp_build (vs := [(0, (.int .u8 (5)))]) Tryz.underlying26 z26 (pl26 Tryz.underlying26) ⟨rfl, Has.cst, trivial⟩ rfl) ?_
 refine .alloc z26 ?_
 refine .dn fun a9 g W9 y9 zz9 hk hg hV hR hP => ?_
 obtain ⟨⟨b5_9, e5, hb5, own_b5_9⟩, e12, -⟩ := hV
 have lo_b5_9 : w.heap.size ≤ b5_9 := Nat.le_trans kw.size (hg.lo _ _ hb5)
 have ne_b2_2_b5_9 : b2_2 ≠ b5_9 := Nat.ne_of_lt (Nat.lt_of_lt_of_le own_b2_2.lt (hg.lo _ _ hb5))
 have own_b5_9 : Own W9 b5_9 [(.int .u8 (0)), (.int .i64 (0)), (.string (⟨#[]⟩)), (.slice none 0 0), (.slice none 0 0)] 26 := own_b5_9
 replace e2 := ft hR e2
 replace e4 := ft hR e4
 replace D_v9_4 := sa_more D_v9_4 hk [b5_9] (in_cons (hg.lo _ _ hb5) in_nil)
 replace e12 := e12.q
 replace own_b2_2 := own_b2_2.ext hk
 replace kw := kw.x hk
 clear hR hk hg hP hb5
 refine tail_store e5 e12 sz26 rfl own_b5_9 (lbr rfl) (all_cons rfl (all_cons rfl (all_cons rfl (all_cons rfl (all_cons rfl all_nil))))) (fun W10 hs own_b5_9 => ?_)
 have own_b5_9 : Own W10 b5_9 [(.int .u8 (5)), (.int .i64 (0)), (.string (⟨#[]⟩)), (.slice none 0 0), (.slice none 0 0)] 26 := own_b5_9
 replace own_b2_2 := own_store own_b2_2 hs ne_b2_2_b5_9
 replace D_v9_4 := sa_store D_v9_4 hs (by simp)
 replace kw := keeps_store kw hs lo_b5_9
 clear hs
 refine zn (hK8 _ _ ?_)
 refine zq fun K11 hK11 => ?_
 refine zq fun K12 hK12 => ?_
 refine rg mixed y9 zz9 ?_
 refine .mb rfl e4 ?_
 refine .i (sp_lenL Tryz.underlying64 ((hlc rfl).dat D_v9_4 sub_all)) ?_
 refine .i (sp_move Has.cst) ?_
 refine .dn fun a13 g W13 y13 zz13 hk hg hV hR hP => ?_
 obtain ⟨e15, e14, e13, -⟩ := hV
 replace e2 := ft hR e2
 replace e4 := ft hR e4
 replace e5 := ft hR e5
 replace D_v9_4 := D_v9_4.ext hk
 replace e13 := e13.q
 replace e14 := e14.q
 replace e15 := e15.q
 replace own_b2_2 := own_b2_2.ext hk
 replace own_b5_9 := own_b5_9.ext hk
 replace kw := kw.x hk
 clear hR hk hg hP
 refine zn (hK12 _ _ ?_)
 refine wp_block ?_
 have A_ar14 : Arr W13 w.heap.size 9 1 (SF w (blks none ++ (b5_9 :: (b2_2 :: [])))) (List.map D.str ([])) (.slice none 0 0) none := arr_nil _ _ _ _ _
 replace D_v9_4 : Rd W13 (SA w S (blks none ++ (b5_9 :: (b2_2 :: [])))) (mbsD (sortMb L)) (.slice v9_4a ((sortMb L).length) v9_4c) := D_v9_4
 have A_ar15 : Arr W13 w.heap.size 26 5 (SF w (blks (none) ++ (blks none ++ (b5_9 :: (b2_2 :: []))))) (List.map V.d ([])) (.slice none 0 0) (none) := arr_nil _ _ _ _ _
 replace D_v9_4 : Rd W13 (SA w S (blks (none) ++ (blks none ++ (b5_9 :: (b2_2 :: []))))) (mbsD (sortMb L)) (.slice v9_4a ((sortMb L).length) v9_4c) := D_v9_4
 replace A_ar14 : Arr W13 w.heap.size 9 1 (SF w (blks (none) ++ (blks none ++ (b5_9 :: (b2_2 :: []))))) (List.map D.str ([])) (.slice none 0 0) none := A_ar14
 refine wp_for ((sortMb L).length) (fun k a W => ∃ (va3_16 : Value), ∃ (hd3_16 : Option Nat), ∃ (va4_16 : Value), ∃ (hd4_16 : Option Nat), a.tmps.size = 51 ∧ a.defers = [] ∧ Keeps All w W ∧ sl a 2 = (.pointer (some ⟨b2_2, 0, none⟩)) ∧ sl a 4 = (.slice v9_4a ((sortMb L).length) v9_4c) ∧ sl a 5 = (.pointer (some ⟨b5_9, 0, none⟩)) ∧ sl a 13 = (.slice v9_4a ((sortMb L).length) v9_4c) ∧ sl a 14 = (.int .i64 ((sortMb L).length)) ∧ sl a 15 = (.int .i64 ((k : Nat))) ∧ Own W b2_2 [(.int .u8 (0)), (.int .i64 (0)), (.string (⟨#[]⟩)), (.slice none 0 0), (.slice none 0 0)] 26 ∧ Own W b5_9 [(.int .u8 (5)), (.int .i64 (0)), (.string (⟨#[]⟩)), va3_16, va4_16] 26 ∧ Rd W (SA w S (blks hd4_16 ++ (blks hd3_16 ++ (b5_9 :: (b2_2 :: []))))) (mbsD (sortMb L)) (.slice v9_4a ((sortMb L).length) v9_4c) ∧ Arr W w.heap.size 9 1 (SF w (blks hd4_16 ++ (blks hd3_16 ++ (b5_9 :: (b2_2 :: []))))) (List.map D.str (List.map Mb.nm ((sortMb L).take k))) va3_16 hd3_16 ∧ b2_2 ∉ blks hd3_16 ∧ b5_9 ∉ blks hd3_16 ∧ Arr W w.heap.size 26 5 (SF w (blks hd4_16 ++ (blks hd3_16 ++ (b5_9 :: (b2_2 :: []))))) (List.map V.d (List.map Mb.v ((sortMb L).take k))) va4_16 hd4_16 ∧ b2_2 ∉ blks hd4_16 ∧ b5_9 ∉ blks hd4_16 ∧ (∀ b ∈ blks hd3_16, b ∉ blks hd4_16) ∧ (∀ i (h : i + 1 < (sortMb L).length), i + 1 < k → ((sortMb L)[i]).nm ≠ ((sortMb L)[i + 1]).nm)) ⟨(.slice none 0 0), none, (.slice none 0 0), (none), y13, zz13, kw, e2, e4, e5, e13, e14, (e15.trans (congrArg (Value.int .i64) (rfl))), own_b2_2, own_b5_9, D_v9_4, A_ar14, nb_none, nb_none, A_ar15, nb_none, nb_none, (fun _ _ => nb_none), fun i h hi => absurd hi (by omega)⟩ ?_
 clear kw e2 e4 e5 e13 e14 e15 own_b2_2 own_b5_9 D_v9_4 A_ar14 A_ar15
 rintro k a16 W16 hkk ⟨va3_16, hd3_16, va4_16, hd4_16, y16, zz16, kw, e2, e4, e5, e13, e14, e15, own_b2_2, own_b5_9, D_v9_4, A3_16, nb_b2_2_ar14_16, nb_b5_9_ar14_16, A4_16, nb_b2_2_ar15_16, nb_b5_9_ar15_16, dj_ar14_ar15_16, hinv⟩
 refine zq fun K17 hK17 => ?_
 refine rg mixed y16 zz16 ?_
 refine .i (sp_lss (hbs rfl e15) (hbs rfl e14)) ?_
 refine .dn fun a18 g W18 y18 zz18 hk hg hV hR hP => ?_
 obtain ⟨e16, -⟩ := hV
 replace e2 := ft hR e2
 replace e4 := ft hR e4
 replace e5 := ft hR e5
 replace e13 := ft hR e13
 replace e14 := ft hR e14
 replace e15 := ft hR e15
 replace A3_16 := A3_16.ext hk
 replace A4_16 := A4_16.ext hk
 replace D_v9_4 := D_v9_4.ext hk
 replace e16 := e16.q
 replace own_b2_2 := own_b2_2.ext hk
 replace own_b5_9 := own_b5_9.ext hk
 replace kw := kw.x hk
 clear hR hk hg hP
 refine zn (hK17 _ _ ?_)
 refine zq fun K19 hK19 => ?_
 refine zc e16 (fun hc => ?_) (fun hc => ?_)
 ·
  have hlt : k < (sortMb L).length := by simpa using hc
  have hwm := hwS _ (List.getElem_mem hlt)
  refine wp_skip (hK19 _ _ ?_)
  refine zq fun K20 hK20 => ?_
  refine wp_block ?_
  refine zq fun K21 hK21 => ?_
  refine rg mixed y18 zz18 ?_
  refine .mb rfl e15 ?_
  refine .rf (X := SA w S (blks hd4_16 ++ (blks hd3_16 ++ (b5_9 :: (b2_2 :: []))))) (e := Mb.d ((sortMb L)[k]'hlt)) (sp_indexL (i := k) ((hbs rfl e13).dat D_v9_4 sub_all) (hbs rfl e15) Tryz.underlying64 sz66 rfl hlt) ?_
  refine .da (X := SA w S (blks hd4_16 ++ (blks hd3_16 ++ (b5_9 :: (b2_2 :: []))))) (e := Mb.d ((sortMb L)[k]'hlt)) (sp_loadR (hlc rfl) agg66 sz66 (width_Mb _)) ?_
  refine .alloc z66 ?_
  refine .al rfl ?_
  refine .dn fun a22 g W22 y22 zz22 hk hg hV hR hP => ?_
  obtain ⟨e6, ⟨b7_22, e7, hb7, own_b7_22⟩, e19, -, -, -⟩ := hV
  have lo_b7_22 : w.heap.size ≤ b7_22 := Nat.le_trans kw.size (hg.lo _ _ hb7)
  have ne_b2_2_b7_22 : b2_2 ≠ b7_22 := Nat.ne_of_lt (Nat.lt_of_lt_of_le own_b2_2.lt (hg.lo _ _ hb7))
  have ne_b5_9_b7_22 : b5_9 ≠ b7_22 := Nat.ne_of_lt (Nat.lt_of_lt_of_le own_b5_9.lt (hg.lo _ _ hb7))
  have own_b7_22 : Own W22 b7_22 [(.string (⟨#[]⟩)), (.int .u8 (0)), (.int .i64 (0)), (.string (⟨#[]⟩)), (.slice none 0 0), (.slice none 0 0)] 66 := own_b7_22
  replace e2 := ft hR e2
  replace e4 := ft hR e4
  replace e5 := ft hR e5
  replace e13 := ft hR e13
  replace e14 := ft hR e14
  replace e15 := ft hR e15
  have hMx : ∀ b ∈ (blks hd4_16 ++ (blks hd3_16 ++ (b5_9 :: (b2_2 :: [])))), b < W18.heap.size := (in_app A4_16.lt (in_app A3_16.lt (in_cons own_b5_9.lt (in_cons own_b2_2.lt in_nil))))
  have nb_b7_22_ar14 : b7_22 ∉ blks hd3_16 := nb_lt A3_16.lt (hg.lo _ _ hb7)
  replace A3_16 : Arr W22 w.heap.size 9 1 (SF w (b7_22 :: (blks hd4_16 ++ (blks hd3_16 ++ (b5_9 :: (b2_2 :: [])))))) (List.map D.str (List.map Mb.nm ((sortMb L).take k))) va3_16 hd3_16 := arrF_more A3_16 hk [b7_22] (in_cons (hg.lo _ _ hb7) in_nil)
  have nb_b7_22_ar15 : b7_22 ∉ blks hd4_16 := nb_lt A4_16.lt (hg.lo _ _ hb7)
  replace A4_16 : Arr W22 w.heap.size 26 5 (SF w (b7_22 :: (blks hd4_16 ++ (blks hd3_16 ++ (b5_9 :: (b2_2 :: [])))))) (List.map V.d (List.map Mb.v ((sortMb L).take k))) va4_16 hd4_16 := arrF_more A4_16 hk [b7_22] (in_cons (hg.lo _ _ hb7) in_nil)
  replace D_v9_4 : Rd W22 (SA w S (b7_22 :: (blks hd4_16 ++ (blks hd3_16 ++ (b5_9 :: (b2_2 :: [])))))) (mbsD (sortMb L)) (.slice v9_4a ((sortMb L).length) v9_4c) := sa_more D_v9_4 hk [b7_22] (in_cons (hg.lo _ _ hb7) in_nil)
  obtain ⟨v19_22, ev⟩ : ∃ v, sl a22 19 = v := ⟨_, rfl⟩
  rw [ev] at e19
  have D_v19_22 : Rd W22 (SA w S (b7_22 :: (blks hd4_16 ++ (blks hd3_16 ++ (b5_9 :: (b2_2 :: [])))))) (Mb.d ((sortMb L)[k]'hlt)) v19_22 := sa_end e19 hk [b7_22] (in_cons ⟨_, hb7⟩ in_nil)
  replace e19 := ev; clear ev
  obtain ⟨v19_22_4a, v19_22_4c, v19_22_5a, v19_22_5c, ev, hb_v19_22_0, hb_v19_22_3, D_v19_22_4, D_v19_22_5⟩ := rdMb_out D_v19_22
  subst ev; clear D_v19_22
  replace e6 := e6.q
  replace own_b2_2 := own_b2_2.ext hk
  replace own_b5_9 := own_b5_9.ext hk
  replace kw := kw.x hk
  clear hR hk hg hP hb7
  refine tail_store e7 e19 sz66 rfl own_b7_22 (lbr rfl) (all_cons rfl (all_cons rfl (all_cons rfl (all_cons rfl (all_cons rfl (all_cons rfl all_nil)))))) (fun W23 hs own_b7_22 => ?_)
  have own_b7_22 : Own W23 b7_22 [(.string (((sortMb L)[k]'hlt).nm)), (.int .u8 (((sortMb L)[k]'hlt).v.k)), (.int .i64 (((sortMb L)[k]'hlt).v.n)), (.string (((sortMb L)[k]'hlt).v.t)), (.slice v19_22_4a ((((sortMb L)[k]'hlt).v.ns).length) v19_22_4c), (.slice v19_22_5a ((((sortMb L)[k]'hlt).v.xs).length) v19_22_5c)] 66 := own_b7_22
  replace own_b2_2 := own_store own_b2_2 hs ne_b2_2_b7_22
  replace own_b5_9 := own_store own_b5_9 hs ne_b5_9_b7_22
  replace D_v9_4 := sa_store D_v9_4 hs (by simp)
  replace D_v19_22_4 := sa_store D_v19_22_4 hs (by simp)
  replace D_v19_22_5 := sa_store D_v19_22_5 hs (by simp)
  replace A3_16 := arrF_store A3_16 hs (by simp) nb_b7_22_ar14
  replace A4_16 := arrF_store A4_16 hs (by simp) nb_b7_22_ar15
  replace kw := keeps_store kw hs lo_b7_22
  clear hs
  refine zn (hK21 _ _ ?_)
  refine zq fun K24 hK24 => ?_
  refine zq fun K25 hK25 => ?_
  refine rg mixed y22 zz22 ?_
  refine .mb rfl e6 ?_
  refine .i (sp_gtr (hlc rfl) Has.cst) ?_
  refine .i (sp_move (hlc rfl)) ?_
  refine .em rfl (hlc rfl) rfl e4 ?_
  refine .em rfl (hlc rfl) rfl e6 ?_
  refine .e rfl (hlc rfl) (fun hg => sp_sub ((hlc rfl).undE hg) Has.cst (i64_in (by omega))) ?_
  refine .opE (t := 22) (φ := IsR (SA w S (b7_22 :: (blks hd4_16 ++ (blks hd3_16 ++ (b5_9 :: (b2_2 :: [])))))) (Mb.d ((sortMb L)[(k - 1)]'(by omega)))) rfl (hlc rfl) (st_r sub_all) (fun hg => sp_indexL (i := (k - 1)) (((hlc rfl).undE hg).dat D_v9_4 sub_all) ((hlc rfl).undE hg) Tryz.underlying64 sz66 (by have := of_decide_eq_true hg; omega) (by omega)) ?_
  refine .opE (t := 22) (φ := IsR (SA w S (b7_22 :: (blks hd4_16 ++ (blks hd3_16 ++ (b5_9 :: (b2_2 :: [])))))) (D.str (((sortMb L)[(k - 1)]'(by omega)).nm))) rfl (hlc rfl) (st_r sub_all) (fun hg => sp_fieldR ((hlc rfl).undE hg) Tryz.underlying66 rfl sz9 rfl (by first | rfl | simp [widths, width, hssD, width_V])) ?_
  refine .e rfl (hlc rfl) (fun hg => sp_loadStr ((hlc rfl).undE hg) agg9 sz9) ?_
  refine .e rfl (hlc rfl) (fun hg => fo 0 (hbs rfl e7) Tryz.underlying66 rfl sz9 rfl) ?_
  refine .e rfl (hlc rfl) (fun hg => lo1 ((hlc rfl).undE hg) own_b7_22 trivial agg9 sz9 rfl) ?_
  refine .e rfl (hlc rfl) (fun hg => sp_sEql ((hlc rfl).undE hg) ((hlc rfl).undE hg)) ?_
  refine .i (sp_and (hlc rfl) ((hlc rfl).weak fun hq => hq)) ?_
  refine .dn fun a26 g W26 y26 zz26 hk hg hV hR hP => ?_
  obtain ⟨e32, -, -, -, -, -, -, -, -, -, -, -, -, -⟩ := hV
  replace e2 := ft hR e2
  replace e4 := ft hR e4
  replace e5 := ft hR e5
  replace e13 := ft hR e13
  replace e14 := ft hR e14
  replace e15 := ft hR e15
  replace e7 := ft hR e7
  replace A3_16 := A3_16.ext hk
  replace A4_16 := A4_16.ext hk
  replace D_v9_4 := D_v9_4.ext hk
  replace D_v19_22_4 := D_v19_22_4.ext hk
  replace D_v19_22_5 := D_v19_22_5.ext hk
  replace e32 := e32.q
  replace own_b2_2 := own_b2_2.ext hk
  replace own_b5_9 := own_b5_9.ext hk
  replace own_b7_22 := own_b7_22.ext hk
  replace kw := kw.x hk
  clear hR hk hg hP
  refine zn (hK25 _ _ ?_)
  refine zc e32 (fun hc => ?_) (fun hc => ?_)
  ·
   have hadj : adj (sortMb L) = true := by simp at hc; exact adj_true _ (k - 1) (by omega) (by simpa [Nat.sub_add_cancel (show 1 ≤ k by omega)] using hc.2)
   have hoe : objE L = 7 := by rw [objE, hadj]; rfl
   have hov : objM L = ⟨0, 0, ⟨#[]⟩, [], []⟩ := by rw [objM, hadj]; rfl
   refine zq fun K27 hK27 => ?_
   refine rg mixed y26 zz26 ?_
   refine .i (v := (.agg #[(.int .u8 (0)), (.int .i64 (0)), (.string (⟨#[]⟩)), (.slice none 0 0), (.slice none 0 0)])) (sp_build (vs := []) Tryz.underlying26 z26 (pl26 Tryz.underlying26) trivial rfl) ?_
   refine .dn fun a28 g W28 y28 zz28 hk hg hV hR hP => ?_
   obtain ⟨e33, -⟩ := hV
   replace e2 := ft hR e2
   replace A3_16 := A3_16.ext hk
   replace A4_16 := A4_16.ext hk
   replace D_v9_4 := D_v9_4.ext hk
   replace D_v19_22_4 := D_v19_22_4.ext hk
   replace D_v19_22_5 := D_v19_22_5.ext hk
   replace e33 := e33.q
   replace own_b2_2 := own_b2_2.ext hk
   replace own_b5_9 := own_b5_9.ext hk
   replace own_b7_22 := own_b7_22.ext hk
   replace kw := kw.x hk
   clear hR hk hg hP
   refine tail_store e2 e33 sz26 rfl own_b2_2 (lbr rfl) (all_cons rfl (all_cons rfl (all_cons rfl (all_cons rfl (all_cons rfl all_nil))))) (fun W29 hs own_b2_2 => ?_)
   have own_b2_2 : Own W29 b2_2 [(.int .u8 (0)), (.int .i64 (0)), (.string (⟨#[]⟩)), (.slice none 0 0), (.slice none 0 0)] 26 := own_b2_2
   replace own_b5_9 := own_store own_b5_9 hs ne_b2_2_b5_9.symm
   replace own_b7_22 := own_store own_b7_22 hs ne_b2_2_b7_22.symm
   replace D_v9_4 := sa_store D_v9_4 hs (by simp)
   replace D_v19_22_4 := sa_store D_v19_22_4 hs (by simp)
   replace D_v19_22_5 := sa_store D_v19_22_5 hs (by simp)
   replace A3_16 := arrF_store A3_16 hs (by simp) nb_b2_2_ar14_16
   replace A4_16 := arrF_store A4_16 hs (by simp) nb_b2_2_ar15_16
   replace kw := keeps_store kw hs lo_b2_2
   clear hs
   refine tail_assign (v := (.int .i64 (7))) rfl (by rw [y28]; exact Nat.le_of_ble_eq_true rfl) (fun a30 y30 zz30 e3 hr => ?_)
   replace y30 := y30.trans y28; replace zz30 := zz30.trans zz28
   replace e2 := (hr 2 (by decide)).trans e2
   replace e33 := (hr 33 (by decide)).trans e33
   clear hr
   refine zn (hK27 _ _ ?_)
   refine wp_ret ?_
   refine retCT (v := (.agg #[(.int .u8 (0)), (.int .i64 (0)), (.string (⟨#[]⟩)), (.slice none 0 0), (.slice none 0 0)])) rfl zz30 e2 own_b2_2 agg26 sz26 rfl (fun h => by cases h) rfl e3 ⟨_, rfl, kw, ?_⟩
   refine ⟨_, by rw [hoe], ?_, by first | exact djV_mk hdjx | exact djV_mk (fun b h => by cases h)⟩
   rw [hov]
   exact sf_fr (rdV_mk (lbr rfl) (rd_nil _) (rd_nil _) : Rd W29 (SF w (b7_22 :: (blks hd4_16 ++ (blks hd3_16 ++ (b5_9 :: (b2_2 :: [])))))) (V.d (V.mk (0) (0) (⟨#[]⟩) ([]) ([]))) _)
  have hk1 : 0 < k → ((sortMb L)[k - 1]).nm ≠ ((sortMb L)[k]).nm := by simp at hc; exact fun h => hc h
  refine wp_skip (hK24 _ _ ?_)
  refine zq fun K31 hK31 => ?_
  refine wp_reg (fun k => k ∉ blks hd3_16) (Ψ := fun W => Arr W w.heap.size 9 1 (SF w (b7_22 :: (blks hd4_16 ++ (blks hd3_16 ++ (b5_9 :: (b2_2 :: [])))))) (List.map D.str (List.map Mb.nm ((sortMb L).take k))) va3_16 hd3_16) mixed y26 zz26 (fun W W' k h => h.ext k) A3_16 ?_
  refine .i (fo 3 (hbs rfl e5) Tryz.underlying26 rfl sz23 rfl) ?_
  refine .i (lo1 (hlc rfl) own_b5_9 nb_b5_9_ar14_16 agg23 sz23 rfl) ?_
  refine .i (fo 0 (hbs rfl e7) Tryz.underlying66 rfl sz9 rfl) ?_
  refine .i (lo1 (hlc rfl) own_b7_22 nb_b7_22_ar14 agg9 sz9 rfl) ?_
  refine .op (φ := IsD (SF w (b7_22 :: (blks hd4_16 ++ (blks hd3_16 ++ (b5_9 :: (b2_2 :: [])))))) (strsD ([((sortMb L)[k]'hlt).nm]))) (st_d (sub_nbF (fun b hb => List.mem_cons_of_mem _ (List.mem_append_right _ (List.mem_append_left _ hb))))) (sp_bsl (ds := [D.str (((sortMb L)[k]'hlt).nm)]) Tryz.underlying23 sz9 z9 (lbr rfl) (lbr rfl) ⟨rfl, ((hlc rfl).str hb_v19_22_0), trivial⟩ rfl (by simp [width]) (fr_sf kw (in_cons own_b7_22.lt (in_app A4_16.lt (in_app A3_16.lt (in_cons own_b5_9.lt (in_cons own_b2_2.lt in_nil))))))) ?_
  refine .appB (ds := List.map D.str (List.map Mb.nm ((sortMb L).take k))) (es := [D.str (((sortMb L)[k]'hlt).nm)]) (X := SF w (b7_22 :: (blks hd4_16 ++ (blks hd3_16 ++ (b5_9 :: (b2_2 :: [])))))) Tryz.underlying23 inf9 (lbr rfl) (hlc rfl) (hlc rfl) (sub_nbF (fun b hb => List.mem_cons_of_mem _ (List.mem_append_right _ (List.mem_append_left _ hb)))) (by simp [maxLen]; omega) (by simp; omega) kw.size ?_
  refine .i (fo 3 (hbs rfl e5) Tryz.underlying26 rfl sz23 rfl) ?_
  refine .dn fun a32 g W32 y32 zz32 hk hg hV hR hP => ?_
  obtain ⟨e40, e39, -, -, -, -, -, -⟩ := hV
  replace e2 := ft hR e2
  replace e4 := ft hR e4
  replace e5 := ft hR e5
  replace e13 := ft hR e13
  replace e14 := ft hR e14
  replace e15 := ft hR e15
  replace e7 := ft hR e7
  obtain ⟨v39_32, ev⟩ : ∃ v, sl a32 39 = v := ⟨_, rfl⟩
  rw [ev] at e39
  obtain ⟨hd39_32, A_39_32, hf39_32⟩ := e39
  have e39 := ev; clear ev
  obtain ⟨v39_32a, v39_32n, v39_32c, ev⟩ := arr_sl A_39_32; subst ev
  replace A_39_32 := arrF_new (M' := (b7_22 :: (blks hd4_16 ++ (blks hd39_32 ++ (b5_9 :: (b2_2 :: [])))))) A_39_32 (rep_cons (rep_app rep_refl (rep_app (rep_q fun _ h => h) (rep_cons (rep_cons rep_nil)))))
  replace A_39_32 : Arr W32 w.heap.size 9 1 (SF w (b7_22 :: (blks hd4_16 ++ (blks hd39_32 ++ (b5_9 :: (b2_2 :: [])))))) (List.map D.str ((List.map Mb.nm ((sortMb L).take k)) ++ [((sortMb L)[k]'hlt).nm])) (.slice v39_32a v39_32n v39_32c) hd39_32 := by first | exact A_39_32 | (rw [List.map_append]; exact A_39_32)
  have nb_b2_2_32 : b2_2 ∉ blks hd39_32 := nb_new nb_b2_2_ar14_16 own_b2_2.lt hf39_32
  have nb_b5_9_32 : b5_9 ∉ blks hd39_32 := nb_new nb_b5_9_ar14_16 own_b5_9.lt hf39_32
  have nb_b7_22_32 : b7_22 ∉ blks hd39_32 := nb_new nb_b7_22_ar14 own_b7_22.lt hf39_32
  have dj_ar15_32 : ∀ b ∈ blks hd4_16, b ∉ blks hd39_32 := dj_new (dj_symm dj_ar14_ar15_16) A4_16.lt hf39_32
  replace A4_16 := arrF_app (M' := (b7_22 :: (blks hd4_16 ++ (blks hd39_32 ++ (b5_9 :: (b2_2 :: [])))))) A4_16 hk (fun b hb => List.mem_cons_of_mem _ (List.mem_append_right _ (List.mem_append_left _ hb))) (rep_cons (rep_app rep_refl (rep_app hf39_32 (rep_cons (rep_cons rep_nil))))) (dj_symm dj_ar14_ar15_16)
  replace D_v9_4 := sa_app (M' := (b7_22 :: (blks hd4_16 ++ (blks hd39_32 ++ (b5_9 :: (b2_2 :: [])))))) D_v9_4 hk (fun b hb => List.mem_cons_of_mem _ (List.mem_append_right _ (List.mem_append_left _ hb))) (rep_cons (rep_app rep_refl (rep_app hf39_32 (rep_cons (rep_cons rep_nil)))))
  replace D_v19_22_4 := sa_app (M' := (b7_22 :: (blks hd4_16 ++ (blks hd39_32 ++ (b5_9 :: (b2_2 :: [])))))) D_v19_22_4 hk (fun b hb => List.mem_cons_of_mem _ (List.mem_append_right _ (List.mem_append_left _ hb))) (rep_cons (rep_app rep_refl (rep_app hf39_32 (rep_cons (rep_cons rep_nil)))))
  replace D_v19_22_5 := sa_app (M' := (b7_22 :: (blks hd4_16 ++ (blks hd39_32 ++ (b5_9 :: (b2_2 :: [])))))) D_v19_22_5 hk (fun b hb => List.mem_cons_of_mem _ (List.mem_append_right _ (List.mem_append_left _ hb))) (rep_cons (rep_app rep_refl (rep_app hf39_32 (rep_cons (rep_cons rep_nil)))))
  replace own_b2_2 := own_app own_b2_2 hk nb_b2_2_ar14_16
  replace own_b5_9 := own_app own_b5_9 hk nb_b5_9_ar14_16
  replace own_b7_22 := own_app own_b7_22 hk nb_b7_22_ar14
  replace kw := keeps_app kw hk A3_16.ge
  have e40 : sl a32 40 = (.pointer (some ⟨b5_9, 3, none⟩)) := e40
  clear hR hk hg hP hf39_32 A3_16
  refine tail_store e40 e39 sz23 rfl own_b5_9 (lbr rfl) (all_cons rfl all_nil) (fun W33 hs own_b5_9 => ?_)
  have own_b5_9 : Own W33 b5_9 [(.int .u8 (5)), (.int .i64 (0)), (.string (⟨#[]⟩)), (.slice v39_32a v39_32n v39_32c), va4_16] 26 := own_b5_9
  replace own_b2_2 := own_store own_b2_2 hs ne_b2_2_b5_9
  replace own_b7_22 := own_store own_b7_22 hs ne_b5_9_b7_22.symm
  replace D_v9_4 := sa_store D_v9_4 hs (by simp)
  replace D_v19_22_4 := sa_store D_v19_22_4 hs (by simp)
  replace D_v19_22_5 := sa_store D_v19_22_5 hs (by simp)
  replace A_39_32 := arrF_store A_39_32 hs (by simp) nb_b5_9_32
  replace A4_16 := arrF_store A4_16 hs (by simp) nb_b5_9_ar15_16
  replace kw := keeps_store kw hs lo_b5_9
  clear hs
  refine zn (hK31 _ _ ?_)
  refine wp_reg (fun k => k ∉ blks hd4_16) (Ψ := fun W => Arr W w.heap.size 26 5 (SF w (b7_22 :: (blks hd4_16 ++ (blks hd39_32 ++ (b5_9 :: (b2_2 :: [])))))) (List.map V.d (List.map Mb.v ((sortMb L).take k))) va4_16 hd4_16) mixed y32 zz32 (fun W W' k h => h.ext k) A4_16 ?_
  refine .i (fo 4 (hbs rfl e5) Tryz.underlying26 rfl sz24 rfl) ?_
  refine .i (lo1 (hlc rfl) own_b5_9 nb_b5_9_ar15_16 agg24 sz24 rfl) ?_
  refine .i (fo 1 (hbs rfl e7) Tryz.underlying66 rfl sz26 rfl) ?_
  refine .i (v := (.agg #[(.int .u8 (((sortMb L)[k]'hlt).v.k)), (.int .i64 (((sortMb L)[k]'hlt).v.n)), (.string (((sortMb L)[k]'hlt).v.t)), (.slice v19_22_4a ((((sortMb L)[k]'hlt).v.ns).length) v19_22_4c), (.slice v19_22_5a ((((sortMb L)[k]'hlt).v.xs).length) v19_22_5c)])) (loA (hlc rfl) own_b7_22 nb_b7_22_ar15 agg26 sz26 rfl rfl) ?_
  refine .op (φ := IsD (Fr W33) (V.d (((sortMb L)[k]'hlt).v))) (st_d (sub_frnb (fun b hb => A4_16.lt b hb))) (sp_call1 (φ1 := IsD (SA w S (b7_22 :: (blks hd4_16 ++ (blks hd39_32 ++ (b5_9 :: (b2_2 :: [])))))) (V.d (((sortMb L)[k]'hlt).v))) ent56 ((hlc rfl).dat (rdV_in (x := ((sortMb L)[k]'hlt).v) hb_v19_22_3 D_v19_22_4 D_v19_22_5 : Rd W33 (SA w S (b7_22 :: (blks hd4_16 ++ (blks hd39_32 ++ (b5_9 :: (b2_2 :: [])))))) (V.d (((sortMb L)[k]'hlt).v)) _) (sub_nb (fun b hb => List.mem_cons_of_mem _ (List.mem_append_left _ hb)))) (fun g u1 W hk hgk h1 => (Copy_ok (((sortMb L)[k]'hlt).v) (by first | omega | exact Nat.le_of_ble_eq_true (by kernel_rfl)) W _ _ (fun b o h => sa_cln hS b o h.1) h1).mono (ret_fr hk hgk))) ?_
  refine .op (φ := IsD (SF w (b7_22 :: (blks hd4_16 ++ (blks hd39_32 ++ (b5_9 :: (b2_2 :: [])))))) (valsD ([((sortMb L)[k]'hlt).v]))) (st_d (sub_nbF (fun b hb => List.mem_cons_of_mem _ (List.mem_append_left _ hb)))) (sp_bsl (ds := [V.d (((sortMb L)[k]'hlt).v)]) Tryz.underlying24 sz26 z26 (lbr rfl) (lbr rfl) ⟨rfl, ((hlc rfl).sup (fr_sf kw (in_cons own_b7_22.lt (in_app A4_16.lt (in_app A_39_32.lt (in_cons own_b5_9.lt (in_cons own_b2_2.lt in_nil))))))), trivial⟩ rfl (by intro e he; simp at he; rcases he with rfl <;> exact width_V _) (fr_sf kw (in_cons own_b7_22.lt (in_app A4_16.lt (in_app A_39_32.lt (in_cons own_b5_9.lt (in_cons own_b2_2.lt in_nil))))))) ?_
  refine .appB (ds := List.map V.d (List.map Mb.v ((sortMb L).take k))) (es := [V.d (((sortMb L)[k]'hlt).v)]) (X := SF w (b7_22 :: (blks hd4_16 ++ (blks hd39_32 ++ (b5_9 :: (b2_2 :: [])))))) Tryz.underlying24 inf26 (lbr rfl) (hlc rfl) (hlc rfl) (sub_nbF (fun b hb => List.mem_cons_of_mem _ (List.mem_append_left _ hb))) (by simp [maxLen]; omega) (by simp; omega) kw.size ?_
  refine .i (fo 4 (hbs rfl e5) Tryz.underlying26 rfl sz24 rfl) ?_
  refine .dn fun a34 g W34 y34 zz34 hk hg hV hR hP => ?_
  obtain ⟨e48, e47, -, -, -, -, -, -, -⟩ := hV
  replace e2 := ft hR e2
  replace e4 := ft hR e4
  replace e5 := ft hR e5
  replace e13 := ft hR e13
  replace e14 := ft hR e14
  replace e15 := ft hR e15
  obtain ⟨v47_34, ev⟩ : ∃ v, sl a34 47 = v := ⟨_, rfl⟩
  rw [ev] at e47
  obtain ⟨hd47_34, A_47_34, hf47_34⟩ := e47
  have e47 := ev; clear ev
  obtain ⟨v47_34a, v47_34n, v47_34c, ev⟩ := arr_sl A_47_34; subst ev
  replace A_47_34 := arrF_new (M' := (b7_22 :: (blks hd47_34 ++ (blks hd39_32 ++ (b5_9 :: (b2_2 :: [])))))) A_47_34 (rep_cons (rep_app (rep_q fun _ h => h) (rep_app rep_refl (rep_cons (rep_cons rep_nil)))))
  replace A_47_34 : Arr W34 w.heap.size 26 5 (SF w (b7_22 :: (blks hd47_34 ++ (blks hd39_32 ++ (b5_9 :: (b2_2 :: [])))))) (List.map V.d ((List.map Mb.v ((sortMb L).take k)) ++ [((sortMb L)[k]'hlt).v])) (.slice v47_34a v47_34n v47_34c) hd47_34 := by first | exact A_47_34 | (rw [List.map_append]; exact A_47_34)
  have nb_b2_2_34 : b2_2 ∉ blks hd47_34 := nb_new nb_b2_2_ar15_16 own_b2_2.lt hf47_34
  have nb_b5_9_34 : b5_9 ∉ blks hd47_34 := nb_new nb_b5_9_ar15_16 own_b5_9.lt hf47_34
  have nb_b7_22_34 : b7_22 ∉ blks hd47_34 := nb_new nb_b7_22_ar15 own_b7_22.lt hf47_34
  have dj_ar14_34 : ∀ b ∈ blks hd39_32, b ∉ blks hd47_34 := dj_new (dj_symm dj_ar15_32) A_39_32.lt hf47_34
  replace A_39_32 := arrF_app (M' := (b7_22 :: (blks hd47_34 ++ (blks hd39_32 ++ (b5_9 :: (b2_2 :: [])))))) A_39_32 hk (fun b hb => List.mem_cons_of_mem _ (List.mem_append_left _ hb)) (rep_cons (rep_app hf47_34 (rep_app rep_refl (rep_cons (rep_cons rep_nil))))) (dj_symm dj_ar15_32)
  replace D_v9_4 := sa_app (M' := (b7_22 :: (blks hd47_34 ++ (blks hd39_32 ++ (b5_9 :: (b2_2 :: [])))))) D_v9_4 hk (fun b hb => List.mem_cons_of_mem _ (List.mem_append_left _ hb)) (rep_cons (rep_app hf47_34 (rep_app rep_refl (rep_cons (rep_cons rep_nil)))))
  replace D_v19_22_4 := sa_app (M' := (b7_22 :: (blks hd47_34 ++ (blks hd39_32 ++ (b5_9 :: (b2_2 :: [])))))) D_v19_22_4 hk (fun b hb => List.mem_cons_of_mem _ (List.mem_append_left _ hb)) (rep_cons (rep_app hf47_34 (rep_app rep_refl (rep_cons (rep_cons rep_nil)))))
  replace D_v19_22_5 := sa_app (M' := (b7_22 :: (blks hd47_34 ++ (blks hd39_32 ++ (b5_9 :: (b2_2 :: [])))))) D_v19_22_5 hk (fun b hb => List.mem_cons_of_mem _ (List.mem_append_left _ hb)) (rep_cons (rep_app hf47_34 (rep_app rep_refl (rep_cons (rep_cons rep_nil)))))
  replace own_b2_2 := own_app own_b2_2 hk nb_b2_2_ar15_16
  replace own_b5_9 := own_app own_b5_9 hk nb_b5_9_ar15_16
  replace own_b7_22 := own_app own_b7_22 hk nb_b7_22_ar15
  replace kw := keeps_app kw hk A4_16.ge
  have e48 : sl a34 48 = (.pointer (some ⟨b5_9, 4, none⟩)) := e48
  clear hR hk hg hP hf47_34 A4_16
  refine tail_store e48 e47 sz24 rfl own_b5_9 (lbr rfl) (all_cons rfl all_nil) (fun W35 hs own_b5_9 => ?_)
  have own_b5_9 : Own W35 b5_9 [(.int .u8 (5)), (.int .i64 (0)), (.string (⟨#[]⟩)), (.slice v39_32a v39_32n v39_32c), (.slice v47_34a v47_34n v47_34c)] 26 := own_b5_9
  replace own_b2_2 := own_store own_b2_2 hs ne_b2_2_b5_9
  replace own_b7_22 := own_store own_b7_22 hs ne_b5_9_b7_22.symm
  replace D_v9_4 := sa_store D_v9_4 hs (by simp)
  replace D_v19_22_4 := sa_store D_v19_22_4 hs (by simp)
  replace D_v19_22_5 := sa_store D_v19_22_5 hs (by simp)
  replace A_39_32 := arrF_store A_39_32 hs (by simp) nb_b5_9_32
  replace A_47_34 := arrF_store A_47_34 hs (by simp) nb_b5_9_34
  replace kw := keeps_store kw hs lo_b5_9
  clear hs
  refine zn (hK20 _ _ ?_)
  refine rg mixed y34 zz34 ?_
  refine .i (sp_add (hbs rfl e15) Has.cst (i64_in (by omega))) ?_
  refine .i (sp_move (hlc rfl)) ?_
  refine .dn fun a36 g W36 y36 zz36 hk hg hV hR hP => ?_
  obtain ⟨e15, -, -⟩ := hV
  replace e2 := ft hR e2
  replace e4 := ft hR e4
  replace e5 := ft hR e5
  replace e13 := ft hR e13
  replace e14 := ft hR e14
  replace A_39_32 := A_39_32.ext hk
  replace A_47_34 := A_47_34.ext hk
  replace D_v9_4 := D_v9_4.ext hk
  replace e15 := e15.q
  replace own_b2_2 := own_b2_2.ext hk
  replace own_b5_9 := own_b5_9.ext hk
  replace own_b7_22 := own_b7_22.ext hk
  replace kw := kw.x hk
  clear hR hk hg hP
  rw [show (List.map Mb.nm ((sortMb L).take k)) ++ [((sortMb L)[k]'hlt).nm] = List.map Mb.nm ((sortMb L).take (k + 1)) by rw [List.take_succ_eq_append_getElem hlt, List.map_append]; rfl] at A_39_32
  rw [show (List.map Mb.v ((sortMb L).take k)) ++ [((sortMb L)[k]'hlt).v] = List.map Mb.v ((sortMb L).take (k + 1)) by rw [List.take_succ_eq_append_getElem hlt, List.map_append]; rfl] at A_47_34
  exact tail_nil ⟨hlt, (.slice v39_32a v39_32n v39_32c), hd39_32, (.slice v47_34a v47_34n v47_34c), hd47_34, y36, zz36, kw, e2, e4, e5, e13, e14, (e15.trans (congrArg (Value.int .i64) (by simp))), own_b2_2, own_b5_9, (sa_less D_v9_4 (ls_skip (ls_keepA (ls_keepA (ls_keep (ls_keep ls_nil)))))), (arrF_less A_39_32 (ls_skip (ls_keepA (ls_keepA (ls_keep (ls_keep ls_nil)))))), nb_b2_2_32, nb_b5_9_32, (arrF_less A_47_34 (ls_skip (ls_keepA (ls_keepA (ls_keep (ls_keep ls_nil)))))), nb_b2_2_34, nb_b5_9_34, dj_ar14_34, fun i h hi => by rcases Nat.lt_succ_iff_lt_or_eq.1 hi with h1 | h1; exact hinv i h h1; subst h1; exact hk1 (by omega)⟩
 have hge0 : ¬ k < (sortMb L).length := by simpa using hc
 have hge : k = (sortMb L).length := by omega
 have hadj : adj (sortMb L) = false := adj_false _ fun i h => hinv i h (by omega)
 have hoe : objE L = 0 := by rw [objE, hadj]; rfl
 have hov : objM L = ⟨5, 0, ⟨#[]⟩, (sortMb L).map Mb.nm, (sortMb L).map Mb.v⟩ := by rw [objM, hadj]; rfl
 have hdjx := dj_arr A3_16 A4_16 dj_ar14_ar15_16
 rw [show List.map Mb.nm ((sortMb L).take k) = List.map Mb.nm (sortMb L) by rw [hge, List.take_length]] at A3_16
 have D_va3_16 : Rd W18 (SF w (blks hd4_16 ++ (b5_9 :: (b2_2 :: [])))) (strsD (List.map Mb.nm (sortMb L))) va3_16 := arrF_rd A3_16 (ls_keepA (ls_skipA (ls_keep (ls_keep ls_nil)))) (nin_app dj_ar14_ar15_16 (nin_cons nb_b5_9_ar14_16 (nin_cons nb_b2_2_ar14_16 nin_nil)))
 obtain ⟨va3_16a, va3_16c, ev, D2⟩ := rdS_out D_va3_16
 subst ev; replace D_va3_16 := D2; clear D2
 replace D_v9_4 := sa_less (M' := (blks hd4_16 ++ (b5_9 :: (b2_2 :: [])))) D_v9_4 (ls_keepA (ls_skipA (ls_keep (ls_keep ls_nil))))
 replace A4_16 := arrF_less (M' := (blks hd4_16 ++ (b5_9 :: (b2_2 :: [])))) A4_16 (ls_keepA (ls_skipA (ls_keep (ls_keep ls_nil))))
 rw [show List.map Mb.v ((sortMb L).take k) = List.map Mb.v (sortMb L) by rw [hge, List.take_length]] at A4_16
 have D_va4_16 : Rd W18 (SF w [b5_9, b2_2]) (valsD (List.map Mb.v (sortMb L))) va4_16 := arrF_rd A4_16 (ls_skipA (ls_keep (ls_keep ls_nil))) (nin_cons nb_b5_9_ar15_16 (nin_cons nb_b2_2_ar15_16 nin_nil))
 obtain ⟨va4_16a, va4_16c, ev, D2⟩ := rdVs_out D_va4_16
 subst ev; replace D_va4_16 := D2; clear D2
 replace D_v9_4 := sa_less (M' := [b5_9, b2_2]) D_v9_4 (ls_skipA (ls_keep (ls_keep ls_nil)))
 replace D_va3_16 := sf_less (M' := [b5_9, b2_2]) D_va3_16 (ls_skipA (ls_keep (ls_keep ls_nil)))
 refine wp_exit (hK11 _ _ ?_)
 refine zq fun K37 hK37 => ?_
 refine rg mixed y18 zz18 ?_
 refine .i (v := (.agg #[(.int .u8 (5)), (.int .i64 (0)), (.string (⟨#[]⟩)), (.slice va3_16a ((List.map Mb.nm (sortMb L)).length) va3_16c), (.slice va4_16a ((List.map Mb.v (sortMb L)).length) va4_16c)])) (loA (hbs rfl e5) own_b5_9 trivial agg26 sz26 rfl rfl) ?_
 refine .dn fun a38 g W38 y38 zz38 hk hg hV hR hP => ?_
 obtain ⟨e50, -⟩ := hV
 replace e2 := ft hR e2
 replace D_v9_4 := D_v9_4.ext hk
 replace D_va3_16 := D_va3_16.ext hk
 replace D_va4_16 := D_va4_16.ext hk
 replace e50 := e50.q
 replace own_b2_2 := own_b2_2.ext hk
 replace own_b5_9 := own_b5_9.ext hk
 replace kw := kw.x hk
 clear hR hk hg hP
 refine tail_store e2 e50 sz26 rfl own_b2_2 (lbr rfl) (all_cons rfl (all_cons rfl (all_cons rfl (all_cons rfl (all_cons rfl all_nil))))) (fun W39 hs own_b2_2 => ?_)
 have own_b2_2 : Own W39 b2_2 [(.int .u8 (5)), (.int .i64 (0)), (.string (⟨#[]⟩)), (.slice va3_16a ((List.map Mb.nm (sortMb L)).length) va3_16c), (.slice va4_16a ((List.map Mb.v (sortMb L)).length) va4_16c)] 26 := own_b2_2
 replace own_b5_9 := own_store own_b5_9 hs ne_b2_2_b5_9.symm
 replace D_v9_4 := sa_store D_v9_4 hs (by simp)
 replace D_va3_16 := sf_store D_va3_16 hs (by simp)
 replace D_va4_16 := sf_store D_va4_16 hs (by simp)
 replace kw := keeps_store kw hs lo_b2_2
 clear hs
 refine tail_assign (v := (.int .i64 (0))) rfl (by rw [y38]; exact Nat.le_of_ble_eq_true rfl) (fun a40 y40 zz40 e3 hr => ?_)
 replace y40 := y40.trans y38; replace zz40 := zz40.trans zz38
 replace e2 := (hr 2 (by decide)).trans e2
 replace e50 := (hr 50 (by decide)).trans e50
 clear hr
 refine zn (hK37 _ _ ?_)
 refine wp_ret ?_
 refine retCT (v := (.agg #[(.int .u8 (5)), (.int .i64 (0)), (.string (⟨#[]⟩)), (.slice va3_16a ((List.map Mb.nm (sortMb L)).length) va3_16c), (.slice va4_16a ((List.map Mb.v (sortMb L)).length) va4_16c)])) rfl zz40 e2 own_b2_2 agg26 sz26 rfl (fun h => by cases h) rfl e3 ⟨_, rfl, kw, ?_⟩
 refine ⟨_, by rw [hoe], ?_, by first | exact djV_mk hdjx | exact djV_mk (fun b h => by cases h)⟩
 rw [hov]
 exact sf_fr (rdV_mk (lbr rfl) D_va3_16 D_va4_16 : Rd W39 (SF w [b5_9, b2_2]) (V.d (V.mk (5) (0) (⟨#[]⟩) (List.map Mb.nm (sortMb L)) (List.map Mb.v (sortMb L)))) _)
theorem ObjectOf_ok (L : List Mb) (hn : 0 < L.length) (h12 : L.length ≤ 12) (hw : ∀ m ∈ L, m.v.wt ≤ 1073741824) (w : World) (S : BSet) (v : Value) (hS : ∀ b o, S b o → Cln o) (hv : Rd w S (mbsD L) v) : Calls Tryz.prog 46 #[v] w (Ret w fun r W => ∃ r1, r = .tuple #[r1, .int .i64 (objE L)] ∧ Rd W (Fr w) (objM L).d r1) := (ObjectOfJ_ok L hn h12 hw w S v hS hv).mono fun e W ⟨v, h1, h2, r1, h3, h4, _⟩ => ⟨v, h1, h2, r1, h3, h4⟩
end Go.Proofs.YtnobijngkpflcaaGreat
namespace Go.Eng
def hexB (c : Nat) : Bool := (decide (48 ≤ c) && decide (c ≤ 57)) || (decide (97 ≤ c) && decide (c ≤ 102))
def hexV (c : Nat) : Int := if 48 ≤ c ∧ c ≤ 57 then c - 48 else if 97 ≤ c ∧ c ≤ 102 then c - 97 + 10 else 0
def hexIs (s : ByteArray) : Bool := s.data.toList.all fun c => hexB c.toNat
theorem hexIs_iff (s : ByteArray) : hexIs s = true ↔ ∀ i (h : i < s.size), hexB (s[i]'h).toNat = true := by
  unfold hexIs
  rw [List.all_eq_true]
  constructor
  · intro h i hi
    exact h _ (by rw [ByteArray.getElem_eq_getElem_data]; simp)
  · intro h c hc
    obtain ⟨i, hi, rfl⟩ := List.getElem_of_mem hc
    have hi' : i < s.size := by simpa using hi
    have := h i hi'
    rw [ByteArray.getElem_eq_getElem_data] at this
    simpa using this
theorem hexIs_false {s : ByteArray} {i : Nat} (h : i < s.size) (hf : hexB (s[i]'h).toNat = false) : hexIs s = false := by
  cases hq : hexIs s with
  | false => rfl
  | true => have := (hexIs_iff s).1 hq i h; rw [hf] at this; cases this
theorem Au.ext' {a b : Au} (h1 : a.th = b.th) (h2 : a.ids = b.ids) : a = b := by cases a; cases b; simp_all
def txtV (s : ByteArray) : V := V.mk 3 0 s [] []
end Go.Eng
namespace Go.Proofs.YtnobijngkpflcaaGreat
open Go.Eng
set_option maxRecDepth 100000 in
theorem digit_ok (s : ByteArray) (i : Nat) (hi : i < s.size) (hm : s.size ≤ maxLen) (w : World) : Calls Tryz.prog 72 #[.string s, .int .i64 i] w (Ret w fun u _ => u = .tuple #[.int .i64 (hexV (s[i]'hi).toNat), .bool (hexB (s[i]'hi).toNat)]) := by
 simp only [maxLen] at hm
 have hc8 : (s[i]'hi).toNat < 256 := UInt8.toNat_lt _
 refine enter Tryz.func72 rfl Tryz.ntmps72 (lbr rfl) fun a0 y0 zz0 harg => ?_
 have e0 : sl a0 0 = (.string (s)) := harg 0 (lbr rfl)
 have e1 : sl a0 1 = (.int .i64 ((i : Nat))) := harg 1 (lbr rfl)
 have kw := Keeps.refl All w
 clear harg
 refine zq fun K1 hK1 => ?_
 refine rg mixed y0 zz0 ?_
 refine .ac ?_
 refine .ac ?_
 refine .dn fun a2 g W2 y2 zz2 hk hg hV hR hP => ?_
 obtain ⟨-, -, -⟩ := hV
 replace e0 := ft hR e0
 replace e1 := ft hR e1
 replace kw := kw.x hk
 clear hR hk hg hP
 refine zn (hK1 _ _ ?_)
 refine zq fun K3 hK3 => ?_
 refine zq fun K4 hK4 => ?_
 refine rg mixed y2 zz2 ?_
 refine .mb rfl e1 ?_
 refine .i (sp_lss (hlc rfl) Has.cst) ?_
 refine .i (sp_move (hlc rfl)) ?_
 refine .em rfl (hlc rfl) rfl e1 ?_
 refine .em rfl (hlc rfl) rfl e0 ?_
 refine .e rfl (hlc rfl) (fun hg => sp_lenS Tryz.underlying9 ((hlc rfl).undE hg)) ?_
 refine .e rfl (hlc rfl) (fun hg => sp_geq ((hlc rfl).undE hg) ((hlc rfl).undE hg)) ?_
 refine .i (sp_or (hlc rfl) ((hlc rfl).weak fun hq => hq)) ?_
 refine .dn fun a5 g W5 y5 zz5 hk hg hV hR hP => ?_
 obtain ⟨e14, -, -, -, -, -, -, -, -⟩ := hV
 replace e0 := ft hR e0
 replace e1 := ft hR e1
 replace e14 := e14.q
 replace kw := kw.x hk
 clear hR hk hg hP
 refine zn (hK4 _ _ ?_)
 refine zc e14 (fun hc => ?_) (fun hc => ?_)
 ·
  exfalso
  simp at hc
  omega
 refine wp_skip (hK3 _ _ ?_)
 refine zq fun K6 hK6 => ?_
 refine zq fun K7 hK7 => ?_
 refine rg mixed y5 zz5 ?_
 refine .mb rfl e0 ?_
 refine .mb rfl e1 ?_
 refine .i (v := (.int .u8 (((s[i]'hi).toNat : Nat)))) (sp_indexStr (i := i) Tryz.underlying9 (hlc rfl) (hlc rfl) rfl hi) ?_
 refine .al rfl ?_
 refine .dn fun a8 g W8 y8 zz8 hk hg hV hR hP => ?_
 obtain ⟨e6, -, -, -, -⟩ := hV
 replace e6 := e6.q
 replace kw := kw.x hk
 clear hR hk hg hP
 refine zn (hK7 _ _ ?_)
 refine wp_block ?_
 refine zq fun K9 hK9 => ?_
 refine rg mixed y8 zz8 ?_
 refine .mb rfl e6 ?_
 refine .i (sp_leq Has.cst (hlc rfl)) ?_
 refine .i (sp_move (hlc rfl)) ?_
 refine .em rfl (hlc rfl) rfl e6 ?_
 refine .e rfl (hlc rfl) (fun hg => sp_leq ((hlc rfl).undE hg) Has.cst) ?_
 refine .i (sp_and (hlc rfl) ((hlc rfl).weak fun hq => hq)) ?_
 refine .al rfl ?_
 refine .dn fun a10 g W10 y10 zz10 hk hg hV hR hP => ?_
 obtain ⟨e18, -, -, -, -, -, -, -⟩ := hV
 replace e6 := ft hR e6
 replace e18 := e18.q
 replace kw := kw.x hk
 clear hR hk hg hP
 refine zn (hK9 _ _ ?_)
 refine zc e18 (fun hc => ?_) (fun hc => ?_)
 ·
  have h1 : 48 ≤ (s[i]'hi).toNat ∧ (s[i]'hi).toNat ≤ 57 := by simp at hc; omega
  have hfin : hexV (s[i]'hi).toNat = (s[i]'hi).toNat - 48 ∧ hexB (s[i]'hi).toNat = true := ⟨by rw [hexV, if_pos h1], by simp [hexB, h1]⟩
  refine zq fun K11 hK11 => ?_
  refine rg mixed y10 zz10 ?_
  refine .mb rfl e6 ?_
  refine .i (sp_sub (hlc rfl) Has.cst (u8_in (by omega))) ?_
  refine .i (v := (.int .i64 ((((s[i]'hi).toNat : Nat) : Int) - (48 : Int)))) (sp_conv Tryz.underlying5 Tryz.underlying3 (hlc rfl) (i64_in (by omega))) ?_
  refine .al rfl ?_
  refine .ac ?_
  refine .dn fun a12 g W12 y12 zz12 hk hg hV hR hP => ?_
  obtain ⟨e5, e4, -, -, -, -⟩ := hV
  replace e4 := e4.q
  replace e5 := e5.q
  replace kw := kw.x hk
  clear hR hk hg hP
  refine zn (hK11 _ _ ?_)
  refine wp_ret ?_
  refine ret2 rfl zz12 e4 e5 ⟨_, rfl, kw, ?_⟩
  rw [hfin.1, hfin.2]
 have h1 : ¬ (48 ≤ (s[i]'hi).toNat ∧ (s[i]'hi).toNat ≤ 57) := by simp at hc; omega
 refine zq fun K13 hK13 => ?_
 refine rg mixed y10 zz10 ?_
 refine .mb rfl e6 ?_
 refine .i (sp_leq Has.cst (hlc rfl)) ?_
 refine .i (sp_move (hlc rfl)) ?_
 refine .em rfl (hlc rfl) rfl e6 ?_
 refine .e rfl (hlc rfl) (fun hg => sp_leq ((hlc rfl).undE hg) Has.cst) ?_
 refine .i (sp_and (hlc rfl) ((hlc rfl).weak fun hq => hq)) ?_
 refine .al rfl ?_
 refine .dn fun a14 g W14 y14 zz14 hk hg hV hR hP => ?_
 obtain ⟨e28, -, -, -, -, -, -, -⟩ := hV
 replace e6 := ft hR e6
 replace e28 := e28.q
 replace kw := kw.x hk
 clear hR hk hg hP
 refine zn (hK13 _ _ ?_)
 refine zc e28 (fun hc => ?_) (fun hc => ?_)
 ·
  have h2 : 97 ≤ (s[i]'hi).toNat ∧ (s[i]'hi).toNat ≤ 102 := by simp at hc; omega
  have hfin : hexV (s[i]'hi).toNat = (s[i]'hi).toNat - 97 + 10 ∧ hexB (s[i]'hi).toNat = true := ⟨by rw [hexV, if_neg h1, if_pos h2], by simp [hexB, h2]⟩
  refine zq fun K15 hK15 => ?_
  refine rg mixed y14 zz14 ?_
  refine .mb rfl e6 ?_
  refine .i (sp_sub (hlc rfl) Has.cst (u8_in (by omega))) ?_
  refine .i (v := (.int .i64 ((((s[i]'hi).toNat : Nat) : Int) - (97 : Int)))) (sp_conv Tryz.underlying5 Tryz.underlying3 (hlc rfl) (i64_in (by omega))) ?_
  refine .i (sp_add (hlc rfl) Has.cst (i64_in (by omega))) ?_
  refine .al rfl ?_
  refine .ac ?_
  refine .dn fun a16 g W16 y16 zz16 hk hg hV hR hP => ?_
  obtain ⟨e5, e4, -, -, -, -, -⟩ := hV
  replace e4 := e4.q
  replace e5 := e5.q
  replace kw := kw.x hk
  clear hR hk hg hP
  refine zn (hK15 _ _ ?_)
  refine wp_ret ?_
  refine ret2 rfl zz16 e4 e5 ⟨_, rfl, kw, ?_⟩
  rw [hfin.1, hfin.2]
 have h2 : ¬ (97 ≤ (s[i]'hi).toNat ∧ (s[i]'hi).toNat ≤ 102) := by simp at hc; omega
 have hfin : hexV (s[i]'hi).toNat = 0 ∧ hexB (s[i]'hi).toNat = false := ⟨by rw [hexV, if_neg h1, if_neg h2], by simp [hexB]; omega⟩
 refine wp_skip (hK6 _ _ ?_)
 refine zq fun K17 hK17 => ?_
 refine rg mixed y14 zz14 ?_
 refine .ac ?_
 refine .ac ?_
 refine .dn fun a18 g W18 y18 zz18 hk hg hV hR hP => ?_
 obtain ⟨e5, e4, -⟩ := hV
 replace e4 := e4.q
 replace e5 := e5.q
 replace kw := kw.x hk
 clear hR hk hg hP
 refine zn (hK17 _ _ ?_)
 refine wp_ret ?_
 refine ret2 rfl zz18 e4 e5 ⟨_, rfl, kw, ?_⟩
 rw [hfin.1, hfin.2]
set_option maxRecDepth 100000 in
theorem hexIs_ok (s : ByteArray) (hm : s.size ≤ maxLen) (w : World) : Calls Tryz.prog 50 #[.string s] w (Ret w fun u _ => u = .bool (hexIs s)) := by
 have hmx := hm
 simp only [maxLen] at hmx
 refine enter Tryz.func50 rfl Tryz.ntmps50 (lbr rfl) fun a0 y0 zz0 harg => ?_
 have e0 : sl a0 0 = (.string (s)) := harg 0 (lbr rfl)
 have kw := Keeps.refl All w
 clear harg
 refine zq fun K1 hK1 => ?_
 refine rg mixed y0 zz0 ?_
 refine .ac ?_
 refine .dn fun a2 g W2 y2 zz2 hk hg hV hR hP => ?_
 obtain ⟨-, -⟩ := hV
 replace e0 := ft hR e0
 replace kw := kw.x hk
 clear hR hk hg hP
 refine zn (hK1 _ _ ?_)
 refine zq fun K3 hK3 => ?_
 refine zq fun K4 hK4 => ?_
 refine rg mixed y2 zz2 ?_
 refine .mb rfl e0 ?_
 refine .i (sp_lenS Tryz.underlying9 (hlc rfl)) ?_
 refine .i (sp_move Has.cst) ?_
 refine .dn fun a5 g W5 y5 zz5 hk hg hV hR hP => ?_
 obtain ⟨e8, e7, -, -⟩ := hV
 replace e0 := ft hR e0
 replace e7 := e7.q
 replace e8 := e8.q
 replace kw := kw.x hk
 clear hR hk hg hP
 refine zn (hK4 _ _ ?_)
 refine wp_block ?_
 refine wp_for (s.size) (fun k a W => a.tmps.size = 20 ∧ a.defers = [] ∧ Keeps All w W ∧ sl a 0 = (.string (s)) ∧ sl a 7 = (.int .i64 (s.size)) ∧ sl a 8 = (.int .i64 ((k : Nat))) ∧ (∀ i (h : i < s.size), i < k → hexB (s[i]'h).toNat = true)) ⟨y5, zz5, kw, e0, e7, (e8.trans (congrArg (Value.int .i64) (rfl))), fun i h hi => absurd hi (by omega)⟩ ?_
 clear kw e0 e7 e8
 rintro k a6 W6 hkk ⟨y6, zz6, kw, e0, e7, e8, hinv⟩
 refine zq fun K7 hK7 => ?_
 refine rg mixed y6 zz6 ?_
 refine .i (sp_lss (hbs rfl e8) (hbs rfl e7)) ?_
 refine .dn fun a8 g W8 y8 zz8 hk hg hV hR hP => ?_
 obtain ⟨e9, -⟩ := hV
 replace e0 := ft hR e0
 replace e7 := ft hR e7
 replace e8 := ft hR e8
 replace e9 := e9.q
 replace kw := kw.x hk
 clear hR hk hg hP
 refine zn (hK7 _ _ ?_)
 refine zq fun K9 hK9 => ?_
 refine zc e9 (fun hc => ?_) (fun hc => ?_)
 ·
  have hlt : k < s.size := by simpa using hc
  refine wp_skip (hK9 _ _ ?_)
  refine zq fun K10 hK10 => ?_
  refine wp_block ?_
  refine zq fun K11 hK11 => ?_
  refine rg mixed y8 zz8 ?_
  refine .mb rfl e8 ?_
  refine .al rfl ?_
  refine .dn fun a12 g W12 y12 zz12 hk hg hV hR hP => ?_
  obtain ⟨e3, -, -⟩ := hV
  replace e0 := ft hR e0
  replace e7 := ft hR e7
  replace e8 := ft hR e8
  replace e3 := e3.q
  replace kw := kw.x hk
  clear hR hk hg hP
  refine zn (hK11 _ _ ?_)
  refine zq fun K13 hK13 => ?_
  refine rg mixed y12 zz12 ?_
  refine .mb rfl e0 ?_
  refine .mb rfl e3 ?_
  refine .i (v := (.tuple #[(.int .i64 (hexV (s[k]'hlt).toNat)), (.bool (hexB (s[k]'hlt).toNat))])) (sp_call2 (φ1 := Is (.string (s))) (φ2 := Is (.int .i64 ((k : Nat)))) ent72 (hlc rfl) (hlc rfl) (fun g u1 u2 W hk hgk h1 h2 => by have h1 : u1 = _ := h1; subst u1; have h2 : u2 = _ := h2; subst u2; exact digit_ok (s) k hlt hm W)) ?_
  refine .i (sp_move (hlc rfl)) ?_
  refine .i (v := (.int .i64 (hexV (s[k]'hlt).toNat))) (sp_extT (hlc rfl) rfl) ?_
  refine .i (v := (.bool (hexB (s[k]'hlt).toNat))) (sp_extT (hlc rfl) rfl) ?_
  refine .al rfl ?_
  refine .al rfl ?_
  refine .dn fun a14 g W14 y14 zz14 hk hg hV hR hP => ?_
  obtain ⟨e5, -, -, -, -, -, -, -, -⟩ := hV
  replace e0 := ft hR e0
  replace e7 := ft hR e7
  replace e8 := ft hR e8
  replace e5 := e5.q
  replace kw := kw.x hk
  clear hR hk hg hP
  refine zn (hK13 _ _ ?_)
  refine zq fun K15 hK15 => ?_
  refine rg mixed y14 zz14 ?_
  refine .mb rfl e5 ?_
  refine .i (sp_not (hlc rfl)) ?_
  refine .dn fun a16 g W16 y16 zz16 hk hg hV hR hP => ?_
  obtain ⟨e18, -, -⟩ := hV
  replace e0 := ft hR e0
  replace e7 := ft hR e7
  replace e8 := ft hR e8
  replace e18 := e18.q
  replace kw := kw.x hk
  clear hR hk hg hP
  refine zn (hK15 _ _ ?_)
  refine zc e18 (fun hc => ?_) (fun hc => ?_)
  ·
   have hfin : hexIs s = false := hexIs_false hlt (by simpa using hc)
   refine zq fun K17 hK17 => ?_
   refine rg mixed y16 zz16 ?_
   refine .ac ?_
   refine .dn fun a18 g W18 y18 zz18 hk hg hV hR hP => ?_
   obtain ⟨e2, -⟩ := hV
   replace e2 := e2.q
   replace kw := kw.x hk
   clear hR hk hg hP
   refine zn (hK17 _ _ ?_)
   refine wp_ret ?_
   refine ret1 rfl zz18 e2 ⟨_, rfl, kw, ?_⟩
   rw [hfin]
  have hk1 : hexB (s[k]'hlt).toNat = true := by simpa using hc
  refine wp_skip (hK10 _ _ ?_)
  refine rg mixed y16 zz16 ?_
  refine .i (sp_add (hbs rfl e8) Has.cst (i64_in (by omega))) ?_
  refine .i (sp_move (hlc rfl)) ?_
  refine .dn fun a19 g W19 y19 zz19 hk hg hV hR hP => ?_
  obtain ⟨e8, -, -⟩ := hV
  replace e0 := ft hR e0
  replace e7 := ft hR e7
  replace e8 := e8.q
  replace kw := kw.x hk
  clear hR hk hg hP
  exact tail_nil ⟨hlt, y19, zz19, kw, e0, e7, (e8.trans (congrArg (Value.int .i64) (by simp))), fun i h hi => by rcases Nat.lt_succ_iff_lt_or_eq.1 hi with h1 | h1; exact hinv i h h1; subst h1; exact hk1⟩
 have hge0 : ¬ k < s.size := by simpa using hc
 have hge : k = s.size := by omega
 have hfin : hexIs s = true := (hexIs_iff s).2 fun i h => hinv i h (by omega)
 refine wp_exit (hK3 _ _ ?_)
 refine zq fun K20 hK20 => ?_
 refine rg mixed y8 zz8 ?_
 refine .ac ?_
 refine .dn fun a21 g W21 y21 zz21 hk hg hV hR hP => ?_
 obtain ⟨e2, -⟩ := hV
 replace e2 := e2.q
 replace kw := kw.x hk
 clear hR hk hg hP
 refine zn (hK20 _ _ ?_)
 refine wp_ret ?_
 refine ret1 rfl zz21 e2 ⟨_, rfl, kw, ?_⟩
 rw [hfin]
end Go.Proofs.YtnobijngkpflcaaGreat
namespace Go.Eng
def errK (k : Nat) (e : Int) : Int := if e = 0 ∧ k ≠ 5 then 10 else e
def failK (k : Nat) (e e' : Int) : Int := if errK k e = 0 then e' else e
def numE (lo hi : Int) (v : V) : Int := if v.k ≠ 2 then 10 else if v.n < lo ∨ hi < v.n then 1 else 0
def numV (lo hi : Int) (v : V) : Int := if numE lo hi v = 0 then v.n else 0
def tkE (x : V) (e : Int) (name : ByteArray) (ce : V → Int) : Int := if errK x.k e ≠ 0 then e else if getB x name = false then 6 else ce (getV x name)
def tkB (x : V) (e : Int) (name : ByteArray) (ce : V → Int) : Bool := decide (errK x.k e = 0) && getB x name && decide (ce (getV x name) = 0)
def tkA (x : V) (A : As) (e : Int) (name : ByteArray) (ce : V → Int) : As := if tkB x e name ce then mset A name (mget A name + 1) else A
def doneE (x : V) (A : As) (e : Int) : Int := if errK x.k e ≠ 0 then errK x.k e else if x.ns.all (fun s => decide (mget A s ≠ 0)) then 0 else 11
theorem errK_zero {k : Nat} {e : Int} (h : errK k e = 0) : e = 0 ∧ k = 5 := by
  unfold errK at h
  split at h
  · cases h
  · rename_i hn
    subst h
    exact ⟨rfl, by omega⟩
theorem done_false {ns : List ByteArray} {A : As} {k : Nat} (h : k < ns.length) (h0 : mget A ns[k] = 0) : ns.all (fun s => decide (mget A s ≠ 0)) = false := by
  cases hq : ns.all (fun s => decide (mget A s ≠ 0)) with
  | false => rfl
  | true => have := List.all_eq_true.1 hq ns[k] (List.getElem_mem _); simp [h0] at this
theorem done_true {ns : List ByteArray} {A : As} (h : ∀ i (hi : i < ns.length), mget A ns[i] ≠ 0) : ns.all (fun s => decide (mget A s ≠ 0)) = true := by
  rw [List.all_eq_true]
  intro s hs
  obtain ⟨i, hi, rfl⟩ := List.getElem_of_mem hs
  simp [h i hi]
theorem getV_wt (x : V) (name : ByteArray) : (getV x name).wt ≤ x.wt := by
  have hz : V.zero.wt ≤ x.wt := wt_pos x
  unfold getV
  split
  · exact hz
  · split
    · exact hz
    · rw [List.getD_eq_getElem?_getD]
      cases h : x.xs[(findI x.ns name).toNat]? with
      | none => exact hz
      | some y =>
        obtain ⟨hi, rfl⟩ := List.getElem?_eq_some_iff.1 h
        have h1 := wts_mem hi
        have h2 := wt_eq x
        simp only [Option.getD_some]; omega
def AB (n : Int) (A : As) : Prop := ∀ s, 0 ≤ mget A s ∧ mget A s ≤ n
theorem AB.nil : AB 0 [] := fun _ => ⟨Int.le_refl _, Int.le_refl _⟩
theorem AB.mono {m n : Int} {A : As} (h : AB m A) (hmn : m ≤ n) : AB n A := fun s => ⟨(h s).1, by have := (h s).2; omega⟩
theorem AB.tk {n : Int} {A : As} {x : V} {e : Int} {name : ByteArray} {ce : V → Int} (h : AB n A) : AB (n + 1) (tkA x A e name ce) := by
  unfold tkA
  split
  · intro s
    rw [mget_set]
    split
    · have := h name; omega
    · have := h s; omega
  · exact h.mono (by omega)
end Go.Eng
namespace Go.Eng
def PkF (w : World) (bo bm : Nat) : BSet := fun b o => Fr w b o ∧ b ∉ [bo, bm]
def PkAt (w W : World) (T : TypeId) (x : V) (A : As) (e : Int) (u : Value) : Prop :=
  ∃ bo bm cn ci, u = .pointer (some ⟨bo, 0, none⟩) ∧ w.heap.size ≤ bo ∧ w.heap.size ≤ bm ∧ bo ≠ bm ∧ Own W bo [.int .u8 x.k, .int .i64 x.n, .string x.t, cn, ci, .map (some bm), .int .i64 e] T ∧ OwnM W bm A ∧
    Rd W (PkF w bo bm) (strsD x.ns) cn ∧ Rd W (PkF w bo bm) (valsD x.xs) ci ∧ x.t.size ≤ maxLen
def PkD (w W : World) (T : TypeId) (e : Int) (u : Value) : Prop :=
  ∃ bo, u = .pointer (some ⟨bo, 0, none⟩) ∧ w.heap.size ≤ bo ∧ Own W bo [.int .u8 0, .int .i64 0, .string ⟨#[]⟩, .slice none 0 0, .slice none 0 0, .map none, .int .i64 e] T
def IsPk (w0 : World) (T : TypeId) (x : V) (A : As) (e : Int) : Fact := fun _ u W => PkAt w0 W T x A e u
def IsPkD (w0 : World) (T : TypeId) (e : Int) : Fact := fun _ u W => PkD w0 W T e u
theorem PkAt.ext {w W W' : World} {T : TypeId} {x : V} {A : As} {e : Int} {u : Value} (h : PkAt w W T x A e u) (k : Ext W W') : PkAt w W' T x A e u := by
  obtain ⟨bo, bm, cn, ci, h1, h2, h3, h4, h5, h6, h7, h8, h9⟩ := h
  exact ⟨bo, bm, cn, ci, h1, h2, h3, h4, h5.ext k, h6.ext k, h7.ext k, h8.ext k, h9⟩
theorem st_pk {w0 : World} {T : TypeId} {x : V} {A : As} {e : Int} : Stable All (IsPk w0 T x A e) := ⟨fun _ _ _ _ k h => PkAt.ext h k, fun _ _ _ _ _ _ h => h⟩
theorem st_pkd {w0 : World} {T : TypeId} {e : Int} : Stable All (IsPkD w0 T e) := ⟨fun _ _ _ _ k ⟨bo, h1, h2, h3⟩ => ⟨bo, h1, h2, h3.ext k⟩, fun _ _ _ _ _ _ h => h⟩
theorem pk_up {S : Nat → Prop} {w0 W W' : World} {T : TypeId} {x : V} {A : As} {e : Int} {u : Value} (hk : Keeps S w0 W) (h : PkAt W W' T x A e u) : PkAt w0 W' T x A e u := by
  obtain ⟨bo, bm, cn, ci, h1, h2, h3, h4, h5, h6, h7, h8, h9⟩ := h
  have up : ∀ b o, PkF W bo bm b o → b < W'.heap.size → PkF w0 bo bm b o := fun b o hb _ => ⟨⟨Nat.le_trans hk.size hb.1.1, hb.1.2⟩, hb.2⟩
  exact ⟨bo, bm, cn, ci, h1, Nat.le_trans hk.size h2, Nat.le_trans hk.size h3, h4, h5, h6, h7.mono up, h8.mono up, h9⟩
theorem pkd_up {S : Nat → Prop} {w0 W W' : World} {T : TypeId} {e : Int} {u : Value} (hk : Keeps S w0 W) (h : PkD W W' T e u) : PkD w0 W' T e u := by
  obtain ⟨bo, h1, h2, h3⟩ := h
  exact ⟨bo, h1, Nat.le_trans hk.size h2, h3⟩
theorem pk_data {S0 : Nat → Prop} {w W0 W : World} {bo bm : Nat} {M : List Nat} {d : D} {v : Value} (kw : Keeps S0 w W0) (hM : ∀ b ∈ M, b < W0.heap.size) (h : Rd W (PkF W0 bo bm) d v) : Rd W (SF w ([bo, bm] ++ M)) d v :=
  h.mono fun b _ hb _ => ⟨Nat.le_trans kw.size hb.1.1, hb.1.2, fun hm => (List.mem_append.1 hm).elim hb.2 fun h => by have := hM b h; have := hb.1.1; omega⟩
theorem sf_pkf {w W : World} {bo bm : Nat} {M : List Nat} {d : D} {v : Value} (hL : ∀ b ∈ [bo, bm], b ∈ M) (h : Rd W (SF w M) d v) : Rd W (PkF w bo bm) d v :=
  h.mono fun b _ hb _ => ⟨⟨hb.1, hb.2.1⟩, fun hm => hb.2.2 (hL b hm)⟩
def ofE (x : V) : Int := if x.k ≠ 5 then 10 else if x.ns.length ≠ x.xs.length ∨ asc x.ns = false then 3 else 0
theorem failK_dead {k : Nat} {e f : Int} (h : errK k e ≠ 0) : failK k e f = e := by rw [failK, if_neg h]
end Go.Eng
namespace Go.Eng
theorem ofE_dead {x : V} (h : ofE x ≠ 0) : errK 0 (ofE x) = ofE x := by rw [errK, if_neg (by simp [h])]
end Go.Eng
namespace Go.Eng
def allowB (c : Nat) : Bool := (decide (97 ≤ c) && decide (c ≤ 122)) || ((decide (65 ≤ c) && decide (c ≤ 90)) || ((decide (48 ≤ c) && decide (c ≤ 57)) || (decide (c = 46) || (decide (c = 95) || decide (c = 45)))))
def allB (p : Nat → Bool) (s : ByteArray) : Bool := s.data.toList.all fun c => p c.toNat
theorem allB_iff (p : Nat → Bool) (s : ByteArray) : allB p s = true ↔ ∀ i (h : i < s.size), p (s[i]'h).toNat = true := by
  unfold allB
  rw [List.all_eq_true]
  constructor
  · intro h i hi
    exact h _ (by rw [ByteArray.getElem_eq_getElem_data]; simp)
  · intro h c hc
    obtain ⟨i, hi, rfl⟩ := List.getElem_of_mem hc
    have := h i (by simpa using hi)
    rw [ByteArray.getElem_eq_getElem_data] at this
    simpa using this
theorem allB_false {p : Nat → Bool} {s : ByteArray} {i : Nat} (h : i < s.size) (hf : p (s[i]'h).toNat = false) : allB p s = false := by
  cases hq : allB p s with
  | false => rfl
  | true => have := (allB_iff p s).1 hq i h; rw [hf] at this; cases this
def byteAt (s : ByteArray) (i : Nat) : Nat := if h : i < s.size then (s[i]'h).toNat else 0
def roleB (s : ByteArray) : Bool := if s.size = 0 ∨ 64 < s.size ∨ byteAt s 0 = 46 then false else allB allowB s
def digR (s : ByteArray) : Bool := decide (2 ≤ s.size) && (decide (s.size ≤ 128) && (decide (s.size % 2 = 0) && hexIs s))
def hsOk (h : Hs) : Bool := roleB h.al && digR h.hx
def badH (b a : Hs) : Bool := sLt b.al a.al || decide (b.al = a.al)
def ascH : List Hs → Bool
  | a :: b :: r => !badH b a && ascH (b :: r)
  | _ => true
theorem ascH_true : ∀ (L : List Hs), (∀ i (h : i + 1 < L.length), badH L[i + 1] L[i] = false) → ascH L = true
  | [], _ => rfl
  | [a], _ => rfl
  | a :: b :: r, h => by
    have h0 := h 0 (by simp)
    have := ascH_true (b :: r) fun i hi => h (i + 1) (by simpa using hi)
    simp at h0
    simp [ascH, h0, this]
theorem ascH_get : ∀ (L : List Hs), ascH L = true → ∀ i (h : i + 1 < L.length), badH L[i + 1] L[i] = false
  | [], _, i, h => by simp at h
  | [a], _, i, h => by simp at h
  | a :: b :: r, ha, 0, _ => by simp [ascH] at ha; simpa using ha.1
  | a :: b :: r, ha, i + 1, h => by
    simp [ascH] at ha
    exact ascH_get (b :: r) ha.2 i (by simpa using h)
theorem ascH_false (L : List Hs) (i : Nat) (h : i + 1 < L.length) (hb : badH L[i + 1] L[i] = true) : ascH L = false := by
  cases hq : ascH L with
  | false => rfl
  | true => have := ascH_get L hq i h; rw [hb] at this; cases this
def mayH (l : List Hs) : Bool := decide (1 ≤ l.length) && (decide (l.length ≤ 4) && (l.all hsOk && ascH l))
theorem all_false {α : Type} {p : α → Bool} {l : List α} {i : Nat} (h : i < l.length) (hf : p l[i] = false) : l.all p = false := by
  cases hq : l.all p with
  | false => rfl
  | true => have := List.all_eq_true.1 hq l[i] (List.getElem_mem _); rw [hf] at this; cases this
theorem all_true {α : Type} {p : α → Bool} {l : List α} (hf : ∀ i (h : i < l.length), p l[i] = true) : l.all p = true := by
  rw [List.all_eq_true]
  intro x hx
  obtain ⟨i, hi, rfl⟩ := List.getElem_of_mem hx
  exact hf i hi
def hashO (l : List Hs) (a : ByteArray) : Option Hs := l.find? fun h => decide (h.al = a)
def hashB (l : List Hs) (a : ByteArray) : Bool := (hashO l a).isSome
def hashS (l : List Hs) (a : ByteArray) : ByteArray := match hashO l a with | some h => h.hx | none => ⟨#[]⟩
theorem hashO_some {l : List Hs} {a : ByteArray} {k : Nat} (h : k < l.length) (hn : ∀ i (h : i < l.length), i < k → l[i].al ≠ a) (hk : l[k].al = a) : hashO l a = some l[k] := by
  unfold hashO
  rw [List.find?_eq_some_iff_getElem]
  exact ⟨by simp [hk], k, h, rfl, fun j hj => by simpa using hn j (by omega) hj⟩
theorem hashO_none {l : List Hs} {a : ByteArray} (hn : ∀ i (h : i < l.length), l[i].al ≠ a) : hashO l a = none := by
  unfold hashO
  rw [List.find?_eq_none]
  intro x hx
  obtain ⟨i, hi, rfl⟩ := List.getElem_of_mem hx
  simpa using hn i hi
def hsEq (a b : Hs) : Bool := decide (a.al = b.al) && decide (a.hx = b.hx)
theorem hsEq_iff (a b : Hs) : hsEq a b = true ↔ a = b := by cases a; cases b; simp [hsEq]
def sameH : List Hs → List Hs → Bool
  | [], [] => true
  | a :: la, b :: bs => hsEq a b && sameH la bs
  | _, _ => false
theorem sameH_iff : ∀ (a b : List Hs), sameH a b = true ↔ a = b
  | [], [] => by simp [sameH]
  | a :: la, [] => by simp [sameH]
  | [], b :: bs => by simp [sameH]
  | a :: la, b :: bs => by simp [sameH, hsEq_iff, sameH_iff la bs]
theorem sameH_false {a b : List Hs} (h : a ≠ b) : sameH a b = false := by
  cases hq : sameH a b with
  | false => rfl
  | true => exact absurd ((sameH_iff a b).1 hq) h
def noneB (x : V) : Bool := decide (x.k = 0) && (decide (x.n = 0) && (decide (x.t = ⟨#[]⟩) && (decide (x.ns.length = 0) && decide (x.xs.length = 0))))
def szH : List Hs → Nat → Nat
  | [], n => n
  | h :: l, n => if n < 5000 then szH l (n + 10 + min 5000 h.al.size + min 5000 h.hx.size) else n
theorem szH_big (l : List Hs) {n : Nat} (h : ¬ n < 5000) : szH l n = n := by cases l <;> simp [szH, h]
def sHashes : ByteArray := ⟨#[104, 97, 115, 104, 101, 115]⟩
def sLength : ByteArray := ⟨#[108, 101, 110, 103, 116, 104]⟩
def sCustom : ByteArray := ⟨#[99, 117, 115, 116, 111, 109]⟩
def numVv (n : Int) : V := V.mk 2 n ⟨#[]⟩ [] []
def hsM (h : Hs) : Mb := ⟨h.al, V.mk 3 0 h.hx [] []⟩
def hshO (l : List Hs) : V := objM (l.map hsM)
def recL (r : Rc) : List Mb := if noneB r.cu then [⟨sHashes, hshO r.hs⟩, ⟨sLength, numVv r.ln⟩] else [⟨sHashes, hshO r.hs⟩, ⟨sLength, numVv r.ln⟩, ⟨sCustom, r.cu⟩]
def recO (r : Rc) : V := objM (recL r)
def mayR (r : Rc) : Bool := if r.ln < 0 ∨ 1099511627776 < r.ln ∨ mayH r.hs = false then false else if noneB r.cu = false ∧ mayB r.cu = false then false else mayB (recO r)
def recE (r : Rc) : Int := if mayR r then 0 else 3
def recV (r : Rc) : V := if mayR r then recO r else ⟨0, 0, ⟨#[]⟩, [], []⟩
def sameR (a b : Rc) : Bool := decide (a.ln = b.ln) && (sameH a.hs b.hs && V.beq a.cu b.cu)
def hsF : List ByteArray → List V → Int
  | n :: ns, x :: xs => if roleB n = false then 3 else if x.k ≠ 3 then 10 else if digR x.t = false then 3 else hsF ns xs
  | _, _ => 0
def hsOE (v : V) : Int := if mayB v = false then 3 else if v.k ≠ 5 then 10 else if 4 < v.ns.length then 5 else if v.ns.length = 0 then 4 else hsF v.ns v.xs
def hsZ (ns : List ByteArray) (xs : List V) : List Hs := List.zipWith (fun n x => ⟨n, x.t⟩) ns xs
def hsOV (v : V) : List Hs := if hsOE v = 0 then hsZ v.ns v.xs else []
theorem mayB_len {x : V} (h : mayB x = true) (hk : x.k = 5) : x.ns.length = x.xs.length := by
  unfold mayB at h
  rw [mayV_eq] at h
  split at h
  · cases h
  · rename_i hp
    have hp2 : properB x = true := by
      cases hq : properB x with
      | true => rfl
      | false => exact absurd (.inr hq) hp
    simp [properB, hk] at hp2
    omega
theorem hsF_step {ns : List ByteArray} {xs : List V} {k : Nat} (h1 : k < ns.length) (h2 : k < xs.length) : hsF (ns.drop k) (xs.drop k) = if roleB ns[k] = false then 3 else if xs[k].k ≠ 3 then 10 else if digR xs[k].t = false then 3 else hsF (ns.drop (k + 1)) (xs.drop (k + 1)) := by
  rw [List.drop_eq_getElem_cons h1, List.drop_eq_getElem_cons h2, hsF]
theorem hsZ_step {ns : List ByteArray} {xs : List V} {k : Nat} (h1 : k < ns.length) (h2 : k < xs.length) : hsZ (ns.take k) (xs.take k) ++ [⟨ns[k], xs[k].t⟩] = hsZ (ns.take (k + 1)) (xs.take (k + 1)) := by
  rw [List.take_succ_eq_append_getElem h1, List.take_succ_eq_append_getElem h2]
  unfold hsZ
  rw [List.zipWith_append (by simp; omega)]
  rfl
theorem hsZ_len {ns : List ByteArray} {xs : List V} {k : Nat} (h1 : k ≤ ns.length) (h2 : k ≤ xs.length) : (hsZ (ns.take k) (xs.take k)).length = k := by simp [hsZ]; omega
end Go.Eng
namespace Go.Eng
section
variable {P : Program} {ops : Array Oper} {S : Nat → Prop} {w0 : World} {a0 : Act} {Γ : Ctx}
variable {d : Option Tmp} {ty : TypeId} {pos : String} {af : Array Edge} {gd : Option (Nat × Bool)}
def HsEqAt (P : Program) (T : TypeId) : Prop := P.eqGuardType P.depth T = false ∧ ∀ (a b c e : ByteArray) (W : World), (Op.equalIn 10000 T (.agg #[.string a, .string b]) (.agg #[.string c, .string e])).run P W = .ok (decide (a = c) && decide (b = e)) W
theorem sp_hsNeq {x y : Operand} {T T' : TypeId} {a b : Hs} {X Y : BSet} (hq : HsEqAt P T) (hx : Has S w0 a0 Γ x (IsD X a.d)) (hy : Has S w0 a0 Γ y (IsD Y b.d)) :
    Spec P ops S w0 a0 Γ ⟨d, .binOp .neq T x y T', ty, pos, af, gd⟩ (Is (.bool (!hsEq a b))) := sp_val fun p g W hk hg he => by
  have e1 := (rdHs_out (hx.of_env hk hg he (by simp [Op.operands]))).1
  have e2 := (rdHs_out (hy.of_env hk hg he (by simp [Op.operands]))).1
  simp only [execOp, e1, e2, Sem.run_bind, run_eqGuard_agg W _ _ _ _ _ _ hq.1, Result.andThen_ok, run_neq_struct, hq.2]
  rfl
end
theorem rdHss_len {W : World} {X : BSet} {l : List Hs} {v : Value} (h : Rd W X (hssD l) v) : l.length ≤ maxLen := by
  obtain ⟨cs, h1, _⟩ := h
  simp only [hssD, RdC] at h1
  obtain ⟨a, cap, _, h2, h3, _⟩ := h1
  simp at h2; omega
theorem rdl_at {W : World} {X : BSet} {b sz : Nat} : ∀ (ds : List D) (o i : Nat) (hi : i < ds.length), RdL W X b sz ds o → ∃ cs, RdC W X ds[i] cs
  | [], _, i, hi, _ => by simp at hi
  | d :: ds, o, 0, _, h => by simp only [RdL] at h; obtain ⟨⟨cs, _, _, h2⟩, _⟩ := h; exact ⟨cs, h2⟩
  | d :: ds, o, i + 1, hi, h => by simp only [RdL] at h; exact rdl_at ds _ i (by simpa using hi) h.2
theorem rdHss_at {W : World} {X : BSet} {l : List Hs} {v : Value} {i : Nat} (h : Rd W X (hssD l) v) (hi : i < l.length) : l[i].al.size ≤ maxLen ∧ l[i].hx.size ≤ maxLen := by
  obtain ⟨cs, h1, _⟩ := h
  simp only [hssD, RdC] at h1
  obtain ⟨a, cap, _, h2, h3, h4⟩ := h1
  rcases h4 with h4 | ⟨b, o, _, _, _, h5⟩
  · simp at h4; subst h4; simp at hi
  · obtain ⟨c, hc⟩ := rdl_at _ _ i (by simpa using hi) h5
    rw [List.getElem_map] at hc
    exact (rdHs_out ⟨c, hc, rfl⟩).2
theorem byteAt_pos {s : ByteArray} {i : Nat} (h : i < s.size) : byteAt s i = (s[i]'h).toNat := by rw [byteAt, dif_pos h]
section
variable {P : Program} {ops : Array Oper} {S : Nat → Prop} {w0 : World} {a0 : Act} {Γ : Ctx}
variable {d : Option Tmp} {ty : TypeId} {pos : String} {af : Array Edge} {gd : Option (Nat × Bool)}
theorem sp_indexStrB {x y : Operand} {T : TypeId} {s : ByteArray} {k : IntKind} {j : Int} {i : Nat} (hT : P.underlying T = some .string) (hx : Has S w0 a0 Γ x (Is (.string s))) (hy : Has S w0 a0 Γ y (Is (.int k j))) (hj : j = i) (hi : i < s.size) :
    Spec P ops S w0 a0 Γ ⟨d, .index T x y, ty, pos, af, gd⟩ (Is (.int .u8 (byteAt s i : Nat))) := by rw [byteAt_pos hi]; exact sp_indexStrK hT hx hy hj hi
end
end Go.Eng
namespace Go.Proofs.YtnobijngkpflcaaGreat
open Go.Eng
theorem bytes_eq (x y : ByteArray) : x.toList = y.toList ↔ x = y := ⟨fun h => by rw [ByteArray.toList_eq, ByteArray.toList_eq] at h; obtain ⟨⟨_⟩⟩ := x; obtain ⟨⟨_⟩⟩ := y; simpa using h, fun h => h ▸ rfl⟩
theorem eqHs : HsEqAt Tryz.prog 43 := by
  refine ⟨by kernel_rfl, fun a b c e w => ?_⟩
  have u9 := Tryz.underlying9
  have a9 := Tryz.isAgg9
  have z9 := Tryz.sizeOf9
  have hS : Tryz.prog.underlying 43 = some (.struct (Tryz.prog.fieldsOf 43)) := by kernel_rfl
  have hp : Tryz.prog.stoodInHeld 43 = false := by kernel_rfl
  rw [show (10000 : Nat) = 9999 + 1 from rfl, run_equalIn_agg w 9999 43 _ _ hS hp]
  simp only [Program.fieldsOf, Tryz.underlying43]
  go_simp
  by_cases h1 : a = c <;> by_cases h2 : b = e <;> simp [h1, h2, bytes_eq]
set_option maxRecDepth 100000 in
theorem allowed_ok (c : Nat) (w : World) : Calls Tryz.prog 49 #[.int .u8 c] w (Ret w fun u _ => u = .bool (allowB c)) := by
 refine enter Tryz.func49 rfl Tryz.ntmps49 (lbr rfl) fun a0 y0 zz0 harg => ?_
 have e0 : sl a0 0 = (.int .u8 ((c : Nat))) := harg 0 (lbr rfl)
 have kw := Keeps.refl All w
 clear harg
 refine zq fun K1 hK1 => ?_
 refine rg mixed y0 zz0 ?_
 refine .ac ?_
 refine .dn fun a2 g W2 y2 zz2 hk hg hV hR hP => ?_
 obtain ⟨-, -⟩ := hV
 replace e0 := ft hR e0
 replace kw := kw.x hk
 clear hR hk hg hP
 refine zn (hK1 _ _ ?_)
 refine zq fun K3 hK3 => ?_
 refine wp_block ?_
 refine zq fun K4 hK4 => ?_
 refine zq fun K5 hK5 => ?_
 refine rg mixed y2 zz2 ?_
 refine .mb rfl e0 ?_
 refine .i (sp_geq (hlc rfl) Has.cst) ?_
 refine .i (sp_move (hlc rfl)) ?_
 refine .em rfl (hlc rfl) rfl e0 ?_
 refine .e rfl (hlc rfl) (fun hg => sp_leq ((hlc rfl).undE hg) Has.cst) ?_
 refine .i (sp_and (hlc rfl) ((hlc rfl).weak fun hq => hq)) ?_
 refine .al rfl ?_
 refine .dn fun a6 g W6 y6 zz6 hk hg hV hR hP => ?_
 obtain ⟨e3, -, -, -, -, -, -, -⟩ := hV
 replace e0 := ft hR e0
 replace e3 := e3.q
 replace kw := kw.x hk
 clear hR hk hg hP
 refine zn (hK5 _ _ ?_)
 refine zc e3 (fun hc => ?_) (fun hc => ?_)
 ·
  simp at hc
  refine wp_skip (hK4 _ _ ?_)
  refine zc e3 (fun hc => ?_) (fun hc => ?_)
  ·
   simp at hc
   refine zq fun K7 hK7 => ?_
   refine rg mixed y6 zz6 ?_
   refine .ac ?_
   refine .dn fun a8 g W8 y8 zz8 hk hg hV hR hP => ?_
   obtain ⟨e2, -⟩ := hV
   replace e2 := e2.q
   replace kw := kw.x hk
   clear hR hk hg hP
   refine zn (hK7 _ _ ?_)
   refine wp_ret ?_
   refine ret1 rfl zz8 e2 ⟨_, rfl, kw, ?_⟩
   refine congrArg Value.bool ?_
   rw [Bool.eq_iff_iff]
   simp [allowB]
   try omega
  simp at hc
  refine wp_skip (hK3 _ _ ?_)
  refine zq fun K9 hK9 => ?_
  refine rg mixed y6 zz6 ?_
  refine .mb rfl e0 ?_
  refine .i (sp_eql (hlc rfl) Has.cst) ?_
  refine .i (sp_move (hlc rfl)) ?_
  refine .em rfl (hlc rfl) rfl e0 ?_
  refine .e rfl (hlc rfl) (fun hg => sp_eql ((hlc rfl).undE hg) Has.cst) ?_
  refine .i (sp_or (hlc rfl) ((hlc rfl).weak fun hq => hq)) ?_
  refine .i (sp_move (hlc rfl)) ?_
  refine .em rfl (hlc rfl) rfl e0 ?_
  refine .e rfl (hlc rfl) (fun hg => sp_eql ((hlc rfl).undE hg) Has.cst) ?_
  refine .i (sp_or (hlc rfl) ((hlc rfl).weak fun hq => hq)) ?_
  refine .al rfl ?_
  refine .dn fun a10 g W10 y10 zz10 hk hg hV hR hP => ?_
  obtain ⟨e2, -, -, -, -, -, -, -, -, -, -, -⟩ := hV
  replace e2 := e2.q
  replace kw := kw.x hk
  clear hR hk hg hP
  refine zn (hK9 _ _ ?_)
  refine wp_ret ?_
  refine ret1 rfl zz10 e2 ⟨_, rfl, kw, ?_⟩
  refine congrArg Value.bool ?_
  rw [Bool.eq_iff_iff]
  simp [allowB]
  try omega
 simp at hc
 refine zq fun K11 hK11 => ?_
 refine rg mixed y6 zz6 ?_
 refine .mb rfl e0 ?_
 refine .i (sp_geq (hlc rfl) Has.cst) ?_
 refine .i (sp_move (hlc rfl)) ?_
 refine .em rfl (hlc rfl) rfl e0 ?_
 refine .e rfl (hlc rfl) (fun hg => sp_leq ((hlc rfl).undE hg) Has.cst) ?_
 refine .i (sp_and (hlc rfl) ((hlc rfl).weak fun hq => hq)) ?_
 refine .al rfl ?_
 refine .dn fun a12 g W12 y12 zz12 hk hg hV hR hP => ?_
 obtain ⟨e3, -, -, -, -, -, -, -⟩ := hV
 replace e0 := ft hR e0
 replace e3 := e3.q
 replace kw := kw.x hk
 clear hR hk hg hP
 refine zn (hK11 _ _ ?_)
 refine zc e3 (fun hc => ?_) (fun hc => ?_)
 ·
  simp at hc
  refine wp_skip (hK4 _ _ ?_)
  refine zc e3 (fun hc => ?_) (fun hc => ?_)
  ·
   simp at hc
   refine zq fun K13 hK13 => ?_
   refine rg mixed y12 zz12 ?_
   refine .ac ?_
   refine .dn fun a14 g W14 y14 zz14 hk hg hV hR hP => ?_
   obtain ⟨e2, -⟩ := hV
   replace e2 := e2.q
   replace kw := kw.x hk
   clear hR hk hg hP
   refine zn (hK13 _ _ ?_)
   refine wp_ret ?_
   refine ret1 rfl zz14 e2 ⟨_, rfl, kw, ?_⟩
   refine congrArg Value.bool ?_
   rw [Bool.eq_iff_iff]
   simp [allowB]
   try omega
  simp at hc
  refine wp_skip (hK3 _ _ ?_)
  refine zq fun K15 hK15 => ?_
  refine rg mixed y12 zz12 ?_
  refine .mb rfl e0 ?_
  refine .i (sp_eql (hlc rfl) Has.cst) ?_
  refine .i (sp_move (hlc rfl)) ?_
  refine .em rfl (hlc rfl) rfl e0 ?_
  refine .e rfl (hlc rfl) (fun hg => sp_eql ((hlc rfl).undE hg) Has.cst) ?_
  refine .i (sp_or (hlc rfl) ((hlc rfl).weak fun hq => hq)) ?_
  refine .i (sp_move (hlc rfl)) ?_
  refine .em rfl (hlc rfl) rfl e0 ?_
  refine .e rfl (hlc rfl) (fun hg => sp_eql ((hlc rfl).undE hg) Has.cst) ?_
  refine .i (sp_or (hlc rfl) ((hlc rfl).weak fun hq => hq)) ?_
  refine .al rfl ?_
  refine .dn fun a16 g W16 y16 zz16 hk hg hV hR hP => ?_
  obtain ⟨e2, -, -, -, -, -, -, -, -, -, -, -⟩ := hV
  replace e2 := e2.q
  replace kw := kw.x hk
  clear hR hk hg hP
  refine zn (hK15 _ _ ?_)
  refine wp_ret ?_
  refine ret1 rfl zz16 e2 ⟨_, rfl, kw, ?_⟩
  refine congrArg Value.bool ?_
  rw [Bool.eq_iff_iff]
  simp [allowB]
  try omega
 simp at hc
 refine rg mixed y12 zz12 ?_
 refine .mb rfl e0 ?_
 refine .i (sp_geq (hlc rfl) Has.cst) ?_
 refine .i (sp_move (hlc rfl)) ?_
 refine .em rfl (hlc rfl) rfl e0 ?_
 refine .e rfl (hlc rfl) (fun hg => sp_leq ((hlc rfl).undE hg) Has.cst) ?_
 refine .i (sp_and (hlc rfl) ((hlc rfl).weak fun hq => hq)) ?_
 refine .al rfl ?_
 refine .dn fun a17 g W17 y17 zz17 hk hg hV hR hP => ?_
 obtain ⟨e3, -, -, -, -, -, -, -⟩ := hV
 replace e0 := ft hR e0
 replace e3 := e3.q
 replace kw := kw.x hk
 clear hR hk hg hP
 refine zn (hK4 _ _ ?_)
 refine zc e3 (fun hc => ?_) (fun hc => ?_)
 ·
  simp at hc
  refine zq fun K18 hK18 => ?_
  refine rg mixed y17 zz17 ?_
  refine .ac ?_
  refine .dn fun a19 g W19 y19 zz19 hk hg hV hR hP => ?_
  obtain ⟨e2, -⟩ := hV
  replace e2 := e2.q
  replace kw := kw.x hk
  clear hR hk hg hP
  refine zn (hK18 _ _ ?_)
  refine wp_ret ?_
  refine ret1 rfl zz19 e2 ⟨_, rfl, kw, ?_⟩
  refine congrArg Value.bool ?_
  rw [Bool.eq_iff_iff]
  simp [allowB]
  try omega
 simp at hc
 refine wp_skip (hK3 _ _ ?_)
 refine zq fun K20 hK20 => ?_
 refine rg mixed y17 zz17 ?_
 refine .mb rfl e0 ?_
 refine .i (sp_eql (hlc rfl) Has.cst) ?_
 refine .i (sp_move (hlc rfl)) ?_
 refine .em rfl (hlc rfl) rfl e0 ?_
 refine .e rfl (hlc rfl) (fun hg => sp_eql ((hlc rfl).undE hg) Has.cst) ?_
 refine .i (sp_or (hlc rfl) ((hlc rfl).weak fun hq => hq)) ?_
 refine .i (sp_move (hlc rfl)) ?_
 refine .em rfl (hlc rfl) rfl e0 ?_
 refine .e rfl (hlc rfl) (fun hg => sp_eql ((hlc rfl).undE hg) Has.cst) ?_
 refine .i (sp_or (hlc rfl) ((hlc rfl).weak fun hq => hq)) ?_
 refine .al rfl ?_
 refine .dn fun a21 g W21 y21 zz21 hk hg hV hR hP => ?_
 obtain ⟨e2, -, -, -, -, -, -, -, -, -, -, -⟩ := hV
 replace e2 := e2.q
 replace kw := kw.x hk
 clear hR hk hg hP
 refine zn (hK20 _ _ ?_)
 refine wp_ret ?_
 refine ret1 rfl zz21 e2 ⟨_, rfl, kw, ?_⟩
 refine congrArg Value.bool ?_
 rw [Bool.eq_iff_iff]
 simp [allowB]
 try omega
set_option maxRecDepth 100000 in
theorem Role_ok (s : ByteArray) (hm : s.size ≤ maxLen) (w : World) : Calls Tryz.prog 30 #[.string s] w (Ret w fun u _ => u = .bool (roleB s)) := by
 have hmx := hm
 simp only [maxLen] at hmx
 have hse : s = (⟨#[]⟩ : ByteArray) ↔ s.size = 0 := ⟨fun h => by rw [h]; rfl, fun h => by obtain ⟨d⟩ := s; simp [ByteArray.size] at h; rw [h]⟩
 refine enter Tryz.func30 rfl Tryz.ntmps30 (lbr rfl) fun a0 y0 zz0 harg => ?_
 have e0 : sl a0 0 = (.string (s)) := harg 0 (lbr rfl)
 have kw := Keeps.refl All w
 clear harg
 refine zq fun K1 hK1 => ?_
 refine rg mixed y0 zz0 ?_
 refine .ac ?_
 refine .dn fun a2 g W2 y2 zz2 hk hg hV hR hP => ?_
 obtain ⟨-, -⟩ := hV
 replace e0 := ft hR e0
 replace kw := kw.x hk
 clear hR hk hg hP
 refine zn (hK1 _ _ ?_)
 refine zq fun K3 hK3 => ?_
 refine zq fun K4 hK4 => ?_
 refine rg mixed y2 zz2 ?_
 refine .mb rfl e0 ?_
 refine .i (sp_sEql (hlc rfl) Has.cst) ?_
 refine .i (sp_move (hlc rfl)) ?_
 refine .em rfl (hlc rfl) rfl e0 ?_
 refine .e rfl (hlc rfl) (fun hg => sp_lenS Tryz.underlying9 ((hlc rfl).undE hg)) ?_
 refine .e rfl (hlc rfl) (fun hg => sp_gtr ((hlc rfl).undE hg) Has.cst) ?_
 refine .i (sp_or (hlc rfl) ((hlc rfl).weak fun hq => hq)) ?_
 refine .i (sp_move (hlc rfl)) ?_
 refine .em rfl (hlc rfl) rfl e0 ?_
 refine .e (v := (.int .u8 ((byteAt s 0 : Nat)))) rfl (hlc rfl) (fun hg => sp_indexStrB (i := 0) Tryz.underlying9 ((hlc rfl).undE hg) Has.cst rfl (Nat.pos_of_ne_zero fun h => of_decide_eq_false (Bool.or_eq_false_iff.1 hg).1 (hse.2 h))) ?_
 refine .e rfl (hlc rfl) (fun hg => sp_eql ((hlc rfl).undE hg) Has.cst) ?_
 refine .i (sp_or (hlc rfl) ((hlc rfl).weak fun hq => hq)) ?_
 refine .dn fun a5 g W5 y5 zz5 hk hg hV hR hP => ?_
 obtain ⟨e15, -, -, -, -, -, -, -, -, -, -, -, -⟩ := hV
 replace e0 := ft hR e0
 replace e15 := e15.q
 replace kw := kw.x hk
 clear hR hk hg hP
 refine zn (hK4 _ _ ?_)
 refine zc e15 (fun hc => ?_) (fun hc => ?_)
 ·
  have hfin : roleB s = false := by rw [roleB, if_pos]; simp only [Bool.or_eq_true, decide_eq_true_eq, beq_iff_eq] at hc; rcases hc with (h | h) | h; exact .inl (hse.1 h); exact .inr (.inl (by omega)); exact .inr (.inr (by omega))
  refine zq fun K6 hK6 => ?_
  refine rg mixed y5 zz5 ?_
  refine .ac ?_
  refine .dn fun a7 g W7 y7 zz7 hk hg hV hR hP => ?_
  obtain ⟨e2, -⟩ := hV
  replace e2 := e2.q
  replace kw := kw.x hk
  clear hR hk hg hP
  refine zn (hK6 _ _ ?_)
  refine wp_ret ?_
  refine ret1 rfl zz7 e2 ⟨_, rfl, kw, ?_⟩
  rw [hfin]
 have hno : ¬ (s.size = 0 ∨ 64 < s.size ∨ byteAt s 0 = 46) := by simp only [Bool.or_eq_false_iff, decide_eq_false_iff_not, beq_eq_false_iff_ne, ne_eq] at hc; obtain ⟨⟨h1, h2⟩, h3⟩ := hc; rintro (h | h | h); exact h1 (hse.2 h); omega; omega
 have hfa : roleB s = allB allowB s := by rw [roleB, if_neg hno]
 refine wp_skip (hK3 _ _ ?_)
 refine zq fun K8 hK8 => ?_
 refine zq fun K9 hK9 => ?_
 refine rg mixed y5 zz5 ?_
 refine .mb rfl e0 ?_
 refine .i (sp_lenS Tryz.underlying9 (hlc rfl)) ?_
 refine .i (sp_move Has.cst) ?_
 refine .dn fun a10 g W10 y10 zz10 hk hg hV hR hP => ?_
 obtain ⟨e18, e17, -, -⟩ := hV
 replace e0 := ft hR e0
 replace e17 := e17.q
 replace e18 := e18.q
 replace kw := kw.x hk
 clear hR hk hg hP
 refine zn (hK9 _ _ ?_)
 refine wp_block ?_
 refine wp_for (s.size) (fun k a W => a.tmps.size = 27 ∧ a.defers = [] ∧ Keeps All w W ∧ sl a 0 = (.string (s)) ∧ sl a 17 = (.int .i64 (s.size)) ∧ sl a 18 = (.int .i64 ((k : Nat))) ∧ (∀ i (h : i < s.size), i < k → allowB (s[i]'h).toNat = true)) ⟨y10, zz10, kw, e0, e17, (e18.trans (congrArg (Value.int .i64) (rfl))), fun i h hi => absurd hi (by omega)⟩ ?_
 clear kw e0 e17 e18
 rintro k a11 W11 hkk ⟨y11, zz11, kw, e0, e17, e18, hinv⟩
 refine zq fun K12 hK12 => ?_
 refine rg mixed y11 zz11 ?_
 refine .i (sp_lss (hbs rfl e18) (hbs rfl e17)) ?_
 refine .dn fun a13 g W13 y13 zz13 hk hg hV hR hP => ?_
 obtain ⟨e19, -⟩ := hV
 replace e0 := ft hR e0
 replace e17 := ft hR e17
 replace e18 := ft hR e18
 replace e19 := e19.q
 replace kw := kw.x hk
 clear hR hk hg hP
 refine zn (hK12 _ _ ?_)
 refine zq fun K14 hK14 => ?_
 refine zc e19 (fun hc => ?_) (fun hc => ?_)
 ·
  have hlt : k < s.size := by simpa using hc
  refine wp_skip (hK14 _ _ ?_)
  refine zq fun K15 hK15 => ?_
  refine wp_block ?_
  refine zq fun K16 hK16 => ?_
  refine rg mixed y13 zz13 ?_
  refine .mb rfl e18 ?_
  refine .al rfl ?_
  refine .dn fun a17 g W17 y17 zz17 hk hg hV hR hP => ?_
  obtain ⟨e3, -, -⟩ := hV
  replace e0 := ft hR e0
  replace e17 := ft hR e17
  replace e18 := ft hR e18
  replace e3 := e3.q
  replace kw := kw.x hk
  clear hR hk hg hP
  refine zn (hK16 _ _ ?_)
  refine zq fun K18 hK18 => ?_
  refine rg mixed y17 zz17 ?_
  refine .mb rfl e0 ?_
  refine .mb rfl e3 ?_
  refine .i (v := (.int .u8 (((s[k]'hlt).toNat : Nat)))) (sp_indexStr (i := k) Tryz.underlying9 (hlc rfl) (hlc rfl) rfl hlt) ?_
  refine .i (v := (.bool (allowB ((s[k]'hlt).toNat)))) (sp_call1 (φ1 := Is (.int .u8 (((s[k]'hlt).toNat : Nat)))) ent49 (hlc rfl) (fun g u1 W hk hgk h1 => by have h1 : u1 = _ := h1; subst u1; exact allowed_ok _ W)) ?_
  refine .i (sp_not (hlc rfl)) ?_
  refine .dn fun a19 g W19 y19 zz19 hk hg hV hR hP => ?_
  obtain ⟨e25, -, -, -, -, -⟩ := hV
  replace e0 := ft hR e0
  replace e17 := ft hR e17
  replace e18 := ft hR e18
  replace e25 := e25.q
  replace kw := kw.x hk
  clear hR hk hg hP
  refine zn (hK18 _ _ ?_)
  refine zc e25 (fun hc => ?_) (fun hc => ?_)
  ·
   have hfin : roleB s = false := by rw [hfa]; exact allB_false hlt (by simpa using hc)
   refine zq fun K20 hK20 => ?_
   refine rg mixed y19 zz19 ?_
   refine .ac ?_
   refine .dn fun a21 g W21 y21 zz21 hk hg hV hR hP => ?_
   obtain ⟨e2, -⟩ := hV
   replace e2 := e2.q
   replace kw := kw.x hk
   clear hR hk hg hP
   refine zn (hK20 _ _ ?_)
   refine wp_ret ?_
   refine ret1 rfl zz21 e2 ⟨_, rfl, kw, ?_⟩
   rw [hfin]
  have hk1 : allowB (s[k]'hlt).toNat = true := by simpa using hc
  refine wp_skip (hK15 _ _ ?_)
  refine rg mixed y19 zz19 ?_
  refine .i (sp_add (hbs rfl e18) Has.cst (i64_in (by omega))) ?_
  refine .i (sp_move (hlc rfl)) ?_
  refine .dn fun a22 g W22 y22 zz22 hk hg hV hR hP => ?_
  obtain ⟨e18, -, -⟩ := hV
  replace e0 := ft hR e0
  replace e17 := ft hR e17
  replace e18 := e18.q
  replace kw := kw.x hk
  clear hR hk hg hP
  exact tail_nil ⟨hlt, y22, zz22, kw, e0, e17, (e18.trans (congrArg (Value.int .i64) (by simp))), fun i h hi => by rcases Nat.lt_succ_iff_lt_or_eq.1 hi with h1 | h1; exact hinv i h h1; subst h1; exact hk1⟩
 have hge0 : ¬ k < s.size := by simpa using hc
 have hge : k = s.size := by omega
 have hfin : roleB s = true := by rw [hfa]; exact (allB_iff _ _).2 fun i h => hinv i h (by omega)
 refine wp_exit (hK8 _ _ ?_)
 refine zq fun K23 hK23 => ?_
 refine rg mixed y13 zz13 ?_
 refine .ac ?_
 refine .dn fun a24 g W24 y24 zz24 hk hg hV hR hP => ?_
 obtain ⟨e2, -⟩ := hV
 replace e2 := e2.q
 replace kw := kw.x hk
 clear hR hk hg hP
 refine zn (hK23 _ _ ?_)
 refine wp_ret ?_
 refine ret1 rfl zz24 e2 ⟨_, rfl, kw, ?_⟩
 rw [hfin]
set_option maxRecDepth 100000 in
theorem digR_ok (s : ByteArray) (hm : s.size ≤ maxLen) (w : World) : Calls Tryz.prog 31 #[.string s] w (Ret w fun u _ => u = .bool (digR s)) := by
 refine enter Tryz.func31 rfl Tryz.ntmps31 (lbr rfl) fun a0 y0 zz0 harg => ?_
 have e0 : sl a0 0 = (.string (s)) := harg 0 (lbr rfl)
 have kw := Keeps.refl All w
 clear harg
 refine zq fun K1 hK1 => ?_
 refine rg mixed y0 zz0 ?_
 refine .ac ?_
 refine .dn fun a2 g W2 y2 zz2 hk hg hV hR hP => ?_
 obtain ⟨-, -⟩ := hV
 replace e0 := ft hR e0
 replace kw := kw.x hk
 clear hR hk hg hP
 refine zn (hK1 _ _ ?_)
 refine zq fun K3 hK3 => ?_
 refine rg mixed y2 zz2 ?_
 refine .mb rfl e0 ?_
 refine .i (sp_lenS Tryz.underlying9 (hlc rfl)) ?_
 refine .i (sp_geq (hlc rfl) Has.cst) ?_
 refine .i (sp_move (hlc rfl)) ?_
 refine .em rfl (hlc rfl) rfl e0 ?_
 refine .e rfl (hlc rfl) (fun hg => sp_lenS Tryz.underlying9 ((hlc rfl).undE hg)) ?_
 refine .e rfl (hlc rfl) (fun hg => sp_leq ((hlc rfl).undE hg) Has.cst) ?_
 refine .i (sp_and (hlc rfl) ((hlc rfl).weak fun hq => hq)) ?_
 refine .i (sp_move (hlc rfl)) ?_
 refine .em rfl (hlc rfl) rfl e0 ?_
 refine .e rfl (hlc rfl) (fun hg => sp_lenS Tryz.underlying9 ((hlc rfl).undE hg)) ?_
 refine .e (v := (.int .i64 (Int.tmod s.size 2))) rfl (hlc rfl) (fun hg => sp_rem ((hlc rfl).undE hg) Has.cst (by decide)) ?_
 refine .e rfl (hlc rfl) (fun hg => sp_eql ((hlc rfl).undE hg) Has.cst) ?_
 refine .i (sp_and (hlc rfl) ((hlc rfl).weak fun hq => hq)) ?_
 refine .i (sp_move (hlc rfl)) ?_
 refine .em rfl (hlc rfl) rfl e0 ?_
 refine .e (v := (.bool (hexIs s))) rfl (hlc rfl) (fun hg => sp_call1 (φ1 := Is (.string (s))) ent50 ((hlc rfl).undE hg) (fun g u1 W hk hgk h1 => by have h1 : u1 = _ := h1; subst u1; exact hexIs_ok (s) hm W)) ?_
 refine .i (sp_and (hlc rfl) ((hlc rfl).weak fun hq => hq)) ?_
 refine .al rfl ?_
 refine .dn fun a4 g W4 y4 zz4 hk hg hV hR hP => ?_
 obtain ⟨e2, -, -, -, -, -, -, -, -, -, -, -, -, -, -, -, -, -, -, -⟩ := hV
 replace e2 := e2.q
 replace kw := kw.x hk
 clear hR hk hg hP
 refine zn (hK3 _ _ ?_)
 refine wp_ret ?_
 refine ret1 rfl zz4 e2 ⟨_, rfl, kw, ?_⟩
 have ht : (s.size : Int).tmod 2 = ((s.size % 2 : Nat) : Int) := by rw [Int.tmod_eq_emod_of_nonneg (by omega)]; push_cast; rfl
 refine congrArg Value.bool ?_
 rw [Bool.eq_iff_iff, ht]
 simp [digR]
 constructor
 · rintro ⟨⟨⟨h1, h2⟩, h3⟩, h4⟩; exact ⟨by omega, by omega, by omega, h4⟩
 · rintro ⟨h1, h2, h3, h4⟩; exact ⟨⟨⟨by omega, by omega⟩, by omega⟩, h4⟩
set_option maxRecDepth 100000 in
theorem MayHashes_ok (l : List Hs) (w : World) (S : BSet) (v : Value) (hv : Rd w S (hssD l) v) : Calls Tryz.prog 17 #[v] w (Ret w fun u _ => u = .bool (mayH l)) := by
 obtain ⟨va, vc, ev, D_v⟩ := rdHss_out (rd_arg hv)
 subst ev
 refine enter Tryz.func17 rfl Tryz.ntmps17 (lbr rfl) fun a0 y0 zz0 harg => ?_
 have e0 : sl a0 0 = (.slice va (l.length) vc) := harg 0 (lbr rfl)
 have kw := Keeps.refl All w
 clear harg
 refine zq fun K1 hK1 => ?_
 refine rg mixed y0 zz0 ?_
 refine .ac ?_
 refine .dn fun a2 g W2 y2 zz2 hk hg hV hR hP => ?_
 obtain ⟨-, -⟩ := hV
 replace e0 := ft hR e0
 replace D_v := D_v.ext hk
 replace kw := kw.x hk
 clear hR hk hg hP
 refine zn (hK1 _ _ ?_)
 refine zq fun K3 hK3 => ?_
 refine zq fun K4 hK4 => ?_
 refine rg mixed y2 zz2 ?_
 refine .mb rfl e0 ?_
 refine .i (sp_lenL Tryz.underlying22 ((hlc rfl).dat D_v sub_all)) ?_
 refine .i (sp_lss (hlc rfl) Has.cst) ?_
 refine .i (sp_move (hlc rfl)) ?_
 refine .em rfl (hlc rfl) rfl e0 ?_
 refine .e rfl (hlc rfl) (fun hg => sp_lenL Tryz.underlying22 (((hlc rfl).undE hg).dat D_v sub_all)) ?_
 refine .e rfl (hlc rfl) (fun hg => sp_gtr ((hlc rfl).undE hg) Has.cst) ?_
 refine .i (sp_or (hlc rfl) ((hlc rfl).weak fun hq => hq)) ?_
 refine .dn fun a5 g W5 y5 zz5 hk hg hV hR hP => ?_
 obtain ⟨e12, -, -, -, -, -, -, -, -⟩ := hV
 replace e0 := ft hR e0
 replace D_v := D_v.ext hk
 replace e12 := e12.q
 replace kw := kw.x hk
 clear hR hk hg hP
 refine zn (hK4 _ _ ?_)
 refine zc e12 (fun hc => ?_) (fun hc => ?_)
 ·
  have hfin : mayH l = false := by simp at hc; unfold mayH; rcases hc with h | h; simp [show l.length = 0 by omega]; simp [show ¬ l.length ≤ 4 by omega]
  refine zq fun K6 hK6 => ?_
  refine rg mixed y5 zz5 ?_
  refine .ac ?_
  refine .dn fun a7 g W7 y7 zz7 hk hg hV hR hP => ?_
  obtain ⟨e2, -⟩ := hV
  replace D_v := D_v.ext hk
  replace e2 := e2.q
  replace kw := kw.x hk
  clear hR hk hg hP
  refine zn (hK6 _ _ ?_)
  refine wp_ret ?_
  refine ret1 rfl zz7 e2 ⟨_, rfl, kw, ?_⟩
  rw [hfin]
 have hl4 : 1 ≤ l.length ∧ l.length ≤ 4 := by simp at hc; omega
 refine wp_skip (hK3 _ _ ?_)
 refine zq fun K8 hK8 => ?_
 refine zq fun K9 hK9 => ?_
 refine rg mixed y5 zz5 ?_
 refine .mb rfl e0 ?_
 refine .i (sp_lenL Tryz.underlying22 ((hlc rfl).dat D_v sub_all)) ?_
 refine .i (sp_move Has.cst) ?_
 refine .dn fun a10 g W10 y10 zz10 hk hg hV hR hP => ?_
 obtain ⟨e15, e14, e13, -⟩ := hV
 replace e0 := ft hR e0
 replace D_v := D_v.ext hk
 replace e13 := e13.q
 replace e14 := e14.q
 replace e15 := e15.q
 replace kw := kw.x hk
 clear hR hk hg hP
 refine zn (hK9 _ _ ?_)
 refine wp_block ?_
 refine wp_for (l.length) (fun k a W => a.tmps.size = 44 ∧ a.defers = [] ∧ Keeps All w W ∧ sl a 0 = (.slice va (l.length) vc) ∧ sl a 13 = (.slice va (l.length) vc) ∧ sl a 14 = (.int .i64 (l.length)) ∧ sl a 15 = (.int .i64 ((k : Nat))) ∧ Rd W (SA w S []) (hssD (l)) (.slice va (l.length) vc) ∧ (∀ i (h : i < l.length), i < k → hsOk l[i] = true ∧ ∀ j (e : j + 1 = i), badH l[i] (l[j]'(by omega)) = false)) ⟨y10, zz10, kw, e0, e13, e14, (e15.trans (congrArg (Value.int .i64) (rfl))), D_v, fun i h hi => absurd hi (by omega)⟩ ?_
 clear kw e0 e13 e14 e15 D_v
 rintro k a11 W11 hkk ⟨y11, zz11, kw, e0, e13, e14, e15, D_v, hinv⟩
 refine zq fun K12 hK12 => ?_
 refine rg mixed y11 zz11 ?_
 refine .i (sp_lss (hbs rfl e15) (hbs rfl e14)) ?_
 refine .dn fun a13 g W13 y13 zz13 hk hg hV hR hP => ?_
 obtain ⟨e16, -⟩ := hV
 replace e0 := ft hR e0
 replace e13 := ft hR e13
 replace e14 := ft hR e14
 replace e15 := ft hR e15
 replace D_v := D_v.ext hk
 replace e16 := e16.q
 replace kw := kw.x hk
 clear hR hk hg hP
 refine zn (hK12 _ _ ?_)
 refine zq fun K14 hK14 => ?_
 refine zc e16 (fun hc => ?_) (fun hc => ?_)
 ·
  have hlt : k < l.length := by simpa using hc
  refine wp_skip (hK14 _ _ ?_)
  refine zq fun K15 hK15 => ?_
  refine wp_block ?_
  refine zq fun K16 hK16 => ?_
  refine rg mixed y13 zz13 ?_
  refine .mb rfl e15 ?_
  refine .rf (X := SA w S []) (e := Hs.d (l[k]'hlt)) (sp_indexL (i := k) ((hbs rfl e13).dat D_v sub_all) (hbs rfl e15) Tryz.underlying22 sz43 rfl hlt) ?_
  refine .da (X := SA w S []) (e := Hs.d (l[k]'hlt)) (sp_loadR (hlc rfl) agg43 sz43 (width_Hs _)) ?_
  refine .alloc z43 ?_
  refine .al rfl ?_
  refine .dn fun a17 g W17 y17 zz17 hk hg hV hR hP => ?_
  obtain ⟨e3, ⟨b4_17, e4, hb4, own_b4_17⟩, e19, -, -, -⟩ := hV
  have lo_b4_17 : w.heap.size ≤ b4_17 := Nat.le_trans kw.size (hg.lo _ _ hb4)
  have own_b4_17 : Own W17 b4_17 [(.string (⟨#[]⟩)), (.string (⟨#[]⟩))] 43 := own_b4_17
  replace e0 := ft hR e0
  replace e13 := ft hR e13
  replace e14 := ft hR e14
  replace e15 := ft hR e15
  replace D_v := sa_more D_v hk [b4_17] (in_cons (hg.lo _ _ hb4) in_nil)
  obtain ⟨v19_17, ev⟩ : ∃ v, sl a17 19 = v := ⟨_, rfl⟩
  rw [ev] at e19
  have D_v19_17 : Rd W17 (SA w S [b4_17]) (Hs.d (l[k]'hlt)) v19_17 := sa_end e19 hk [b4_17] (in_cons ⟨_, hb4⟩ in_nil)
  replace e19 := ev; clear ev
  obtain ⟨ev, hb_v19_17_0, hb_v19_17_1⟩ := rdHs_out D_v19_17
  subst ev; clear D_v19_17
  replace e3 := e3.q
  replace kw := kw.x hk
  clear hR hk hg hP hb4
  refine tail_store e4 e19 sz43 rfl own_b4_17 (lbr rfl) (all_cons rfl (all_cons rfl all_nil)) (fun W18 hs own_b4_17 => ?_)
  have own_b4_17 : Own W18 b4_17 [(.string ((l[k]'hlt).al)), (.string ((l[k]'hlt).hx))] 43 := own_b4_17
  replace D_v := sa_store D_v hs (by simp)
  replace kw := keeps_store kw hs lo_b4_17
  clear hs
  refine zn (hK16 _ _ ?_)
  refine zq fun K19 hK19 => ?_
  refine zq fun K20 hK20 => ?_
  refine rg mixed y17 zz17 ?_
  refine .i (fo 0 (hbs rfl e4) Tryz.underlying43 rfl sz9 rfl) ?_
  refine .i (lo1 (hlc rfl) own_b4_17 trivial agg9 sz9 rfl) ?_
  refine .i (v := (.bool (roleB ((l[k]'hlt).al)))) (sp_call1 (φ1 := Is (.string ((l[k]'hlt).al))) ent30 (hlc rfl) (fun g u1 W hk hgk h1 => by have h1 : u1 = _ := h1; subst u1; exact Role_ok ((l[k]'hlt).al) (rdHss_at D_v hlt).1 W)) ?_
  refine .i (sp_not (hlc rfl)) ?_
  refine .i (sp_move (hlc rfl)) ?_
  refine .e rfl (hlc rfl) (fun hg => fo 1 (hbs rfl e4) Tryz.underlying43 rfl sz9 rfl) ?_
  refine .e rfl (hlc rfl) (fun hg => lo1 ((hlc rfl).undE hg) own_b4_17 trivial agg9 sz9 rfl) ?_
  refine .e (v := (.bool (digR ((l[k]'hlt).hx)))) rfl (hlc rfl) (fun hg => sp_call1 (φ1 := Is (.string ((l[k]'hlt).hx))) ent31 ((hlc rfl).undE hg) (fun g u1 W hk hgk h1 => by have h1 : u1 = _ := h1; subst u1; exact digR_ok ((l[k]'hlt).hx) (rdHss_at D_v hlt).2 W)) ?_
  refine .e rfl (hlc rfl) (fun hg => sp_not ((hlc rfl).undE hg)) ?_
  refine .i (sp_or (hlc rfl) ((hlc rfl).weak fun hq => hq)) ?_
  refine .dn fun a21 g W21 y21 zz21 hk hg hV hR hP => ?_
  obtain ⟨e29, -, -, -, -, -, -, -, -, -, -⟩ := hV
  replace e0 := ft hR e0
  replace e13 := ft hR e13
  replace e14 := ft hR e14
  replace e15 := ft hR e15
  replace e4 := ft hR e4
  replace e3 := ft hR e3
  replace D_v := D_v.ext hk
  replace e29 := e29.q
  replace own_b4_17 := own_b4_17.ext hk
  replace kw := kw.x hk
  clear hR hk hg hP
  refine zn (hK20 _ _ ?_)
  refine zc e29 (fun hc => ?_) (fun hc => ?_)
  ·
   have hfin : mayH l = false := by unfold mayH; rw [all_false hlt (by simp at hc; simp [hsOk]; intro h; rcases hc with h1 | h1; rw [h1] at h; cases h; exact h1)]; simp
   refine zq fun K22 hK22 => ?_
   refine rg mixed y21 zz21 ?_
   refine .ac ?_
   refine .dn fun a23 g W23 y23 zz23 hk hg hV hR hP => ?_
   obtain ⟨e2, -⟩ := hV
   replace D_v := D_v.ext hk
   replace e2 := e2.q
   replace own_b4_17 := own_b4_17.ext hk
   replace kw := kw.x hk
   clear hR hk hg hP
   refine zn (hK22 _ _ ?_)
   refine wp_ret ?_
   refine ret1 rfl zz23 e2 ⟨_, rfl, kw, ?_⟩
   rw [hfin]
  have hk1 : hsOk (l[k]'hlt) = true := by simp at hc; simp [hsOk, hc]
  refine wp_skip (hK19 _ _ ?_)
  refine zq fun K24 hK24 => ?_
  refine rg mixed y21 zz21 ?_
  refine .mb rfl e3 ?_
  refine .i (sp_gtr (hlc rfl) Has.cst) ?_
  refine .i (sp_move (hlc rfl)) ?_
  refine .e rfl (hlc rfl) (fun hg => fo 0 (hbs rfl e4) Tryz.underlying43 rfl sz9 rfl) ?_
  refine .e rfl (hlc rfl) (fun hg => lo1 ((hlc rfl).undE hg) own_b4_17 trivial agg9 sz9 rfl) ?_
  refine .em rfl (hlc rfl) rfl e0 ?_
  refine .em rfl (hlc rfl) rfl e3 ?_
  refine .e rfl (hlc rfl) (fun hg => sp_sub ((hlc rfl).undE hg) Has.cst (i64_in (by omega))) ?_
  refine .opE (t := 32) (φ := IsR (SA w S [b4_17]) (Hs.d (l[(k - 1)]'(by omega)))) rfl (hlc rfl) (st_r sub_all) (fun hg => sp_indexL (i := (k - 1)) (((hlc rfl).undE hg).dat D_v sub_all) ((hlc rfl).undE hg) Tryz.underlying22 sz43 (by have := of_decide_eq_true hg; omega) (by omega)) ?_
  refine .opE (t := 32) (φ := IsR (SA w S [b4_17]) (D.str ((l[(k - 1)]'(by omega)).al))) rfl (hlc rfl) (st_r sub_all) (fun hg => sp_fieldR ((hlc rfl).undE hg) Tryz.underlying43 rfl sz9 rfl (by first | rfl | simp [widths, width, hssD, width_V])) ?_
  refine .e rfl (hlc rfl) (fun hg => sp_loadStr ((hlc rfl).undE hg) agg9 sz9) ?_
  refine .e rfl (hlc rfl) (fun hg => sp_sLeq ((hlc rfl).undE hg) ((hlc rfl).undE hg)) ?_
  refine .i (sp_and (hlc rfl) ((hlc rfl).weak fun hq => hq)) ?_
  refine .dn fun a25 g W25 y25 zz25 hk hg hV hR hP => ?_
  obtain ⟨e42, -, -, -, -, -, -, -, -, -, -, -, -, -⟩ := hV
  replace e0 := ft hR e0
  replace e13 := ft hR e13
  replace e14 := ft hR e14
  replace e15 := ft hR e15
  replace D_v := D_v.ext hk
  replace e42 := e42.q
  replace own_b4_17 := own_b4_17.ext hk
  replace kw := kw.x hk
  clear hR hk hg hP
  refine zn (hK24 _ _ ?_)
  refine zc e42 (fun hc => ?_) (fun hc => ?_)
  ·
   have hfin : mayH l = false := by unfold mayH; simp at hc; rw [ascH_false l (k - 1) (by omega) (by simp only [Nat.sub_add_cancel (show 1 ≤ k by omega)]; simp [badH]; exact hc.2)]; simp
   refine zq fun K26 hK26 => ?_
   refine rg mixed y25 zz25 ?_
   refine .ac ?_
   refine .dn fun a27 g W27 y27 zz27 hk hg hV hR hP => ?_
   obtain ⟨e2, -⟩ := hV
   replace D_v := D_v.ext hk
   replace e2 := e2.q
   replace own_b4_17 := own_b4_17.ext hk
   replace kw := kw.x hk
   clear hR hk hg hP
   refine zn (hK26 _ _ ?_)
   refine wp_ret ?_
   refine ret1 rfl zz27 e2 ⟨_, rfl, kw, ?_⟩
   rw [hfin]
  have hk2 : ∀ i, i + 1 = k → (hi : i < l.length) → badH (l[k]'hlt) (l[i]'hi) = false := by intro i e hi; simp at hc; subst e; have := hc (by omega); simpa [badH] using this
  refine wp_skip (hK15 _ _ ?_)
  refine rg mixed y25 zz25 ?_
  refine .i (sp_add (hbs rfl e15) Has.cst (i64_in (by omega))) ?_
  refine .i (sp_move (hlc rfl)) ?_
  refine .dn fun a28 g W28 y28 zz28 hk hg hV hR hP => ?_
  obtain ⟨e15, -, -⟩ := hV
  replace e0 := ft hR e0
  replace e13 := ft hR e13
  replace e14 := ft hR e14
  replace D_v := D_v.ext hk
  replace e15 := e15.q
  replace own_b4_17 := own_b4_17.ext hk
  replace kw := kw.x hk
  clear hR hk hg hP
  exact tail_nil ⟨hlt, y28, zz28, kw, e0, e13, e14, (e15.trans (congrArg (Value.int .i64) (by simp))), (sa_less D_v ls_nil), fun i h hi => by rcases Nat.lt_succ_iff_lt_or_eq.1 hi with h1 | h1; exact hinv i h h1; subst h1; exact ⟨hk1, fun j e => hk2 j e (by omega)⟩⟩
 have hge0 : ¬ k < l.length := by simpa using hc
 have hge : k = l.length := by omega
 have hfin : mayH l = true := by unfold mayH; rw [all_true fun i h => (hinv i h (by omega)).1, ascH_true l fun i h => (hinv (i + 1) h (by omega)).2 i rfl]; simp [hl4.1, hl4.2]
 refine wp_exit (hK8 _ _ ?_)
 refine zq fun K29 hK29 => ?_
 refine rg mixed y13 zz13 ?_
 refine .ac ?_
 refine .dn fun a30 g W30 y30 zz30 hk hg hV hR hP => ?_
 obtain ⟨e2, -⟩ := hV
 replace D_v := D_v.ext hk
 replace e2 := e2.q
 replace kw := kw.x hk
 clear hR hk hg hP
 refine zn (hK29 _ _ ?_)
 refine wp_ret ?_
 refine ret1 rfl zz30 e2 ⟨_, rfl, kw, ?_⟩
 rw [hfin]
set_option maxRecDepth 100000 in
theorem Hash_ok (l : List Hs) (al : ByteArray) (w : World) (S : BSet) (v : Value) (hv : Rd w S (hssD l) v) : Calls Tryz.prog 11 #[v, .string al] w (Ret w fun r _ => r = .tuple #[.string (hashS l al), .bool (hashB l al)]) := by
 have hmx : l.length ≤ maxLen := rdHss_len hv
 simp only [maxLen] at hmx
 obtain ⟨va, vc, ev, D_v⟩ := rdHss_out (rd_arg hv)
 subst ev
 refine enter Tryz.func11 rfl Tryz.ntmps11 (lbr rfl) fun a0 y0 zz0 harg => ?_
 have e0 : sl a0 0 = (.slice va (l.length) vc) := harg 0 (lbr rfl)
 have e1 : sl a0 1 = (.string (al)) := harg 1 (lbr rfl)
 have kw := Keeps.refl All w
 clear harg
 refine zq fun K1 hK1 => ?_
 refine rg mixed y0 zz0 ?_
 refine .ac ?_
 refine .ac ?_
 refine .dn fun a2 g W2 y2 zz2 hk hg hV hR hP => ?_
 obtain ⟨-, -, -⟩ := hV
 replace e0 := ft hR e0
 replace e1 := ft hR e1
 replace D_v := D_v.ext hk
 replace kw := kw.x hk
 clear hR hk hg hP
 refine zn (hK1 _ _ ?_)
 refine zq fun K3 hK3 => ?_
 refine zq fun K4 hK4 => ?_
 refine rg mixed y2 zz2 ?_
 refine .mb rfl e0 ?_
 refine .i (sp_lenL Tryz.underlying22 ((hlc rfl).dat D_v sub_all)) ?_
 refine .i (sp_move Has.cst) ?_
 refine .dn fun a5 g W5 y5 zz5 hk hg hV hR hP => ?_
 obtain ⟨e10, e9, e8, -⟩ := hV
 replace e1 := ft hR e1
 replace D_v := D_v.ext hk
 replace e8 := e8.q
 replace e9 := e9.q
 replace e10 := e10.q
 replace kw := kw.x hk
 clear hR hk hg hP
 refine zn (hK4 _ _ ?_)
 refine wp_block ?_
 refine wp_for (l.length) (fun k a W => a.tmps.size = 21 ∧ a.defers = [] ∧ Keeps All w W ∧ sl a 1 = (.string (al)) ∧ sl a 8 = (.slice va (l.length) vc) ∧ sl a 9 = (.int .i64 (l.length)) ∧ sl a 10 = (.int .i64 ((k : Nat))) ∧ Rd W (SA w S []) (hssD (l)) (.slice va (l.length) vc) ∧ (∀ i (h : i < l.length), i < k → l[i].al ≠ al)) ⟨y5, zz5, kw, e1, e8, e9, (e10.trans (congrArg (Value.int .i64) (rfl))), D_v, fun i h hi => absurd hi (by omega)⟩ ?_
 clear kw e1 e8 e9 e10 D_v
 rintro k a6 W6 hkk ⟨y6, zz6, kw, e1, e8, e9, e10, D_v, hinv⟩
 refine zq fun K7 hK7 => ?_
 refine rg mixed y6 zz6 ?_
 refine .i (sp_lss (hbs rfl e10) (hbs rfl e9)) ?_
 refine .dn fun a8 g W8 y8 zz8 hk hg hV hR hP => ?_
 obtain ⟨e11, -⟩ := hV
 replace e1 := ft hR e1
 replace e8 := ft hR e8
 replace e9 := ft hR e9
 replace e10 := ft hR e10
 replace D_v := D_v.ext hk
 replace e11 := e11.q
 replace kw := kw.x hk
 clear hR hk hg hP
 refine zn (hK7 _ _ ?_)
 refine zq fun K9 hK9 => ?_
 refine zc e11 (fun hc => ?_) (fun hc => ?_)
 ·
  have hlt : k < l.length := by simpa using hc
  refine wp_skip (hK9 _ _ ?_)
  refine zq fun K10 hK10 => ?_
  refine wp_block ?_
  refine zq fun K11 hK11 => ?_
  refine rg mixed y8 zz8 ?_
  refine .rf (X := SA w S []) (e := Hs.d (l[k]'hlt)) (sp_indexL (i := k) ((hbs rfl e8).dat D_v sub_all) (hbs rfl e10) Tryz.underlying22 sz43 rfl hlt) ?_
  refine .da (X := SA w S []) (e := Hs.d (l[k]'hlt)) (sp_loadR (hlc rfl) agg43 sz43 (width_Hs _)) ?_
  refine .alloc z43 ?_
  refine .dn fun a12 g W12 y12 zz12 hk hg hV hR hP => ?_
  obtain ⟨⟨b7_12, e7, hb7, own_b7_12⟩, e13, -, -⟩ := hV
  have lo_b7_12 : w.heap.size ≤ b7_12 := Nat.le_trans kw.size (hg.lo _ _ hb7)
  have own_b7_12 : Own W12 b7_12 [(.string (⟨#[]⟩)), (.string (⟨#[]⟩))] 43 := own_b7_12
  replace e1 := ft hR e1
  replace e8 := ft hR e8
  replace e9 := ft hR e9
  replace e10 := ft hR e10
  replace D_v := sa_more D_v hk [b7_12] (in_cons (hg.lo _ _ hb7) in_nil)
  obtain ⟨v13_12, ev⟩ : ∃ v, sl a12 13 = v := ⟨_, rfl⟩
  rw [ev] at e13
  have D_v13_12 : Rd W12 (SA w S [b7_12]) (Hs.d (l[k]'hlt)) v13_12 := sa_end e13 hk [b7_12] (in_cons ⟨_, hb7⟩ in_nil)
  replace e13 := ev; clear ev
  obtain ⟨ev, hb_v13_12_0, hb_v13_12_1⟩ := rdHs_out D_v13_12
  subst ev; clear D_v13_12
  replace kw := kw.x hk
  clear hR hk hg hP hb7
  refine tail_store e7 e13 sz43 rfl own_b7_12 (lbr rfl) (all_cons rfl (all_cons rfl all_nil)) (fun W13 hs own_b7_12 => ?_)
  have own_b7_12 : Own W13 b7_12 [(.string ((l[k]'hlt).al)), (.string ((l[k]'hlt).hx))] 43 := own_b7_12
  replace D_v := sa_store D_v hs (by simp)
  replace kw := keeps_store kw hs lo_b7_12
  clear hs
  refine zn (hK11 _ _ ?_)
  refine zq fun K14 hK14 => ?_
  refine rg mixed y12 zz12 ?_
  refine .i (fo 0 (hbs rfl e7) Tryz.underlying43 rfl sz9 rfl) ?_
  refine .i (lo1 (hlc rfl) own_b7_12 trivial agg9 sz9 rfl) ?_
  refine .mb rfl e1 ?_
  refine .i (sp_sEql (hlc rfl) (hlc rfl)) ?_
  refine .dn fun a15 g W15 y15 zz15 hk hg hV hR hP => ?_
  obtain ⟨e17, -, -, -, -⟩ := hV
  replace e1 := ft hR e1
  replace e8 := ft hR e8
  replace e9 := ft hR e9
  replace e10 := ft hR e10
  replace e7 := ft hR e7
  replace D_v := D_v.ext hk
  replace e17 := e17.q
  replace own_b7_12 := own_b7_12.ext hk
  replace kw := kw.x hk
  clear hR hk hg hP
  refine zn (hK14 _ _ ?_)
  refine zc e17 (fun hc => ?_) (fun hc => ?_)
  ·
   have hfin : hashO l al = some l[k] := hashO_some hlt hinv (by simpa using hc)
   refine zq fun K16 hK16 => ?_
   refine rg mixed y15 zz15 ?_
   refine .i (fo 1 (hbs rfl e7) Tryz.underlying43 rfl sz9 rfl) ?_
   refine .i (lo1 (hlc rfl) own_b7_12 trivial agg9 sz9 rfl) ?_
   refine .al rfl ?_
   refine .ac ?_
   refine .dn fun a17 g W17 y17 zz17 hk hg hV hR hP => ?_
   obtain ⟨e5, e4, -, -, -⟩ := hV
   replace D_v := D_v.ext hk
   replace e4 := e4.q
   replace e5 := e5.q
   replace own_b7_12 := own_b7_12.ext hk
   replace kw := kw.x hk
   clear hR hk hg hP
   refine zn (hK16 _ _ ?_)
   refine wp_ret ?_
   refine ret2 rfl zz17 e4 e5 ⟨_, rfl, kw, ?_⟩
   rw [hashS, hashB, hfin]
   exact rfl
  have hk1 : l[k].al ≠ al := by simpa using hc
  refine wp_skip (hK10 _ _ ?_)
  refine rg mixed y15 zz15 ?_
  refine .i (sp_add (hbs rfl e10) Has.cst (i64_in (by omega))) ?_
  refine .i (sp_move (hlc rfl)) ?_
  refine .dn fun a18 g W18 y18 zz18 hk hg hV hR hP => ?_
  obtain ⟨e10, -, -⟩ := hV
  replace e1 := ft hR e1
  replace e8 := ft hR e8
  replace e9 := ft hR e9
  replace D_v := D_v.ext hk
  replace e10 := e10.q
  replace own_b7_12 := own_b7_12.ext hk
  replace kw := kw.x hk
  clear hR hk hg hP
  exact tail_nil ⟨hlt, y18, zz18, kw, e1, e8, e9, (e10.trans (congrArg (Value.int .i64) (by simp))), (sa_less D_v ls_nil), fun i h hi => by rcases Nat.lt_succ_iff_lt_or_eq.1 hi with h1 | h1; exact hinv i h h1; subst h1; exact hk1⟩
 have hge0 : ¬ k < l.length := by simpa using hc
 have hge : k = l.length := by omega
 have hfin : hashO l al = none := hashO_none fun i h => hinv i h (by omega)
 refine wp_exit (hK3 _ _ ?_)
 refine zq fun K19 hK19 => ?_
 refine rg mixed y8 zz8 ?_
 refine .ac ?_
 refine .ac ?_
 refine .dn fun a20 g W20 y20 zz20 hk hg hV hR hP => ?_
 obtain ⟨e5, e4, -⟩ := hV
 replace D_v := D_v.ext hk
 replace e4 := e4.q
 replace e5 := e5.q
 replace kw := kw.x hk
 clear hR hk hg hP
 refine zn (hK19 _ _ ?_)
 refine wp_ret ?_
 refine ret2 rfl zz20 e4 e5 ⟨_, rfl, kw, ?_⟩
 rw [hashS, hashB, hfin]
 exact rfl
set_option maxRecDepth 100000 in
theorem sameHs_ok (p q : List Hs) (w : World) (S : BSet) (v u : Value) (hv : Rd w S (hssD p) v) (hu : Rd w S (hssD q) u) : Calls Tryz.prog 19 #[v, u] w (Ret w fun r _ => r = .bool (sameH p q)) := by
 have hmx : p.length ≤ maxLen := rdHss_len hv
 simp only [maxLen] at hmx
 obtain ⟨va, vc, ev, D_v⟩ := rdHss_out (rd_arg hv)
 subst ev
 obtain ⟨ua, uc, ev, D_u⟩ := rdHss_out (rd_arg hu)
 subst ev
 refine enter Tryz.func19 rfl Tryz.ntmps19 (lbr rfl) fun a0 y0 zz0 harg => ?_
 have e0 : sl a0 0 = (.slice va (p.length) vc) := harg 0 (lbr rfl)
 have e1 : sl a0 1 = (.slice ua (q.length) uc) := harg 1 (lbr rfl)
 have kw := Keeps.refl All w
 clear harg
 refine zq fun K1 hK1 => ?_
 refine rg mixed y0 zz0 ?_
 refine .ac ?_
 refine .dn fun a2 g W2 y2 zz2 hk hg hV hR hP => ?_
 obtain ⟨-, -⟩ := hV
 replace e0 := ft hR e0
 replace e1 := ft hR e1
 replace D_v := D_v.ext hk
 replace D_u := D_u.ext hk
 replace kw := kw.x hk
 clear hR hk hg hP
 refine zn (hK1 _ _ ?_)
 refine zq fun K3 hK3 => ?_
 refine zq fun K4 hK4 => ?_
 refine rg mixed y2 zz2 ?_
 refine .mb rfl e0 ?_
 refine .i (sp_lenL Tryz.underlying22 ((hlc rfl).dat D_v sub_all)) ?_
 refine .mb rfl e1 ?_
 refine .i (sp_lenL Tryz.underlying22 ((hlc rfl).dat D_u sub_all)) ?_
 refine .i (sp_neq (hlc rfl) (hlc rfl)) ?_
 refine .dn fun a5 g W5 y5 zz5 hk hg hV hR hP => ?_
 obtain ⟨e11, -, -, -, -, -⟩ := hV
 replace e0 := ft hR e0
 replace e1 := ft hR e1
 replace D_v := D_v.ext hk
 replace D_u := D_u.ext hk
 replace e11 := e11.q
 replace kw := kw.x hk
 clear hR hk hg hP
 refine zn (hK4 _ _ ?_)
 refine zc e11 (fun hc => ?_) (fun hc => ?_)
 ·
  have hfin : sameH p q = false := sameH_false fun h => by subst h; simp at hc
  refine zq fun K6 hK6 => ?_
  refine rg mixed y5 zz5 ?_
  refine .ac ?_
  refine .dn fun a7 g W7 y7 zz7 hk hg hV hR hP => ?_
  obtain ⟨e4, -⟩ := hV
  replace D_v := D_v.ext hk
  replace D_u := D_u.ext hk
  replace e4 := e4.q
  replace kw := kw.x hk
  clear hR hk hg hP
  refine zn (hK6 _ _ ?_)
  refine wp_ret ?_
  refine ret1 rfl zz7 e4 ⟨_, rfl, kw, ?_⟩
  rw [hfin]
 have hle : p.length = q.length := by simp at hc; omega
 refine wp_skip (hK3 _ _ ?_)
 refine zq fun K8 hK8 => ?_
 refine zq fun K9 hK9 => ?_
 refine rg mixed y5 zz5 ?_
 refine .mb rfl e0 ?_
 refine .i (sp_lenL Tryz.underlying22 ((hlc rfl).dat D_v sub_all)) ?_
 refine .i (sp_move Has.cst) ?_
 refine .dn fun a10 g W10 y10 zz10 hk hg hV hR hP => ?_
 obtain ⟨e14, e13, e12, -⟩ := hV
 replace e1 := ft hR e1
 replace D_v := D_v.ext hk
 replace D_u := D_u.ext hk
 replace e12 := e12.q
 replace e13 := e13.q
 replace e14 := e14.q
 replace kw := kw.x hk
 clear hR hk hg hP
 refine zn (hK9 _ _ ?_)
 refine wp_block ?_
 refine wp_for (p.length) (fun k a W => a.tmps.size = 26 ∧ a.defers = [] ∧ Keeps All w W ∧ sl a 1 = (.slice ua (q.length) uc) ∧ sl a 12 = (.slice va (p.length) vc) ∧ sl a 13 = (.int .i64 (p.length)) ∧ sl a 14 = (.int .i64 ((k : Nat))) ∧ Rd W (SA w S []) (hssD (p)) (.slice va (p.length) vc) ∧ Rd W (SA w S []) (hssD (q)) (.slice ua (q.length) uc) ∧ (∀ i (h1 : i < p.length) (h2 : i < q.length), i < k → p[i] = q[i])) ⟨y10, zz10, kw, e1, e12, e13, (e14.trans (congrArg (Value.int .i64) (rfl))), D_v, D_u, fun i h1 h2 hi => absurd hi (by omega)⟩ ?_
 clear kw e1 e12 e13 e14 D_v D_u
 rintro k a11 W11 hkk ⟨y11, zz11, kw, e1, e12, e13, e14, D_v, D_u, hinv⟩
 refine zq fun K12 hK12 => ?_
 refine rg mixed y11 zz11 ?_
 refine .i (sp_lss (hbs rfl e14) (hbs rfl e13)) ?_
 refine .dn fun a13 g W13 y13 zz13 hk hg hV hR hP => ?_
 obtain ⟨e15, -⟩ := hV
 replace e1 := ft hR e1
 replace e12 := ft hR e12
 replace e13 := ft hR e13
 replace e14 := ft hR e14
 replace D_v := D_v.ext hk
 replace D_u := D_u.ext hk
 replace e15 := e15.q
 replace kw := kw.x hk
 clear hR hk hg hP
 refine zn (hK12 _ _ ?_)
 refine zq fun K14 hK14 => ?_
 refine zc e15 (fun hc => ?_) (fun hc => ?_)
 ·
  have hlt : k < p.length := by simpa using hc
  refine wp_skip (hK14 _ _ ?_)
  refine zq fun K15 hK15 => ?_
  refine wp_block ?_
  refine zq fun K16 hK16 => ?_
  refine rg mixed y13 zz13 ?_
  refine .mb rfl e14 ?_
  refine .rf (X := SA w S []) (e := Hs.d (p[k]'hlt)) (sp_indexL (i := k) ((hbs rfl e12).dat D_v sub_all) (hbs rfl e14) Tryz.underlying22 sz43 rfl hlt) ?_
  refine .da (X := SA w S []) (e := Hs.d (p[k]'hlt)) (sp_loadR (hlc rfl) agg43 sz43 (width_Hs _)) ?_
  refine .alloc z43 ?_
  refine .al rfl ?_
  refine .dn fun a17 g W17 y17 zz17 hk hg hV hR hP => ?_
  obtain ⟨e5, ⟨b6_17, e6, hb6, own_b6_17⟩, e18, -, -, -⟩ := hV
  have lo_b6_17 : w.heap.size ≤ b6_17 := Nat.le_trans kw.size (hg.lo _ _ hb6)
  have own_b6_17 : Own W17 b6_17 [(.string (⟨#[]⟩)), (.string (⟨#[]⟩))] 43 := own_b6_17
  replace e1 := ft hR e1
  replace e12 := ft hR e12
  replace e13 := ft hR e13
  replace e14 := ft hR e14
  replace D_v := sa_more D_v hk [b6_17] (in_cons (hg.lo _ _ hb6) in_nil)
  replace D_u := sa_more D_u hk [b6_17] (in_cons (hg.lo _ _ hb6) in_nil)
  obtain ⟨v18_17, ev⟩ : ∃ v, sl a17 18 = v := ⟨_, rfl⟩
  rw [ev] at e18
  have D_v18_17 : Rd W17 (SA w S [b6_17]) (Hs.d (p[k]'hlt)) v18_17 := sa_end e18 hk [b6_17] (in_cons ⟨_, hb6⟩ in_nil)
  replace e18 := ev; clear ev
  obtain ⟨ev, hb_v18_17_0, hb_v18_17_1⟩ := rdHs_out D_v18_17
  subst ev; clear D_v18_17
  replace e5 := e5.q
  replace kw := kw.x hk
  clear hR hk hg hP hb6
  refine tail_store e6 e18 sz43 rfl own_b6_17 (lbr rfl) (all_cons rfl (all_cons rfl all_nil)) (fun W18 hs own_b6_17 => ?_)
  have own_b6_17 : Own W18 b6_17 [(.string ((p[k]'hlt).al)), (.string ((p[k]'hlt).hx))] 43 := own_b6_17
  replace D_v := sa_store D_v hs (by simp)
  replace D_u := sa_store D_u hs (by simp)
  replace kw := keeps_store kw hs lo_b6_17
  clear hs
  refine zn (hK16 _ _ ?_)
  refine zq fun K19 hK19 => ?_
  refine rg mixed y17 zz17 ?_
  refine .i (v := (.agg #[(.string ((p[k]'hlt).al)), (.string ((p[k]'hlt).hx))])) (loA (hbs rfl e6) own_b6_17 trivial agg43 sz43 rfl rfl) ?_
  refine .mb rfl e1 ?_
  refine .mb rfl e5 ?_
  refine .rf (X := SA w S [b6_17]) (e := Hs.d (q[k]'(by omega))) (sp_indexL (i := k) ((hlc rfl).dat D_u sub_all) (hlc rfl) Tryz.underlying22 sz43 rfl (by omega)) ?_
  refine .da (X := SA w S [b6_17]) (e := Hs.d (q[k]'(by omega))) (sp_loadR (hlc rfl) agg43 sz43 (width_Hs _)) ?_
  refine .i (v := (.bool (!hsEq ((p[k]'hlt)) (q[k]'(by omega))))) (sp_hsNeq eqHs ((hlc rfl).dat (rdHs_mk hb_v18_17_0 hb_v18_17_1 : Rd W18 (SA w S [b6_17]) (Hs.d ((p[k]'hlt))) _) sub_all) (hlc rfl)) ?_
  refine .dn fun a20 g W20 y20 zz20 hk hg hV hR hP => ?_
  obtain ⟨e24, -, -, -, -, -, -⟩ := hV
  replace e1 := ft hR e1
  replace e12 := ft hR e12
  replace e13 := ft hR e13
  replace e14 := ft hR e14
  replace D_v := D_v.ext hk
  replace D_u := D_u.ext hk
  replace e24 := e24.q
  replace own_b6_17 := own_b6_17.ext hk
  replace kw := kw.x hk
  clear hR hk hg hP
  refine zn (hK19 _ _ ?_)
  refine zc e24 (fun hc => ?_) (fun hc => ?_)
  ·
   have hfin : sameH p q = false := sameH_false fun h => by subst h; simp [hsEq] at hc
   refine zq fun K21 hK21 => ?_
   refine rg mixed y20 zz20 ?_
   refine .ac ?_
   refine .dn fun a22 g W22 y22 zz22 hk hg hV hR hP => ?_
   obtain ⟨e4, -⟩ := hV
   replace D_v := D_v.ext hk
   replace D_u := D_u.ext hk
   replace e4 := e4.q
   replace own_b6_17 := own_b6_17.ext hk
   replace kw := kw.x hk
   clear hR hk hg hP
   refine zn (hK21 _ _ ?_)
   refine wp_ret ?_
   refine ret1 rfl zz22 e4 ⟨_, rfl, kw, ?_⟩
   rw [hfin]
  have hk1 : p[k] = q[k] := by simpa [hsEq_iff] using hc
  refine wp_skip (hK15 _ _ ?_)
  refine rg mixed y20 zz20 ?_
  refine .i (sp_add (hbs rfl e14) Has.cst (i64_in (by omega))) ?_
  refine .i (sp_move (hlc rfl)) ?_
  refine .dn fun a23 g W23 y23 zz23 hk hg hV hR hP => ?_
  obtain ⟨e14, -, -⟩ := hV
  replace e1 := ft hR e1
  replace e12 := ft hR e12
  replace e13 := ft hR e13
  replace D_v := D_v.ext hk
  replace D_u := D_u.ext hk
  replace e14 := e14.q
  replace own_b6_17 := own_b6_17.ext hk
  replace kw := kw.x hk
  clear hR hk hg hP
  exact tail_nil ⟨hlt, y23, zz23, kw, e1, e12, e13, (e14.trans (congrArg (Value.int .i64) (by simp))), (sa_less D_v ls_nil), (sa_less D_u ls_nil), fun i h1 h2 hi => by rcases Nat.lt_succ_iff_lt_or_eq.1 hi with h | h; exact hinv i h1 h2 h; subst h; exact hk1⟩
 have hge0 : ¬ k < p.length := by simpa using hc
 have hge : k = p.length := by omega
 have hfin : sameH p q = true := (sameH_iff p q).2 (List.ext_getElem hle fun i h1 h2 => hinv i h1 h2 (by omega))
 refine wp_exit (hK8 _ _ ?_)
 refine zq fun K24 hK24 => ?_
 refine rg mixed y13 zz13 ?_
 refine .ac ?_
 refine .dn fun a25 g W25 y25 zz25 hk hg hV hR hP => ?_
 obtain ⟨e4, -⟩ := hV
 replace D_v := D_v.ext hk
 replace D_u := D_u.ext hk
 replace e4 := e4.q
 replace kw := kw.x hk
 clear hR hk hg hP
 refine zn (hK24 _ _ ?_)
 refine wp_ret ?_
 refine ret1 rfl zz25 e4 ⟨_, rfl, kw, ?_⟩
 rw [hfin]
set_option maxRecDepth 100000 in
theorem refSameHs_ok (p q : List Hs) (w : World) (S : BSet) (v u : Value) (hv : Rd w S (hssD p) v) (hu : Rd w S (hssD q) u) : Calls Tryz.prog 13 #[v, u] w (Ret w fun r _ => r = .bool (sameH p q)) := by
 have hmx : p.length ≤ maxLen := rdHss_len hv
 simp only [maxLen] at hmx
 obtain ⟨va, vc, ev, D_v⟩ := rdHss_out (rd_arg hv)
 subst ev
 obtain ⟨ua, uc, ev, D_u⟩ := rdHss_out (rd_arg hu)
 subst ev
 refine enter Tryz.func13 rfl Tryz.ntmps13 (lbr rfl) fun a0 y0 zz0 harg => ?_
 have e0 : sl a0 0 = (.slice va (p.length) vc) := harg 0 (lbr rfl)
 have e1 : sl a0 1 = (.slice ua (q.length) uc) := harg 1 (lbr rfl)
 have kw := Keeps.refl All w
 clear harg
 refine zq fun K1 hK1 => ?_
 refine rg mixed y0 zz0 ?_
 refine .ac ?_
 refine .dn fun a2 g W2 y2 zz2 hk hg hV hR hP => ?_
 obtain ⟨-, -⟩ := hV
 replace e0 := ft hR e0
 replace e1 := ft hR e1
 replace D_v := D_v.ext hk
 replace D_u := D_u.ext hk
 replace kw := kw.x hk
 clear hR hk hg hP
 refine zn (hK1 _ _ ?_)
 refine zq fun K3 hK3 => ?_
 refine zq fun K4 hK4 => ?_
 refine rg mixed y2 zz2 ?_
 refine .mb rfl e0 ?_
 refine .i (sp_lenL Tryz.underlying22 ((hlc rfl).dat D_v sub_all)) ?_
 refine .mb rfl e1 ?_
 refine .i (sp_lenL Tryz.underlying22 ((hlc rfl).dat D_u sub_all)) ?_
 refine .i (sp_neq (hlc rfl) (hlc rfl)) ?_
 refine .dn fun a5 g W5 y5 zz5 hk hg hV hR hP => ?_
 obtain ⟨e10, -, -, -, -, -⟩ := hV
 replace e0 := ft hR e0
 replace e1 := ft hR e1
 replace D_v := D_v.ext hk
 replace D_u := D_u.ext hk
 replace e10 := e10.q
 replace kw := kw.x hk
 clear hR hk hg hP
 refine zn (hK4 _ _ ?_)
 refine zc e10 (fun hc => ?_) (fun hc => ?_)
 ·
  have hfin : sameH p q = false := sameH_false fun h => by subst h; simp at hc
  refine zq fun K6 hK6 => ?_
  refine rg mixed y5 zz5 ?_
  refine .ac ?_
  refine .dn fun a7 g W7 y7 zz7 hk hg hV hR hP => ?_
  obtain ⟨e4, -⟩ := hV
  replace D_v := D_v.ext hk
  replace D_u := D_u.ext hk
  replace e4 := e4.q
  replace kw := kw.x hk
  clear hR hk hg hP
  refine zn (hK6 _ _ ?_)
  refine wp_ret ?_
  refine ret1 rfl zz7 e4 ⟨_, rfl, kw, ?_⟩
  rw [hfin]
 have hle : p.length = q.length := by simp at hc; omega
 refine wp_skip (hK3 _ _ ?_)
 refine zq fun K8 hK8 => ?_
 refine zq fun K9 hK9 => ?_
 refine rg mixed y5 zz5 ?_
 refine .ac ?_
 refine .dn fun a10 g W10 y10 zz10 hk hg hV hR hP => ?_
 obtain ⟨e5, -⟩ := hV
 replace e0 := ft hR e0
 replace e1 := ft hR e1
 replace D_v := D_v.ext hk
 replace D_u := D_u.ext hk
 replace e5 := e5.q
 replace kw := kw.x hk
 clear hR hk hg hP
 refine zn (hK9 _ _ ?_)
 refine wp_block ?_
 refine wp_for (p.length) (fun k a W => a.tmps.size = 41 ∧ a.defers = [] ∧ Keeps All w W ∧ sl a 0 = (.slice va (p.length) vc) ∧ sl a 1 = (.slice ua (q.length) uc) ∧ sl a 5 = (.int .i64 ((k : Nat))) ∧ Rd W (SA w S []) (hssD (p)) (.slice va (p.length) vc) ∧ Rd W (SA w S []) (hssD (q)) (.slice ua (q.length) uc) ∧ (∀ i (h1 : i < p.length) (h2 : i < q.length), i < k → p[i] = q[i])) ⟨y10, zz10, kw, e0, e1, (e5.trans (congrArg (Value.int .i64) (rfl))), D_v, D_u, fun i h1 h2 hi => absurd hi (by omega)⟩ ?_
 clear kw e0 e1 e5 D_v D_u
 rintro k a11 W11 hkk ⟨y11, zz11, kw, e0, e1, e5, D_v, D_u, hinv⟩
 refine zq fun K12 hK12 => ?_
 refine zq fun K13 hK13 => ?_
 refine rg mixed y11 zz11 ?_
 refine .mb rfl e5 ?_
 refine .mb rfl e0 ?_
 refine .i (sp_lenL Tryz.underlying22 ((hlc rfl).dat D_v sub_all)) ?_
 refine .i (sp_lss (hlc rfl) (hlc rfl)) ?_
 refine .dn fun a14 g W14 y14 zz14 hk hg hV hR hP => ?_
 obtain ⟨e14, -, -, -, -⟩ := hV
 replace e0 := ft hR e0
 replace e1 := ft hR e1
 replace e5 := ft hR e5
 replace D_v := D_v.ext hk
 replace D_u := D_u.ext hk
 replace e14 := e14.q
 replace kw := kw.x hk
 clear hR hk hg hP
 refine zn (hK13 _ _ ?_)
 refine zc e14 (fun hc => ?_) (fun hc => ?_)
 ·
  have hlt : k < p.length := by simpa using hc
  refine wp_skip (hK12 _ _ ?_)
  refine zq fun K15 hK15 => ?_
  refine wp_block ?_
  refine zq fun K16 hK16 => ?_
  refine rg mixed y14 zz14 ?_
  refine .mb rfl e0 ?_
  refine .mb rfl e5 ?_
  refine .rf (X := SA w S []) (e := Hs.d (p[k]'hlt)) (sp_indexL (i := k) ((hlc rfl).dat D_v sub_all) (hlc rfl) Tryz.underlying22 sz43 rfl hlt) ?_
  refine .rf (X := SA w S []) (e := D.str ((p[k]'hlt).al)) (sp_fieldR (hlc rfl) Tryz.underlying43 rfl sz9 rfl (by first | rfl | simp [widths, width, hssD, width_V])) ?_
  refine .i (sp_loadStr (hlc rfl) agg9 sz9) ?_
  refine .mb rfl e1 ?_
  refine .mb rfl e5 ?_
  refine .rf (X := SA w S []) (e := Hs.d (q[k]'(by omega))) (sp_indexL (i := k) ((hlc rfl).dat D_u sub_all) (hlc rfl) Tryz.underlying22 sz43 rfl (by omega)) ?_
  refine .rf (X := SA w S []) (e := D.str ((q[k]'(by omega)).al)) (sp_fieldR (hlc rfl) Tryz.underlying43 rfl sz9 rfl (by first | rfl | simp [widths, width, hssD, width_V])) ?_
  refine .i (sp_loadStr (hlc rfl) agg9 sz9) ?_
  refine .i (sp_sNeq (hlc rfl) (hlc rfl)) ?_
  refine .i (sp_move (hlc rfl)) ?_
  refine .em rfl (hlc rfl) rfl e0 ?_
  refine .em rfl (hlc rfl) rfl e5 ?_
  refine .opE (t := 28) (φ := IsR (SA w S []) (Hs.d (p[k]'hlt))) rfl (hlc rfl) (st_r sub_all) (fun hg => sp_indexL (i := k) (((hlc rfl).undE hg).dat D_v sub_all) ((hlc rfl).undE hg) Tryz.underlying22 sz43 rfl hlt) ?_
  refine .opE (t := 28) (φ := IsR (SA w S []) (D.str ((p[k]'hlt).hx))) rfl (hlc rfl) (st_r sub_all) (fun hg => sp_fieldR ((hlc rfl).undE hg) Tryz.underlying43 rfl sz9 rfl (by first | rfl | simp [widths, width, hssD, width_V])) ?_
  refine .e rfl (hlc rfl) (fun hg => sp_loadStr ((hlc rfl).undE hg) agg9 sz9) ?_
  refine .em rfl (hlc rfl) rfl e1 ?_
  refine .em rfl (hlc rfl) rfl e5 ?_
  refine .opE (t := 28) (φ := IsR (SA w S []) (Hs.d (q[k]'(by omega)))) rfl (hlc rfl) (st_r sub_all) (fun hg => sp_indexL (i := k) (((hlc rfl).undE hg).dat D_u sub_all) ((hlc rfl).undE hg) Tryz.underlying22 sz43 rfl (by omega)) ?_
  refine .opE (t := 28) (φ := IsR (SA w S []) (D.str ((q[k]'(by omega)).hx))) rfl (hlc rfl) (st_r sub_all) (fun hg => sp_fieldR ((hlc rfl).undE hg) Tryz.underlying43 rfl sz9 rfl (by first | rfl | simp [widths, width, hssD, width_V])) ?_
  refine .e rfl (hlc rfl) (fun hg => sp_loadStr ((hlc rfl).undE hg) agg9 sz9) ?_
  refine .e rfl (hlc rfl) (fun hg => sp_sNeq ((hlc rfl).undE hg) ((hlc rfl).undE hg)) ?_
  refine .i (sp_or (hlc rfl) ((hlc rfl).weak fun hq => hq)) ?_
  refine .dn fun a17 g W17 y17 zz17 hk hg hV hR hP => ?_
  obtain ⟨e40, -, -, -, -, -, -, -, -, -, -, -, -, -, -, -, -, -, -, -, -, -, -, -, -⟩ := hV
  replace e0 := ft hR e0
  replace e1 := ft hR e1
  replace e5 := ft hR e5
  replace D_v := D_v.ext hk
  replace D_u := D_u.ext hk
  replace e40 := e40.q
  replace kw := kw.x hk
  clear hR hk hg hP
  refine zn (hK16 _ _ ?_)
  refine zc e40 (fun hc => ?_) (fun hc => ?_)
  ·
   have hfin : sameH p q = false := sameH_false fun h => by subst h; simp [hsEq] at hc
   refine zq fun K18 hK18 => ?_
   refine rg mixed y17 zz17 ?_
   refine .ac ?_
   refine .dn fun a19 g W19 y19 zz19 hk hg hV hR hP => ?_
   obtain ⟨e4, -⟩ := hV
   replace D_v := D_v.ext hk
   replace D_u := D_u.ext hk
   replace e4 := e4.q
   replace kw := kw.x hk
   clear hR hk hg hP
   refine zn (hK18 _ _ ?_)
   refine wp_ret ?_
   refine ret1 rfl zz19 e4 ⟨_, rfl, kw, ?_⟩
   rw [hfin]
  have hk1 : p[k] = q[k] := by rw [← hsEq_iff]; simp at hc; simp [hsEq, hc]
  refine wp_skip (hK15 _ _ ?_)
  refine rg mixed y17 zz17 ?_
  refine .mb rfl e5 ?_
  refine .i (sp_add (hlc rfl) Has.cst (i64_in (by omega))) ?_
  refine .al rfl ?_
  refine .dn fun a20 g W20 y20 zz20 hk hg hV hR hP => ?_
  obtain ⟨e5, -, -, -⟩ := hV
  replace e0 := ft hR e0
  replace e1 := ft hR e1
  replace D_v := D_v.ext hk
  replace D_u := D_u.ext hk
  replace e5 := e5.q
  replace kw := kw.x hk
  clear hR hk hg hP
  exact tail_nil ⟨hlt, y20, zz20, kw, e0, e1, (e5.trans (congrArg (Value.int .i64) (by simp))), D_v, D_u, fun i h1 h2 hi => by rcases Nat.lt_succ_iff_lt_or_eq.1 hi with h | h; exact hinv i h1 h2 h; subst h; exact hk1⟩
 have hge0 : ¬ k < p.length := by simpa using hc
 have hge : k = p.length := by omega
 have hfin : sameH p q = true := (sameH_iff p q).2 (List.ext_getElem hle fun i h1 h2 => hinv i h1 h2 (by omega))
 refine wp_exit (hK8 _ _ ?_)
 refine zq fun K21 hK21 => ?_
 refine rg mixed y14 zz14 ?_
 refine .ac ?_
 refine .dn fun a22 g W22 y22 zz22 hk hg hV hR hP => ?_
 obtain ⟨e4, -⟩ := hV
 replace D_v := D_v.ext hk
 replace D_u := D_u.ext hk
 replace e4 := e4.q
 replace kw := kw.x hk
 clear hR hk hg hP
 refine zn (hK21 _ _ ?_)
 refine wp_ret ?_
 refine ret1 rfl zz22 e4 ⟨_, rfl, kw, ?_⟩
 rw [hfin]
set_option maxRecDepth 100000 in
theorem none_ok (x : V) (w : World) (S : BSet) (v : Value) (hv : Rd w S x.d v) : Calls Tryz.prog 43 #[v] w (Ret w fun u _ => u = .bool (noneB x)) := by
 obtain ⟨cn0a, cn0c, ci0a, ci0c, ev, ht0, D_cn0, D_ci0⟩ := rdV_out (rd_arg hv)
 subst ev
 refine enter Tryz.func43 rfl Tryz.ntmps43 (lbr rfl) fun a0 y0 zz0 harg => ?_
 have e0 : sl a0 0 = (.agg #[(.int .u8 (x.k)), (.int .i64 (x.n)), (.string (x.t)), (.slice cn0a (x.ns.length) cn0c), (.slice ci0a (x.xs.length) ci0c)]) := harg 0 (lbr rfl)
 have kw := Keeps.refl All w
 clear harg
 refine zq fun K1 hK1 => ?_
 refine rg mixed y0 zz0 ?_
 refine .boxOp (v := (.agg #[(.int .u8 (x.k)), (.int .i64 (x.n)), (.string (x.t)), (.slice cn0a (x.ns.length) cn0c), (.slice ci0a (x.xs.length) ci0c)])) (hbs rfl e0) ?_
 refine .ac ?_
 refine .dn fun a2 g W2 y2 zz2 hk hg hV hR hP => ?_
 obtain ⟨-, ⟨b1_2, e1, hb1, own_b1_2⟩, -⟩ := hV
 have lo_b1_2 : w.heap.size ≤ b1_2 := Nat.le_trans kw.size (hg.lo _ _ hb1)
 have own_b1_2 : Own W2 b1_2 [(.int .u8 (x.k)), (.int .i64 (x.n)), (.string (x.t)), (.slice cn0a (x.ns.length) cn0c), (.slice ci0a (x.xs.length) ci0c)] 26 := own_b1_2
 replace D_cn0 := sa_more D_cn0 hk [b1_2] (in_cons (hg.lo _ _ hb1) in_nil)
 replace D_ci0 := sa_more D_ci0 hk [b1_2] (in_cons (hg.lo _ _ hb1) in_nil)
 replace kw := kw.x hk
 clear hR hk hg hP hb1
 refine zn (hK1 _ _ ?_)
 refine zq fun K3 hK3 => ?_
 refine rg mixed y2 zz2 ?_
 refine .i (fo 0 (hbs rfl e1) Tryz.underlying26 rfl sz5 rfl) ?_
 refine .i (lo1 (hlc rfl) own_b1_2 trivial agg5 sz5 rfl) ?_
 refine .i (sp_eql (hlc rfl) Has.cst) ?_
 refine .i (sp_move (hlc rfl)) ?_
 refine .e rfl (hlc rfl) (fun hg => fo 1 (hbs rfl e1) Tryz.underlying26 rfl sz2 rfl) ?_
 refine .e rfl (hlc rfl) (fun hg => lo1 ((hlc rfl).undE hg) own_b1_2 trivial agg2 sz2 rfl) ?_
 refine .e rfl (hlc rfl) (fun hg => sp_eql ((hlc rfl).undE hg) Has.cst) ?_
 refine .i (sp_and (hlc rfl) ((hlc rfl).weak fun hq => hq)) ?_
 refine .i (sp_move (hlc rfl)) ?_
 refine .e rfl (hlc rfl) (fun hg => fo 2 (hbs rfl e1) Tryz.underlying26 rfl sz9 rfl) ?_
 refine .e rfl (hlc rfl) (fun hg => lo1 ((hlc rfl).undE hg) own_b1_2 trivial agg9 sz9 rfl) ?_
 refine .e rfl (hlc rfl) (fun hg => sp_sEql ((hlc rfl).undE hg) Has.cst) ?_
 refine .i (sp_and (hlc rfl) ((hlc rfl).weak fun hq => hq)) ?_
 refine .i (sp_move (hlc rfl)) ?_
 refine .e rfl (hlc rfl) (fun hg => fo 3 (hbs rfl e1) Tryz.underlying26 rfl sz23 rfl) ?_
 refine .e rfl (hlc rfl) (fun hg => lo1 ((hlc rfl).undE hg) own_b1_2 trivial agg23 sz23 rfl) ?_
 refine .e rfl (hlc rfl) (fun hg => sp_lenSs Tryz.underlying23 (((hlc rfl).undE hg).dat D_cn0 sub_all)) ?_
 refine .e rfl (hlc rfl) (fun hg => sp_eql ((hlc rfl).undE hg) Has.cst) ?_
 refine .i (sp_and (hlc rfl) ((hlc rfl).weak fun hq => hq)) ?_
 refine .i (sp_move (hlc rfl)) ?_
 refine .e rfl (hlc rfl) (fun hg => fo 4 (hbs rfl e1) Tryz.underlying26 rfl sz24 rfl) ?_
 refine .e rfl (hlc rfl) (fun hg => lo1 ((hlc rfl).undE hg) own_b1_2 trivial agg24 sz24 rfl) ?_
 refine .e rfl (hlc rfl) (fun hg => sp_lenVs Tryz.underlying24 (((hlc rfl).undE hg).dat D_ci0 sub_all)) ?_
 refine .e rfl (hlc rfl) (fun hg => sp_eql ((hlc rfl).undE hg) Has.cst) ?_
 refine .i (sp_and (hlc rfl) ((hlc rfl).weak fun hq => hq)) ?_
 refine .al rfl ?_
 refine .dn fun a4 g W4 y4 zz4 hk hg hV hR hP => ?_
 obtain ⟨e2, -, -, -, -, -, -, -, -, -, -, -, -, -, -, -, -, -, -, -, -, -, -, -, -, -, -⟩ := hV
 replace D_cn0 := D_cn0.ext hk
 replace D_ci0 := D_ci0.ext hk
 replace e2 := e2.q
 replace own_b1_2 := own_b1_2.ext hk
 replace kw := kw.x hk
 clear hR hk hg hP
 refine zn (hK3 _ _ ?_)
 refine wp_ret ?_
 refine ret1 rfl zz4 e2 ⟨_, rfl, kw, ?_⟩
 refine congrArg Value.bool ?_
 rw [Bool.eq_iff_iff]
 simp [noneB]
 constructor
 · rintro ⟨⟨⟨⟨h1, h2⟩, h3⟩, h4⟩, h5⟩; exact ⟨by omega, h2, h3, h4, h5⟩
 · rintro ⟨h1, h2, h3, h4, h5⟩; exact ⟨⟨⟨⟨by omega, h2⟩, h3⟩, h4⟩, h5⟩
set_option maxRecDepth 100000 in
theorem LongH_ok (l : List Hs) (w : World) (S : BSet) (v : Value) (hv : Rd w S (hssD l) v) : Calls Tryz.prog 4 #[v] w (Ret w fun u _ => u = .bool (decide (5000 ≤ szH l 0))) := by
 have hmx : l.length ≤ maxLen := rdHss_len hv
 simp only [maxLen] at hmx
 obtain ⟨va, vc, ev, D_v⟩ := rdHss_out (rd_arg hv)
 subst ev
 refine enter Tryz.func4 rfl Tryz.ntmps4 (lbr rfl) fun a0 y0 zz0 harg => ?_
 have e0 : sl a0 0 = (.slice va (l.length) vc) := harg 0 (lbr rfl)
 have kw := Keeps.refl All w
 clear harg
 refine zq fun K1 hK1 => ?_
 refine rg mixed y0 zz0 ?_
 refine .ac ?_
 refine .dn fun a2 g W2 y2 zz2 hk hg hV hR hP => ?_
 obtain ⟨-, -⟩ := hV
 replace e0 := ft hR e0
 replace D_v := D_v.ext hk
 replace kw := kw.x hk
 clear hR hk hg hP
 refine zn (hK1 _ _ ?_)
 refine zq fun K3 hK3 => ?_
 refine rg mixed y2 zz2 ?_
 refine .ac ?_
 refine .dn fun a4 g W4 y4 zz4 hk hg hV hR hP => ?_
 obtain ⟨e3, -⟩ := hV
 replace e0 := ft hR e0
 replace D_v := D_v.ext hk
 replace e3 := e3.q
 replace kw := kw.x hk
 clear hR hk hg hP
 refine zn (hK3 _ _ ?_)
 refine zq fun K5 hK5 => ?_
 refine zq fun K6 hK6 => ?_
 refine rg mixed y4 zz4 ?_
 refine .ac ?_
 refine .dn fun a7 g W7 y7 zz7 hk hg hV hR hP => ?_
 obtain ⟨e4, -⟩ := hV
 replace e0 := ft hR e0
 replace e3 := ft hR e3
 replace D_v := D_v.ext hk
 replace e4 := e4.q
 replace kw := kw.x hk
 clear hR hk hg hP
 refine zn (hK6 _ _ ?_)
 refine wp_block ?_
 refine wp_for (l.length) (fun k a W => ∃ (n2 : Nat), a.tmps.size = 35 ∧ a.defers = [] ∧ Keeps All w W ∧ sl a 0 = (.slice va (l.length) vc) ∧ sl a 3 = (.int .i64 ((n2 : Nat))) ∧ sl a 4 = (.int .i64 ((k : Nat))) ∧ Rd W (SA w S []) (hssD (l)) (.slice va (l.length) vc) ∧ (szH l 0 = szH (l.drop k) n2) ∧ (n2 ≤ 20020)) ⟨0, y7, zz7, kw, e0, (e3.trans (congrArg (Value.int .i64) (rfl))), (e4.trans (congrArg (Value.int .i64) (rfl))), D_v, rfl, by omega⟩ ?_
 clear kw e0 e3 e4 D_v
 rintro k a8 W8 hkk ⟨n2, y8, zz8, kw, e0, e3, e4, D_v, hin, hb2⟩
 refine zq fun K9 hK9 => ?_
 refine zq fun K10 hK10 => ?_
 refine rg mixed y8 zz8 ?_
 refine .mb rfl e4 ?_
 refine .mb rfl e0 ?_
 refine .i (sp_lenL Tryz.underlying22 ((hlc rfl).dat D_v sub_all)) ?_
 refine .i (sp_lss (hlc rfl) (hlc rfl)) ?_
 refine .i (sp_move (hlc rfl)) ?_
 refine .em rfl (hlc rfl) rfl e3 ?_
 refine .e rfl (hlc rfl) (fun hg => sp_lss ((hlc rfl).undE hg) Has.cst) ?_
 refine .i (sp_and (hlc rfl) ((hlc rfl).weak fun hq => hq)) ?_
 refine .dn fun a11 g W11 y11 zz11 hk hg hV hR hP => ?_
 obtain ⟨e12, -, -, -, -, -, -, -, -⟩ := hV
 replace e0 := ft hR e0
 replace e3 := ft hR e3
 replace e4 := ft hR e4
 replace D_v := D_v.ext hk
 replace e12 := e12.q
 replace kw := kw.x hk
 clear hR hk hg hP
 refine zn (hK10 _ _ ?_)
 refine zc e12 (fun hc => ?_) (fun hc => ?_)
 ·
  simp at hc
  obtain ⟨hlt, hn5⟩ := hc
  have hn3 : n2 < 5000 := by omega
  rw [List.drop_eq_getElem_cons hlt, szH, if_pos hn3] at hin
  refine wp_skip (hK9 _ _ ?_)
  refine zq fun K12 hK12 => ?_
  refine wp_block ?_
  refine rg mixed y11 zz11 ?_
  refine .mb rfl e3 ?_
  refine .i (sp_add (hlc rfl) Has.cst (i64_in (by omega))) ?_
  refine .mb rfl e0 ?_
  refine .mb rfl e4 ?_
  refine .rf (X := SA w S []) (e := Hs.d (l[k]'hlt)) (sp_indexL (i := k) ((hlc rfl).dat D_v sub_all) (hlc rfl) Tryz.underlying22 sz43 rfl hlt) ?_
  refine .rf (X := SA w S []) (e := D.str ((l[k]'hlt).al)) (sp_fieldR (hlc rfl) Tryz.underlying43 rfl sz9 rfl (by first | rfl | simp [widths, width, hssD, width_V])) ?_
  refine .i (sp_loadStr (hlc rfl) agg9 sz9) ?_
  refine .i (sp_lenS Tryz.underlying9 (hlc rfl)) ?_
  refine .i (sp_min Has.cst (hlc rfl)) ?_
  refine .i (sp_add (hlc rfl) (hlc rfl) (i64_in (by omega))) ?_
  refine .mb rfl e0 ?_
  refine .mb rfl e4 ?_
  refine .rf (X := SA w S []) (e := Hs.d (l[k]'hlt)) (sp_indexL (i := k) ((hlc rfl).dat D_v sub_all) (hlc rfl) Tryz.underlying22 sz43 rfl hlt) ?_
  refine .rf (X := SA w S []) (e := D.str ((l[k]'hlt).hx)) (sp_fieldR (hlc rfl) Tryz.underlying43 rfl sz9 rfl (by first | rfl | simp [widths, width, hssD, width_V])) ?_
  refine .i (sp_loadStr (hlc rfl) agg9 sz9) ?_
  refine .i (sp_lenS Tryz.underlying9 (hlc rfl)) ?_
  refine .i (sp_min Has.cst (hlc rfl)) ?_
  refine .i (sp_add (hlc rfl) (hlc rfl) (i64_in (by omega))) ?_
  refine .al rfl ?_
  refine .dn fun a13 g W13 y13 zz13 hk hg hV hR hP => ?_
  obtain ⟨e3, -, -, -, -, -, -, -, -, -, -, -, -, -, -, -, -, -, -, -⟩ := hV
  replace e0 := ft hR e0
  replace e4 := ft hR e4
  replace D_v := D_v.ext hk
  replace e3 := e3.q
  replace kw := kw.x hk
  clear hR hk hg hP
  refine zn (hK12 _ _ ?_)
  refine rg mixed y13 zz13 ?_
  refine .mb rfl e4 ?_
  refine .i (sp_add (hlc rfl) Has.cst (i64_in (by omega))) ?_
  refine .al rfl ?_
  refine .dn fun a14 g W14 y14 zz14 hk hg hV hR hP => ?_
  obtain ⟨e4, -, -, -⟩ := hV
  replace e0 := ft hR e0
  replace e3 := ft hR e3
  replace D_v := D_v.ext hk
  replace e4 := e4.q
  replace kw := kw.x hk
  clear hR hk hg hP
  exact tail_nil ⟨hlt, (n2 + 10 + min 5000 (l[k]'hlt).al.size + min 5000 (l[k]'hlt).hx.size), y14, zz14, kw, e0, (e3.trans (congrArg (Value.int .i64) (by push_cast; omega))), (e4.trans (congrArg (Value.int .i64) (by simp))), D_v, hin, by omega⟩
 have hfin : szH l 0 = n2 := by
  rw [hin]; simp at hc
  by_cases hlt : k < l.length
  · exact szH_big _ (by have := hc hlt; omega)
  · rw [List.drop_eq_nil_of_le (by omega)]; rfl
 refine wp_exit (hK5 _ _ ?_)
 refine zq fun K15 hK15 => ?_
 refine rg mixed y11 zz11 ?_
 refine .mb rfl e3 ?_
 refine .i (sp_geq (hlc rfl) Has.cst) ?_
 refine .al rfl ?_
 refine .dn fun a16 g W16 y16 zz16 hk hg hV hR hP => ?_
 obtain ⟨e2, -, -, -⟩ := hV
 replace D_v := D_v.ext hk
 replace e2 := e2.q
 replace kw := kw.x hk
 clear hR hk hg hP
 refine zn (hK15 _ _ ?_)
 refine wp_ret ?_
 refine ret1 rfl zz16 e2 ⟨_, rfl, kw, ?_⟩
 rw [hfin]
 exact congrArg Value.bool (decide_eq_decide.2 (by omega))
end Go.Proofs.YtnobijngkpflcaaGreat
namespace Go.Proofs.YtnobijngkpflcaaGreat
open Go.Eng
set_option maxRecDepth 100000 in
theorem refText_ok (t : ByteArray) (w : World) : Calls Tryz.prog 47 #[.string t] w (Ret w fun u _ => u = .agg #[.int .u8 3, .int .i64 0, .string t, .slice none 0 0, .slice none 0 0]) := by
 refine enter Tryz.func47 rfl Tryz.ntmps47 (lbr rfl) fun a0 y0 zz0 harg => ?_
 have e0 : sl a0 0 = (.string (t)) := harg 0 (lbr rfl)
 have kw := Keeps.refl All w
 clear harg
 refine zq fun K1 hK1 => ?_
 refine rg mixed y0 zz0 ?_
 refine .alloc z26 ?_
 refine .dn fun a2 g W2 y2 zz2 hk hg hV hR hP => ?_
 obtain ⟨⟨b2_2, e2, hb2, own_b2_2⟩, -⟩ := hV
 have lo_b2_2 : w.heap.size ≤ b2_2 := Nat.le_trans kw.size (hg.lo _ _ hb2)
 have own_b2_2 : Own W2 b2_2 [(.int .u8 (0)), (.int .i64 (0)), (.string (⟨#[]⟩)), (.slice none 0 0), (.slice none 0 0)] 26 := own_b2_2
 replace e0 := ft hR e0
 replace kw := kw.x hk
 clear hR hk hg hP hb2
 refine zn (hK1 _ _ ?_)
 refine zq fun K3 hK3 => ?_
 refine rg mixed y2 zz2 ?_
 refine .mb rfl e0 ?_
 refine .i (v := (.agg #[(.int .u8 (3)), (.int .i64 (0)), (.string (t)), (.slice none 0 0), (.slice none 0 0)])) (sp_build (vs := [(0, (.int .u8 (3))), (2, (.string (t)))]) Tryz.underlying26 z26 (pl26 Tryz.underlying26) ⟨rfl, Has.cst, rfl, (hlc rfl), trivial⟩ rfl) ?_
 refine .dn fun a4 g W4 y4 zz4 hk hg hV hR hP => ?_
 obtain ⟨e4, -, -⟩ := hV
 replace e2 := ft hR e2
 replace e4 := e4.q
 replace own_b2_2 := own_b2_2.ext hk
 replace kw := kw.x hk
 clear hR hk hg hP
 refine tail_store e2 e4 sz26 rfl own_b2_2 (lbr rfl) (all_cons rfl (all_cons rfl (all_cons rfl (all_cons rfl (all_cons rfl all_nil))))) (fun W5 hs own_b2_2 => ?_)
 have own_b2_2 : Own W5 b2_2 [(.int .u8 (3)), (.int .i64 (0)), (.string (t)), (.slice none 0 0), (.slice none 0 0)] 26 := own_b2_2
 replace kw := keeps_store kw hs lo_b2_2
 clear hs
 refine zn (hK3 _ _ ?_)
 refine wp_ret ?_
 refine retC (v := (.agg #[(.int .u8 (3)), (.int .i64 (0)), (.string (t)), (.slice none 0 0), (.slice none 0 0)])) rfl zz4 e2 own_b2_2 agg26 sz26 rfl (fun h => by cases h) rfl ⟨_, rfl, kw, ?_⟩
 exact rfl
set_option maxRecDepth 100000 in
theorem pkText_ok (t : ByteArray) (w : World) : Calls Tryz.prog 45 #[.string t] w (Ret w fun u _ => u = .agg #[.int .u8 3, .int .i64 0, .string t, .slice none 0 0, .slice none 0 0]) := by
 refine enter Tryz.func45 rfl Tryz.ntmps45 (lbr rfl) fun a0 y0 zz0 harg => ?_
 have e0 : sl a0 0 = (.string (t)) := harg 0 (lbr rfl)
 have kw := Keeps.refl All w
 clear harg
 refine zq fun K1 hK1 => ?_
 refine rg mixed y0 zz0 ?_
 refine .alloc z26 ?_
 refine .dn fun a2 g W2 y2 zz2 hk hg hV hR hP => ?_
 obtain ⟨⟨b2_2, e2, hb2, own_b2_2⟩, -⟩ := hV
 have lo_b2_2 : w.heap.size ≤ b2_2 := Nat.le_trans kw.size (hg.lo _ _ hb2)
 have own_b2_2 : Own W2 b2_2 [(.int .u8 (0)), (.int .i64 (0)), (.string (⟨#[]⟩)), (.slice none 0 0), (.slice none 0 0)] 26 := own_b2_2
 replace e0 := ft hR e0
 replace kw := kw.x hk
 clear hR hk hg hP hb2
 refine zn (hK1 _ _ ?_)
 refine zq fun K3 hK3 => ?_
 refine rg mixed y2 zz2 ?_
 refine .mb rfl e0 ?_
 refine .i (v := (.agg #[(.int .u8 (3)), (.int .i64 (0)), (.string (t)), (.slice none 0 0), (.slice none 0 0)])) (sp_build (vs := [(0, (.int .u8 (3))), (2, (.string (t)))]) Tryz.underlying26 z26 (pl26 Tryz.underlying26) ⟨rfl, Has.cst, rfl, (hlc rfl), trivial⟩ rfl) ?_
 refine .dn fun a4 g W4 y4 zz4 hk hg hV hR hP => ?_
 obtain ⟨e4, -, -⟩ := hV
 replace e2 := ft hR e2
 replace e4 := e4.q
 replace own_b2_2 := own_b2_2.ext hk
 replace kw := kw.x hk
 clear hR hk hg hP
 refine tail_store e2 e4 sz26 rfl own_b2_2 (lbr rfl) (all_cons rfl (all_cons rfl (all_cons rfl (all_cons rfl (all_cons rfl all_nil))))) (fun W5 hs own_b2_2 => ?_)
 have own_b2_2 : Own W5 b2_2 [(.int .u8 (3)), (.int .i64 (0)), (.string (t)), (.slice none 0 0), (.slice none 0 0)] 26 := own_b2_2
 replace kw := keeps_store kw hs lo_b2_2
 clear hs
 refine zn (hK3 _ _ ?_)
 refine wp_ret ?_
 refine retC (v := (.agg #[(.int .u8 (3)), (.int .i64 (0)), (.string (t)), (.slice none 0 0), (.slice none 0 0)])) rfl zz4 e2 own_b2_2 agg26 sz26 rfl (fun h => by cases h) rfl ⟨_, rfl, kw, ?_⟩
 exact rfl
set_option maxRecDepth 100000 in
theorem pkNum_ok (n : Int) (w : World) : Calls Tryz.prog 64 #[.int .i64 n] w (Ret w fun u _ => u = .agg #[.int .u8 2, .int .i64 n, .string ⟨#[]⟩, .slice none 0 0, .slice none 0 0]) := by
 refine enter Tryz.func64 rfl Tryz.ntmps64 (lbr rfl) fun a0 y0 zz0 harg => ?_
 have e0 : sl a0 0 = (.int .i64 (n)) := harg 0 (lbr rfl)
 have kw := Keeps.refl All w
 clear harg
 refine zq fun K1 hK1 => ?_
 refine rg mixed y0 zz0 ?_
 refine .alloc z26 ?_
 refine .dn fun a2 g W2 y2 zz2 hk hg hV hR hP => ?_
 obtain ⟨⟨b2_2, e2, hb2, own_b2_2⟩, -⟩ := hV
 have lo_b2_2 : w.heap.size ≤ b2_2 := Nat.le_trans kw.size (hg.lo _ _ hb2)
 have own_b2_2 : Own W2 b2_2 [(.int .u8 (0)), (.int .i64 (0)), (.string (⟨#[]⟩)), (.slice none 0 0), (.slice none 0 0)] 26 := own_b2_2
 replace e0 := ft hR e0
 replace kw := kw.x hk
 clear hR hk hg hP hb2
 refine zn (hK1 _ _ ?_)
 refine zq fun K3 hK3 => ?_
 refine rg mixed y2 zz2 ?_
 refine .mb rfl e0 ?_
 refine .i (v := (.agg #[(.int .u8 (2)), (.int .i64 (n)), (.string (⟨#[]⟩)), (.slice none 0 0), (.slice none 0 0)])) (sp_build (vs := [(0, (.int .u8 (2))), (1, (.int .i64 (n)))]) Tryz.underlying26 z26 (pl26 Tryz.underlying26) ⟨rfl, Has.cst, rfl, (hlc rfl), trivial⟩ rfl) ?_
 refine .dn fun a4 g W4 y4 zz4 hk hg hV hR hP => ?_
 obtain ⟨e4, -, -⟩ := hV
 replace e2 := ft hR e2
 replace e4 := e4.q
 replace own_b2_2 := own_b2_2.ext hk
 replace kw := kw.x hk
 clear hR hk hg hP
 refine tail_store e2 e4 sz26 rfl own_b2_2 (lbr rfl) (all_cons rfl (all_cons rfl (all_cons rfl (all_cons rfl (all_cons rfl all_nil))))) (fun W5 hs own_b2_2 => ?_)
 have own_b2_2 : Own W5 b2_2 [(.int .u8 (2)), (.int .i64 (n)), (.string (⟨#[]⟩)), (.slice none 0 0), (.slice none 0 0)] 26 := own_b2_2
 replace kw := keeps_store kw hs lo_b2_2
 clear hs
 refine zn (hK3 _ _ ?_)
 refine wp_ret ?_
 refine retC (v := (.agg #[(.int .u8 (2)), (.int .i64 (n)), (.string (⟨#[]⟩)), (.slice none 0 0), (.slice none 0 0)])) rfl zz4 e2 own_b2_2 agg26 sz26 rfl (fun h => by cases h) rfl ⟨_, rfl, kw, ?_⟩
 exact rfl
end Go.Proofs.YtnobijngkpflcaaGreat
namespace Go.Proofs.YtnobijngkpflcaaGreat
open Go.Eng
set_option maxRecDepth 100000 in
theorem Err_ok (k : Nat) (n : Int) (t : ByteArray) (cn ci mv : Value) (e : Int) (w : World) (bo : Nat) (own_bo : Own w bo [.int .u8 k, .int .i64 n, .string t, cn, ci, mv, .int .i64 e] 74) : Calls Tryz.prog 61 #[.pointer (some ⟨bo, 0, none⟩)] w (Ret w fun u _ => u = .int .i64 (errK k e)) := by
 refine enter Tryz.func61 rfl Tryz.ntmps61 (lbr rfl) fun a0 y0 zz0 harg => ?_
 have e0 : sl a0 0 = (.pointer (some ⟨bo, 0, none⟩)) := harg 0 (lbr rfl)
 have kw := Keeps.refl All w
 clear harg
 refine zq fun K1 hK1 => ?_
 refine rg mixed y0 zz0 ?_
 refine .ac ?_
 refine .dn fun a2 g W2 y2 zz2 hk hg hV hR hP => ?_
 obtain ⟨-, -⟩ := hV
 replace e0 := ft hR e0
 replace own_bo := own_bo.ext hk
 replace kw := kw.x hk
 clear hR hk hg hP
 refine zn (hK1 _ _ ?_)
 refine zq fun K3 hK3 => ?_
 refine zq fun K4 hK4 => ?_
 refine rg mixed y2 zz2 ?_
 refine .mb rfl e0 ?_
 refine .i (v := (.bool (false))) (sp_nilEq Tryz.underlying56 (hlc rfl) Has.cst (by simp) rfl) ?_
 refine .dn fun a5 g W5 y5 zz5 hk hg hV hR hP => ?_
 obtain ⟨e4, -, -⟩ := hV
 replace e0 := ft hR e0
 replace e4 := e4.q
 replace own_bo := own_bo.ext hk
 replace kw := kw.x hk
 clear hR hk hg hP
 refine zn (hK4 _ _ ?_)
 refine wp_cond_false e4 ?_
 refine wp_skip (hK3 _ _ ?_)
 refine zq fun K6 hK6 => ?_
 refine zq fun K7 hK7 => ?_
 refine rg mixed y5 zz5 ?_
 refine .mb rfl e0 ?_
 refine .i (sp_nilP (hlc rfl)) ?_
 refine .i (fo 6 (hlc rfl) Tryz.underlying74 rfl sz30 rfl) ?_
 refine .i (lo1 (hlc rfl) own_bo trivial agg30 sz30 rfl) ?_
 refine .i (sp_eql (hlc rfl) Has.cst) ?_
 refine .i (sp_move (hlc rfl)) ?_
 refine .em rfl (hlc rfl) rfl e0 ?_
 refine .e rfl (hlc rfl) (fun hg => sp_nilP ((hlc rfl).undE hg)) ?_
 refine .e rfl (hlc rfl) (fun hg => fo 0 ((hlc rfl).undE hg) Tryz.underlying74 rfl sz26 rfl) ?_
 refine .e rfl (hlc rfl) (fun hg => fo 0 ((hlc rfl).undE hg) Tryz.underlying26 rfl sz5 rfl) ?_
 refine .e rfl (hlc rfl) (fun hg => lo1 ((hlc rfl).undE hg) own_bo trivial agg5 sz5 rfl) ?_
 refine .e rfl (hlc rfl) (fun hg => sp_neq ((hlc rfl).undE hg) Has.cst) ?_
 refine .i (sp_and (hlc rfl) ((hlc rfl).weak fun hq => hq)) ?_
 refine .dn fun a8 g W8 y8 zz8 hk hg hV hR hP => ?_
 obtain ⟨e17, -, -, -, -, -, -, -, -, -, -, -, -, -⟩ := hV
 replace e0 := ft hR e0
 replace e17 := e17.q
 replace own_bo := own_bo.ext hk
 replace kw := kw.x hk
 clear hR hk hg hP
 refine zn (hK7 _ _ ?_)
 refine zc e17 (fun hc => ?_) (fun hc => ?_)
 ·
  have hf : errK k e = 10 := by rw [errK, if_pos]; simp at hc; omega
  refine zq fun K9 hK9 => ?_
  refine rg mixed y8 zz8 ?_
  refine .ac ?_
  refine .dn fun a10 g W10 y10 zz10 hk hg hV hR hP => ?_
  obtain ⟨e2, -⟩ := hV
  replace e2 := e2.q
  replace own_bo := own_bo.ext hk
  replace kw := kw.x hk
  clear hR hk hg hP
  refine zn (hK9 _ _ ?_)
  refine wp_ret ?_
  refine ret1 rfl zz10 e2 ⟨_, rfl, kw, ?_⟩
  rw [hf]
 have hf : errK k e = e := by rw [errK, if_neg]; simp at hc; omega
 refine wp_skip (hK6 _ _ ?_)
 refine zq fun K11 hK11 => ?_
 refine rg mixed y8 zz8 ?_
 refine .mb rfl e0 ?_
 refine .i (sp_nilP (hlc rfl)) ?_
 refine .i (fo 6 (hlc rfl) Tryz.underlying74 rfl sz30 rfl) ?_
 refine .i (lo1 (hlc rfl) own_bo trivial agg30 sz30 rfl) ?_
 refine .al rfl ?_
 refine .dn fun a12 g W12 y12 zz12 hk hg hV hR hP => ?_
 obtain ⟨e2, -, -, -, -, -⟩ := hV
 replace e2 := e2.q
 replace own_bo := own_bo.ext hk
 replace kw := kw.x hk
 clear hR hk hg hP
 refine zn (hK11 _ _ ?_)
 refine wp_ret ?_
 refine ret1 rfl zz12 e2 ⟨_, rfl, kw, ?_⟩
 rw [hf]
set_option maxRecDepth 100000 in
theorem Fail_ok (k : Nat) (n : Int) (t : ByteArray) (cn ci mv : Value) (e : Int) (f : Int) (w : World) (bo : Nat) (own_bo : Own w bo [.int .u8 k, .int .i64 n, .string t, cn, ci, mv, .int .i64 e] 74) : Calls Tryz.prog 38 #[.pointer (some ⟨bo, 0, none⟩), .int .i64 f] w (RetL w [bo] fun u W => u = .tuple #[] ∧ Own W bo [.int .u8 k, .int .i64 n, .string t, cn, ci, mv, .int .i64 (failK k e f)] 74) := by
 refine enter Tryz.func38 rfl Tryz.ntmps38 (lbr rfl) fun a0 y0 zz0 harg => ?_
 have e0 : sl a0 0 = (.pointer (some ⟨bo, 0, none⟩)) := harg 0 (lbr rfl)
 have e1 : sl a0 1 = (.int .i64 (f)) := harg 1 (lbr rfl)
 have kw := Keeps.refl (fun k => k ∉ [bo]) w
 clear harg
 refine zq fun K1 hK1 => ?_
 refine rg mixed y0 zz0 ?_
 refine .mb rfl e0 ?_
 refine .i (v := (.int .i64 (errK (k : Nat) e))) (sp_call1 (φ1 := Is (.pointer (some ⟨bo, 0, none⟩))) ent61 (hlc rfl) (fun g u1 W hk hgk h1 => by have h1 : u1 = _ := h1; subst u1; exact Err_ok _ _ _ _ _ _ _ W _ (own_bo.ext hk))) ?_
 refine .i (sp_eql (hlc rfl) Has.cst) ?_
 refine .dn fun a2 g W2 y2 zz2 hk hg hV hR hP => ?_
 obtain ⟨e6, -, -, -⟩ := hV
 replace e0 := ft hR e0
 replace e1 := ft hR e1
 replace e6 := e6.q
 replace own_bo := own_bo.ext hk
 replace kw := kw.x hk
 clear hR hk hg hP
 refine zn (hK1 _ _ ?_)
 refine zc e6 (fun hc => ?_) (fun hc => ?_)
 ·
  have hf : failK k e f = f := by rw [failK, if_pos (by simpa using hc)]
  refine rg mixed y2 zz2 ?_
  refine .mb rfl e0 ?_
  refine .mb rfl e1 ?_
  refine .i (sp_nilP (hlc rfl)) ?_
  refine .i (fo 6 (hlc rfl) Tryz.underlying74 rfl sz30 rfl) ?_
  refine .dn fun a3 g W3 y3 zz3 hk hg hV hR hP => ?_
  obtain ⟨e10, -, e8, -, -⟩ := hV
  replace e8 := e8.q
  have e10 : sl a3 10 = (.pointer (some ⟨bo, 6, none⟩)) := e10
  replace own_bo := own_bo.ext hk
  replace kw := kw.x hk
  clear hR hk hg hP
  refine tail_store e10 e8 sz30 rfl own_bo (lbr rfl) (all_cons rfl all_nil) (fun W4 hs own_bo => ?_)
  have own_bo : Own W4 bo [(.int .u8 ((k : Nat))), (.int .i64 (n)), (.string (t)), cn, ci, mv, (.int .i64 (f))] 74 := own_bo
  replace kw := keeps_storeN kw hs (by simp)
  clear hs
  refine tail_nil ?_
  refine ret0 rfl zz3 ⟨_, rfl, kw, ?_⟩
  exact ⟨rfl, by rw [hf]; exact own_bo⟩
 have hf : failK k e f = e := by rw [failK, if_neg (by simpa using hc)]
 refine wp_skip ?_
 refine ret0 rfl zz2 ⟨_, rfl, kw, ?_⟩
 exact ⟨rfl, by rw [hf]; exact own_bo⟩
end Go.Proofs.YtnobijngkpflcaaGreat
namespace Go.Proofs.YtnobijngkpflcaaGreat
open Go.Eng
set_option maxRecDepth 100000 in
theorem num1_ok (x : V) (lo hi : Int) (w : World) (S : BSet) (v : Value) (b1 b2 : Nat) (hv : Rd w S x.d v) (own_b1 : Own w b1 [.int .i64 lo] 2) (own_b2 : Own w b2 [.int .i64 hi] 2) : Calls Tryz.prog 58 #[v, .pointer (some ⟨b1, 0, none⟩), .pointer (some ⟨b2, 0, none⟩)] w (Ret w fun r _ => r = .tuple #[.int .i64 (numV lo hi x), .int .i64 (numE lo hi x)]) := by
 obtain ⟨cn0a, cn0c, ci0a, ci0c, ev, ht0, D_cn0, D_ci0⟩ := rdV_out (rd_arg hv)
 subst ev
 refine enter Tryz.func58 rfl Tryz.ntmps58 (lbr rfl) fun a0 y0 zz0 harg => ?_
 have e0 : sl a0 0 = (.agg #[(.int .u8 (x.k)), (.int .i64 (x.n)), (.string (x.t)), (.slice cn0a (x.ns.length) cn0c), (.slice ci0a (x.xs.length) ci0c)]) := harg 0 (lbr rfl)
 have e1 : sl a0 1 = (.pointer (some ⟨b1, 0, none⟩)) := harg 1 (lbr rfl)
 have e2 : sl a0 2 = (.pointer (some ⟨b2, 0, none⟩)) := harg 2 (lbr rfl)
 have kw := Keeps.refl All w
 clear harg
 refine zq fun K1 hK1 => ?_
 refine rg mixed y0 zz0 ?_
 refine .boxOp (v := (.agg #[(.int .u8 (x.k)), (.int .i64 (x.n)), (.string (x.t)), (.slice cn0a (x.ns.length) cn0c), (.slice ci0a (x.xs.length) ci0c)])) (hbs rfl e0) ?_
 refine .ac ?_
 refine .ac ?_
 refine .dn fun a2 g W2 y2 zz2 hk hg hV hR hP => ?_
 obtain ⟨-, -, ⟨b3_2, e3, hb3, own_b3_2⟩, -⟩ := hV
 have lo_b3_2 : w.heap.size ≤ b3_2 := Nat.le_trans kw.size (hg.lo _ _ hb3)
 have ne_b1_b3_2 : b1 ≠ b3_2 := Nat.ne_of_lt (Nat.lt_of_lt_of_le own_b1.lt (hg.lo _ _ hb3))
 have ne_b2_b3_2 : b2 ≠ b3_2 := Nat.ne_of_lt (Nat.lt_of_lt_of_le own_b2.lt (hg.lo _ _ hb3))
 have own_b3_2 : Own W2 b3_2 [(.int .u8 (x.k)), (.int .i64 (x.n)), (.string (x.t)), (.slice cn0a (x.ns.length) cn0c), (.slice ci0a (x.xs.length) ci0c)] 26 := own_b3_2
 replace e1 := ft hR e1
 replace e2 := ft hR e2
 replace D_cn0 := sa_more D_cn0 hk [b3_2] (in_cons (hg.lo _ _ hb3) in_nil)
 replace D_ci0 := sa_more D_ci0 hk [b3_2] (in_cons (hg.lo _ _ hb3) in_nil)
 replace own_b1 := own_b1.ext hk
 replace own_b2 := own_b2.ext hk
 replace kw := kw.x hk
 clear hR hk hg hP hb3
 refine zn (hK1 _ _ ?_)
 refine zq fun K3 hK3 => ?_
 refine zq fun K4 hK4 => ?_
 refine rg mixed y2 zz2 ?_
 refine .i (fo 0 (hbs rfl e3) Tryz.underlying26 rfl sz5 rfl) ?_
 refine .i (lo1 (hlc rfl) own_b3_2 trivial agg5 sz5 rfl) ?_
 refine .i (sp_neq (hlc rfl) Has.cst) ?_
 refine .dn fun a5 g W5 y5 zz5 hk hg hV hR hP => ?_
 obtain ⟨e8, -, -, -⟩ := hV
 replace e1 := ft hR e1
 replace e2 := ft hR e2
 replace e3 := ft hR e3
 replace D_cn0 := D_cn0.ext hk
 replace D_ci0 := D_ci0.ext hk
 replace e8 := e8.q
 replace own_b1 := own_b1.ext hk
 replace own_b2 := own_b2.ext hk
 replace own_b3_2 := own_b3_2.ext hk
 replace kw := kw.x hk
 clear hR hk hg hP
 refine zn (hK4 _ _ ?_)
 refine zc e8 (fun hc => ?_) (fun hc => ?_)
 ·
  have hk : x.k ≠ 2 := by simp at hc; omega
  have hf : numE lo hi x = 10 := by rw [numE, if_pos hk]
  have hv2 : numV lo hi x = 0 := by rw [numV, hf]; rfl
  refine zq fun K6 hK6 => ?_
  refine rg mixed y5 zz5 ?_
  refine .ac ?_
  refine .ac ?_
  refine .dn fun a7 g W7 y7 zz7 hk hg hV hR hP => ?_
  obtain ⟨e5, e4, -⟩ := hV
  replace D_cn0 := D_cn0.ext hk
  replace D_ci0 := D_ci0.ext hk
  replace e4 := e4.q
  replace e5 := e5.q
  replace own_b1 := own_b1.ext hk
  replace own_b2 := own_b2.ext hk
  replace own_b3_2 := own_b3_2.ext hk
  replace kw := kw.x hk
  clear hR hk hg hP
  refine zn (hK6 _ _ ?_)
  refine wp_ret ?_
  refine ret2 rfl zz7 e4 e5 ⟨_, rfl, kw, ?_⟩
  rw [hf, hv2]
 have hk : ¬ x.k ≠ 2 := by simp at hc; omega
 refine wp_skip (hK3 _ _ ?_)
 refine zq fun K8 hK8 => ?_
 refine zq fun K9 hK9 => ?_
 refine rg mixed y5 zz5 ?_
 refine .i (fo 1 (hbs rfl e3) Tryz.underlying26 rfl sz2 rfl) ?_
 refine .i (lo1 (hlc rfl) own_b3_2 trivial agg2 sz2 rfl) ?_
 refine .i (lo1 (hbs rfl e1) own_b1 trivial agg2 sz2 rfl) ?_
 refine .i (sp_lss (hlc rfl) (hlc rfl)) ?_
 refine .i (sp_move (hlc rfl)) ?_
 refine .e rfl (hlc rfl) (fun hg => fo 1 (hbs rfl e3) Tryz.underlying26 rfl sz2 rfl) ?_
 refine .e rfl (hlc rfl) (fun hg => lo1 ((hlc rfl).undE hg) own_b3_2 trivial agg2 sz2 rfl) ?_
 refine .e rfl (hlc rfl) (fun hg => lo1 (hbs rfl e2) own_b2 trivial agg2 sz2 rfl) ?_
 refine .e rfl (hlc rfl) (fun hg => sp_gtr ((hlc rfl).undE hg) ((hlc rfl).undE hg)) ?_
 refine .i (sp_or (hlc rfl) ((hlc rfl).weak fun hq => hq)) ?_
 refine .dn fun a10 g W10 y10 zz10 hk hg hV hR hP => ?_
 obtain ⟨e18, -, -, -, -, -, -, -, -, -, -⟩ := hV
 replace e3 := ft hR e3
 replace D_cn0 := D_cn0.ext hk
 replace D_ci0 := D_ci0.ext hk
 replace e18 := e18.q
 replace own_b1 := own_b1.ext hk
 replace own_b2 := own_b2.ext hk
 replace own_b3_2 := own_b3_2.ext hk
 replace kw := kw.x hk
 clear hR hk hg hP
 refine zn (hK9 _ _ ?_)
 refine zc e18 (fun hc => ?_) (fun hc => ?_)
 ·
  have hl : x.n < lo ∨ hi < x.n := by simpa using hc
  have hf : numE lo hi x = 1 := by rw [numE, if_neg hk, if_pos hl]
  have hv2 : numV lo hi x = 0 := by rw [numV, hf]; rfl
  refine zq fun K11 hK11 => ?_
  refine rg mixed y10 zz10 ?_
  refine .ac ?_
  refine .ac ?_
  refine .dn fun a12 g W12 y12 zz12 hk hg hV hR hP => ?_
  obtain ⟨e5, e4, -⟩ := hV
  replace D_cn0 := D_cn0.ext hk
  replace D_ci0 := D_ci0.ext hk
  replace e4 := e4.q
  replace e5 := e5.q
  replace own_b1 := own_b1.ext hk
  replace own_b2 := own_b2.ext hk
  replace own_b3_2 := own_b3_2.ext hk
  replace kw := kw.x hk
  clear hR hk hg hP
  refine zn (hK11 _ _ ?_)
  refine wp_ret ?_
  refine ret2 rfl zz12 e4 e5 ⟨_, rfl, kw, ?_⟩
  rw [hf, hv2]
 have hl : ¬ (x.n < lo ∨ hi < x.n) := by simp at hc; omega
 have hf : numE lo hi x = 0 := by rw [numE, if_neg hk, if_neg hl]
 have hv2 : numV lo hi x = x.n := by rw [numV, if_pos hf]
 refine wp_skip (hK8 _ _ ?_)
 refine zq fun K13 hK13 => ?_
 refine rg mixed y10 zz10 ?_
 refine .i (fo 1 (hbs rfl e3) Tryz.underlying26 rfl sz2 rfl) ?_
 refine .i (lo1 (hlc rfl) own_b3_2 trivial agg2 sz2 rfl) ?_
 refine .al rfl ?_
 refine .ac ?_
 refine .dn fun a14 g W14 y14 zz14 hk hg hV hR hP => ?_
 obtain ⟨e5, e4, -, -, -⟩ := hV
 replace D_cn0 := D_cn0.ext hk
 replace D_ci0 := D_ci0.ext hk
 replace e4 := e4.q
 replace e5 := e5.q
 replace own_b1 := own_b1.ext hk
 replace own_b2 := own_b2.ext hk
 replace own_b3_2 := own_b3_2.ext hk
 replace kw := kw.x hk
 clear hR hk hg hP
 refine zn (hK13 _ _ ?_)
 refine wp_ret ?_
 refine ret2 rfl zz14 e4 e5 ⟨_, rfl, kw, ?_⟩
 rw [hf, hv2]
set_option maxRecDepth 100000 in
theorem takeI_ok (x : V) (A : As) (e : Int) (hA : AB 1000000 A) (hx : x.wt ≤ 1073741824) (hxt : x.t.size ≤ maxLen) (name : ByteArray) (fi : FuncId) (cb : Array Value) (ce : V → Int) (fv : V → Int) (w : World) (S : BSet) (cn ci : Value) (bo bm : Nat) (hS : ∀ b o, S b o → Cln o) (hM : ∀ b ∈ [bo, bm], ∀ o, ¬ S b o) (hne : bo ≠ bm) (hv : Rd w S (strsD x.ns) cn) (hu : Rd w S (valsD x.xs) ci) (own_bo : Own w bo [.int .u8 x.k, .int .i64 x.n, .string x.t, cn, ci, .map (some bm), .int .i64 (e)] 74) (own_bm : OwnM w bm A) (ef : Enters Tryz.prog fi) (hf : ∀ W, Keeps (fun k => k ∉ [bo, bm]) w W → ∀ (y : V) (v : Value), y.wt ≤ 1073741824 → Rd W (Fr w) y.d v → Calls Tryz.prog fi (#[v] ++ cb) W (Ret W fun r _ => r = .tuple #[.int .i64 (fv y), .int .i64 (ce y)])) : Calls Tryz.prog 57 #[.pointer (some ⟨bo, 0, none⟩), .string name, .func (.func fi) #[] cb] w (RetL w [bo, bm] fun u W => u = .int .i64 (if tkB x e name ce then fv (getV x name) else 0) ∧ Own W bo [.int .u8 x.k, .int .i64 x.n, .string x.t, cn, ci, .map (some bm), .int .i64 (tkE x e name ce)] 74 ∧ OwnM W bm (tkA x A e name ce)) := by
 have hwx := wt_eq x
 have hwl := wts_len x.xs
 have hwn := wtN_len x.ns
 obtain ⟨cna, cnc, ev, D_cn⟩ := rdS_out (rd_argM (M := [bo, bm]) hv hM)
 subst ev
 obtain ⟨cia, cic, ev, D_ci⟩ := rdVs_out (rd_argM (M := [bo, bm]) hu hM)
 subst ev
 refine enter Tryz.func57 rfl Tryz.ntmps57 (lbr rfl) fun a0 y0 zz0 harg => ?_
 have e0 : sl a0 0 = (.pointer (some ⟨bo, 0, none⟩)) := harg 0 (lbr rfl)
 have e1 : sl a0 1 = (.string (name)) := harg 1 (lbr rfl)
 have e2 : sl a0 2 = (.func (.func fi) #[] cb) := harg 2 (lbr rfl)
 have kw := Keeps.refl (fun k => k ∉ [bo, bm]) w
 clear harg
 refine zq fun K1 hK1 => ?_
 refine rg mixed y0 zz0 ?_
 refine .ac ?_
 refine .dn fun a2 g W2 y2 zz2 hk hg hV hR hP => ?_
 obtain ⟨-, -⟩ := hV
 replace e0 := ft hR e0
 replace e1 := ft hR e1
 replace e2 := ft hR e2
 replace D_cn := D_cn.ext hk
 replace D_ci := D_ci.ext hk
 replace own_bo := own_bo.ext hk
 replace own_bm := own_bm.ext hk
 replace kw := kw.x hk
 clear hR hk hg hP
 refine zn (hK1 _ _ ?_)
 refine zq fun K3 hK3 => ?_
 refine rg mixed y2 zz2 ?_
 refine .ac ?_
 refine .dn fun a4 g W4 y4 zz4 hk hg hV hR hP => ?_
 obtain ⟨e7, -⟩ := hV
 replace e0 := ft hR e0
 replace e1 := ft hR e1
 replace e2 := ft hR e2
 replace D_cn := D_cn.ext hk
 replace D_ci := D_ci.ext hk
 replace e7 := e7.q
 replace own_bo := own_bo.ext hk
 replace own_bm := own_bm.ext hk
 replace kw := kw.x hk
 clear hR hk hg hP
 refine zn (hK3 _ _ ?_)
 refine zq fun K5 hK5 => ?_
 refine zq fun K6 hK6 => ?_
 refine rg mixed y4 zz4 ?_
 refine .mb rfl e0 ?_
 refine .i (v := (.int .i64 (errK x.k e))) (sp_call1 (φ1 := Is (.pointer (some ⟨bo, 0, none⟩))) ent61 (hlc rfl) (fun g u1 W hk hgk h1 => by have h1 : u1 = _ := h1; subst u1; exact Err_ok _ _ _ _ _ _ _ W _ (own_bo.ext hk))) ?_
 refine .i (sp_neq (hlc rfl) Has.cst) ?_
 refine .dn fun a7 g W7 y7 zz7 hk hg hV hR hP => ?_
 obtain ⟨e14, -, -, -⟩ := hV
 replace e0 := ft hR e0
 replace e1 := ft hR e1
 replace e2 := ft hR e2
 replace e7 := ft hR e7
 replace D_cn := D_cn.ext hk
 replace D_ci := D_ci.ext hk
 replace e14 := e14.q
 replace own_bo := own_bo.ext hk
 replace own_bm := own_bm.ext hk
 replace kw := kw.x hk
 clear hR hk hg hP
 refine zn (hK6 _ _ ?_)
 refine zc e14 (fun hc => ?_) (fun hc => ?_)
 ·
  have hE : errK x.k e ≠ 0 := by simpa using hc
  have h1 : tkE x e name ce = e := by rw [tkE, if_pos hE]
  have h2 : tkB x e name ce = false := by simp [tkB, hE]
  have h3 : tkA x A e name ce = A := by rw [tkA, h2]; rfl
  refine zq fun K8 hK8 => ?_
  refine rg mixed y7 zz7 ?_
  refine .mb rfl e7 ?_
  refine .al rfl ?_
  refine .dn fun a9 g W9 y9 zz9 hk hg hV hR hP => ?_
  obtain ⟨e6, -, -⟩ := hV
  replace D_cn := D_cn.ext hk
  replace D_ci := D_ci.ext hk
  replace e6 := e6.q
  replace own_bo := own_bo.ext hk
  replace own_bm := own_bm.ext hk
  replace kw := kw.x hk
  clear hR hk hg hP
  refine zn (hK8 _ _ ?_)
  refine wp_ret ?_
  refine ret1 rfl zz9 e6 ⟨_, rfl, kw, ?_⟩
  rw [h1, h3, h2]
  exact ⟨rfl, own_bo, own_bm⟩
 have hE : errK x.k e = 0 := by simpa using hc
 have he0 := (errK_zero hE).1
 refine wp_skip (hK5 _ _ ?_)
 refine zq fun K10 hK10 => ?_
 refine rg mixed y7 zz7 ?_
 refine .mb rfl e0 ?_
 refine .i (sp_nilP (hlc rfl)) ?_
 refine .i (fo 0 (hlc rfl) Tryz.underlying74 rfl sz26 rfl) ?_
 refine .i (v := (.agg #[(.int .u8 (x.k)), (.int .i64 (x.n)), (.string (x.t)), (.slice cna (x.ns.length) cnc), (.slice cia (x.xs.length) cic)])) (loA (hlc rfl) own_bo trivial agg26 sz26 rfl rfl) ?_
 refine .mb rfl e1 ?_
 refine .op (φ := IsT (IsD (Fr W7) (V.d (getV (x) name))) (Is (.bool (getB (x) name)))) (st_t (st_d sub_all) (st_is _)) (sp_call2 (φ1 := IsD (SA w S [bo, bm]) (V.d (x))) (φ2 := Is (.string (name))) ent62 ((hlc rfl).dat (rdV_in (x := x) hxt D_cn D_ci : Rd W7 (SA w S [bo, bm]) (V.d (x)) _) sub_all) (hlc rfl) (fun g u1 u2 W hk hgk h1 h2 => by have h2 : u2 = _ := h2; subst u2; exact (Get_ok (x) (name) (by omega) W _ _ (fun b o h => sa_cln hS b o h.1) h1).mono (fun _ _ ⟨v, h1, h2, r1, h3, h4⟩ => ⟨v, h1, h2, r1, _, h3, fresh_d hk hgk h4, rfl⟩))) ?_
 refine .op (φ := IsT (IsD (Fr W7) (V.d (getV (x) name))) (Is (.bool (getB (x) name)))) (st_t (st_d sub_all) (st_is _)) (sp_move (hlc rfl)) ?_
 refine .da (X := Fr W7) (e := V.d (getV (x) name)) (sp_ext2 (hlc rfl) rfl) ?_
 refine .i (v := (.bool (getB (x) name))) (sp_ext2' (hlc rfl) rfl) ?_
 refine .alloc z26 ?_
 refine .dn fun a11 g W11 y11 zz11 hk hg hV hR hP => ?_
 obtain ⟨⟨b8_11, e8, hb8, own_b8_11⟩, e24, e23, -, -, -, -, -, -, -, -⟩ := hV
 have lo_b8_11 : w.heap.size ≤ b8_11 := Nat.le_trans kw.size (hg.lo _ _ hb8)
 have ne_bo_b8_11 : bo ≠ b8_11 := Nat.ne_of_lt (Nat.lt_of_lt_of_le own_bo.lt (hg.lo _ _ hb8))
 have ne_bm_b8_11 : bm ≠ b8_11 := Nat.ne_of_lt (Nat.lt_of_lt_of_le own_bm.lt (hg.lo _ _ hb8))
 have own_b8_11 : Own W11 b8_11 [(.int .u8 (0)), (.int .i64 (0)), (.string (⟨#[]⟩)), (.slice none 0 0), (.slice none 0 0)] 26 := own_b8_11
 replace e0 := ft hR e0
 replace e1 := ft hR e1
 replace e2 := ft hR e2
 replace e7 := ft hR e7
 replace D_cn := sa_more D_cn hk [b8_11] (in_cons (hg.lo _ _ hb8) in_nil)
 replace D_ci := sa_more D_ci hk [b8_11] (in_cons (hg.lo _ _ hb8) in_nil)
 obtain ⟨v23_11, ev⟩ : ∃ v, sl a11 23 = v := ⟨_, rfl⟩
 rw [ev] at e23
 have D_v23_11 : Rd W11 (SF w [b8_11, bo, bm]) (V.d (getV (x) name)) v23_11 := fr_end (M := [bo, bm]) e23 kw [b8_11] (in_cons ⟨_, hb8⟩ in_nil) (in_cons own_bo.lt (in_cons own_bm.lt in_nil))
 replace e23 := ev; clear ev
 obtain ⟨cn23_11a, cn23_11c, ci23_11a, ci23_11c, ev, ht_v23_11, D_cn23_11, D_ci23_11⟩ := rdV_out D_v23_11
 subst ev; clear D_v23_11
 replace e24 := e24.q
 replace own_bo := own_bo.ext hk
 replace own_bm := own_bm.ext hk
 replace kw := kw.x hk
 clear hR hk hg hP hb8
 refine tail_store e8 e23 sz26 rfl own_b8_11 (lbr rfl) (all_cons rfl (all_cons rfl (all_cons rfl (all_cons rfl (all_cons rfl all_nil))))) (fun W12 hs own_b8_11 => ?_)
 have own_b8_11 : Own W12 b8_11 [(.int .u8 ((getV (x) name).k)), (.int .i64 ((getV (x) name).n)), (.string ((getV (x) name).t)), (.slice cn23_11a (((getV (x) name).ns).length) cn23_11c), (.slice ci23_11a (((getV (x) name).xs).length) ci23_11c)] 26 := own_b8_11
 replace own_bo := own_store own_bo hs ne_bo_b8_11
 replace own_bm := ownM_store own_bm hs ne_bm_b8_11
 replace D_cn := sa_store D_cn hs (by simp)
 replace D_ci := sa_store D_ci hs (by simp)
 replace D_cn23_11 := sf_store D_cn23_11 hs (by simp)
 replace D_ci23_11 := sf_store D_ci23_11 hs (by simp)
 replace kw := keeps_store kw hs lo_b8_11
 clear hs
 refine tail_assign (v := (.bool (getB (x) name))) e24 (by rw [y11]; exact Nat.le_of_ble_eq_true rfl) (fun a13 y13 zz13 e9 hr => ?_)
 replace y13 := y13.trans y11; replace zz13 := zz13.trans zz11
 replace e0 := (hr 0 (by decide)).trans e0
 replace e1 := (hr 1 (by decide)).trans e1
 replace e2 := (hr 2 (by decide)).trans e2
 replace e7 := (hr 7 (by decide)).trans e7
 replace e8 := (hr 8 (by decide)).trans e8
 replace e23 := (hr 23 (by decide)).trans e23
 replace e24 := (hr 24 (by decide)).trans e24
 clear hr
 refine zn (hK10 _ _ ?_)
 refine zq fun K14 hK14 => ?_
 refine zq fun K15 hK15 => ?_
 refine rg mixed y13 zz13 ?_
 refine .mb rfl e9 ?_
 refine .i (sp_not (hlc rfl)) ?_
 refine .dn fun a16 g W16 y16 zz16 hk hg hV hR hP => ?_
 obtain ⟨e26, -, -⟩ := hV
 replace e0 := ft hR e0
 replace e1 := ft hR e1
 replace e2 := ft hR e2
 replace e7 := ft hR e7
 replace e8 := ft hR e8
 replace D_cn := D_cn.ext hk
 replace D_ci := D_ci.ext hk
 replace D_cn23_11 := D_cn23_11.ext hk
 replace D_ci23_11 := D_ci23_11.ext hk
 replace e26 := e26.q
 replace own_bo := own_bo.ext hk
 replace own_bm := own_bm.ext hk
 replace own_b8_11 := own_b8_11.ext hk
 replace kw := kw.x hk
 clear hR hk hg hP
 refine zn (hK15 _ _ ?_)
 refine zc e26 (fun hc => ?_) (fun hc => ?_)
 ·
  have hg0 : getB x name = false := by simpa using hc
  have h1 : tkE x e name ce = failK x.k e 6 := by rw [tkE, if_neg (by simp [hE]), if_pos hg0, failK, if_pos hE]
  have h2 : tkB x e name ce = false := by simp [tkB, hg0]
  have h3 : tkA x A e name ce = A := by rw [tkA, h2]; rfl
  refine zq fun K17 hK17 => ?_
  refine wp_reg (fun k => k ∉ [bo]) (Ψ := fun W => Own W bo [(.int .u8 (x.k)), (.int .i64 (x.n)), (.string (x.t)), (.slice cna (x.ns.length) cnc), (.slice cia (x.xs.length) cic), (.map (some bm)), (.int .i64 (e))] 74) mixed y16 zz16 stE_own own_bo ?_
  refine .mb rfl e0 ?_
  refine .callL2 (φ1 := Is (.pointer (some ⟨bo, 0, none⟩))) (φ2 := Is (.int .i64 (6))) (φ := Is (.tuple #[])) (Ψ' := fun W => Own W bo [(.int .u8 (x.k)), (.int .i64 (x.n)), (.string (x.t)), (.slice cna (x.ns.length) cnc), (.slice cia (x.xs.length) cic), (.map (some bm)), (.int .i64 (failK x.k e 6))] 74) ent38 (hlc rfl) Has.cst (st_is _) stE_own (fun g u1 u2 W hk hg h1 h2 hP => by have h1 : u1 = _ := h1; subst u1; have h2 : u2 = _ := h2; subst u2; exact (Fail_ok _ _ _ _ _ _ _ (6) W _ hP)) ?_
  refine .dn fun a18 g W18 y18 zz18 hk hg hV hR hP => ?_
  obtain ⟨-, -, -⟩ := hV
  replace e7 := ft hR e7
  replace D_cn := sa_keepL D_cn hk (by simp)
  replace D_ci := sa_keepL D_ci hk (by simp)
  replace D_cn23_11 := sf_keepL D_cn23_11 hk (by simp)
  replace D_ci23_11 := sf_keepL D_ci23_11 hk (by simp)
  replace own_bm := ownM_keepL own_bm hk (by simp [hne.symm])
  replace own_b8_11 := own_keepL own_b8_11 hk (by simp [ne_bo_b8_11.symm])
  have own_bo := hP
  replace own_bo : Own W18 bo [(.int .u8 (x.k)), (.int .i64 (x.n)), (.string (x.t)), (.slice cna (x.ns.length) cnc), (.slice cia (x.xs.length) cic), (.map (some bm)), (.int .i64 (failK x.k e 6))] 74 := own_bo
  replace kw := keeps_L kw hk (in_cons (.inr (by simp)) in_nil)
  clear hR hk hg hP
  refine zn (hK17 _ _ ?_)
  refine zq fun K19 hK19 => ?_
  refine rg mixed y18 zz18 ?_
  refine .mb rfl e7 ?_
  refine .al rfl ?_
  refine .dn fun a20 g W20 y20 zz20 hk hg hV hR hP => ?_
  obtain ⟨e6, -, -⟩ := hV
  replace D_cn := D_cn.ext hk
  replace D_ci := D_ci.ext hk
  replace e6 := e6.q
  replace own_bo := own_bo.ext hk
  replace own_bm := own_bm.ext hk
  replace own_b8_11 := own_b8_11.ext hk
  replace kw := kw.x hk
  clear hR hk hg hP
  refine zn (hK19 _ _ ?_)
  refine wp_ret ?_
  refine ret1 rfl zz20 e6 ⟨_, rfl, kw, ?_⟩
  rw [h1, h3, h2]
  exact ⟨rfl, own_bo, own_bm⟩
 have hg1 : getB x name = true := by simpa using hc
 have hAn := hA name
 have hwg := Nat.le_trans (getV_wt x name) hx
 refine wp_skip (hK14 _ _ ?_)
 refine zq fun K21 hK21 => ?_
 refine rg mixed y16 zz16 ?_
 refine .mb rfl e2 ?_
 refine .i (v := (.agg #[(.int .u8 ((getV (x) name).k)), (.int .i64 ((getV (x) name).n)), (.string ((getV (x) name).t)), (.slice cn23_11a (((getV (x) name).ns).length) cn23_11c), (.slice ci23_11a (((getV (x) name).xs).length) ci23_11c)])) (loA (hbs rfl e8) own_b8_11 trivial agg26 sz26 rfl rfl) ?_
 refine .i (v := (.tuple #[(.int .i64 (fv (getV x name))), (.int .i64 (ce (getV x name)))])) (sp_callF1 ef (hlc rfl) (hlc rfl) (fun g W hk hgk => hf W (kw.trans (.of_ext hk)) _ _ hwg (sf_fr (Rd.ext (rdV_in (x := (getV (x) name)) ht_v23_11 D_cn23_11 D_ci23_11 : Rd W16 (SF w [b8_11, bo, bm]) (V.d ((getV (x) name))) _) hk)))) ?_
 refine .i (sp_move (hlc rfl)) ?_
 refine .i (v := (.int .i64 (fv (getV x name)))) (sp_extT (hlc rfl) rfl) ?_
 refine .i (v := (.int .i64 (ce (getV x name)))) (sp_extT (hlc rfl) rfl) ?_
 refine .al rfl ?_
 refine .al rfl ?_
 refine .dn fun a22 g W22 y22 zz22 hk hg hV hR hP => ?_
 obtain ⟨e11, e10, -, -, -, -, -, -, -⟩ := hV
 replace e0 := ft hR e0
 replace e1 := ft hR e1
 replace e7 := ft hR e7
 replace D_cn := D_cn.ext hk
 replace D_ci := D_ci.ext hk
 replace D_cn23_11 := D_cn23_11.ext hk
 replace D_ci23_11 := D_ci23_11.ext hk
 replace e10 := e10.q
 replace e11 := e11.q
 replace own_bo := own_bo.ext hk
 replace own_bm := own_bm.ext hk
 replace own_b8_11 := own_b8_11.ext hk
 replace kw := kw.x hk
 clear hR hk hg hP
 refine zn (hK21 _ _ ?_)
 refine zq fun K23 hK23 => ?_
 refine zq fun K24 hK24 => ?_
 refine rg mixed y22 zz22 ?_
 refine .mb rfl e11 ?_
 refine .i (sp_neq (hlc rfl) Has.cst) ?_
 refine .dn fun a25 g W25 y25 zz25 hk hg hV hR hP => ?_
 obtain ⟨e37, -, -⟩ := hV
 replace e0 := ft hR e0
 replace e1 := ft hR e1
 replace e7 := ft hR e7
 replace e10 := ft hR e10
 replace e11 := ft hR e11
 replace D_cn := D_cn.ext hk
 replace D_ci := D_ci.ext hk
 replace e37 := e37.q
 replace own_bo := own_bo.ext hk
 replace own_bm := own_bm.ext hk
 replace own_b8_11 := own_b8_11.ext hk
 replace kw := kw.x hk
 clear hR hk hg hP
 refine zn (hK24 _ _ ?_)
 refine zc e37 (fun hc => ?_) (fun hc => ?_)
 ·
  have hce : ce (getV x name) ≠ 0 := by simpa using hc
  have h1 : tkE x e name ce = failK x.k e (ce (getV x name)) := by rw [tkE, if_neg (by simp [hE]), if_neg (by simp [hg1]), failK, if_pos hE]
  have h2 : tkB x e name ce = false := by simp [tkB, hce]
  have h3 : tkA x A e name ce = A := by rw [tkA, h2]; rfl
  refine zq fun K26 hK26 => ?_
  refine wp_reg (fun k => k ∉ [bo]) (Ψ := fun W => Own W bo [(.int .u8 (x.k)), (.int .i64 (x.n)), (.string (x.t)), (.slice cna (x.ns.length) cnc), (.slice cia (x.xs.length) cic), (.map (some bm)), (.int .i64 (e))] 74) mixed y25 zz25 stE_own own_bo ?_
  refine .mb rfl e0 ?_
  refine .mb rfl e11 ?_
  refine .callL2 (φ1 := Is (.pointer (some ⟨bo, 0, none⟩))) (φ2 := Is (.int .i64 (ce (getV x name)))) (φ := Is (.tuple #[])) (Ψ' := fun W => Own W bo [(.int .u8 (x.k)), (.int .i64 (x.n)), (.string (x.t)), (.slice cna (x.ns.length) cnc), (.slice cia (x.xs.length) cic), (.map (some bm)), (.int .i64 (failK x.k e (ce (getV x name))))] 74) ent38 (hlc rfl) (hlc rfl) (st_is _) stE_own (fun g u1 u2 W hk hg h1 h2 hP => by have h1 : u1 = _ := h1; subst u1; have h2 : u2 = _ := h2; subst u2; exact (Fail_ok _ _ _ _ _ _ _ (ce (getV x name)) W _ hP)) ?_
  refine .dn fun a27 g W27 y27 zz27 hk hg hV hR hP => ?_
  obtain ⟨-, -, -, -⟩ := hV
  replace e7 := ft hR e7
  replace D_cn := sa_keepL D_cn hk (by simp)
  replace D_ci := sa_keepL D_ci hk (by simp)
  replace own_bm := ownM_keepL own_bm hk (by simp [hne.symm])
  replace own_b8_11 := own_keepL own_b8_11 hk (by simp [ne_bo_b8_11.symm])
  have own_bo := hP
  replace own_bo : Own W27 bo [(.int .u8 (x.k)), (.int .i64 (x.n)), (.string (x.t)), (.slice cna (x.ns.length) cnc), (.slice cia (x.xs.length) cic), (.map (some bm)), (.int .i64 (failK x.k e (ce (getV x name))))] 74 := own_bo
  replace kw := keeps_L kw hk (in_cons (.inr (by simp)) in_nil)
  clear hR hk hg hP
  refine zn (hK26 _ _ ?_)
  refine zq fun K28 hK28 => ?_
  refine rg mixed y27 zz27 ?_
  refine .mb rfl e7 ?_
  refine .al rfl ?_
  refine .dn fun a29 g W29 y29 zz29 hk hg hV hR hP => ?_
  obtain ⟨e6, -, -⟩ := hV
  replace D_cn := D_cn.ext hk
  replace D_ci := D_ci.ext hk
  replace e6 := e6.q
  replace own_bo := own_bo.ext hk
  replace own_bm := own_bm.ext hk
  replace own_b8_11 := own_b8_11.ext hk
  replace kw := kw.x hk
  clear hR hk hg hP
  refine zn (hK28 _ _ ?_)
  refine wp_ret ?_
  refine ret1 rfl zz29 e6 ⟨_, rfl, kw, ?_⟩
  rw [h1, h3, h2]
  exact ⟨rfl, own_bo, own_bm⟩
 have hce : ce (getV x name) = 0 := by simpa using hc
 have h1 : tkE x e name ce = e := by rw [tkE, if_neg (by simp [hE]), if_neg (by simp [hg1]), hce, he0]
 have h2 : tkB x e name ce = true := by simp [tkB, hE, hg1, hce]
 have h3 : tkA x A e name ce = mset A name (mget A name + 1) := by rw [tkA, h2]; rfl
 refine wp_skip (hK23 _ _ ?_)
 refine zq fun K30 hK30 => ?_
 refine rg mixed y25 zz25 ?_
 refine .mb rfl e0 ?_
 refine .i (sp_nilP (hlc rfl)) ?_
 refine .i (fo 5 (hlc rfl) Tryz.underlying74 rfl sz72 rfl) ?_
 refine .i (lo1 (hlc rfl) own_bo trivial agg72 sz72 rfl) ?_
 refine .mb rfl e1 ?_
 refine .i (sp_lookup Tryz.underlying72 Tryz.underlying9 z3 (hlc rfl) (hlc rfl) own_bm trivial) ?_
 refine .i (sp_add (hlc rfl) Has.cst (i64_in (by omega))) ?_
 refine .dn fun a31 g W31 y31 zz31 hk hg hV hR hP => ?_
 obtain ⟨e48, -, e46, e45, -, -, -, -⟩ := hV
 replace e10 := ft hR e10
 replace D_cn := D_cn.ext hk
 replace D_ci := D_ci.ext hk
 replace e45 := e45.q
 replace e46 := e46.q
 replace e48 := e48.q
 replace own_bo := own_bo.ext hk
 replace own_bm := own_bm.ext hk
 replace own_b8_11 := own_b8_11.ext hk
 replace kw := kw.x hk
 clear hR hk hg hP
 refine tail_updM Tryz.underlying72 Tryz.underlying9 e45 e46 e48 own_bm (fun W32 hs own_bm => ?_)
 have own_bm : OwnM W32 bm (mset A name ((mget A name : Int) + (1 : Int))) := own_bm
 replace own_bo := own_store own_bo hs hne
 replace own_b8_11 := own_store own_b8_11 hs ne_bm_b8_11.symm
 replace D_cn := sa_store D_cn hs (by simp)
 replace D_ci := sa_store D_ci hs (by simp)
 replace kw := keeps_storeN kw hs (by simp)
 clear hs
 refine zn (hK30 _ _ ?_)
 refine zq fun K33 hK33 => ?_
 refine rg mixed y31 zz31 ?_
 refine .mb rfl e10 ?_
 refine .al rfl ?_
 refine .dn fun a34 g W34 y34 zz34 hk hg hV hR hP => ?_
 obtain ⟨e6, -, -⟩ := hV
 replace D_cn := D_cn.ext hk
 replace D_ci := D_ci.ext hk
 replace e6 := e6.q
 replace own_bo := own_bo.ext hk
 replace own_bm := own_bm.ext hk
 replace own_b8_11 := own_b8_11.ext hk
 replace kw := kw.x hk
 clear hR hk hg hP
 refine zn (hK33 _ _ ?_)
 refine wp_ret ?_
 refine ret1 rfl zz34 e6 ⟨_, rfl, kw, ?_⟩
 rw [h1, h3, h2]
 exact ⟨rfl, own_bo, own_bm⟩
end Go.Proofs.YtnobijngkpflcaaGreat
namespace Go.Proofs.YtnobijngkpflcaaGreat
open Go.Eng
set_option maxRecDepth 100000 in
theorem Num_ok (x : V) (A : As) (e : Int) (hA : AB 1000000 A) (hx : x.wt ≤ 1073741824) (hxt : x.t.size ≤ maxLen) (name : ByteArray) (lo hi : Int) (w : World) (S : BSet) (cn ci : Value) (bo bm : Nat) (hS : ∀ b o, S b o → Cln o) (hM : ∀ b ∈ [bo, bm], ∀ o, ¬ S b o) (hne : bo ≠ bm) (hv : Rd w S (strsD x.ns) cn) (hu : Rd w S (valsD x.xs) ci) (own_bo : Own w bo [.int .u8 x.k, .int .i64 x.n, .string x.t, cn, ci, .map (some bm), .int .i64 (e)] 74) (own_bm : OwnM w bm A) : Calls Tryz.prog 36 #[.pointer (some ⟨bo, 0, none⟩), .string name, .int .i64 lo, .int .i64 hi] w (RetL w [bo, bm] fun u W => u = .int .i64 (if tkB x e name (numE lo hi) then numV lo hi (getV x name) else 0) ∧ Own W bo [.int .u8 x.k, .int .i64 x.n, .string x.t, cn, ci, .map (some bm), .int .i64 (tkE x e name (numE lo hi))] 74 ∧ OwnM W bm (tkA x A e name (numE lo hi))) := by
 obtain ⟨cna, cnc, ev, D_cn⟩ := rdS_out (rd_argM (M := [bo, bm]) hv hM)
 subst ev
 obtain ⟨cia, cic, ev, D_ci⟩ := rdVs_out (rd_argM (M := [bo, bm]) hu hM)
 subst ev
 refine enter Tryz.func36 rfl Tryz.ntmps36 (lbr rfl) fun a0 y0 zz0 harg => ?_
 have e0 : sl a0 0 = (.pointer (some ⟨bo, 0, none⟩)) := harg 0 (lbr rfl)
 have e1 : sl a0 1 = (.string (name)) := harg 1 (lbr rfl)
 have e2 : sl a0 2 = (.int .i64 (lo)) := harg 2 (lbr rfl)
 have e3 : sl a0 3 = (.int .i64 (hi)) := harg 3 (lbr rfl)
 have kw := Keeps.refl (fun k => k ∉ [bo, bm]) w
 clear harg
 refine zq fun K1 hK1 => ?_
 refine rg mixed y0 zz0 ?_
 refine .boxOp (v := (.int .i64 (lo))) (hbs rfl e2) ?_
 refine .boxOp (v := (.int .i64 (hi))) (hbs rfl e3) ?_
 refine .ac ?_
 refine .dn fun a2 g W2 y2 zz2 hk hg hV hR hP => ?_
 obtain ⟨-, ⟨b7_2, e7, hb7, own_b7_2⟩, ⟨b6_2, e6, hb6, own_b6_2⟩, -⟩ := hV
 have lo_b7_2 : w.heap.size ≤ b7_2 := Nat.le_trans kw.size (hg.lo _ _ hb7)
 have ne_bo_b7_2 : bo ≠ b7_2 := Nat.ne_of_lt (Nat.lt_of_lt_of_le own_bo.lt (hg.lo _ _ hb7))
 have ne_bm_b7_2 : bm ≠ b7_2 := Nat.ne_of_lt (Nat.lt_of_lt_of_le own_bm.lt (hg.lo _ _ hb7))
 have own_b7_2 : Own W2 b7_2 [(.int .i64 (hi))] 2 := own_b7_2
 have lo_b6_2 : w.heap.size ≤ b6_2 := Nat.le_trans kw.size (hg.lo _ _ hb6)
 have ne_bo_b6_2 : bo ≠ b6_2 := Nat.ne_of_lt (Nat.lt_of_lt_of_le own_bo.lt (hg.lo _ _ hb6))
 have ne_bm_b6_2 : bm ≠ b6_2 := Nat.ne_of_lt (Nat.lt_of_lt_of_le own_bm.lt (hg.lo _ _ hb6))
 have own_b6_2 : Own W2 b6_2 [(.int .i64 (lo))] 2 := own_b6_2
 have ne_b7_2_b6_2 : b7_2 ≠ b6_2 := fun h => by have := hg.inj _ _ _ hb7 (h ▸ hb6); cases this
 replace e0 := ft hR e0
 replace e1 := ft hR e1
 replace D_cn := sa_more D_cn hk [b7_2, b6_2] (in_cons (hg.lo _ _ hb7) (in_cons (hg.lo _ _ hb6) in_nil))
 replace D_ci := sa_more D_ci hk [b7_2, b6_2] (in_cons (hg.lo _ _ hb7) (in_cons (hg.lo _ _ hb6) in_nil))
 replace own_bo := own_bo.ext hk
 replace own_bm := own_bm.ext hk
 replace kw := kw.x hk
 clear hR hk hg hP hb7 hb6
 refine zn (hK1 _ _ ?_)
 refine zq fun K3 hK3 => ?_
 refine wp_reg (fun k => k ∉ [bo, bm]) (Ψ := fun W => Own W bo [(.int .u8 (x.k)), (.int .i64 (x.n)), (.string (x.t)), (.slice cna (x.ns.length) cnc), (.slice cia (x.xs.length) cic), (.map (some bm)), (.int .i64 (e))] 74 ∧ OwnM W bm (A)) mixed y2 zz2 (stE_and stE_own stE_ownM) ⟨own_bo, own_bm⟩ ?_
 refine .mb rfl e0 ?_
 refine .mb rfl e1 ?_
 refine .i (v := (.func (.func 58) #[] #[(.pointer (some ⟨b6_2, 0, none⟩)), (.pointer (some ⟨b7_2, 0, none⟩))])) (sp_mkF2 (hbs rfl e6) (hbs rfl e7)) ?_
 refine .callL3 (φ1 := Is (.pointer (some ⟨bo, 0, none⟩))) (φ2 := Is (.string (name))) (φ3 := Is (.func (.func 58) #[] #[(.pointer (some ⟨b6_2, 0, none⟩)), (.pointer (some ⟨b7_2, 0, none⟩))])) (φ := Is (.int .i64 (if tkB x e name (numE lo hi) then numV lo hi (getV x name) else 0))) (Ψ' := fun W => Own W bo [(.int .u8 (x.k)), (.int .i64 (x.n)), (.string (x.t)), (.slice cna (x.ns.length) cnc), (.slice cia (x.xs.length) cic), (.map (some bm)), (.int .i64 (tkE x e name (numE lo hi)))] 74 ∧ OwnM W bm (tkA x A e name (numE lo hi))) ent57 (hlc rfl) (hlc rfl) (hlc rfl) (st_is _) (stE_and stE_own stE_ownM) (fun g u1 u2 u3 W hk hg h1 h2 h3 hP => by have h1 : u1 = _ := h1; subst u1; have h2 : u2 = _ := h2; subst u2; have h3 : u3 = _ := h3; subst u3; exact (takeI_ok (x) (A) (e) hA hx hxt name 58 #[(.pointer (some ⟨b6_2, 0, none⟩)), (.pointer (some ⟨b7_2, 0, none⟩))] (numE lo hi) (numV lo hi) W _ _ _ _ _ (sa_cln hS) (sa_notin (by simp)) hne (sa_keepL D_cn hk (by simp)) (sa_keepL D_ci hk (by simp)) hP.1 hP.2 ent58 (fun W2 hk2 y v hy hv2 => num1_ok y lo hi W2 _ v b6_2 b7_2 hv2 (own_keepL (own_keepL own_b6_2 hk (by simp [ne_bo_b6_2.symm, ne_bm_b6_2.symm])) hk2 (by simp [ne_bo_b6_2.symm, ne_bm_b6_2.symm])) (own_keepL (own_keepL own_b7_2 hk (by simp [ne_bo_b7_2.symm, ne_bm_b7_2.symm])) hk2 (by simp [ne_bo_b7_2.symm, ne_bm_b7_2.symm]))))) ?_
 refine .al rfl ?_
 refine .dn fun a4 g W4 y4 zz4 hk hg hV hR hP => ?_
 obtain ⟨e8, -, -, -, -, -⟩ := hV
 replace e8 := e8.q
 replace D_cn := sa_keepL D_cn hk (by simp)
 replace D_ci := sa_keepL D_ci hk (by simp)
 replace own_b7_2 := own_keepL own_b7_2 hk (by simp [ne_bo_b7_2.symm, ne_bm_b7_2.symm])
 replace own_b6_2 := own_keepL own_b6_2 hk (by simp [ne_bo_b6_2.symm, ne_bm_b6_2.symm])
 obtain ⟨own_bo, own_bm⟩ := hP
 replace own_bo : Own W4 bo [(.int .u8 (x.k)), (.int .i64 (x.n)), (.string (x.t)), (.slice cna (x.ns.length) cnc), (.slice cia (x.xs.length) cic), (.map (some bm)), (.int .i64 (tkE x e name (numE lo hi)))] 74 := own_bo
 replace own_bm : OwnM W4 bm (tkA x A e name (numE lo hi)) := own_bm
 replace kw := keeps_L kw hk (in_cons (.inr (by simp)) (in_cons (.inr (by simp)) in_nil))
 clear hR hk hg
 refine zn (hK3 _ _ ?_)
 refine wp_ret ?_
 refine ret1 rfl zz4 e8 ⟨_, rfl, kw, ?_⟩
 exact ⟨rfl, own_bo, own_bm⟩
set_option maxRecDepth 100000 in
theorem Done_ok (x : V) (A : As) (e : Int) (w : World) (S : BSet) (cn ci : Value) (bo bm : Nat) (hv : Rd w S (strsD x.ns) cn) (own_bo : Own w bo [.int .u8 x.k, .int .i64 x.n, .string x.t, cn, ci, .map (some bm), .int .i64 (e)] 74) (own_bm : OwnM w bm A) : Calls Tryz.prog 41 #[.pointer (some ⟨bo, 0, none⟩)] w (Ret w fun u _ => u = .int .i64 (doneE x A e)) := by
 have hmn := rd_lenS hv
 simp only [maxLen] at hmn
 obtain ⟨cna, cnc, ev, D_cn⟩ := rdS_out (rd_arg hv)
 subst ev
 refine enter Tryz.func41 rfl Tryz.ntmps41 (lbr rfl) fun a0 y0 zz0 harg => ?_
 have e0 : sl a0 0 = (.pointer (some ⟨bo, 0, none⟩)) := harg 0 (lbr rfl)
 have kw := Keeps.refl All w
 clear harg
 refine zq fun K1 hK1 => ?_
 refine rg mixed y0 zz0 ?_
 refine .ac ?_
 refine .dn fun a2 g W2 y2 zz2 hk hg hV hR hP => ?_
 obtain ⟨-, -⟩ := hV
 replace e0 := ft hR e0
 replace D_cn := D_cn.ext hk
 replace own_bo := own_bo.ext hk
 replace own_bm := own_bm.ext hk
 replace kw := kw.x hk
 clear hR hk hg hP
 refine zn (hK1 _ _ ?_)
 refine zq fun K3 hK3 => ?_
 refine zq fun K4 hK4 => ?_
 refine rg mixed y2 zz2 ?_
 refine .mb rfl e0 ?_
 refine .i (v := (.int .i64 (errK x.k e))) (sp_call1 (φ1 := Is (.pointer (some ⟨bo, 0, none⟩))) ent61 (hlc rfl) (fun g u1 W hk hgk h1 => by have h1 : u1 = _ := h1; subst u1; exact Err_ok _ _ _ _ _ _ _ W _ (own_bo.ext hk))) ?_
 refine .al rfl ?_
 refine .dn fun a5 g W5 y5 zz5 hk hg hV hR hP => ?_
 obtain ⟨e3, -, -, -⟩ := hV
 replace e0 := ft hR e0
 replace D_cn := D_cn.ext hk
 replace e3 := e3.q
 replace own_bo := own_bo.ext hk
 replace own_bm := own_bm.ext hk
 replace kw := kw.x hk
 clear hR hk hg hP
 refine zn (hK4 _ _ ?_)
 refine zq fun K6 hK6 => ?_
 refine rg mixed y5 zz5 ?_
 refine .mb rfl e3 ?_
 refine .i (sp_neq (hlc rfl) Has.cst) ?_
 refine .dn fun a7 g W7 y7 zz7 hk hg hV hR hP => ?_
 obtain ⟨e9, -, -⟩ := hV
 replace e0 := ft hR e0
 replace e3 := ft hR e3
 replace D_cn := D_cn.ext hk
 replace e9 := e9.q
 replace own_bo := own_bo.ext hk
 replace own_bm := own_bm.ext hk
 replace kw := kw.x hk
 clear hR hk hg hP
 refine zn (hK6 _ _ ?_)
 refine zc e9 (fun hc => ?_) (fun hc => ?_)
 ·
  have hE : errK x.k e ≠ 0 := by simpa using hc
  have hf : doneE x A e = errK x.k e := by rw [doneE, if_pos hE]
  refine zq fun K8 hK8 => ?_
  refine rg mixed y7 zz7 ?_
  refine .mb rfl e3 ?_
  refine .al rfl ?_
  refine .dn fun a9 g W9 y9 zz9 hk hg hV hR hP => ?_
  obtain ⟨e2, -, -⟩ := hV
  replace D_cn := D_cn.ext hk
  replace e2 := e2.q
  replace own_bo := own_bo.ext hk
  replace own_bm := own_bm.ext hk
  replace kw := kw.x hk
  clear hR hk hg hP
  refine zn (hK8 _ _ ?_)
  refine wp_ret ?_
  refine ret1 rfl zz9 e2 ⟨_, rfl, kw, ?_⟩
  rw [hf]
 have hE : errK x.k e = 0 := by simpa using hc
 refine wp_skip (hK3 _ _ ?_)
 refine zq fun K10 hK10 => ?_
 refine zq fun K11 hK11 => ?_
 refine rg mixed y7 zz7 ?_
 refine .mb rfl e0 ?_
 refine .i (sp_nilP (hlc rfl)) ?_
 refine .i (fo 0 (hlc rfl) Tryz.underlying74 rfl sz26 rfl) ?_
 refine .i (fo 3 (hlc rfl) Tryz.underlying26 rfl sz23 rfl) ?_
 refine .i (lo1 (hlc rfl) own_bo trivial agg23 sz23 rfl) ?_
 refine .i (sp_lenSs Tryz.underlying23 ((hlc rfl).dat D_cn sub_all)) ?_
 refine .i (sp_move Has.cst) ?_
 refine .dn fun a12 g W12 y12 zz12 hk hg hV hR hP => ?_
 obtain ⟨e17, e16, e15, -, -, -, -, -⟩ := hV
 replace e0 := ft hR e0
 replace D_cn := D_cn.ext hk
 replace e15 := e15.q
 replace e16 := e16.q
 replace e17 := e17.q
 replace own_bo := own_bo.ext hk
 replace own_bm := own_bm.ext hk
 replace kw := kw.x hk
 clear hR hk hg hP
 refine zn (hK11 _ _ ?_)
 refine wp_block ?_
 refine wp_for (x.ns.length) (fun k a W => a.tmps.size = 29 ∧ a.defers = [] ∧ Keeps All w W ∧ sl a 0 = (.pointer (some ⟨bo, 0, none⟩)) ∧ sl a 15 = (.slice cna (x.ns.length) cnc) ∧ sl a 16 = (.int .i64 (x.ns.length)) ∧ sl a 17 = (.int .i64 ((k : Nat))) ∧ Own W bo [(.int .u8 (x.k)), (.int .i64 (x.n)), (.string (x.t)), (.slice cna (x.ns.length) cnc), ci, (.map (some bm)), (.int .i64 (e))] 74 ∧ OwnM W bm (A) ∧ Rd W (SA w S []) (strsD (x.ns)) (.slice cna (x.ns.length) cnc) ∧ (∀ i (h : i < x.ns.length), i < k → mget A x.ns[i] ≠ 0)) ⟨y12, zz12, kw, e0, e15, e16, (e17.trans (congrArg (Value.int .i64) (rfl))), own_bo, own_bm, D_cn, fun i h hi => absurd hi (by omega)⟩ ?_
 clear kw e0 e15 e16 e17 own_bo own_bm D_cn
 rintro k a13 W13 hkk ⟨y13, zz13, kw, e0, e15, e16, e17, own_bo, own_bm, D_cn, hinv⟩
 refine zq fun K14 hK14 => ?_
 refine rg mixed y13 zz13 ?_
 refine .i (sp_lss (hbs rfl e17) (hbs rfl e16)) ?_
 refine .dn fun a15 g W15 y15 zz15 hk hg hV hR hP => ?_
 obtain ⟨e18, -⟩ := hV
 replace e0 := ft hR e0
 replace e15 := ft hR e15
 replace e16 := ft hR e16
 replace e17 := ft hR e17
 replace D_cn := D_cn.ext hk
 replace e18 := e18.q
 replace own_bo := own_bo.ext hk
 replace own_bm := own_bm.ext hk
 replace kw := kw.x hk
 clear hR hk hg hP
 refine zn (hK14 _ _ ?_)
 refine zq fun K16 hK16 => ?_
 refine zc e18 (fun hc => ?_) (fun hc => ?_)
 ·
  have hlt : k < x.ns.length := by simpa using hc
  refine wp_skip (hK16 _ _ ?_)
  refine zq fun K17 hK17 => ?_
  refine wp_block ?_
  refine zq fun K18 hK18 => ?_
  refine rg mixed y15 zz15 ?_
  refine .rf (sp_indexS (i := k) ((hbs rfl e15).dat D_cn sub_all) (hbs rfl e17) Tryz.underlying23 sz9 rfl hlt) ?_
  refine .i (sp_loadStr (hlc rfl) agg9 sz9) ?_
  refine .al rfl ?_
  refine .dn fun a19 g W19 y19 zz19 hk hg hV hR hP => ?_
  obtain ⟨e5, -, -, -⟩ := hV
  replace e0 := ft hR e0
  replace e15 := ft hR e15
  replace e16 := ft hR e16
  replace e17 := ft hR e17
  replace D_cn := D_cn.ext hk
  replace e5 := e5.q
  replace own_bo := own_bo.ext hk
  replace own_bm := own_bm.ext hk
  replace kw := kw.x hk
  clear hR hk hg hP
  refine zn (hK18 _ _ ?_)
  refine zq fun K20 hK20 => ?_
  refine rg mixed y19 zz19 ?_
  refine .mb rfl e0 ?_
  refine .i (sp_nilP (hlc rfl)) ?_
  refine .i (fo 5 (hlc rfl) Tryz.underlying74 rfl sz72 rfl) ?_
  refine .i (lo1 (hlc rfl) own_bo trivial agg72 sz72 rfl) ?_
  refine .mb rfl e5 ?_
  refine .i (sp_lookup Tryz.underlying72 Tryz.underlying9 z3 (hlc rfl) (hlc rfl) own_bm trivial) ?_
  refine .i (sp_eql (hlc rfl) Has.cst) ?_
  refine .dn fun a21 g W21 y21 zz21 hk hg hV hR hP => ?_
  obtain ⟨e27, -, -, -, -, -, -, -⟩ := hV
  replace e0 := ft hR e0
  replace e15 := ft hR e15
  replace e16 := ft hR e16
  replace e17 := ft hR e17
  replace D_cn := D_cn.ext hk
  replace e27 := e27.q
  replace own_bo := own_bo.ext hk
  replace own_bm := own_bm.ext hk
  replace kw := kw.x hk
  clear hR hk hg hP
  refine zn (hK20 _ _ ?_)
  refine zc e27 (fun hc => ?_) (fun hc => ?_)
  ·
   have h0 : mget A x.ns[k] = 0 := by simpa using hc
   have hf : doneE x A e = 11 := by rw [doneE, if_neg (by simp [hE]), done_false hlt h0]; rfl
   refine zq fun K22 hK22 => ?_
   refine rg mixed y21 zz21 ?_
   refine .ac ?_
   refine .dn fun a23 g W23 y23 zz23 hk hg hV hR hP => ?_
   obtain ⟨e2, -⟩ := hV
   replace D_cn := D_cn.ext hk
   replace e2 := e2.q
   replace own_bo := own_bo.ext hk
   replace own_bm := own_bm.ext hk
   replace kw := kw.x hk
   clear hR hk hg hP
   refine zn (hK22 _ _ ?_)
   refine wp_ret ?_
   refine ret1 rfl zz23 e2 ⟨_, rfl, kw, ?_⟩
   rw [hf]
  have h0 : mget A x.ns[k] ≠ 0 := by simpa using hc
  refine wp_skip (hK17 _ _ ?_)
  refine rg mixed y21 zz21 ?_
  refine .i (sp_add (hbs rfl e17) Has.cst (i64_in (by omega))) ?_
  refine .i (sp_move (hlc rfl)) ?_
  refine .dn fun a24 g W24 y24 zz24 hk hg hV hR hP => ?_
  obtain ⟨e17, -, -⟩ := hV
  replace e0 := ft hR e0
  replace e15 := ft hR e15
  replace e16 := ft hR e16
  replace D_cn := D_cn.ext hk
  replace e17 := e17.q
  replace own_bo := own_bo.ext hk
  replace own_bm := own_bm.ext hk
  replace kw := kw.x hk
  clear hR hk hg hP
  exact tail_nil ⟨hlt, y24, zz24, kw, e0, e15, e16, (e17.trans (congrArg (Value.int .i64) (by simp))), own_bo, own_bm, D_cn, fun i h hi => by rcases Nat.lt_succ_iff_lt_or_eq.1 hi with h1 | h1; exact hinv i h h1; subst h1; exact h0⟩
 have hge0 : ¬ k < x.ns.length := by simpa using hc
 have hge : k = x.ns.length := by omega
 have hf : doneE x A e = 0 := by rw [doneE, if_neg (by simp [hE]), if_pos (done_true fun i hi => hinv i hi (by omega))]
 refine wp_exit (hK10 _ _ ?_)
 refine zq fun K25 hK25 => ?_
 refine rg mixed y15 zz15 ?_
 refine .ac ?_
 refine .dn fun a26 g W26 y26 zz26 hk hg hV hR hP => ?_
 obtain ⟨e2, -⟩ := hV
 replace D_cn := D_cn.ext hk
 replace e2 := e2.q
 replace own_bo := own_bo.ext hk
 replace own_bm := own_bm.ext hk
 replace kw := kw.x hk
 clear hR hk hg hP
 refine zn (hK25 _ _ ?_)
 refine wp_ret ?_
 refine ret1 rfl zz26 e2 ⟨_, rfl, kw, ?_⟩
 rw [hf]
end Go.Proofs.YtnobijngkpflcaaGreat
namespace Go.Proofs.YtnobijngkpflcaaGreat
open Go.Eng
set_option maxRecDepth 100000 in
theorem Of_ok (x : V) (hx : x.wt ≤ 1073741824) (hof : ofE x = 0) (w : World) (S : BSet) (v : Value) (hS : ∀ b o, S b o → Cln o) (hv : Rd w S x.d v) : Calls Tryz.prog 35 #[v] w (Ret w fun u W => PkAt w W 74 x [] 0 u) := by
 have hwx := wt_eq x
 have hwl := wts_len x.xs
 have hwn := wtN_len x.ns
 have hk5 : x.k = 5 ∧ x.ns.length = x.xs.length ∧ asc x.ns = true := by
   unfold ofE at hof
   split at hof
   · cases hof
   · split at hof
     · cases hof
     · rename_i h1 h2
       have h3 : asc x.ns = true := by cases hq : asc x.ns with | true => rfl | false => exact absurd (.inr hq) h2
       exact ⟨by omega, by omega, h3⟩
 obtain ⟨cn0a, cn0c, ci0a, ci0c, ev, ht0, D_cn0, D_ci0⟩ := rdV_out (rd_arg hv)
 subst ev
 refine enter Tryz.func35 rfl Tryz.ntmps35 (lbr rfl) fun a0 y0 zz0 harg => ?_
 have e0 : sl a0 0 = (.agg #[(.int .u8 (x.k)), (.int .i64 (x.n)), (.string (x.t)), (.slice cn0a (x.ns.length) cn0c), (.slice ci0a (x.xs.length) ci0c)]) := harg 0 (lbr rfl)
 have kw := Keeps.refl All w
 clear harg
 refine zq fun K1 hK1 => ?_
 refine rg mixed y0 zz0 ?_
 refine .boxOp (v := (.agg #[(.int .u8 (x.k)), (.int .i64 (x.n)), (.string (x.t)), (.slice cn0a (x.ns.length) cn0c), (.slice ci0a (x.xs.length) ci0c)])) (hbs rfl e0) ?_
 refine .ac ?_
 refine .dn fun a2 g W2 y2 zz2 hk hg hV hR hP => ?_
 obtain ⟨-, ⟨b1_2, e1, hb1, own_b1_2⟩, -⟩ := hV
 have lo_b1_2 : w.heap.size ≤ b1_2 := Nat.le_trans kw.size (hg.lo _ _ hb1)
 have own_b1_2 : Own W2 b1_2 [(.int .u8 (x.k)), (.int .i64 (x.n)), (.string (x.t)), (.slice cn0a (x.ns.length) cn0c), (.slice ci0a (x.xs.length) ci0c)] 26 := own_b1_2
 replace D_cn0 := sa_more D_cn0 hk [b1_2] (in_cons (hg.lo _ _ hb1) in_nil)
 replace D_ci0 := sa_more D_ci0 hk [b1_2] (in_cons (hg.lo _ _ hb1) in_nil)
 replace kw := kw.x hk
 clear hR hk hg hP hb1
 refine zn (hK1 _ _ ?_)
 refine zq fun K3 hK3 => ?_
 refine zq fun K4 hK4 => ?_
 refine rg mixed y2 zz2 ?_
 refine .i (fo 0 (hbs rfl e1) Tryz.underlying26 rfl sz5 rfl) ?_
 refine .i (lo1 (hlc rfl) own_b1_2 trivial agg5 sz5 rfl) ?_
 refine .i (sp_neq (hlc rfl) Has.cst) ?_
 refine .dn fun a5 g W5 y5 zz5 hk hg hV hR hP => ?_
 obtain ⟨e6, -, -, -⟩ := hV
 replace e1 := ft hR e1
 replace D_cn0 := D_cn0.ext hk
 replace D_ci0 := D_ci0.ext hk
 replace e6 := e6.q
 replace own_b1_2 := own_b1_2.ext hk
 replace kw := kw.x hk
 clear hR hk hg hP
 refine zn (hK4 _ _ ?_)
 refine zc e6 (fun hc => ?_) (fun hc => ?_)
 ·
  exfalso
  simp [hk5.1] at hc
 refine wp_skip (hK3 _ _ ?_)
 refine zq fun K6 hK6 => ?_
 refine zq fun K7 hK7 => ?_
 refine rg mixed y5 zz5 ?_
 refine .i (fo 3 (hbs rfl e1) Tryz.underlying26 rfl sz23 rfl) ?_
 refine .i (lo1 (hlc rfl) own_b1_2 trivial agg23 sz23 rfl) ?_
 refine .i (sp_lenSs Tryz.underlying23 ((hlc rfl).dat D_cn0 sub_all)) ?_
 refine .i (fo 4 (hbs rfl e1) Tryz.underlying26 rfl sz24 rfl) ?_
 refine .i (lo1 (hlc rfl) own_b1_2 trivial agg24 sz24 rfl) ?_
 refine .i (sp_lenVs Tryz.underlying24 ((hlc rfl).dat D_ci0 sub_all)) ?_
 refine .i (sp_neq (hlc rfl) (hlc rfl)) ?_
 refine .dn fun a8 g W8 y8 zz8 hk hg hV hR hP => ?_
 obtain ⟨e15, -, -, -, -, -, -, -⟩ := hV
 replace e1 := ft hR e1
 replace D_cn0 := D_cn0.ext hk
 replace D_ci0 := D_ci0.ext hk
 replace e15 := e15.q
 replace own_b1_2 := own_b1_2.ext hk
 replace kw := kw.x hk
 clear hR hk hg hP
 refine zn (hK7 _ _ ?_)
 refine zc e15 (fun hc => ?_) (fun hc => ?_)
 ·
  exfalso
  simp [hk5.2.1] at hc
 refine wp_skip (hK6 _ _ ?_)
 refine zq fun K9 hK9 => ?_
 refine zq fun K10 hK10 => ?_
 refine rg mixed y8 zz8 ?_
 refine .ac ?_
 refine .dn fun a11 g W11 y11 zz11 hk hg hV hR hP => ?_
 obtain ⟨e3, -⟩ := hV
 replace e1 := ft hR e1
 replace D_cn0 := D_cn0.ext hk
 replace D_ci0 := D_ci0.ext hk
 replace e3 := e3.q
 replace own_b1_2 := own_b1_2.ext hk
 replace kw := kw.x hk
 clear hR hk hg hP
 refine zn (hK10 _ _ ?_)
 refine wp_block ?_
 refine wp_for (x.ns.length) (fun k a W => a.tmps.size = 44 ∧ a.defers = [] ∧ Keeps All w W ∧ sl a 1 = (.pointer (some ⟨b1_2, 0, none⟩)) ∧ sl a 3 = (.int .i64 (((k + 1 : Nat) : Int))) ∧ Own W b1_2 [(.int .u8 (x.k)), (.int .i64 (x.n)), (.string (x.t)), (.slice cn0a (x.ns.length) cn0c), (.slice ci0a (x.xs.length) ci0c)] 26 ∧ Rd W (SA w S [b1_2]) (strsD (x.ns)) (.slice cn0a (x.ns.length) cn0c) ∧ Rd W (SA w S [b1_2]) (valsD (x.xs)) (.slice ci0a (x.xs.length) ci0c)) ⟨y11, zz11, kw, e1, (e3.trans (congrArg (Value.int .i64) (rfl))), own_b1_2, D_cn0, D_ci0⟩ ?_
 clear kw e1 e3 own_b1_2 D_cn0 D_ci0
 rintro k a12 W12 hkk ⟨y12, zz12, kw, e1, e3, own_b1_2, D_cn0, D_ci0⟩
 refine zq fun K13 hK13 => ?_
 refine zq fun K14 hK14 => ?_
 refine rg mixed y12 zz12 ?_
 refine .mb rfl e3 ?_
 refine .i (fo 3 (hbs rfl e1) Tryz.underlying26 rfl sz23 rfl) ?_
 refine .i (lo1 (hlc rfl) own_b1_2 trivial agg23 sz23 rfl) ?_
 refine .i (sp_lenSs Tryz.underlying23 ((hlc rfl).dat D_cn0 sub_all)) ?_
 refine .i (sp_lss (hlc rfl) (hlc rfl)) ?_
 refine .dn fun a15 g W15 y15 zz15 hk hg hV hR hP => ?_
 obtain ⟨e22, -, -, -, -, -⟩ := hV
 replace e1 := ft hR e1
 replace e3 := ft hR e3
 replace D_cn0 := D_cn0.ext hk
 replace D_ci0 := D_ci0.ext hk
 replace e22 := e22.q
 replace own_b1_2 := own_b1_2.ext hk
 replace kw := kw.x hk
 clear hR hk hg hP
 refine zn (hK14 _ _ ?_)
 refine zc e22 (fun hc => ?_) (fun hc => ?_)
 ·
  have hlt : k + 1 < x.ns.length := by have := of_decide_eq_true hc; omega
  refine wp_skip (hK13 _ _ ?_)
  refine zq fun K16 hK16 => ?_
  refine wp_block ?_
  refine zq fun K17 hK17 => ?_
  refine rg mixed y15 zz15 ?_
  refine .i (fo 3 (hbs rfl e1) Tryz.underlying26 rfl sz23 rfl) ?_
  refine .i (lo1 (hlc rfl) own_b1_2 trivial agg23 sz23 rfl) ?_
  refine .mb rfl e3 ?_
  refine .i (sp_sub (hlc rfl) Has.cst (i64_in (by omega))) ?_
  refine .rf (sp_indexS (i := k) ((hlc rfl).dat D_cn0 sub_all) (hlc rfl) Tryz.underlying23 sz9 (by omega) (by omega)) ?_
  refine .i (sp_loadStr (hlc rfl) agg9 sz9) ?_
  refine .i (fo 3 (hbs rfl e1) Tryz.underlying26 rfl sz23 rfl) ?_
  refine .i (lo1 (hlc rfl) own_b1_2 trivial agg23 sz23 rfl) ?_
  refine .mb rfl e3 ?_
  refine .rf (sp_indexS (i := (k + 1)) ((hlc rfl).dat D_cn0 sub_all) (hlc rfl) Tryz.underlying23 sz9 rfl hlt) ?_
  refine .i (sp_loadStr (hlc rfl) agg9 sz9) ?_
  refine .i (sp_sGeq (hlc rfl) (hlc rfl)) ?_
  refine .dn fun a18 g W18 y18 zz18 hk hg hV hR hP => ?_
  obtain ⟨e36, -, -, -, -, -, -, -, -, -, -, -, -⟩ := hV
  replace e1 := ft hR e1
  replace e3 := ft hR e3
  replace D_cn0 := D_cn0.ext hk
  replace D_ci0 := D_ci0.ext hk
  replace e36 := e36.q
  replace own_b1_2 := own_b1_2.ext hk
  replace kw := kw.x hk
  clear hR hk hg hP
  refine zn (hK17 _ _ ?_)
  refine zc e36 (fun hc => ?_) (fun hc => ?_)
  ·
   exfalso
   have h1 := (asc_iff x.ns).1 hk5.2.2 k hlt
   simp [h1] at hc
  refine wp_skip (hK16 _ _ ?_)
  refine rg mixed y18 zz18 ?_
  refine .mb rfl e3 ?_
  refine .i (sp_add (hlc rfl) Has.cst (i64_in (by omega))) ?_
  refine .al rfl ?_
  refine .dn fun a19 g W19 y19 zz19 hk hg hV hR hP => ?_
  obtain ⟨e3, -, -, -⟩ := hV
  replace e1 := ft hR e1
  replace D_cn0 := D_cn0.ext hk
  replace D_ci0 := D_ci0.ext hk
  replace e3 := e3.q
  replace own_b1_2 := own_b1_2.ext hk
  replace kw := kw.x hk
  clear hR hk hg hP
  exact tail_nil ⟨by omega, y19, zz19, kw, e1, (e3.trans (congrArg (Value.int .i64) (by omega))), own_b1_2, D_cn0, D_ci0⟩
 refine wp_exit (hK9 _ _ ?_)
 refine zq fun K20 hK20 => ?_
 refine rg mixed y15 zz15 ?_
 refine .i (v := (.agg #[(.int .u8 (x.k)), (.int .i64 (x.n)), (.string (x.t)), (.slice cn0a (x.ns.length) cn0c), (.slice ci0a (x.xs.length) ci0c)])) (loA (hbs rfl e1) own_b1_2 trivial agg26 sz26 rfl rfl) ?_
 refine .da (X := Fr W15) (e := V.d (x)) (sp_call1 (φ1 := IsD (SA w S [b1_2]) (V.d (x))) ent56 ((hlc rfl).dat (rdV_in (x := x) ht0 D_cn0 D_ci0 : Rd W15 (SA w S [b1_2]) (V.d (x)) _) sub_all) (fun g u1 W hk hgk h1 => (Copy_ok (x) (by first | omega | exact Nat.le_of_ble_eq_true (by kernel_rfl)) W _ _ (fun b o h => sa_cln hS b o h.1) h1).mono (ret_fr hk hgk))) ?_
 refine .dn fun a21 g W21 y21 zz21 hk hg hV hR hP => ?_
 obtain ⟨e40, -, -⟩ := hV
 replace D_cn0 := D_cn0.ext hk
 replace D_ci0 := D_ci0.ext hk
 obtain ⟨v40_21, ev⟩ : ∃ v, sl a21 40 = v := ⟨_, rfl⟩
 rw [ev] at e40
 have D_v40_21 : Rd W21 (SF w [b1_2]) (V.d (x)) v40_21 := fr_end (M := [b1_2]) e40 kw [] in_nil (in_cons own_b1_2.lt in_nil)
 replace e40 := ev; clear ev
 obtain ⟨cn40_21a, cn40_21c, ci40_21a, ci40_21c, ev, ht_v40_21, D_cn40_21, D_ci40_21⟩ := rdV_out D_v40_21
 subst ev; clear D_v40_21
 replace own_b1_2 := own_b1_2.ext hk
 replace kw := kw.x hk
 clear hR hk hg hP
 refine tail_reg 1 All y21 zz21 st_tr trivial rfl ?_
 refine .mkMap ?_
 refine .dn fun a22 g W22 y22 zz22 hk hg hV hR hP => ?_
 refine tail_nil ?_
 show runTail _ _ _ _ _ _
 obtain ⟨⟨b41_22, e41, hb41, own_b41_22⟩, -⟩ := hV
 have lo_b41_22 : w.heap.size ≤ b41_22 := Nat.le_trans kw.size (hg.lo _ _ hb41)
 have ne_b1_2_b41_22 : b1_2 ≠ b41_22 := Nat.ne_of_lt (Nat.lt_of_lt_of_le own_b1_2.lt (hg.lo _ _ hb41))
 have own_b41_22 : OwnM W22 b41_22 ([]) := own_b41_22
 replace e40 := ft hR e40
 replace D_cn40_21 := sf_more D_cn40_21 hk [b41_22] (in_cons (hg.lo _ _ hb41) in_nil)
 replace D_ci40_21 := sf_more D_ci40_21 hk [b41_22] (in_cons (hg.lo _ _ hb41) in_nil)
 replace own_b1_2 := own_b1_2.ext hk
 replace kw := kw.x hk
 clear hR hk hg hP hb41
 refine tail_reg 2 All y22 zz22 st_tr trivial rfl ?_
 refine .i (v := (.agg #[(.int .u8 (x.k)), (.int .i64 (x.n)), (.string (x.t)), (.slice cn40_21a (x.ns.length) cn40_21c), (.slice ci40_21a (x.xs.length) ci40_21c), (.map (some b41_22)), (.int .i64 (0))])) (sp_build (vs := [(0, (.agg #[(.int .u8 (x.k)), (.int .i64 (x.n)), (.string (x.t)), (.slice cn40_21a (x.ns.length) cn40_21c), (.slice ci40_21a (x.xs.length) ci40_21c)])), (1, (.map (some b41_22)))]) Tryz.underlying74 z74 (pl74 Tryz.underlying74) ⟨rfl, (hbs rfl e40), rfl, (hbs rfl e41), trivial⟩ (by kernel_rfl)) ?_
 refine .boxOp (v := (.agg #[(.int .u8 (x.k)), (.int .i64 (x.n)), (.string (x.t)), (.slice cn40_21a (x.ns.length) cn40_21c), (.slice ci40_21a (x.xs.length) ci40_21c), (.map (some b41_22)), (.int .i64 (0))])) (hlc rfl) ?_
 refine .dn fun a23 g W23 y23 zz23 hk hg hV hR hP => ?_
 refine tail_nil ?_
 show runTail _ _ _ _ _ _
 obtain ⟨⟨b43_23, e43, hb43, own_b43_23⟩, -, -⟩ := hV
 have lo_b43_23 : w.heap.size ≤ b43_23 := Nat.le_trans kw.size (hg.lo _ _ hb43)
 have ne_b1_2_b43_23 : b1_2 ≠ b43_23 := Nat.ne_of_lt (Nat.lt_of_lt_of_le own_b1_2.lt (hg.lo _ _ hb43))
 have ne_b41_22_b43_23 : b41_22 ≠ b43_23 := Nat.ne_of_lt (Nat.lt_of_lt_of_le own_b41_22.lt (hg.lo _ _ hb43))
 have own_b43_23 : Own W23 b43_23 [(.int .u8 (x.k)), (.int .i64 (x.n)), (.string (x.t)), (.slice cn40_21a (x.ns.length) cn40_21c), (.slice ci40_21a (x.xs.length) ci40_21c), (.map (some b41_22)), (.int .i64 (0))] 74 := own_b43_23
 replace D_cn40_21 := sf_more D_cn40_21 hk [b43_23] (in_cons (hg.lo _ _ hb43) in_nil)
 replace D_ci40_21 := sf_more D_ci40_21 hk [b43_23] (in_cons (hg.lo _ _ hb43) in_nil)
 replace own_b1_2 := own_b1_2.ext hk
 replace own_b41_22 := own_b41_22.ext hk
 replace kw := kw.x hk
 clear hR hk hg hP hb43
 refine tail_assign (v := (.pointer (some ⟨b43_23, 0, none⟩))) e43 (by rw [y23]; exact Nat.le_of_ble_eq_true rfl) (fun a24 y24 zz24 e2 hr => ?_)
 replace y24 := y24.trans y23; replace zz24 := zz24.trans zz23
 replace e43 := (hr 43 (by decide)).trans e43
 clear hr
 refine zn (hK20 _ _ ?_)
 refine wp_ret ?_
 refine ret1 rfl zz24 e2 ⟨_, rfl, kw, ?_⟩
 exact ⟨b43_23, b41_22, _, _, rfl, lo_b43_23, lo_b41_22, ne_b41_22_b43_23.symm, own_b43_23, own_b41_22, sf_pkf (by simp) D_cn40_21, sf_pkf (by simp) D_ci40_21, ht_v40_21⟩
set_option maxRecDepth 100000 in
theorem OfD_ok (x : V) (hof : ofE x ≠ 0) (w : World) (S : BSet) (v : Value) (hv : Rd w S x.d v) : Calls Tryz.prog 35 #[v] w (Ret w fun u W => PkD w W 74 (ofE x) u) := by
 have hmn : x.ns.length ≤ maxLen := by obtain ⟨_, _, _, _, _, _, h, _⟩ := rdV_out hv; exact rd_lenS h
 simp only [maxLen] at hmn
 obtain ⟨cn0a, cn0c, ci0a, ci0c, ev, ht0, D_cn0, D_ci0⟩ := rdV_out (rd_arg hv)
 subst ev
 refine enter Tryz.func35 rfl Tryz.ntmps35 (lbr rfl) fun a0 y0 zz0 harg => ?_
 have e0 : sl a0 0 = (.agg #[(.int .u8 (x.k)), (.int .i64 (x.n)), (.string (x.t)), (.slice cn0a (x.ns.length) cn0c), (.slice ci0a (x.xs.length) ci0c)]) := harg 0 (lbr rfl)
 have kw := Keeps.refl All w
 clear harg
 refine zq fun K1 hK1 => ?_
 refine rg mixed y0 zz0 ?_
 refine .boxOp (v := (.agg #[(.int .u8 (x.k)), (.int .i64 (x.n)), (.string (x.t)), (.slice cn0a (x.ns.length) cn0c), (.slice ci0a (x.xs.length) ci0c)])) (hbs rfl e0) ?_
 refine .ac ?_
 refine .dn fun a2 g W2 y2 zz2 hk hg hV hR hP => ?_
 obtain ⟨-, ⟨b1_2, e1, hb1, own_b1_2⟩, -⟩ := hV
 have lo_b1_2 : w.heap.size ≤ b1_2 := Nat.le_trans kw.size (hg.lo _ _ hb1)
 have own_b1_2 : Own W2 b1_2 [(.int .u8 (x.k)), (.int .i64 (x.n)), (.string (x.t)), (.slice cn0a (x.ns.length) cn0c), (.slice ci0a (x.xs.length) ci0c)] 26 := own_b1_2
 replace D_cn0 := sa_more D_cn0 hk [b1_2] (in_cons (hg.lo _ _ hb1) in_nil)
 replace D_ci0 := sa_more D_ci0 hk [b1_2] (in_cons (hg.lo _ _ hb1) in_nil)
 replace kw := kw.x hk
 clear hR hk hg hP hb1
 refine zn (hK1 _ _ ?_)
 refine zq fun K3 hK3 => ?_
 refine zq fun K4 hK4 => ?_
 refine rg mixed y2 zz2 ?_
 refine .i (fo 0 (hbs rfl e1) Tryz.underlying26 rfl sz5 rfl) ?_
 refine .i (lo1 (hlc rfl) own_b1_2 trivial agg5 sz5 rfl) ?_
 refine .i (sp_neq (hlc rfl) Has.cst) ?_
 refine .dn fun a5 g W5 y5 zz5 hk hg hV hR hP => ?_
 obtain ⟨e6, -, -, -⟩ := hV
 replace e1 := ft hR e1
 replace D_cn0 := D_cn0.ext hk
 replace D_ci0 := D_ci0.ext hk
 replace e6 := e6.q
 replace own_b1_2 := own_b1_2.ext hk
 replace kw := kw.x hk
 clear hR hk hg hP
 refine zn (hK4 _ _ ?_)
 refine zc e6 (fun hc => ?_) (fun hc => ?_)
 ·
  have hf : ofE x = 10 := by rw [ofE, if_pos (by simp at hc; omega)]
  refine zq fun K6 hK6 => ?_
  refine rg mixed y5 zz5 ?_
  refine .i (v := (.agg #[(.int .u8 (0)), (.int .i64 (0)), (.string (⟨#[]⟩)), (.slice none 0 0), (.slice none 0 0), (.map none), (.int .i64 (10))])) (sp_build (vs := [(2, (.int .i64 (10)))]) Tryz.underlying74 z74 (pl74 Tryz.underlying74) ⟨rfl, Has.cst, trivial⟩ rfl) ?_
  refine .boxOp (v := (.agg #[(.int .u8 (0)), (.int .i64 (0)), (.string (⟨#[]⟩)), (.slice none 0 0), (.slice none 0 0), (.map none), (.int .i64 (10))])) (hlc rfl) ?_
  refine .dn fun a7 g W7 y7 zz7 hk hg hV hR hP => ?_
  obtain ⟨⟨b8_7, e8, hb8, own_b8_7⟩, -, -⟩ := hV
  have lo_b8_7 : w.heap.size ≤ b8_7 := Nat.le_trans kw.size (hg.lo _ _ hb8)
  have ne_b1_2_b8_7 : b1_2 ≠ b8_7 := Nat.ne_of_lt (Nat.lt_of_lt_of_le own_b1_2.lt (hg.lo _ _ hb8))
  have own_b8_7 : Own W7 b8_7 [(.int .u8 (0)), (.int .i64 (0)), (.string (⟨#[]⟩)), (.slice none 0 0), (.slice none 0 0), (.map none), (.int .i64 (10))] 74 := own_b8_7
  replace D_cn0 := sa_more D_cn0 hk [b8_7] (in_cons (hg.lo _ _ hb8) in_nil)
  replace D_ci0 := sa_more D_ci0 hk [b8_7] (in_cons (hg.lo _ _ hb8) in_nil)
  replace own_b1_2 := own_b1_2.ext hk
  replace kw := kw.x hk
  clear hR hk hg hP hb8
  refine tail_assign (v := (.pointer (some ⟨b8_7, 0, none⟩))) e8 (by rw [y7]; exact Nat.le_of_ble_eq_true rfl) (fun a8 y8 zz8 e2 hr => ?_)
  replace y8 := y8.trans y7; replace zz8 := zz8.trans zz7
  replace e8 := (hr 8 (by decide)).trans e8
  clear hr
  refine zn (hK6 _ _ ?_)
  refine wp_ret ?_
  refine ret1 rfl zz8 e2 ⟨_, rfl, kw, ?_⟩
  rw [hf]
  exact ⟨b8_7, rfl, lo_b8_7, own_b8_7⟩
 have hk : ¬ x.k ≠ 5 := by simp at hc; omega
 refine wp_skip (hK3 _ _ ?_)
 refine zq fun K9 hK9 => ?_
 refine zq fun K10 hK10 => ?_
 refine rg mixed y5 zz5 ?_
 refine .i (fo 3 (hbs rfl e1) Tryz.underlying26 rfl sz23 rfl) ?_
 refine .i (lo1 (hlc rfl) own_b1_2 trivial agg23 sz23 rfl) ?_
 refine .i (sp_lenSs Tryz.underlying23 ((hlc rfl).dat D_cn0 sub_all)) ?_
 refine .i (fo 4 (hbs rfl e1) Tryz.underlying26 rfl sz24 rfl) ?_
 refine .i (lo1 (hlc rfl) own_b1_2 trivial agg24 sz24 rfl) ?_
 refine .i (sp_lenVs Tryz.underlying24 ((hlc rfl).dat D_ci0 sub_all)) ?_
 refine .i (sp_neq (hlc rfl) (hlc rfl)) ?_
 refine .dn fun a11 g W11 y11 zz11 hk hg hV hR hP => ?_
 obtain ⟨e15, -, -, -, -, -, -, -⟩ := hV
 replace e1 := ft hR e1
 replace D_cn0 := D_cn0.ext hk
 replace D_ci0 := D_ci0.ext hk
 replace e15 := e15.q
 replace own_b1_2 := own_b1_2.ext hk
 replace kw := kw.x hk
 clear hR hk hg hP
 refine zn (hK10 _ _ ?_)
 refine zc e15 (fun hc => ?_) (fun hc => ?_)
 ·
  have hf : ofE x = 3 := by rw [ofE, if_neg hk, if_pos (.inl (by simp at hc; omega))]
  refine zq fun K12 hK12 => ?_
  refine rg mixed y11 zz11 ?_
  refine .i (v := (.agg #[(.int .u8 (0)), (.int .i64 (0)), (.string (⟨#[]⟩)), (.slice none 0 0), (.slice none 0 0), (.map none), (.int .i64 (3))])) (sp_build (vs := [(2, (.int .i64 (3)))]) Tryz.underlying74 z74 (pl74 Tryz.underlying74) ⟨rfl, Has.cst, trivial⟩ rfl) ?_
  refine .boxOp (v := (.agg #[(.int .u8 (0)), (.int .i64 (0)), (.string (⟨#[]⟩)), (.slice none 0 0), (.slice none 0 0), (.map none), (.int .i64 (3))])) (hlc rfl) ?_
  refine .dn fun a13 g W13 y13 zz13 hk hg hV hR hP => ?_
  obtain ⟨⟨b17_13, e17, hb17, own_b17_13⟩, -, -⟩ := hV
  have lo_b17_13 : w.heap.size ≤ b17_13 := Nat.le_trans kw.size (hg.lo _ _ hb17)
  have ne_b1_2_b17_13 : b1_2 ≠ b17_13 := Nat.ne_of_lt (Nat.lt_of_lt_of_le own_b1_2.lt (hg.lo _ _ hb17))
  have own_b17_13 : Own W13 b17_13 [(.int .u8 (0)), (.int .i64 (0)), (.string (⟨#[]⟩)), (.slice none 0 0), (.slice none 0 0), (.map none), (.int .i64 (3))] 74 := own_b17_13
  replace D_cn0 := sa_more D_cn0 hk [b17_13] (in_cons (hg.lo _ _ hb17) in_nil)
  replace D_ci0 := sa_more D_ci0 hk [b17_13] (in_cons (hg.lo _ _ hb17) in_nil)
  replace own_b1_2 := own_b1_2.ext hk
  replace kw := kw.x hk
  clear hR hk hg hP hb17
  refine tail_assign (v := (.pointer (some ⟨b17_13, 0, none⟩))) e17 (by rw [y13]; exact Nat.le_of_ble_eq_true rfl) (fun a14 y14 zz14 e2 hr => ?_)
  replace y14 := y14.trans y13; replace zz14 := zz14.trans zz13
  replace e17 := (hr 17 (by decide)).trans e17
  clear hr
  refine zn (hK12 _ _ ?_)
  refine wp_ret ?_
  refine ret1 rfl zz14 e2 ⟨_, rfl, kw, ?_⟩
  rw [hf]
  exact ⟨b17_13, rfl, lo_b17_13, own_b17_13⟩
 have hl : x.ns.length = x.xs.length := by simp at hc; omega
 refine wp_skip (hK9 _ _ ?_)
 refine zq fun K15 hK15 => ?_
 refine zq fun K16 hK16 => ?_
 refine rg mixed y11 zz11 ?_
 refine .ac ?_
 refine .dn fun a17 g W17 y17 zz17 hk hg hV hR hP => ?_
 obtain ⟨e3, -⟩ := hV
 replace e1 := ft hR e1
 replace D_cn0 := D_cn0.ext hk
 replace D_ci0 := D_ci0.ext hk
 replace e3 := e3.q
 replace own_b1_2 := own_b1_2.ext hk
 replace kw := kw.x hk
 clear hR hk hg hP
 refine zn (hK16 _ _ ?_)
 refine wp_block ?_
 refine wp_for (x.ns.length) (fun k a W => a.tmps.size = 44 ∧ a.defers = [] ∧ Keeps All w W ∧ sl a 1 = (.pointer (some ⟨b1_2, 0, none⟩)) ∧ sl a 3 = (.int .i64 (((k + 1 : Nat) : Int))) ∧ Own W b1_2 [(.int .u8 (x.k)), (.int .i64 (x.n)), (.string (x.t)), (.slice cn0a (x.ns.length) cn0c), (.slice ci0a (x.xs.length) ci0c)] 26 ∧ Rd W (SA w S [b1_2]) (strsD (x.ns)) (.slice cn0a (x.ns.length) cn0c) ∧ Rd W (SA w S [b1_2]) (valsD (x.xs)) (.slice ci0a (x.xs.length) ci0c) ∧ (∀ i (h : i + 1 < x.ns.length), i < k → sLt x.ns[i] x.ns[i + 1] = true)) ⟨y17, zz17, kw, e1, (e3.trans (congrArg (Value.int .i64) (rfl))), own_b1_2, D_cn0, D_ci0, fun i h hi => absurd hi (by omega)⟩ ?_
 clear kw e1 e3 own_b1_2 D_cn0 D_ci0
 rintro k a18 W18 hkk ⟨y18, zz18, kw, e1, e3, own_b1_2, D_cn0, D_ci0, hinv⟩
 refine zq fun K19 hK19 => ?_
 refine zq fun K20 hK20 => ?_
 refine rg mixed y18 zz18 ?_
 refine .mb rfl e3 ?_
 refine .i (fo 3 (hbs rfl e1) Tryz.underlying26 rfl sz23 rfl) ?_
 refine .i (lo1 (hlc rfl) own_b1_2 trivial agg23 sz23 rfl) ?_
 refine .i (sp_lenSs Tryz.underlying23 ((hlc rfl).dat D_cn0 sub_all)) ?_
 refine .i (sp_lss (hlc rfl) (hlc rfl)) ?_
 refine .dn fun a21 g W21 y21 zz21 hk hg hV hR hP => ?_
 obtain ⟨e22, -, -, -, -, -⟩ := hV
 replace e1 := ft hR e1
 replace e3 := ft hR e3
 replace D_cn0 := D_cn0.ext hk
 replace D_ci0 := D_ci0.ext hk
 replace e22 := e22.q
 replace own_b1_2 := own_b1_2.ext hk
 replace kw := kw.x hk
 clear hR hk hg hP
 refine zn (hK20 _ _ ?_)
 refine zc e22 (fun hc => ?_) (fun hc => ?_)
 ·
  have hlt : k + 1 < x.ns.length := by have := of_decide_eq_true hc; omega
  refine wp_skip (hK19 _ _ ?_)
  refine zq fun K22 hK22 => ?_
  refine wp_block ?_
  refine zq fun K23 hK23 => ?_
  refine rg mixed y21 zz21 ?_
  refine .i (fo 3 (hbs rfl e1) Tryz.underlying26 rfl sz23 rfl) ?_
  refine .i (lo1 (hlc rfl) own_b1_2 trivial agg23 sz23 rfl) ?_
  refine .mb rfl e3 ?_
  refine .i (sp_sub (hlc rfl) Has.cst (i64_in (by omega))) ?_
  refine .rf (sp_indexS (i := k) ((hlc rfl).dat D_cn0 sub_all) (hlc rfl) Tryz.underlying23 sz9 (by omega) (by omega)) ?_
  refine .i (sp_loadStr (hlc rfl) agg9 sz9) ?_
  refine .i (fo 3 (hbs rfl e1) Tryz.underlying26 rfl sz23 rfl) ?_
  refine .i (lo1 (hlc rfl) own_b1_2 trivial agg23 sz23 rfl) ?_
  refine .mb rfl e3 ?_
  refine .rf (sp_indexS (i := (k + 1)) ((hlc rfl).dat D_cn0 sub_all) (hlc rfl) Tryz.underlying23 sz9 rfl hlt) ?_
  refine .i (sp_loadStr (hlc rfl) agg9 sz9) ?_
  refine .i (sp_sGeq (hlc rfl) (hlc rfl)) ?_
  refine .dn fun a24 g W24 y24 zz24 hk hg hV hR hP => ?_
  obtain ⟨e36, -, -, -, -, -, -, -, -, -, -, -, -⟩ := hV
  replace e1 := ft hR e1
  replace e3 := ft hR e3
  replace D_cn0 := D_cn0.ext hk
  replace D_ci0 := D_ci0.ext hk
  replace e36 := e36.q
  replace own_b1_2 := own_b1_2.ext hk
  replace kw := kw.x hk
  clear hR hk hg hP
  refine zn (hK23 _ _ ?_)
  refine zc e36 (fun hc => ?_) (fun hc => ?_)
  ·
   have hf : ofE x = 3 := by rw [ofE, if_neg hk, if_pos (.inr (asc_false hlt (by simpa using hc)))]
   refine zq fun K25 hK25 => ?_
   refine rg mixed y24 zz24 ?_
   refine .i (v := (.agg #[(.int .u8 (0)), (.int .i64 (0)), (.string (⟨#[]⟩)), (.slice none 0 0), (.slice none 0 0), (.map none), (.int .i64 (3))])) (sp_build (vs := [(2, (.int .i64 (3)))]) Tryz.underlying74 z74 (pl74 Tryz.underlying74) ⟨rfl, Has.cst, trivial⟩ rfl) ?_
   refine .boxOp (v := (.agg #[(.int .u8 (0)), (.int .i64 (0)), (.string (⟨#[]⟩)), (.slice none 0 0), (.slice none 0 0), (.map none), (.int .i64 (3))])) (hlc rfl) ?_
   refine .dn fun a26 g W26 y26 zz26 hk hg hV hR hP => ?_
   obtain ⟨⟨b38_26, e38, hb38, own_b38_26⟩, -, -⟩ := hV
   have lo_b38_26 : w.heap.size ≤ b38_26 := Nat.le_trans kw.size (hg.lo _ _ hb38)
   have ne_b1_2_b38_26 : b1_2 ≠ b38_26 := Nat.ne_of_lt (Nat.lt_of_lt_of_le own_b1_2.lt (hg.lo _ _ hb38))
   have own_b38_26 : Own W26 b38_26 [(.int .u8 (0)), (.int .i64 (0)), (.string (⟨#[]⟩)), (.slice none 0 0), (.slice none 0 0), (.map none), (.int .i64 (3))] 74 := own_b38_26
   replace D_cn0 := sa_more D_cn0 hk [b38_26] (in_cons (hg.lo _ _ hb38) in_nil)
   replace D_ci0 := sa_more D_ci0 hk [b38_26] (in_cons (hg.lo _ _ hb38) in_nil)
   replace own_b1_2 := own_b1_2.ext hk
   replace kw := kw.x hk
   clear hR hk hg hP hb38
   refine tail_assign (v := (.pointer (some ⟨b38_26, 0, none⟩))) e38 (by rw [y26]; exact Nat.le_of_ble_eq_true rfl) (fun a27 y27 zz27 e2 hr => ?_)
   replace y27 := y27.trans y26; replace zz27 := zz27.trans zz26
   replace e38 := (hr 38 (by decide)).trans e38
   clear hr
   refine zn (hK25 _ _ ?_)
   refine wp_ret ?_
   refine ret1 rfl zz27 e2 ⟨_, rfl, kw, ?_⟩
   rw [hf]
   exact ⟨b38_26, rfl, lo_b38_26, own_b38_26⟩
  have hk1 : sLt x.ns[k] x.ns[k + 1] = true := by simpa using hc
  refine wp_skip (hK22 _ _ ?_)
  refine rg mixed y24 zz24 ?_
  refine .mb rfl e3 ?_
  refine .i (sp_add (hlc rfl) Has.cst (i64_in (by omega))) ?_
  refine .al rfl ?_
  refine .dn fun a28 g W28 y28 zz28 hk hg hV hR hP => ?_
  obtain ⟨e3, -, -, -⟩ := hV
  replace e1 := ft hR e1
  replace D_cn0 := D_cn0.ext hk
  replace D_ci0 := D_ci0.ext hk
  replace e3 := e3.q
  replace own_b1_2 := own_b1_2.ext hk
  replace kw := kw.x hk
  clear hR hk hg hP
  exact tail_nil ⟨by omega, y28, zz28, kw, e1, (e3.trans (congrArg (Value.int .i64) (by omega))), own_b1_2, D_cn0, D_ci0, fun i h hi => by rcases Nat.lt_succ_iff_lt_or_eq.1 hi with h1 | h1; exact hinv i h h1; subst h1; exact hk1⟩
 exfalso
 have hge := of_decide_eq_false hc
 have ha : asc x.ns = true := (asc_iff x.ns).2 fun i hi => hinv i hi (by omega)
 rw [ofE, if_neg hk, if_neg (by rintro (h | h); exact h hl; rw [ha] at h; cases h)] at hof
 exact hof rfl
end Go.Proofs.YtnobijngkpflcaaGreat
namespace Go.Proofs.YtnobijngkpflcaaGreat
open Go.Eng
set_option maxRecDepth 100000 in
theorem takeID_ok (k : Nat) (n : Int) (t : ByteArray) (cn ci mv : Value) (e : Int) (hE : errK k e ≠ 0) (name : ByteArray) (fv : Value) (w : World) (bo : Nat) (own_bo : Own w bo [.int .u8 k, .int .i64 n, .string t, cn, ci, mv, .int .i64 e] 74) : Calls Tryz.prog 57 #[.pointer (some ⟨bo, 0, none⟩), .string name, fv] w (Ret w fun u _ => u = .int .i64 0) := by
 refine enter Tryz.func57 rfl Tryz.ntmps57 (lbr rfl) fun a0 y0 zz0 harg => ?_
 have e0 : sl a0 0 = (.pointer (some ⟨bo, 0, none⟩)) := harg 0 (lbr rfl)
 have e1 : sl a0 1 = (.string (name)) := harg 1 (lbr rfl)
 have e2 : sl a0 2 = fv := harg 2 (lbr rfl)
 have kw := Keeps.refl All w
 clear harg
 refine zq fun K1 hK1 => ?_
 refine rg mixed y0 zz0 ?_
 refine .ac ?_
 refine .dn fun a2 g W2 y2 zz2 hk hg hV hR hP => ?_
 obtain ⟨-, -⟩ := hV
 replace e0 := ft hR e0
 replace e1 := ft hR e1
 replace e2 := ft hR e2
 replace own_bo := own_bo.ext hk
 replace kw := kw.x hk
 clear hR hk hg hP
 refine zn (hK1 _ _ ?_)
 refine zq fun K3 hK3 => ?_
 refine rg mixed y2 zz2 ?_
 refine .ac ?_
 refine .dn fun a4 g W4 y4 zz4 hk hg hV hR hP => ?_
 obtain ⟨e7, -⟩ := hV
 replace e0 := ft hR e0
 replace e1 := ft hR e1
 replace e2 := ft hR e2
 replace e7 := e7.q
 replace own_bo := own_bo.ext hk
 replace kw := kw.x hk
 clear hR hk hg hP
 refine zn (hK3 _ _ ?_)
 refine zq fun K5 hK5 => ?_
 refine zq fun K6 hK6 => ?_
 refine rg mixed y4 zz4 ?_
 refine .mb rfl e0 ?_
 refine .i (v := (.int .i64 (errK (k : Nat) e))) (sp_call1 (φ1 := Is (.pointer (some ⟨bo, 0, none⟩))) ent61 (hlc rfl) (fun g u1 W hk hgk h1 => by have h1 : u1 = _ := h1; subst u1; exact Err_ok _ _ _ _ _ _ _ W _ (own_bo.ext hk))) ?_
 refine .i (sp_neq (hlc rfl) Has.cst) ?_
 refine .dn fun a7 g W7 y7 zz7 hk hg hV hR hP => ?_
 obtain ⟨e14, -, -, -⟩ := hV
 replace e0 := ft hR e0
 replace e1 := ft hR e1
 replace e2 := ft hR e2
 replace e7 := ft hR e7
 replace e14 := e14.q
 replace own_bo := own_bo.ext hk
 replace kw := kw.x hk
 clear hR hk hg hP
 refine zn (hK6 _ _ ?_)
 refine zc e14 (fun hc => ?_) (fun hc => ?_)
 ·
  refine zq fun K8 hK8 => ?_
  refine rg mixed y7 zz7 ?_
  refine .mb rfl e7 ?_
  refine .al rfl ?_
  refine .dn fun a9 g W9 y9 zz9 hk hg hV hR hP => ?_
  obtain ⟨e6, -, -⟩ := hV
  replace e6 := e6.q
  replace own_bo := own_bo.ext hk
  replace kw := kw.x hk
  clear hR hk hg hP
  refine zn (hK8 _ _ ?_)
  refine wp_ret ?_
  refine ret1 rfl zz9 e6 ⟨_, rfl, kw, ?_⟩
  exact rfl
 exfalso
 exact hE (by simpa using hc)
set_option maxRecDepth 100000 in
theorem NumD_ok (k : Nat) (n : Int) (t : ByteArray) (cn ci mv : Value) (e : Int) (hE : errK k e ≠ 0) (name : ByteArray) (lo hi : Int) (w : World) (bo : Nat) (own_bo : Own w bo [.int .u8 k, .int .i64 n, .string t, cn, ci, mv, .int .i64 e] 74) : Calls Tryz.prog 36 #[.pointer (some ⟨bo, 0, none⟩), .string name, .int .i64 lo, .int .i64 hi] w (Ret w fun u _ => u = .int .i64 0) := by
 refine enter Tryz.func36 rfl Tryz.ntmps36 (lbr rfl) fun a0 y0 zz0 harg => ?_
 have e0 : sl a0 0 = (.pointer (some ⟨bo, 0, none⟩)) := harg 0 (lbr rfl)
 have e1 : sl a0 1 = (.string (name)) := harg 1 (lbr rfl)
 have e2 : sl a0 2 = (.int .i64 (lo)) := harg 2 (lbr rfl)
 have e3 : sl a0 3 = (.int .i64 (hi)) := harg 3 (lbr rfl)
 have kw := Keeps.refl All w
 clear harg
 refine zq fun K1 hK1 => ?_
 refine rg mixed y0 zz0 ?_
 refine .boxOp (v := (.int .i64 (lo))) (hbs rfl e2) ?_
 refine .boxOp (v := (.int .i64 (hi))) (hbs rfl e3) ?_
 refine .ac ?_
 refine .dn fun a2 g W2 y2 zz2 hk hg hV hR hP => ?_
 obtain ⟨-, ⟨b7_2, e7, hb7, own_b7_2⟩, ⟨b6_2, e6, hb6, own_b6_2⟩, -⟩ := hV
 have lo_b7_2 : w.heap.size ≤ b7_2 := Nat.le_trans kw.size (hg.lo _ _ hb7)
 have ne_bo_b7_2 : bo ≠ b7_2 := Nat.ne_of_lt (Nat.lt_of_lt_of_le own_bo.lt (hg.lo _ _ hb7))
 have own_b7_2 : Own W2 b7_2 [(.int .i64 (hi))] 2 := own_b7_2
 have lo_b6_2 : w.heap.size ≤ b6_2 := Nat.le_trans kw.size (hg.lo _ _ hb6)
 have ne_bo_b6_2 : bo ≠ b6_2 := Nat.ne_of_lt (Nat.lt_of_lt_of_le own_bo.lt (hg.lo _ _ hb6))
 have own_b6_2 : Own W2 b6_2 [(.int .i64 (lo))] 2 := own_b6_2
 have ne_b7_2_b6_2 : b7_2 ≠ b6_2 := fun h => by have := hg.inj _ _ _ hb7 (h ▸ hb6); cases this
 replace e0 := ft hR e0
 replace e1 := ft hR e1
 replace own_bo := own_bo.ext hk
 replace kw := kw.x hk
 clear hR hk hg hP hb7 hb6
 refine zn (hK1 _ _ ?_)
 refine zq fun K3 hK3 => ?_
 refine rg mixed y2 zz2 ?_
 refine .mb rfl e0 ?_
 refine .mb rfl e1 ?_
 refine .i (v := (.func (.func 58) #[] #[(.pointer (some ⟨b6_2, 0, none⟩)), (.pointer (some ⟨b7_2, 0, none⟩))])) (sp_mkF2 (hbs rfl e6) (hbs rfl e7)) ?_
 refine .i (v := (.int .i64 (0))) (sp_call3 (φ1 := Is (.pointer (some ⟨bo, 0, none⟩))) (φ2 := Is (.string (name))) (φ3 := Is (.func (.func 58) #[] #[(.pointer (some ⟨b6_2, 0, none⟩)), (.pointer (some ⟨b7_2, 0, none⟩))])) ent57 (hlc rfl) (hlc rfl) (hlc rfl) (fun g u1 u2 u3 W hk hgk h1 h2 h3 => by have h1 : u1 = _ := h1; subst u1; have h2 : u2 = _ := h2; subst u2; have h3 : u3 = _ := h3; subst u3; exact takeID_ok _ _ _ _ _ _ _ hE _ _ W _ (own_bo.ext hk))) ?_
 refine .al rfl ?_
 refine .dn fun a4 g W4 y4 zz4 hk hg hV hR hP => ?_
 obtain ⟨e8, -, -, -, -, -⟩ := hV
 replace e8 := e8.q
 replace own_bo := own_bo.ext hk
 replace own_b7_2 := own_b7_2.ext hk
 replace own_b6_2 := own_b6_2.ext hk
 replace kw := kw.x hk
 clear hR hk hg hP
 refine zn (hK3 _ _ ?_)
 refine wp_ret ?_
 refine ret1 rfl zz4 e8 ⟨_, rfl, kw, ?_⟩
 exact rfl
set_option maxRecDepth 100000 in
theorem DoneD_ok (k : Nat) (n : Int) (t : ByteArray) (cn ci mv : Value) (e : Int) (hE : errK k e ≠ 0) (w : World) (bo : Nat) (own_bo : Own w bo [.int .u8 k, .int .i64 n, .string t, cn, ci, mv, .int .i64 e] 74) : Calls Tryz.prog 41 #[.pointer (some ⟨bo, 0, none⟩)] w (Ret w fun u _ => u = .int .i64 (errK k e)) := by
 refine enter Tryz.func41 rfl Tryz.ntmps41 (lbr rfl) fun a0 y0 zz0 harg => ?_
 have e0 : sl a0 0 = (.pointer (some ⟨bo, 0, none⟩)) := harg 0 (lbr rfl)
 have kw := Keeps.refl All w
 clear harg
 refine zq fun K1 hK1 => ?_
 refine rg mixed y0 zz0 ?_
 refine .ac ?_
 refine .dn fun a2 g W2 y2 zz2 hk hg hV hR hP => ?_
 obtain ⟨-, -⟩ := hV
 replace e0 := ft hR e0
 replace own_bo := own_bo.ext hk
 replace kw := kw.x hk
 clear hR hk hg hP
 refine zn (hK1 _ _ ?_)
 refine zq fun K3 hK3 => ?_
 refine zq fun K4 hK4 => ?_
 refine rg mixed y2 zz2 ?_
 refine .mb rfl e0 ?_
 refine .i (v := (.int .i64 (errK (k : Nat) e))) (sp_call1 (φ1 := Is (.pointer (some ⟨bo, 0, none⟩))) ent61 (hlc rfl) (fun g u1 W hk hgk h1 => by have h1 : u1 = _ := h1; subst u1; exact Err_ok _ _ _ _ _ _ _ W _ (own_bo.ext hk))) ?_
 refine .al rfl ?_
 refine .dn fun a5 g W5 y5 zz5 hk hg hV hR hP => ?_
 obtain ⟨e3, -, -, -⟩ := hV
 replace e0 := ft hR e0
 replace e3 := e3.q
 replace own_bo := own_bo.ext hk
 replace kw := kw.x hk
 clear hR hk hg hP
 refine zn (hK4 _ _ ?_)
 refine zq fun K6 hK6 => ?_
 refine rg mixed y5 zz5 ?_
 refine .mb rfl e3 ?_
 refine .i (sp_neq (hlc rfl) Has.cst) ?_
 refine .dn fun a7 g W7 y7 zz7 hk hg hV hR hP => ?_
 obtain ⟨e9, -, -⟩ := hV
 replace e0 := ft hR e0
 replace e3 := ft hR e3
 replace e9 := e9.q
 replace own_bo := own_bo.ext hk
 replace kw := kw.x hk
 clear hR hk hg hP
 refine zn (hK6 _ _ ?_)
 refine zc e9 (fun hc => ?_) (fun hc => ?_)
 ·
  refine zq fun K8 hK8 => ?_
  refine rg mixed y7 zz7 ?_
  refine .mb rfl e3 ?_
  refine .al rfl ?_
  refine .dn fun a9 g W9 y9 zz9 hk hg hV hR hP => ?_
  obtain ⟨e2, -, -⟩ := hV
  replace e2 := e2.q
  replace own_bo := own_bo.ext hk
  replace kw := kw.x hk
  clear hR hk hg hP
  refine zn (hK8 _ _ ?_)
  refine wp_ret ?_
  refine ret1 rfl zz9 e2 ⟨_, rfl, kw, ?_⟩
  exact rfl
 exfalso
 exact hE (by simpa using hc)
end Go.Proofs.YtnobijngkpflcaaGreat
namespace Go.Eng
theorem rd_tAt {W : World} {X : BSet} {xs : List V} {v : Value} {i : Nat} (h : Rd W X (valsD xs) v) (hi : i < xs.length) : xs[i].t.size ≤ maxLen := by
  obtain ⟨cs, h1, _⟩ := h
  simp only [valsD, RdC] at h1
  obtain ⟨a, cap, _, h2, h3, h4⟩ := h1
  rcases h4 with h4 | ⟨b, o, _, _, _, h5⟩
  · simp at h4; subst h4; simp at hi
  · obtain ⟨c, hc⟩ := rdl_at _ _ i (by simpa using hi) h5
    rw [List.getElem_map] at hc
    obtain ⟨_, _, _, _, _, h6, _⟩ := vcells hc
    exact h6
section
variable {P : Program} {ops : Array Oper} {S : Nat → Prop} {w0 : World} {a0 : Act} {Γ : Ctx}
variable {d : Option Tmp} {ty : TypeId} {pos : String} {af : Array Edge} {gd : Option (Nat × Bool)}
theorem sp_mkA0 {x y : Operand} {T E : TypeId} {n sz bytes lo : Nat} {z : Value} {X : BSet} (hT : P.underlying T = some (.slice E)) (hi : inf P E sz bytes) (hz : zeroOf P E = some z) (hx : Has S w0 a0 Γ x (Is (.int .i64 0))) (hy : Has S w0 a0 Γ y (Is (.int .i64 n)))
    (hn : n * sz ≤ 16777216) (hb : bytes * n ≤ 281474976710656) (hm : n ≤ maxLen) (hlo : lo ≤ w0.heap.size) : Spec P ops S w0 a0 Γ ⟨d, .makeSlice T x y, ty, pos, af, gd⟩ (IsArr w0 lo E sz X [] none) := fun a g W hk hg he => by
  have e1 : a.eval x = .int .i64 0 := hx.of_env hk hg he (by simp [Op.operands])
  have e2 : a.eval y = .int .i64 n := hy.of_env hk hg he (by simp [Op.operands])
  obtain ⟨i, z', h1, h2, h3, h4, h5⟩ := hi
  have ez : z' = z := by
    unfold zeroOf at hz; rw [h1] at hz; simp [h2] at hz; exact hz
  subst ez
  have hm' : n ≤ 9223372036854775807 := by simp only [maxLen] at hm; omega
  have hr := run_makeSlice (P := P) W T E i _ hT h1 h2 .i64 .i64 0 n (by omega) (by omega) (by rw [h3]; simpa using hn) (by rw [h4]; omega) (by omega)
  have hrun : (execOp a.eval ⟨d, .makeSlice T x y, ty, pos, af, gd⟩).run P W = .ok (.value (.slice (some ⟨W.heap.size, 0, none⟩) 0 n)) (W.alloc (.cells (madeCells z'.cells (n * sz)) E)) := by
    simp only [execOp, e1, e2, Sem.run_bind]
    rw [hr]; simp [h3]
  unfold OpRuns
  rw [hrun]
  have hnew : (W.alloc (.cells (madeCells z'.cells (n * sz)) E)).heap[W.heap.size]? = some (.cells (madeCells z'.cells (n * sz)) E (0, 0)) := by
    show (W.heap.push _)[W.heap.size]? = _
    simp
  refine ⟨ext_alloc _ _, some W.heap.size, ⟨rfl, [], ⟨by simp, .inr ⟨W.heap.size, n, madeCells z'.cells (n * sz), by simp, Nat.le_trans hlo hk.size, hnew, by simp, hm, by simp [madeCells], by simp⟩⟩, rfl⟩, fun b hb => .inr ?_⟩
  simp [blks] at hb; subst hb; exact hk.size
theorem sp_bslR {T E : TypeId} {n sz lo : Nat} {parts : Array (Nat × Operand)} {ds : List D} {X : BSet} {z : Value} (hT : P.underlying T = some (.slice E)) (hz : szOf P E = some sz) (hzero : zeroOf P E = some z) (hsz : 0 < sz) (hlen : n * sz ≤ 16777216)
    (hp : PartsD S w0 a0 Γ X 0 parts.toList ds) (hn : ds.length = n) (hw : ∀ e ∈ ds, width e = sz) (hlo : lo ≤ w0.heap.size) :
    Spec P ops S w0 a0 Γ ⟨d, .buildSlice T n parts, ty, pos, af, gd⟩ (IsArr w0 lo E sz X ds none) := fun a g W hk hg he => by
  obtain ⟨h1, h2⟩ := hp.out hk hg he _ _ _ (fun p hp => by simp [Op.operands]; exact ⟨p.1, by simpa using hp⟩)
  have hrow := fill_row (W := W) (X := fun b o => X b o ∧ Out g b) (sz := sz) ds ((parts.map fun x => (x.1, a.eval x.2)).toList) 0
  subst hn
  let cells : Array Value := (Array.range (ds.length * sz)).map (fun i => (if ds.length * sz = 0 then #[] else z.cells)[i % (if ds.length * sz = 0 then #[] else z.cells).size]!)
  obtain ⟨cs, hf, hr⟩ := hrow cells.toList (by simp [cells]) (by rw [← h1]; simp) (fun j hj => by
    obtain ⟨c, r1, r2⟩ := h2 j hj
    exact ⟨c, (rdc_width _ _ r1).trans (hw _ (List.getElem_mem hj)), r1, by simpa using r2⟩)
  simp only [Array.toArray_toList, Nat.zero_mul, List.take_zero, List.nil_append] at hf
  have hrun : (execOp a.eval ⟨d, .buildSlice T ds.length parts, ty, pos, af, gd⟩).run P W = .ok (.value (.slice (some ⟨W.heap.size, 0, none⟩) ds.length ds.length)) (W.alloc (.cells cs.toArray E)) := by
    have hm : (parts.map fun x => match x with | (i, x) => (i, a.eval x)) = (parts.map fun x => (x.1, a.eval x.2)) := rfl
    simp only [execOp, Instr.buildSlice, hm, Sem.run_bind, run_und hT, Result.andThen_ok, run_szOf hz]
    rw [show (2 : Nat) ^ 24 = 16777216 from rfl]
    rw [Sem.run_ite, if_neg (by omega)]
    by_cases h0 : ds.length * sz = 0
    · have hf' : Instr.fill (fun i => some (i * sz, sz)) ((Array.range (ds.length * sz)).map (fun x => (#[] : Array Value)[x % (#[] : Array Value).size]!)) (parts.map fun x => (x.1, a.eval x.2)).toList = some cs.toArray := by
        have h := hf; simp only [cells, if_pos h0] at h; exact h
      rw [if_pos h0]
      simp only [Sem.run_bind, Sem.run_pure, Result.andThen_ok, hf']
      rfl
    · have hf' : Instr.fill (fun i => some (i * sz, sz)) ((Array.range (ds.length * sz)).map (fun x => z.cells[x % z.cells.size]!)) (parts.map fun x => (x.1, a.eval x.2)).toList = some cs.toArray := by
        have h := hf; simp only [cells, if_neg h0] at h; exact h
      rw [if_neg h0]
      simp only [Sem.run_bind, run_zeroOf hzero, Sem.run_pure, Result.andThen_ok, hf']
      rfl
  unfold OpRuns
  rw [hrun]
  have hnew := own_alloc W cs E
  have hlen2 : ds.length ≤ 16777216 := Nat.le_trans (Nat.le_mul_of_pos_right _ hsz) hlen
  refine ⟨ext_alloc _ _, some W.heap.size, ⟨rfl, cs, ⟨hr.length, .inr ⟨W.heap.size, ds.length, cs.toArray, rfl, Nat.le_trans hlo hk.size, hnew, Nat.le_refl _, by simp only [maxLen]; omega, by simpa using hr.length, by rw [List.take_of_length_le (by simp [hr.length])]⟩⟩, ?_⟩, fun b hb => .inr ?_⟩
  · exact hr.move (by simp) fun b hb hlt => by
      have e := (ext_alloc W (.cells cs.toArray E)).block b hlt trivial
      exact ⟨e, by rw [e]; exact hb.1, fun hm => by simp [blks] at hm; omega⟩
  · simp [blks] at hb; subst hb; exact hk.size
end
end Go.Eng
namespace Go.Eng
def obE (most : Int) (v : V) : Int := if v.k ≠ 5 then 10 else if most < v.xs.length then 5 else 0
def obV (most : Int) (v : V) : V := if obE most v = 0 then v else ⟨0, 0, ⟨#[]⟩, [], []⟩
def anyE (_ : V) : Int := 0
def f1E (x : V) : Int := tkE x 0 sLength (numE 0 1099511627776)
def f1A (x : V) : As := tkA x [] 0 sLength (numE 0 1099511627776)
def f1N (x : V) : Int := if tkB x 0 sLength (numE 0 1099511627776) then numV 0 1099511627776 (getV x sLength) else 0
def f2O (x : V) : V := if tkB x (f1E x) sHashes (obE 4) then obV 4 (getV x sHashes) else ⟨0, 0, ⟨#[]⟩, [], []⟩
def f2E (x : V) : Int := tkE x (f1E x) sHashes (obE 4)
def f2A (x : V) : As := tkA x (f1A x) (f1E x) sHashes (obE 4)
def f3E (x : V) : Int := failK x.k (f2E x) (hsOE (f2O x))
def f4B (x : V) : Bool := decide (errK x.k (f3E x) = 0) && getB x sCustom
def f4E (x : V) : Int := if f4B x then tkE x (f3E x) sCustom anyE else f3E x
def f4A (x : V) : As := if f4B x then tkA x (f2A x) (f3E x) sCustom anyE else f2A x
def f4V (x : V) : V := if f4B x then (if tkB x (f3E x) sCustom anyE then getV x sCustom else ⟨0, 0, ⟨#[]⟩, [], []⟩) else ⟨0, 0, ⟨#[]⟩, [], []⟩
def ofRE (x : V) : Int := if mayB x = false then 3 else if ofE x ≠ 0 then ofE x else doneE x (f4A x) (f4E x)
def ofRV (x : V) : Rc := if ofRE x = 0 then ⟨f1N x, hsOV (f2O x), f4V x⟩ else ⟨0, [], ⟨0, 0, ⟨#[]⟩, [], []⟩⟩
theorem obV_wt (m : Int) (v : V) : (obV m v).wt ≤ v.wt := by
  unfold obV
  split
  · exact Nat.le_refl _
  · have := wt_eq v
    have h : V.wt ⟨0, 0, ⟨#[]⟩, [], []⟩ = 1 := rfl
    rw [h]; omega
theorem f2O_wt (x : V) : (f2O x).wt ≤ x.wt := by
  unfold f2O
  split
  · exact Nat.le_trans (obV_wt _ _) (getV_wt _ _)
  · have := wt_eq x
    have h : V.wt ⟨0, 0, ⟨#[]⟩, [], []⟩ = 1 := rfl
    rw [h]; omega
theorem mayH_ok {l : List Hs} (h : mayH l = true) : 0 < l.length ∧ l.length ≤ 4 ∧ ∀ m ∈ l.map hsM, m.v.wt ≤ 1073741824 := by
  simp [mayH] at h
  obtain ⟨h1, h2, h3, h4⟩ := h
  refine ⟨by omega, h2, fun m hm => ?_⟩
  obtain ⟨x, hx, rfl⟩ := List.mem_map.1 hm
  have := h3 x hx
  simp [hsOk, digR] at this
  have hw := wt_eq (hsM x).v
  simp only [hsM, V.t, V.ns, V.xs, V.wts, wtN] at hw
  show V.wt (V.mk 3 0 x.hx [] []) ≤ _
  omega
theorem hshO_wt {l : List Hs} (h : mayH l = true) : (hshO l).wt ≤ 1000000 := by
  have h0 := h
  simp [mayH] at h
  obtain ⟨h1, h2, h3, h4⟩ := h
  have hq : ∀ m ∈ sortMb (l.map hsM), m.v.wt ≤ 129 ∧ m.nm.size ≤ 64 := sortMb_all _ fun m hm => by
    obtain ⟨x, hx, rfl⟩ := List.mem_map.1 hm
    have hk := h3 x hx
    simp only [hsOk, Bool.and_eq_true] at hk
    have hd := hk.2
    simp [digR] at hd
    have hr := hk.1
    unfold roleB at hr
    split at hr
    · cases hr
    · rename_i hno
      have hw := wt_eq (hsM x).v
      simp only [hsM, V.t, V.ns, V.xs, V.wts, wtN] at hw ⊢
      exact ⟨by omega, by omega⟩
  have hl : (sortMb (l.map hsM)).length ≤ 4 := by rw [sortMb_len]; simpa using h2
  unfold hshO objM
  generalize sortMb (l.map hsM) = L at hq hl
  split
  · show V.wt (V.mk 0 0 ⟨#[]⟩ [] []) ≤ _; decide
  · rw [wt_eq]
    have key : ∀ L : List Mb, (∀ m ∈ L, m.v.wt ≤ 129 ∧ m.nm.size ≤ 64) → wtN (L.map Mb.nm) ≤ 65 * L.length ∧ V.wts (L.map Mb.v) ≤ 129 * L.length := by
      intro L
      induction L with
      | nil => intro _; simp [wtN, V.wts]
      | cons m L ih =>
        intro hL
        have h1 := ih fun x hx => hL x (List.mem_cons_of_mem _ hx)
        have h2 := hL m List.mem_cons_self
        simp only [List.map_cons, wtN, V.wts, List.length_cons]
        omega
    have := key L hq
    show 1 + (ByteArray.size ⟨#[]⟩) + wtN (L.map Mb.nm) + V.wts (L.map Mb.v) ≤ _
    have h0 : ByteArray.size ⟨#[]⟩ = 0 := rfl
    rw [h0]; omega
theorem recL_ok {r : Rc} (hm : mayH r.hs = true) (hc : r.cu.wt ≤ 1073741824) : 0 < (recL r).length ∧ (recL r).length ≤ 12 ∧ ∀ m ∈ recL r, m.v.wt ≤ 1073741824 := by
  have h1 := hshO_wt hm
  have h2 : (numVv r.ln).wt = 1 := rfl
  unfold recL
  split
  · refine ⟨by simp, by simp, fun m hm => ?_⟩
    simp at hm
    rcases hm with rfl | rfl
    · show (hshO r.hs).wt ≤ _; omega
    · show (numVv r.ln).wt ≤ _; omega
  · refine ⟨by simp, by simp, fun m hm => ?_⟩
    simp at hm
    rcases hm with rfl | rfl | rfl
    · show (hshO r.hs).wt ≤ _; omega
    · show (numVv r.ln).wt ≤ _; omega
    · exact hc
theorem recO_none {r : Rc} (h : noneB r.cu = true) : recO r = V.mk 5 0 ⟨#[]⟩ [sHashes, sLength] [hshO r.hs, numVv r.ln] := by
  unfold recO recL; rw [if_pos h]; kernel_rfl
theorem recO_some {r : Rc} (h : noneB r.cu = false) : recO r = V.mk 5 0 ⟨#[]⟩ [sCustom, sHashes, sLength] [r.cu, hshO r.hs, numVv r.ln] := by
  unfold recO recL; rw [if_neg (by simp [h])]; kernel_rfl
theorem recO_wt {r : Rc} (hm : mayH r.hs = true) (hc : r.cu.wt ≤ 1000000000) : (recO r).wt ≤ 1073741824 := by
  have h1 := hshO_wt hm
  have h2 : (numVv r.ln).wt = 1 := rfl
  cases h : noneB r.cu with
  | true =>
    rw [recO_none h, wt_eq]
    simp only [V.t, V.ns, V.xs, V.wts]
    have : wtN [sHashes, sLength] = 14 := by kernel_rfl
    have h0 : ByteArray.size ⟨#[]⟩ = 0 := rfl
    omega
  | false =>
    rw [recO_some h, wt_eq]
    simp only [V.t, V.ns, V.xs, V.wts]
    have : wtN [sCustom, sHashes, sLength] = 21 := by kernel_rfl
    have h0 : ByteArray.size ⟨#[]⟩ = 0 := rfl
    omega
end Go.Eng
