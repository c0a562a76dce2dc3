/-
  The law AuthBack of package legatelaw15 returns true for every input, and leaves its arguments as they were. No condition beyond the row's own.
-/
import Derived.Test.YtnobijngkpflcaaAb2
import Derived.Shelf.SlSortCmp.InsertionK
import Derived.Lib.Bytealg
namespace Go.Eng
instance : Inhabited Mb := ⟨⟨⟨#[]⟩, V.zero⟩⟩
def cfM (a b : Mb) : Int := Lib.compareBytes a.nm.data.toList b.nm.data.toList
def ltM (a b : Mb) : Bool := decide (cfM a b < 0)
def outerF {α : Type} [Inhabited α] (lt : α → α → Bool) : Nat → Nat → Array α → Array α
  | 0, _, d => d
  | f + 1, i, d => outerF lt f (i + 1) (Sort.insInner lt 0 i d)
def sortMb (L : List Mb) : List Mb := (outerF ltM (L.length - 1) 1 L.toArray).toList
theorem insOuter_eq {α : Type} [Inhabited α] (lt : α → α → Bool) (b : Nat) : ∀ (f i : Nat) (d : Array α), b - i = f → Sort.insOuter lt 0 b i d = outerF lt f i d
  | 0, i, d, h => by rw [Sort.insOuter, if_neg (by omega)]; rfl
  | f + 1, i, d, h => by rw [Sort.insOuter, if_pos (by omega), insOuter_eq lt b f (i + 1) _ (by omega)]; rfl
theorem get!_map {α β : Type} [Inhabited α] [Inhabited β] (g : α → β) (hg : g default = default) (d : Array α) (j : Nat) : (d.map g)[j]! = g d[j]! := by
  by_cases h : j < d.size
  · rw [getElem!_pos _ j (by simpa using h), getElem!_pos d j h]; simp
  · rw [getElem!_neg _ j (by simpa using h), getElem!_neg d j h, hg]
theorem insInner_map {α β : Type} [Inhabited α] [Inhabited β] {lt : α → α → Bool} {lt' : β → β → Bool} (g : α → β) (hg : g default = default) (hl : ∀ x y, lt' (g x) (g y) = lt x y) : ∀ (j : Nat) (d : Array α), (Sort.insInner lt 0 j d).map g = Sort.insInner lt' 0 j (d.map g)
  | 0, d => rfl
  | j + 1, d => by
    rw [Sort.insInner, Sort.insInner, get!_map g hg, get!_map g hg, hl]
    split
    · rw [insInner_map g hg hl j]
      congr 1
      unfold Sort.swp
      rw [get!_map g hg, get!_map g hg]
      simp
    · rfl
theorem outerF_map {α β : Type} [Inhabited α] [Inhabited β] {lt : α → α → Bool} {lt' : β → β → Bool} (g : α → β) (hg : g default = default) (hl : ∀ x y, lt' (g x) (g y) = lt x y) : ∀ (f i : Nat) (d : Array α), (outerF lt f i d).map g = outerF lt' f i (d.map g)
  | 0, _, d => rfl
  | f + 1, i, d => by rw [outerF, outerF, outerF_map g hg hl f, insInner_map g hg hl]
theorem insInner_size {α : Type} [Inhabited α] (lt : α → α → Bool) : ∀ (j : Nat) (d : Array α), (Sort.insInner lt 0 j d).size = d.size
  | 0, d => rfl
  | j + 1, d => by
    rw [Sort.insInner]
    split
    · rw [insInner_size lt j]; simp [Sort.swp]
    · rfl
theorem outerF_size {α : Type} [Inhabited α] (lt : α → α → Bool) : ∀ (f i : Nat) (d : Array α), (outerF lt f i d).size = d.size
  | 0, _, d => rfl
  | f + 1, i, d => by rw [outerF, outerF_size lt f, insInner_size]
theorem sortMb_len (L : List Mb) : (sortMb L).length = L.length := by unfold sortMb; rw [Array.length_toList, outerF_size]; simp
structure MbC (w : World) (X : BSet) where
  enc : List Value
  mb : Mb
  ok : RdC w X mb.d enc
instance (w : World) (X : BSet) : Inhabited (MbC w X) := ⟨⟨[.string ⟨#[]⟩, .int .u8 0, .int .i64 0, .string ⟨#[]⟩, .slice none 0 0, .slice none 0 0], ⟨⟨#[]⟩, V.zero⟩, by simp only [Mb.d, RdC]; exact zMb w X⟩⟩
theorem MbC.len {w : World} {X : BSet} (p : MbC w X) : p.enc.length = 6 := (rdc_width _ _ p.ok).trans (width_Mb _)
theorem MbC.mbd {w : World} {X : BSet} : (default : MbC w X).mb = default := rfl
theorem row_split {w : World} {X : BSet} : ∀ (L : List Mb) (cs : List Value), RowIs w X 6 (L.map Mb.d) cs → ∃ l : List (MbC w X), l.map MbC.mb = L ∧ cs = (l.map MbC.enc).flatten
  | [], cs, h => ⟨[], rfl, by simp only [List.map_nil, RowIs] at h; rw [h]; rfl⟩
  | m :: L, cs, h => by
    simp only [List.map_cons, RowIs] at h
    obtain ⟨c, r, rfl, h1, h2, h3⟩ := h
    obtain ⟨l, e1, e2⟩ := row_split L r h3
    exact ⟨⟨c, m, h2⟩ :: l, by rw [List.map_cons, e1], by rw [e2]; rfl⟩
theorem row_join {w W : World} {X : BSet} (hs : w.heap.size ≤ W.heap.size) (hk : ∀ b, X b w.heap[b]? → b < w.heap.size → W.heap[b]? = w.heap[b]?) : ∀ (l : List (MbC w X)), RowIs W X 6 ((l.map MbC.mb).map Mb.d) (l.map MbC.enc).flatten
  | [] => rfl
  | p :: l => ⟨p.enc, _, rfl, p.len, rdc_move hs (fun b hb hlt => ⟨hk b hb hlt, by rw [hk b hb hlt]; exact hb⟩) _ _ p.ok, row_join hs hk l⟩
theorem flat_at {w : World} {X : BSet} : ∀ (l : List (MbC w X)) (t : Nat), t < l.length * 6 → (l.map MbC.enc).flatten[t]? = some (((l[t / 6]?).getD default).enc[t % 6]!)
  | [], t, h => by simp at h
  | p :: l, t, h => by
    rw [List.map_cons, List.flatten_cons]
    have hp := p.len
    by_cases ht : t < 6
    · rw [List.getElem?_append_left (by omega), Nat.div_eq_of_lt ht, Nat.mod_eq_of_lt ht, getElem!_pos _ t (by simp; omega)]
      simp [List.getElem?_eq_getElem (show t < p.enc.length by omega)]
    · have hd : t / 6 = (t - 6) / 6 + 1 := by omega
      have hm : t % 6 = (t - 6) % 6 := by omega
      rw [List.getElem?_append_right (by omega), hp, hd, hm, flat_at l (t - 6) (by simp at h; omega)]
      simp
theorem flat_len {w : World} {X : BSet} : ∀ (l : List (MbC w X)), (l.map MbC.enc).flatten.length = l.length * 6
  | [] => rfl
  | p :: l => by rw [List.map_cons, List.flatten_cons, List.length_append, p.len, flat_len l, List.length_cons]; omega
theorem flat_eq {w : World} {X : BSet} (l : List (MbC w X)) : (Sort.flatK MbC.enc 6 l.toArray).toList = (l.map MbC.enc).flatten := by
  apply List.ext_getElem?
  intro t
  by_cases h : t < l.length * 6
  · rw [flat_at l t h]
    have h' : t < (Sort.flatK MbC.enc 6 l.toArray).size := by simpa using h
    have := Sort.get_flatK MbC.enc 6 l.toArray t (by simpa using h)
    rw [getElem!_pos _ t h'] at this
    rw [Array.getElem?_toList, Array.getElem?_eq_getElem h', this]
    congr 2
    simp [Array.getElem!_eq_getD, Array.getD_eq_getD_getElem?]
  · rw [List.getElem?_eq_none (by simpa using h), List.getElem?_eq_none (by rw [flat_len]; omega)]
def RetA (W : World) (hd : Option Nat) (φ : Value → World → Prop) : Ending → World → Prop := fun e W' => ∃ v, e = .returned v ∧ Keeps (fun k => k ∉ blks hd) W W' ∧ φ v W'
set_option maxHeartbeats 1000000 in
theorem ins_row {P : Program} {ρ : Shelf.Ren} (Ly : Proofs.SlLaysF0.n20 P ρ) (aE : ∀ w, (isAgg (ρ.t 24)).run P w = .ok true w) (zE : ∀ w, (Go.sizeOf (ρ.t 24)).run P w = .ok 6 w) (f : Nat) (ef : Enters P f)
    (hf : ∀ (a b : ByteArray) (c1 c2 c3 c4 c5 d1 d2 d3 d4 d5 : Value) (W : World), Calls P f #[.agg #[.string a, c1, c2, c3, c4, c5], .agg #[.string b, d1, d2, d3, d4, d5]] W fun e w' => e = .returned (.int .i64 (Lib.compareBytes a.data.toList b.data.toList)) ∧ ∃ q os, w' = Sort.grow (W.drewN q) os)
    (L : List Mb) (hn : 0 < L.length) (h12 : L.length ≤ 12) (w : World) (lo : Nat) (X : BSet) (v : Value) (hd : Option Nat) (hX : ∀ b o, X b o → b ∉ blks hd) {E : TypeId} (hE : E = ρ.t 24) (hA : Arr w lo E 6 X (L.map Mb.d) v hd) :
    Calls P (ρ.f 20) #[v, .int .i64 0, .int .i64 L.length, .func (.func f) #[] #[]] w (RetA w hd fun u W => u = .tuple #[] ∧ Arr W lo E 6 X ((sortMb L).map Mb.d) v hd) := by
  obtain ⟨g, cap, rfl, rfl⟩ := arr_open hA (by simpa using hn)
  have hA' := hA
  obtain ⟨_, cs, hown, hrow⟩ := hA
  obtain ⟨l, hl, rfl⟩ := row_split L cs hrow
  have hll : l.length = L.length := by rw [← hl, List.length_map]
  obtain ⟨hlen, hown⟩ := hown
  rcases hown with ⟨h0, _⟩ | ⟨g', cap', cur, hs, hlo, hg, hnc, hcm, hcs, htake⟩
  · cases h0
  simp at hs
  obtain ⟨rfl, rfl⟩ := hs
  rw [List.length_map] at hnc htake hlen
  have hsz : l.length * 6 ≤ cur.size := by rw [hcs, hll]; exact Nat.mul_le_mul_right _ hnc
  have hblk : g < w.heap.size := (Array.getElem?_eq_some_iff.1 hg).1
  have hH : Sort.HoldsK MbC.enc 6 w g 0 l.toArray := by
    intro j hj
    simp only [Sort.size_flatK, List.size_toArray] at hj
    constructor
    · have h1 := Sort.get_flatK MbC.enc 6 l.toArray j (by simpa using hj)
      have h2 := flat_at l j hj
      rw [← htake, List.getElem?_take, if_pos (by omega), Array.getElem?_toList] at h2
      unfold World.cell?
      rw [hg]
      simp only [Nat.zero_add]
      rw [h2, h1]
      simp [Array.getElem!_eq_getD, Array.getD_eq_getD_getElem?]
    · simp [World.frozen?, hg]
  have hc := Proofs.AnyQ.insertionSortCmpFunc (α := MbC w X) Ly 6 aE zE MbC.enc MbC.len (fun x u hu => by rw [oneC_eq]; exact rdc_one _ _ x.ok u hu) (fun x y => cfM x.mb y.mb) f #[] g 0 cap 0 l.length l.toArray w ef (fun m os dk _ x y => by
      obtain ⟨cx, mx, hx⟩ := x
      obtain ⟨cy, my, hy⟩ := y
      obtain ⟨a1, c1, a2, c2, ex, _⟩ := rdMb_out (⟨cx, hx, rfl⟩ : Rd w X mx.d (asm mx.d cx))
      obtain ⟨a1', c1', a2', c2', ey, _⟩ := rdMb_out (⟨cy, hy, rfl⟩ : Rd w X my.d (asm my.d cy))
      have ex' : Value.agg cx.toArray = _ := ex
      have ey' : Value.agg cy.toArray = _ := ey
      show Calls P f (#[.agg cx.toArray, .agg cy.toArray] ++ #[]) _ _
      rw [ex', ey']
      exact hf _ _ _ _ _ _ _ _ _ _ _ _ _) hH hblk (Nat.zero_le _) (by simp) (by simp only [maxLen] at hcm; simp; omega)
  have he : Sort.insertionSort (Proofs.ltOf fun x y : MbC w X => cfM x.mb y.mb) l.toArray 0 l.length = outerF (Proofs.ltOf fun x y : MbC w X => cfM x.mb y.mb) (L.length - 1) 1 l.toArray := by
    unfold Sort.insertionSort
    exact insOuter_eq _ _ _ _ _ (by omega)
  rw [he] at hc
  obtain ⟨d', hd'⟩ : ∃ d', d' = outerF (Proofs.ltOf fun x y : MbC w X => cfM x.mb y.mb) (L.length - 1) 1 l.toArray := ⟨_, rfl⟩
  rw [← hd'] at hc
  have hds : d'.size = l.length := by rw [hd', outerF_size]; simp
  have hmap : d'.toList.map MbC.mb = sortMb L := by
    have := outerF_map (lt := Proofs.ltOf fun x y : MbC w X => cfM x.mb y.mb) (lt' := ltM) MbC.mb MbC.mbd (fun x y => rfl) (L.length - 1) 1 l.toArray
    rw [← hd'] at this
    have h2 : (d'.map MbC.mb).toList = _ := congrArg Array.toList this
    rw [Array.toList_map] at h2
    rw [h2, sortMb]
    congr 2
    rw [← hl]; simp
  have hcs' : ((#[Value.slice (some ⟨g, 0, none⟩) L.length cap, .int .i64 (0 : Nat), .int .i64 (l.length : Nat), .func (.func f) #[] #[]] : Array Value)) = #[.slice (some ⟨g, 0, none⟩) (L.map Mb.d).length cap, .int .i64 0, .int .i64 L.length, .func (.func f) #[] #[]] := by rw [hll]; simp
  have hc2 := hc
  rw [show l.toArray.size = L.length by simpa using hll] at hc2
  rw [hcs'] at hc2
  refine hc2.mono ?_
  rintro e W ⟨rfl, n, os, rfl⟩
  have hflat : (Sort.flatK MbC.enc 6 d').toList = (d'.toList.map MbC.enc).flatten := by
    have := flat_eq d'.toList
    simpa using this
  have hput : (Proofs.sortWorldK MbC.enc 6 w g 0 n d' os).heap[g]? = some (.cells (Sort.putCells id 0 (Sort.flatK MbC.enc 6 d') cur) E (0, 0)) := by
    unfold Proofs.sortWorldK Sort.putRowK Sort.putRow
    rw [Sort.heap_grow_old _ _ (by simpa [Sort.mapBlock, Sort.ahead] using hblk)]
    simp [Sort.mapBlock, Sort.ahead, Array.getElem?_modify, hg, Sort.onCells]
  have hoth : ∀ k, k < w.heap.size → k ≠ g → (Proofs.sortWorldK MbC.enc 6 w g 0 n d' os).heap[k]? = w.heap[k]? := fun k hk hne => by
    unfold Proofs.sortWorldK Sort.putRowK Sort.putRow
    rw [Sort.heap_grow_old _ _ (by simpa [Sort.mapBlock, Sort.ahead] using hk)]
    simp [Sort.mapBlock, Sort.ahead, Array.getElem?_modify, Ne.symm hne]
  have hsize : w.heap.size ≤ (Proofs.sortWorldK MbC.enc 6 w g 0 n d' os).heap.size := by
    unfold Proofs.sortWorldK
    rw [Sort.size_grow]
    simp [Sort.putRowK, Sort.putRow, Sort.mapBlock, Sort.ahead]
  refine ⟨_, rfl, ⟨rfl, rfl, rfl, hsize, fun k hk hs => hoth k hk (fun e => hs (by simp [blks, e]))⟩, rfl, rfl, (d'.toList.map MbC.enc).flatten, ⟨?_, .inr ⟨g, cap, _, ?_, hlo, hput, ?_, hcm, ?_, ?_⟩⟩, ?_⟩
  · rw [flat_len, List.length_map, sortMb_len]; simp [hds, hll]
  · rw [List.length_map, List.length_map, sortMb_len]
  · rw [List.length_map, sortMb_len]; exact hnc
  · simp [Sort.putCells, hcs]
  · rw [List.length_map, sortMb_len, ← hflat]
    apply List.ext_getElem?
    intro t
    rw [List.getElem?_take]
    split
    · rename_i ht
      have h1 : t < cur.size := by omega
      have h2 : t < (Sort.flatK MbC.enc 6 d').size := by simp [hds]; omega
      simp only [Sort.putCells, Array.getElem?_toList, Array.getElem?_mapIdx, Array.getElem?_eq_getElem h1, Option.map_some, Array.getElem?_eq_getElem h2]
      rw [if_pos ⟨Nat.zero_le _, by omega⟩, Nat.sub_zero, getElem!_pos _ t h2]
      rfl
    · rw [List.getElem?_eq_none]
      simp [hds]; omega
  · rw [← hmap]
    exact row_join hsize (fun b hb hlt => hoth b hlt (fun e => hX b _ hb (by simp [blks, e]))) _
section
variable {P : Program} {ops : Array Oper} {S : Nat → Prop} {w0 : World} {a0 : Act} {Γ : Ctx}
variable {d : Option Tmp} {ty : TypeId} {pos : String} {af : Array Edge} {gd : Option (Nat × Bool)}
variable {K : List Oper → Ctx → (World → Prop) → List Bool → Prop} {l : List Oper} {Ψ Ψ' : World → Prop} {ms : List Bool}
theorem Has.fn {f : FuncId} : Has S w0 a0 Γ (.func f) (Is (.func (.func f) #[] #[])) := fun _ _ _ _ _ _ => rfl
theorem sp_indexStrK {x y : Operand} {T : TypeId} {s : ByteArray} {k : IntKind} {j : Int} {i : Nat} (hT : P.underlying T = some .string) (hx : Has S w0 a0 Γ x (Is (.string s))) (hy : Has S w0 a0 Γ y (Is (.int k j))) (hj : j = i) (hi : i < s.size) :
    Spec P ops S w0 a0 Γ ⟨d, .index T x y, ty, pos, af, gd⟩ (Is (.int .u8 ((s[i]'hi).toNat : Nat))) := sp_val fun a g W hk hg he => by
  have e1 : a.eval x = .string s := hx.of_env hk hg he (by simp [Op.operands])
  have e2 : a.eval y = .int k j := hy.of_env hk hg he (by simp [Op.operands])
  subst hj
  have hs : s[(i : Int).toNat]? = some (s[i]'hi) := by simp [hi]
  have h0 : (0 : Int) ≤ (i : Int) := by omega
  simp [execOp, e1, e2, Instr.index, asIntOf, run_und hT, h0, hi]
theorem u8i64 (x : UInt8) : IntKind.i64.wrap ((x.toNat : Nat) : Int) = ((x.toNat : Nat) : Int) := i64_in (by have := UInt8.toNat_lt x; omega)
end
end Go.Eng
namespace Go.Eng
theorem Arr.lo {W : World} {lo lo' : Nat} {e : TypeId} {sz : Nat} {X : BSet} {ds : List D} {v : Value} {hd : Option Nat} (h : Arr W lo e sz X ds v hd) (hl : lo' ≤ lo) : Arr W lo' e sz X ds v hd := by
  obtain ⟨h1, cs, ⟨h2, h3⟩, h4⟩ := h
  exact ⟨h1, cs, ⟨h2, h3.imp id fun ⟨g, cap, cur, a, b, c⟩ => ⟨g, cap, cur, a, Nat.le_trans hl b, c⟩⟩, h4⟩
section
variable {S0 S1 : Nat → Prop} {w w0 W W' : World} {S : BSet} {M : List Nat} {g : Gh} {e : TypeId} {sz : Nat} {ds : List D} {u : Value}
theorem arr_arA (kw : Keeps S0 w w0) (hM : ∀ b ∈ M, b < w0.heap.size) (hk : Keeps S1 w0 W) (h : ∃ hd, Arr W' W.heap.size e sz (fun b o => Ar W (fun b o => SA w S M b o ∧ Out g b) b o ∧ b ∉ blks hd) ds u hd) : IsArr w0 w.heap.size e sz (SA w S M) ds none g u W' := by
  obtain ⟨hd, h⟩ := h
  refine ⟨hd, (h.lo (Nat.le_trans kw.size hk.size)).mono fun b o hb hlt => ⟨?_, hb.2⟩, fun b hb => .inr (Nat.le_trans hk.size (h.ge b hb))⟩
  by_cases hb' : b < W.heap.size
  · exact (hb.1.1 hb').1
  · have h1 := kw.size
    have h2 := hk.size
    exact ⟨fun h => by omega, fun _ => hb.1.2 (by omega), fun hm => by have := hM b hm; omega⟩
theorem arr_sa_ar {hd : Option Nat} {v : Value} (h : Arr W w.heap.size e sz (SA w S (blks hd ++ [])) ds v hd) : ∃ hd, Arr W w.heap.size e sz (fun b o => Ar w S b o ∧ b ∉ blks hd) ds v hd :=
  ⟨hd, h.mono fun b o hb _ => ⟨⟨hb.1, hb.2.1⟩, fun hm => hb.2.2 (by simpa using hm)⟩⟩
end
def adj : List Mb → Bool
  | a :: b :: r => decide (a.nm = b.nm) || adj (b :: r)
  | _ => false
theorem adj_true : ∀ (L : List Mb) (i : Nat) (h : i + 1 < L.length), L[i].nm = L[i + 1].nm → adj L = true
  | [], i, h, _ => by simp at h
  | [a], i, h, _ => by simp at h
  | a :: b :: r, 0, _, he => by simp at he; simp [adj, he]
  | a :: b :: r, i + 1, h, he => by
    have := adj_true (b :: r) i (by simpa using h) (by simpa using he)
    simp [adj, this]
theorem adj_false : ∀ (L : List Mb), (∀ i (h : i + 1 < L.length), L[i].nm ≠ L[i + 1].nm) → adj L = false
  | [], _ => rfl
  | [a], _ => rfl
  | a :: b :: r, h => by
    have h0 := h 0 (by simp)
    have := adj_false (b :: r) fun i hi => h (i + 1) (by simpa using hi)
    simp at h0
    simp [adj, h0, this]
def objE (L : List Mb) : Int := if adj (sortMb L) then 7 else 0
def objM (L : List Mb) : V := if adj (sortMb L) then ⟨0, 0, ⟨#[]⟩, [], []⟩ else ⟨5, 0, ⟨#[]⟩, (sortMb L).map Mb.nm, (sortMb L).map Mb.v⟩
theorem all_set {α : Type} {p : α → Prop} (d : Array α) (i : Nat) (x : α) (h : ∀ y ∈ d, p y) (hx : p x) : ∀ y ∈ d.setIfInBounds i x, p y := fun y hy => by
  rw [← Array.mem_toList_iff, Array.toList_setIfInBounds] at hy
  rcases List.mem_or_eq_of_mem_set hy with h1 | h1
  · exact h y (by rwa [Array.mem_toList_iff] at h1)
  · exact h1 ▸ hx
theorem insInner_all {α : Type} [Inhabited α] {p : α → Prop} (lt : α → α → Bool) : ∀ (j : Nat) (d : Array α), j < d.size → (∀ y ∈ d, p y) → ∀ y ∈ Sort.insInner lt 0 j d, p y
  | 0, d, _, h => h
  | j + 1, d, hj, h => by
    rw [Sort.insInner]
    split
    · refine insInner_all lt j _ (by simp [Sort.swp]; omega) ?_
      have g : ∀ i, i < d.size → p d[i]! := fun i hi => by rw [getElem!_pos d i hi]; exact h _ (Array.getElem_mem hi)
      exact all_set _ _ _ (all_set _ _ _ h (g j (by omega))) (g (j + 1) hj)
    · exact h
theorem outerF_all {α : Type} [Inhabited α] {p : α → Prop} (lt : α → α → Bool) : ∀ (f i : Nat) (d : Array α), i + f ≤ d.size → (∀ y ∈ d, p y) → ∀ y ∈ outerF lt f i d, p y
  | 0, _, d, _, h => h
  | f + 1, i, d, hi, h => by
    rw [outerF]
    exact outerF_all lt f (i + 1) _ (by rw [insInner_size]; omega) (insInner_all lt i d (by omega) h)
theorem sortMb_all {p : Mb → Prop} (L : List Mb) (h : ∀ m ∈ L, p m) : ∀ m ∈ sortMb L, p m := by
  cases L with
  | nil => intro m hm; simp [sortMb, outerF] at hm
  | cons x xs =>
    intro m hm
    unfold sortMb at hm
    rw [Array.mem_toList_iff] at hm
    exact outerF_all ltM _ _ _ (by simp; omega) (fun y hy => h y (by simpa using hy)) m hm
end Go.Eng
namespace Go.Eng
def numVv (n : Int) : V := V.mk 2 n ⟨#[]⟩ [] []
end Go.Eng
namespace Go.Eng
def kiN : ByteArray := ⟨#[107, 101, 121, 105, 100, 115]⟩
def thN : ByteArray := ⟨#[116, 104, 114, 101, 115, 104, 111, 108, 100]⟩
def authL (a : Au) : List Mb := [⟨kiN, txtsV a.ids⟩, ⟨thN, numVv a.th⟩]
def valE (a : Au) : Int := if mayA a then 0 else 3
def valV (a : Au) : V := if mayA a then objV a.th a.ids else ⟨0, 0, ⟨#[]⟩, [], []⟩
theorem authL_M (a : Au) : objM (authL a) = objV a.th a.ids := by kernel_rfl
theorem authL_E (a : Au) : objE (authL a) = 0 := by kernel_rfl
theorem hex_wr {s : ByteArray} (hs : s.size ≤ 4096) (h : hexIs s = true) : wr s = true := by
  unfold wr utfOk
  rw [utf_ascii s (fun p hp => by
    have := (hexIs_iff s).1 h p hp
    simp [hexB] at this
    omega)]
  simp [hs]
theorem wrongE_dig : ∀ (ids seen : List ByteArray), wrongE seen ids = 0 → ∀ s ∈ ids, digB s = true
  | [], _, _, s, hs => by simp at hs
  | a :: r, seen, h, s, hs => by
    rw [wrongE] at h
    split at h
    · cases h
    · rename_i hd
      split at h
      · cases h
      · rcases List.mem_cons.1 hs with rfl | hs
        · simpa using hd
        · exact wrongE_dig r _ h s hs
theorem mayA_out {a : Au} (h : mayA a = true) : 1 ≤ a.ids.length ∧ a.ids.length ≤ 16 ∧ 1 ≤ a.th ∧ a.th ≤ a.ids.length ∧ wrongE [] a.ids = 0 := by
  unfold mayA at h
  split at h
  · cases h
  · rename_i hn
    refine ⟨by omega, by omega, by omega, by omega, by simpa using h⟩
theorem mayL_txt : ∀ (ids : List ByteArray) (n : Nat) (left : Int), (∀ s ∈ ids, wr s = true) → (ids.length : Int) ≤ left → mayL (ids.map txtV) n left = (true, left - ids.length)
  | [], _, left, _, _ => by simp [mayL]
  | s :: r, n, left, hw, hl => by
    have hp : properB (txtV s) = true := by
      simp [txtV, properB, V.k, V.n, V.t, V.ns, V.xs, hw s List.mem_cons_self]
    have hv : mayV (txtV s) n left = (true, left - 1) := by
      rw [mayV_eq, if_neg (by rw [hp]; simp only [List.length_cons] at hl; push_cast at hl; simp; omega), if_pos (by show (3 : Nat) ≠ 4 ∧ (3 : Nat) ≠ 5; decide)]
    rw [List.map_cons, mayL, hv, if_neg (by simp), mayL_txt r n (left - 1) (fun x hx => hw x (List.mem_cons_of_mem _ hx)) (by simp only [List.length_cons] at hl; push_cast at hl; omega)]
    simp only [List.length_cons]
    push_cast
    congr 1
    omega
theorem mayB_obj {a : Au} (h : mayA a = true) : mayB (objV a.th a.ids) = true := by
  obtain ⟨h1, h2, h3, h4, h5⟩ := mayA_out h
  have hw : ∀ s ∈ a.ids, wr s = true := fun s hs => by
    have := wrongE_dig a.ids [] h5 s hs
    simp [digB] at this
    exact hex_wr (by omega) this.2
  have hp : properB (objV a.th a.ids) = true := by kernel_rfl
  have hp2 : properB (txtsV a.ids) = true := by kernel_rfl
  have hp3 : properB (V.mk 2 a.th ⟨#[]⟩ [] []) = true := by kernel_rfl
  have e1 : (objV a.th a.ids).xs = [txtsV a.ids, V.mk 2 a.th ⟨#[]⟩ [] []] := rfl
  have e2 : (txtsV a.ids).xs = a.ids.map txtV := rfl
  unfold mayB
  rw [mayV_eq, if_neg (by rw [hp]; simp), if_neg (by show ¬ ((5 : Nat) ≠ 4 ∧ (5 : Nat) ≠ 5); decide), if_neg (by decide), e1, mayL]
  have hv : mayV (txtsV a.ids) 11 8191 = (true, (8190 : Int) - (a.ids.length : Int)) := by
    rw [mayV_eq, if_neg (by rw [hp2]; simp), if_neg (by show ¬ ((4 : Nat) ≠ 4 ∧ (4 : Nat) ≠ 5); decide), if_neg (by decide), e2, mayL_txt _ _ _ hw (by omega)]
    rfl
  rw [show (12 - 1 : Nat) = 11 from rfl, show (8192 - 1 : Int) = 8191 from rfl, hv, if_neg (by simp), mayL]
  have hv2 : (mayV (V.mk 2 a.th ⟨#[]⟩ [] []) 11 ((8190 : Int) - (a.ids.length : Int))).1 = true := by
    rw [mayV_eq, if_neg (by rw [hp3]; simp; omega), if_pos (by show (2 : Nat) ≠ 4 ∧ (2 : Nat) ≠ 5; decide)]
  rw [if_neg (by simp [hv2]), mayL]
theorem allT_txt (ids : List ByteArray) : allT (ids.map txtV) = true := by
  unfold allT; rw [List.all_eq_true]; intro x hx; obtain ⟨s, _, rfl⟩ := List.mem_map.1 hx; rfl
theorem map_t (ids : List ByteArray) : (ids.map txtV).map V.t = ids := by rw [List.map_map]; exact List.map_id _
theorem back {a : Au} (h : mayA a = true) : ofAE (objV a.th a.ids) = 0 ∧ ofAV (objV a.th a.ids) = a := by
  obtain ⟨h1, h2, h3, h4, h5⟩ := mayA_out h
  obtain ⟨x, hx⟩ : ∃ x, x = objV a.th a.ids := ⟨_, rfl⟩
  have hm : mayB x = true := by rw [hx]; exact mayB_obj h
  have hk : x.k = 5 := by rw [hx]; rfl
  have hof : ofE x = 0 := by rw [hx]; kernel_rfl
  have g1 : getV x kiN = txtsV a.ids := by rw [hx]; kernel_rfl
  have g2 : getB x kiN = true := by rw [hx]; kernel_rfl
  have g3 : getV x thN = numVv a.th := by rw [hx]; kernel_rfl
  have g4 : getB x thN = true := by rw [hx]; kernel_rfl
  have ee : errK x.k 0 = 0 := by rw [hk]; rfl
  have t1 : itemsE (txtsV a.ids) 16 = 0 := by
    rw [itemsE, if_neg (by show ¬ (4 : Nat) ≠ 4; decide), if_neg]
    show ¬ (16 : Int) < ((a.ids.map txtV).length : Int)
    simp; omega
  have t2 : textsE 16 (txtsV a.ids) = 0 := by rw [textsE, if_neg (by simp [t1]), if_pos (show allT (txtsV a.ids).xs = true from allT_txt a.ids)]
  have t3 : textsL 16 (txtsV a.ids) = a.ids := by rw [textsL, if_pos t2]; exact map_t a.ids
  have n1 : numE 1 a.ids.length (numVv a.th) = 0 := by
    rw [numE, if_neg (by show ¬ (2 : Nat) ≠ 2; decide), if_neg (by show ¬ (a.th < 1 ∨ (a.ids.length : Int) < a.th); omega)]
  have n2 : numV 1 a.ids.length (numVv a.th) = a.th := by rw [numV, if_pos n1]; rfl
  have b1 : tkB x 0 kiN (textsE 16) = true := by simp [tkB, ee, g2, g1, t2]
  have i1 : idsP x 0 = a.ids := by show (if tkB x 0 kiN (textsE 16) then textsL 16 (getV x kiN) else []) = _; rw [if_pos b1, g1, t3]
  have e1 : e1P x 0 = 0 := by show tkE x 0 kiN (textsE 16) = 0; rw [tkE, if_neg (by simp [ee]), if_neg (by simp [g2]), g1, t2]
  have e2 : e2P x 0 = 0 := by rw [e2P, i1, if_neg (by omega), e1]
  have e3 : e3P x 0 = 0 := by rw [e3P, e2, i1, h5, failK, if_pos ee]
  have b2 : tkB x 0 thN (numE 1 a.ids.length) = true := by simp [tkB, ee, g4, g3, n1]
  have p1 : partE x 0 = 0 := by show tkE x (e3P x 0) thN (numE 1 (idsP x 0).length) = 0; rw [e3, i1, tkE, if_neg (by simp [ee]), if_neg (by simp [g4]), g3, n1]
  have p2 : thP x 0 = a.th := by show (if tkB x (e3P x 0) thN (numE 1 (idsP x 0).length) then numV 1 (idsP x 0).length (getV x thN) else 0) = _; rw [e3, i1, if_pos b2, g3, n2]
  have p3 : partA x 0 = a := by rw [partA, p1, if_neg (by simp [ee]), p2, i1]
  have m1 : partM x [] 0 = [(kiN, 1), (thN, 1)] := by
    show tkA x (tkA x [] 0 kiN (textsE 16)) (e3P x 0) thN (numE 1 (idsP x 0).length) = _
    rw [e3, i1, tkA, if_pos b2, tkA, if_pos b1]
    kernel_rfl
  have d1 : doneE x (partM x [] 0) (partE x 0) = 0 := by
    rw [p1, m1, doneE, if_neg (by simp [ee]), if_pos]
    rw [hx]; kernel_rfl
  have r1 : ofAE x = 0 := by rw [ofAE, if_neg (by simp [hm]), if_neg (by simp [hof]), d1]
  rw [← hx]
  exact ⟨r1, by rw [ofAV, if_pos r1, p3]⟩
theorem txts_wt : ∀ (ids : List ByteArray), (∀ s ∈ ids, s.size ≤ 64) → V.wts (ids.map txtV) ≤ 65 * ids.length
  | [], _ => by simp [V.wts]
  | s :: r, h => by
    have h1 := txts_wt r fun x hx => h x (List.mem_cons_of_mem _ hx)
    have h2 := h s List.mem_cons_self
    have h3 : (txtV s).wt = 1 + s.size := by rw [wt_eq]; simp [txtV, V.t, V.ns, V.xs, wtN, V.wts]
    simp only [List.map_cons, V.wts, List.length_cons, h3]
    omega
theorem txtsV_wt {a : Au} (h : mayA a = true) : (txtsV a.ids).wt ≤ 2000 := by
  obtain ⟨h1, h2, h3, h4, h5⟩ := mayA_out h
  have hw := txts_wt a.ids fun s hs => by
    have := wrongE_dig a.ids [] h5 s hs
    simp [digB] at this
    omega
  rw [wt_eq]
  show 1 + (ByteArray.size ⟨#[]⟩) + wtN [] + V.wts (a.ids.map txtV) ≤ 2000
  have h0 : ByteArray.size ⟨#[]⟩ = 0 := rfl
  have h6 : wtN [] = 0 := rfl
  omega
theorem authL_wt {a : Au} (h : mayA a = true) : ∀ m ∈ authL a, m.v.wt ≤ 1073741824 := fun m hm => by
  have h1 := txtsV_wt h
  simp [authL] at hm
  rcases hm with rfl | rfl
  · show (txtsV a.ids).wt ≤ _; omega
  · have : (numVv a.th).wt = 1 := rfl
    show (numVv a.th).wt ≤ _; omega
theorem objV_wt {a : Au} (h : mayA a = true) : (objV a.th a.ids).wt ≤ 1073741824 := by
  have h1 := txtsV_wt h
  rw [wt_eq]
  have h2 : wtN (objV a.th a.ids).ns ≤ 100 := by
    have : wtN (objV a.th a.ids).ns = 17 := by kernel_rfl
    omega
  have h3 : V.wts (objV a.th a.ids).xs = (txtsV a.ids).wt + ((V.mk 2 a.th ⟨#[]⟩ [] []).wt + 0) := rfl
  have h4 : (V.mk 2 a.th ⟨#[]⟩ [] []).wt = 1 := rfl
  have h5 : (objV a.th a.ids).t.size = 0 := rfl
  omega
end Go.Eng
namespace Go.Eng
structure Cp (x y : V) : Prop where
  k : y.k = x.k
  n : y.n = x.n
  t : y.t = x.t
  ns : y.ns = x.ns
  len : y.xs.length = x.xs.length
  at' : ∀ i (h : i < x.xs.length) (h2 : i < y.xs.length), y.xs[i] = x.xs[i] ∨ y.xs[i] = V.zero
theorem Cp.refl (x : V) : Cp x x := ⟨rfl, rfl, rfl, rfl, rfl, fun _ _ _ => .inl rfl⟩
theorem cp_wts : ∀ (a b : List V), b.length = a.length → (∀ i (h : i < a.length) (h2 : i < b.length), b[i] = a[i] ∨ b[i] = V.zero) → V.wts b ≤ V.wts a
  | [], [], _, _ => Nat.le_refl _
  | [], _ :: _, h, _ => by simp at h
  | _ :: _, [], h, _ => by simp at h
  | x :: a, y :: b, h, hi => by
    have h1 := cp_wts a b (by simpa using h) fun i h1 h2 => hi (i + 1) (by simpa using h1) (by simpa using h2)
    have h2 : y.wt ≤ x.wt := by
      rcases hi 0 (by simp) (by simp) with h3 | h3
      · have h3 : y = x := h3
        rw [h3]; exact Nat.le_refl _
      · have h3 : y = V.zero := h3
        rw [h3]; exact wt_pos x
    simp only [V.wts]; omega
theorem Cp.wt {x y : V} (h : Cp x y) : y.wt ≤ x.wt := by
  have h1 := cp_wts x.xs y.xs h.len h.at'
  have h2 := wt_eq x
  have h3 := wt_eq y
  rw [h.t, h.ns] at h3
  omega
theorem mayV_proper {x : V} {n : Nat} {l : Int} (h : (mayV x n l).1 = true) : properB x = true := by
  rw [mayV_eq] at h
  split at h
  · cases h
  · rename_i hp
    cases hq : properB x with
    | true => rfl
    | false => exact absurd (.inr hq) hp
theorem mayL_in : ∀ (xs : List V) (n : Nat) (l : Int), (mayL xs n l).1 = true → ∀ x ∈ xs, ∃ l', (mayV x n l').1 = true
  | [], _, _, _, x, hx => by cases hx
  | y :: ys, n, l, h, x, hx => by
    rw [mayL] at h
    split at h
    · cases h
    · rename_i hy
      rcases List.mem_cons.1 hx with rfl | hx
      · exact ⟨l, by simpa using hy⟩
      · exact mayL_in ys n _ h x hx
theorem mayV_sub {x : V} {n : Nat} {l : Int} (h : (mayV x n l).1 = true) (hk : x.k = 4 ∨ x.k = 5) : ∀ z ∈ x.xs, ∃ n' l', (mayV z n' l').1 = true := by
  rw [mayV_eq] at h
  split at h
  · cases h
  · rw [if_neg (by omega)] at h
    split at h
    · cases h
    · exact fun z hz => let ⟨l', h'⟩ := mayL_in _ _ _ h z hz; ⟨_, l', h'⟩
theorem proper_num {x : V} (h : properB x = true) (hk : x.k = 2) : x = V.mk 2 x.n ⟨#[]⟩ [] [] := by
  simp [properB, hk] at h
  exact V.ext hk rfl h.1 h.2.1 h.2.2
theorem proper_txt {x : V} (h : properB x = true) (hk : x.k = 3) : x = txtV x.t := by
  simp [properB, hk] at h
  exact V.ext hk h.1 rfl h.2.1.1 h.2.1.2
theorem proper_lst {x : V} (h : properB x = true) (hk : x.k = 4) : x = V.mk 4 0 ⟨#[]⟩ [] x.xs := by
  simp [properB, hk] at h
  exact V.ext hk h.1.1 h.1.2 h.2 rfl
theorem proper_obj {x : V} (h : properB x = true) (hk : x.k = 5) : x = V.mk 5 0 ⟨#[]⟩ x.ns x.xs := by
  simp [properB, hk] at h
  exact V.ext hk h.1.1 h.1.2 rfl rfl
theorem tkE_zero {x : V} {e : Int} {name : ByteArray} {ce : V → Int} (hk : x.k = 5) (h : tkE x e name ce = 0) : e = 0 ∧ getB x name = true ∧ ce (getV x name) = 0 ∧ tkB x e name ce = true := by
  unfold tkE at h
  have he : errK x.k e = e := by rw [errK, if_neg (by simp [hk])]
  rw [he] at h
  split at h
  · rename_i h1; exact absurd h h1
  · rename_i h1
    split at h
    · cases h
    · rename_i h2
      have h1' : e = 0 := by simpa using h1
      have h2' : getB x name = true := by simpa using h2
      subst h1'
      exact ⟨rfl, h2', h, by simp [tkB, he, h2', h]⟩
theorem mget_tkA {x : V} {A : As} {e : Int} {name s : ByteArray} {ce : V → Int} (h : mget (tkA x A e name ce) s ≠ 0) : s = name ∨ mget A s ≠ 0 := by
  unfold tkA at h
  split at h
  · rw [mget_set] at h
    split at h
    · rename_i hs; first | exact .inl hs | exact .inl hs.symm
    · exact .inr h
  · exact .inr h
theorem getB_mem {x : V} {name : ByteArray} (h : getB x name = true) : name ∈ x.ns := by
  unfold getB at h
  split at h
  · cases h
  · split at h
    · cases h
    · rename_i h2
      have h3 : findB x.ns name = true := by
        cases hq : findB x.ns name with
        | true => rfl
        | false => exact absurd (.inl hq) h2
      obtain ⟨i, _, h4⟩ := find_at h3
      exact List.mem_of_getElem? h4
theorem ofA_in {y : V} (hd : doneE y (partM y [] 0) (partE y 0) = 0) : y.k = 5 ∧ kiN ∈ y.ns ∧ thN ∈ y.ns ∧ textsE 16 (getV y kiN) = 0 ∧ 0 < (textsL 16 (getV y kiN)).length ∧ wrongE [] (textsL 16 (getV y kiN)) = 0 ∧
    numE 1 (textsL 16 (getV y kiN)).length (getV y thN) = 0 ∧ partA y 0 = ⟨(getV y thN).n, textsL 16 (getV y kiN)⟩ ∧ ∀ s ∈ y.ns, s = kiN ∨ s = thN := by
  unfold doneE at hd
  split at hd
  · rename_i h1; exact absurd hd h1
  · rename_i h1
    split at hd
    · rename_i hall
      obtain ⟨hp, hk⟩ := errK_zero (by simpa using h1 : errK y.k (partE y 0) = 0)
      have hek : ∀ e, errK y.k e = e := fun e => by rw [errK, if_neg (by simp [hk])]
      have hfk : ∀ e f, failK y.k e f = if e = 0 then f else e := fun e f => by rw [failK, hek]
      obtain ⟨q3, qb, qn, qt⟩ := tkE_zero hk (show tkE y (e3P y 0) thN (numE 1 (idsP y 0).length) = 0 from hp)
      have q3' := q3
      rw [e3P, hfk] at q3'
      split at q3'
      · rename_i q2
        have q2' := q2
        rw [e2P] at q2'
        split at q2'
        · rename_i hl
          rw [hfk] at q2'
          split at q2'
          · cases q2'
          · rename_i hne; exact absurd q2' hne
        · rename_i hl
          obtain ⟨-, kb, kn, kt⟩ := tkE_zero hk (show tkE y 0 kiN (textsE 16) = 0 from q2')
          have hids : idsP y 0 = textsL 16 (getV y kiN) := by show (if tkB y 0 kiN (textsE 16) then textsL 16 (getV y kiN) else []) = _; rw [if_pos kt]
          have hth : thP y 0 = (getV y thN).n := by
            show (if tkB y (e3P y 0) thN (numE 1 (idsP y 0).length) then numV 1 (idsP y 0).length (getV y thN) else 0) = _
            rw [if_pos qt, numV, if_pos qn]
          rw [hids] at q3' hl qn
          refine ⟨hk, getB_mem kb, getB_mem qb, kn, by omega, q3', qn, ?_, fun s hs => ?_⟩
          · rw [partA, if_neg (by simpa using h1), hth, hids]
          · have hne : mget (partM y [] 0) s ≠ 0 := by simpa using List.all_eq_true.1 hall s hs
            rcases mget_tkA (show mget (tkA y (tkA y [] 0 kiN (textsE 16)) (e3P y 0) thN (numE 1 (idsP y 0).length)) s ≠ 0 from hne) with h2 | h2
            · exact .inr h2
            · rcases mget_tkA h2 with h3 | h3
              · exact .inl h3
              · exact absurd rfl h3
      · rename_i hne; exact absurd q3' hne
    · cases hd
theorem ki_th : sLt kiN thN = true := by kernel_rfl
theorem th_ki : sLt thN kiN = false := by kernel_rfl
theorem ki_ne : kiN ≠ thN := fun h => by have := ki_th; rw [h, sLt_irrefl] at this; cases this
theorem asc_two : ∀ {ns : List ByteArray}, asc ns = true → (∀ s ∈ ns, s = kiN ∨ s = thN) → kiN ∈ ns → thN ∈ ns → ns = [kiN, thN]
  | [], _, _, h1, _ => by cases h1
  | [a], _, _, h1, h2 => by
    simp only [List.mem_singleton] at h1 h2
    exact absurd (h1.trans h2.symm) ki_ne
  | a :: b :: r, ha, hm, _, _ => by
    have h1 := (asc_iff _).1 ha 0 (by simp)
    have h1 : sLt a b = true := h1
    rcases hm a (by simp) with rfl | rfl
    · rcases hm b (by simp) with rfl | rfl
      · rw [sLt_irrefl] at h1; cases h1
      · cases r with
        | nil => rfl
        | cons c r =>
          have h2 := (asc_iff _).1 ha 1 (by simp)
          have h2 : sLt thN c = true := h2
          rcases hm c (by simp) with rfl | rfl
          · rw [th_ki] at h2; cases h2
          · rw [sLt_irrefl] at h2; cases h2
    · rcases hm b (by simp) with rfl | rfl
      · rw [th_ki] at h1; cases h1
      · rw [sLt_irrefl] at h1; cases h1
theorem list_two {α : Type} {l : List α} (h : l.length = 2) : ∃ p q, l = [p, q] := by
  match l, h with
  | [p, q], _ => exact ⟨p, q, rfl⟩
theorem proper_asc {x : V} (h : properB x = true) (hk : x.k = 5) : asc x.ns = true ∧ x.ns.length = x.xs.length := by
  simp [properB, hk] at h
  first | exact ⟨h.2.1.2, h.2.1.1⟩ | exact ⟨h.2.2.1, h.2.1⟩
theorem backV {x y : V} (hm : mayB x = true) (hc : Cp x y) (hd : doneE y (partM y [] 0) (partE y 0) = 0) : mayA (partA y 0) = true ∧ valV (partA y 0) = x := by
  obtain ⟨hk, m1, m2, ht, hl, hw, hn, hp, hall⟩ := ofA_in hd
  have hkx : x.k = 5 := by rw [← hc.k]; exact hk
  have hpx := mayV_proper hm
  obtain ⟨ha, hle⟩ := proper_asc hpx hkx
  rw [hc.ns] at m1 m2 hall
  have hns := asc_two ha hall m1 m2
  have hl2 : x.xs.length = 2 := by rw [← hle, hns]; rfl
  obtain ⟨p, q, hpq⟩ := list_two hl2
  obtain ⟨p', q', hpq'⟩ := list_two (hc.len.trans hl2)
  have hy : y = V.mk 5 y.n y.t [kiN, thN] [p', q'] := V.ext hk rfl rfl (hc.ns.trans hns) hpq'
  have g1 : getV y kiN = p' := by rw [hy]; kernel_rfl
  have g2 : getV y thN = q' := by rw [hy]; kernel_rfl
  rw [g1] at ht hl hw hn hp
  rw [g2] at hn hp
  -- the items that were asked for are there
  have i1 : itemsE p' 16 = 0 := by
    unfold textsE at ht
    split at ht
    · rename_i h1; exact absurd ht h1
    · rename_i h1; simpa using h1
  have i2 : allT p'.xs = true := by
    unfold textsE at ht
    rw [if_neg (by simp [i1])] at ht
    split at ht
    · assumption
    · cases ht
  have k1 : p'.k = 4 := by
    unfold itemsE at i1
    split at i1
    · cases i1
    · rename_i h1; simpa using h1
  have l1 : ¬ (16 : Int) < p'.xs.length := by
    unfold itemsE at i1
    rw [if_neg (by simp [k1])] at i1
    split at i1
    · cases i1
    · assumption
  have k2 : q'.k = 2 := by
    unfold numE at hn
    split at hn
    · cases hn
    · rename_i h1; simpa using h1
  have l2 : ¬ (q'.n < 1 ∨ ((textsL 16 p').length : Int) < q'.n) := by
    unfold numE at hn
    rw [if_neg (by simp [k2])] at hn
    split at hn
    · cases hn
    · assumption
  have e1 : p' = p := by
    have h1 := hc.at' 0 (by omega) (by rw [hc.len]; omega)
    simp only [hpq, hpq', List.getElem_cons_zero] at h1
    rcases h1 with h1 | h1
    · exact h1
    · rw [h1] at k1; cases k1
  have e2 : q' = q := by
    have h1 := hc.at' 1 (by omega) (by rw [hc.len]; omega)
    simp only [hpq, hpq', List.getElem_cons_succ, List.getElem_cons_zero] at h1
    rcases h1 with h1 | h1
    · exact h1
    · rw [h1] at k2; cases k2
  subst e1; subst e2
  have mp := mayV_sub hm (.inr hkx) p' (by rw [hpq]; simp)
  have mq := mayV_sub hm (.inr hkx) q' (by rw [hpq]; simp)
  obtain ⟨n1, l1', mp⟩ := mp
  obtain ⟨n2, l2', mq⟩ := mq
  have t1 : textsL 16 p' = p'.xs.map V.t := by rw [textsL, if_pos ht]
  rw [t1] at hl hw hp l2
  have hlen : (p'.xs.map V.t).length = p'.xs.length := by simp
  have hma : mayA ⟨q'.n, p'.xs.map V.t⟩ = true := by
    rw [mayA, if_neg (by simp only [hlen] at *; omega)]
    exact decide_eq_true hw
  rw [hp]
  refine ⟨hma, ?_⟩
  rw [valV, hma]
  have hxs : (p'.xs.map V.t).map txtV = p'.xs := by
    rw [List.map_map]
    conv => rhs; rw [← List.map_id p'.xs]
    apply List.map_congr_left
    intro z hz
    obtain ⟨n3, l3, mz⟩ := mayV_sub mp (.inl k1) z hz
    have hz3 : z.k = 3 := by simpa using List.all_eq_true.1 i2 z hz
    exact (proper_txt (mayV_proper mz) hz3).symm
  have hpe : txtsV (p'.xs.map V.t) = p' := by rw [txtsV, hxs]; exact (proper_lst (mayV_proper mp) k1).symm
  have hqe : V.mk 2 q'.n ⟨#[]⟩ [] [] = q' := (proper_num (mayV_proper mq) k2).symm
  have hxe := proper_obj hpx hkx
  rw [hns, hpq] at hxe
  show V.mk 5 0 ⟨#[]⟩ [kiN, thN] [txtsV (p'.xs.map V.t), V.mk 2 q'.n ⟨#[]⟩ [] []] = x
  rw [hpe, hqe]; exact hxe.symm
def ofAE2 (x y : V) : Int := if mayB x = false then 3 else if ofE x ≠ 0 then ofE x else doneE y (partM y [] 0) (partE y 0)
def ofAV2 (x y : V) : Au := if ofAE2 x y = 0 then partA y 0 else ⟨0, []⟩
theorem back2 {x y : V} (hc : Cp x y) (h : ofAE2 x y = 0) : mayA (ofAV2 x y) = true ∧ valV (ofAV2 x y) = x := by
  have h0 := h
  unfold ofAE2 at h
  split at h
  · cases h
  · rename_i hm
    split at h
    · rename_i ho; exact absurd h ho
    · rw [ofAV2, if_pos h0]
      exact backV (by simpa using hm) hc h
end Go.Eng
namespace Go.Eng
theorem pin_sa {u w : World} {S : BSet} {M : List Nat} (hp : Pin u S) (hu : u.heap.size ≤ w.heap.size) : Pin u (SA w S M) := fun b o h hlt => hp b o (h.1 (by omega)) hlt
theorem rd_argQ {w : World} {S : BSet} {M : List Nat} {d : D} {v : Value} (h : Rd w S d v) (hM : ∀ b ∈ M, w.heap.size ≤ b) : Rd w (SA w S M) d v :=
  h.mono fun b o hb hlt => ⟨fun _ => hb, fun h' => by omega, fun hm => by have := hM b hm; omega⟩
theorem rdV_xs {W : World} {S : BSet} {x : V} {c0 c1 c2 c3 c4 : Value} (h : Rd W S x.d (.agg #[c0, c1, c2, c3, c4])) : Rd W S (valsD x.xs) c4 := by
  obtain ⟨_, _, _, _, e, _, _, h4⟩ := rdV_out h
  injection e with e
  have := congrArg Array.toList e
  simp at this
  rw [this.2.2.2.2]; exact h4
def AVv (u : World) (v : Value) : Prop := ∀ c0 c1 c2 c3 c4, v = .agg #[c0, c1, c2, c3, c4] → AV u c4
theorem el_qav {u w : World} {S : BSet} {xs : List V} {va : Option Addr} {vc k : Nat} (hP : Pin u S) (hav : AV u (.slice va xs.length vc)) (h : Rd w S (valsD xs) (.slice va xs.length vc)) (hk : k < xs.length) :
    ∃ b o na nc ua uc, va = some ⟨b, o, none⟩ ∧ b < w.heap.size ∧
      CellsAt w b (o + k * 5) [.int .u8 (xs[k]).k, .int .i64 (xs[k]).n, .string (xs[k]).t, .slice na (xs[k]).ns.length nc, .slice ua (xs[k]).xs.length uc] ∧ (xs[k]).t.size ≤ maxLen ∧
      Rd w S (strsD (xs[k]).ns) (.slice na (xs[k]).ns.length nc) ∧ Rd w S (valsD (xs[k]).xs) (.slice ua (xs[k]).xs.length uc) ∧ w.frozen? ⟨b, o + k * 5, none⟩ = false ∧ AV u (.slice ua (xs[k]).xs.length uc) := by
  obtain ⟨cs, h1, h2⟩ := h
  simp only [valsD, RdC] at h1
  obtain ⟨a, cap, rfl, _, _, h4⟩ := h1
  simp only [asm] at h2
  injection h2 with e1 e2 e3
  subst e1; subst e3
  rcases h4 with h4 | ⟨b, o, rfl, h5, h6, h7⟩
  · simp at h4; subst h4; simp at hk
  · obtain ⟨c, hl, hc, hr⟩ := h7.get k (by simpa using hk)
    rw [List.getElem_map] at hr
    obtain ⟨a1, c1, a2, c2, e, ht, h8, h9⟩ := rdV_out (⟨c, hr, rfl⟩ : Rd w S (xs[k]).d (asm (xs[k]).d c))
    have ec := cells_asm hr
    rw [e] at ec
    have ec' : c = [.int .u8 (xs[k]).k, .int .i64 (xs[k]).n, .string (xs[k]).t, .slice a1 (xs[k]).ns.length c1, .slice a2 (xs[k]).xs.length c2] := by
      have := congrArg Array.toList ec
      simpa [Value.cells] using this.symm
    subst ec'
    have hq : QV u b (o + k * 5) := AV.idx hav hk
    have hc4 : w.cell? ⟨b, o + k * 5 + 4, none⟩ = some (.slice a2 (xs[k]).xs.length c2) := hc 4 (by simp)
    exact ⟨b, o, a1, c1, a2, c2, rfl, h6, hc, ht, h8, h9, (frozen_pin hP h5 hq.1).trans hq.2.1, hq.2.2 _ ((cell_pin hP h5 hq.1).symm.trans hc4)⟩
theorem cell_keep {w w0 : World} {b o : Nat} (kw : Keeps All w w0) (hb : b < w.heap.size) : w0.cell? ⟨b, o, none⟩ = w.cell? ⟨b, o, none⟩ := by unfold World.cell?; simp only [kw.block b hb trivial]
theorem frozen_keep {w w0 : World} {b o : Nat} (kw : Keeps All w w0) (hb : b < w.heap.size) : w0.frozen? ⟨b, o, none⟩ = w.frozen? ⟨b, o, none⟩ := by unfold World.frozen?; simp only [kw.block b hb trivial]
def IsUB : Fact := fun _ v _ => ∃ r, v = .bool r
theorem st_ub {S : Nat → Prop} : Stable S IsUB := ⟨fun _ _ _ _ _ h => h, fun _ _ _ _ _ _ h => h⟩
def IsEx (x : V) (φ : V → Fact) : Fact := fun g v W => ∃ y, Cp x y ∧ φ y g v W
theorem st_ex1 {S : Nat → Prop} {x : V} {φ : V → Fact} (h : ∀ y, Stable S (φ y)) : Stable S (IsEx x φ) :=
  ⟨fun _ _ _ _ k ⟨y, h1, h2⟩ => ⟨y, h1, (h y).world _ _ _ _ k h2⟩, fun _ _ _ _ _ hb ⟨y, h1, h2⟩ => ⟨y, h1, (h y).ghost _ _ _ _ _ hb h2⟩⟩
section
variable {P : Program} {ops : Array Oper} {S : Nat → Prop} {w w0 : World} {a0 : Act} {Γ : Ctx}
variable {d : Option Tmp} {ty : TypeId} {pos : String} {af : Array Edge} {gd : Option (Nat × Bool)}
theorem sp_indexQ {x y : Operand} {T E : TypeId} {va : Option Addr} {b o n cap i : Nat} (hva : va = some ⟨b, o, none⟩) (hx : Has S w0 a0 Γ x (Is (.slice va n cap))) (hy : Has S w0 a0 Γ y (Is (.int .i64 i))) (hT : P.underlying T = some (.slice E)) (hz : szOf P E = some 5)
    (hi : i < n) : Spec P ops S w0 a0 Γ ⟨d, .indexAddr T x y, ty, pos, af, gd⟩ (Is (.pointer (some ⟨b, o + i * 5, none⟩))) := by subst hva; exact sp_indexP hx hy hT hz hi
theorem sp_loadQ {x : Operand} {T : TypeId} {b o : Nat} {u : Value} (kw : Keeps All w w0) (hx : Has All w0 a0 Γ x (Is (.pointer (some ⟨b, o, none⟩)))) (hT : aggB P T = some false) (hz : szOf P T = some 1) (hc : w.cell? ⟨b, o, none⟩ = some u) (hb : b < w.heap.size) (hu : oneC u = true) :
    Spec P ops All w0 a0 Γ ⟨d, .load T x, ty, pos, af, gd⟩ (Is u) := sp_loadP hx hT hz ((cell_keep kw hb).trans hc) (Nat.lt_of_lt_of_le hb kw.size) hu
theorem sp_loadQ5 {x : Operand} {T : TypeId} {b o : Nat} {c0 c1 c2 c3 c4 : Value} (kw : Keeps All w w0) (hx : Has All w0 a0 Γ x (Is (.pointer (some ⟨b, o, none⟩)))) (hT : aggB P T = some true) (hz : szOf P T = some 5) (hc : CellsAt w b o [c0, c1, c2, c3, c4]) (hb : b < w.heap.size) :
    Spec P ops All w0 a0 Γ ⟨d, .load T x, ty, pos, af, gd⟩ (Is (.agg #[c0, c1, c2, c3, c4])) := fun a g W hk hg he => by
  have e1 : a.eval x = .pointer (some ⟨b, o, none⟩) := hx.of_env hk hg he (by simp [Op.operands])
  have hcW : CellsAt W b o [c0, c1, c2, c3, c4] := fun i hi => ((cell_keep (kw.trans hk) hb).trans (hc i hi))
  have hr := run_loadVar (P := P) hcW hT hz rfl (fun h => by cases h)
  unfold OpRuns
  have : (execOp a.eval ⟨d, .load T x, ty, pos, af, gd⟩).run P W = .ok (.value (.agg #[c0, c1, c2, c3, c4])) W := by
    simp only [execOp, e1, Instr.loadAt, Instr.sureAddr, Sem.run_bind, Sem.run_pure, Result.andThen_ok, hr]
    rfl
  rw [this]
  exact ⟨.refl _ _, rfl⟩
theorem sp_ptrEqQ {x y : Operand} {T T' E : TypeId} {n b o : Nat} {q cv : Value} (kw : Keeps All w w0) (hT : P.underlying T = some (.pointer E)) (hz : szOf P E = some (n + 1)) (hx : Has All w0 a0 Γ x (Is (.pointer (some ⟨b, o, none⟩)))) (hy : Has All w0 a0 Γ y (Is q))
    (hc : w.cell? ⟨b, o, none⟩ = some cv) (hb : b < w.heap.size) (hf : w.frozen? ⟨b, o, none⟩ = false) (hq : Abv w q) :
    Spec P ops All w0 a0 Γ ⟨d, .binOp .eql T x y T', ty, pos, af, gd⟩ IsUB := by
  obtain ⟨c, tc, fc, hr⟩ := cell_row hc
  exact sp_mono (sp_ptrEqN hT hz hx hy ((kw.block b hb trivial).trans hr) ((frozen_keep kw hb).trans hf) (hq.ext kw)) fun _ _ _ ⟨r, h, _⟩ => ⟨r, h⟩
end
theorem abv_q {w : World} {b o : Nat} {cv : Value} (hc : w.cell? ⟨b, o, none⟩ = some cv) : Abv w (.pointer (some ⟨b, o, none⟩)) :=
  let ⟨c, T, f, h⟩ := cell_row hc; .inr ⟨b, o, c, T, f, rfl, h⟩
def CpL (xs ys : List V) (k : Nat) : Prop := ys.length = k ∧ ∀ i (h : i < xs.length) (h2 : i < ys.length), ys[i] = xs[i] ∨ ys[i] = V.zero
theorem cpL_nil (xs : List V) : CpL xs [] 0 := ⟨rfl, fun i _ h => by simp at h⟩
theorem cpL_step {xs ys : List V} {k : Nat} {y : V} (h : CpL xs ys k) (hk : k < xs.length) (hy : y = xs[k] ∨ y = V.zero) : CpL xs (ys ++ [y]) (k + 1) := by
  refine ⟨by simp [h.1], fun i h1 h2 => ?_⟩
  by_cases hik : i < ys.length
  · rw [List.getElem_append_left hik]; exact h.2 i h1 hik
  · have hi2 : i < ys.length + 1 := by simpa using h2
    have : i = k := by have := h.1; omega
    subst this
    rw [List.getElem_append_right (by omega)]
    simpa using hy
end Go.Eng
namespace Go.Proofs.Ytnobijngkpflcaa
open Go.Eng
set_option maxRecDepth 100000 in
theorem endlessP_all (u : World) : ∀ (n : Nat) (xs : List V), V.cnts xs < n → ∀ (level : Int), 0 ≤ level → level + n ≤ 4294967296 → ∀ (nested : Bool) (p : Value) (w : World) (S : BSet) (v : Value), u.heap.size ≤ w.heap.size → Pin u S → AV u v → Rd w S (valsD xs) v → Abv w p →
    Calls Try.prog 137 #[v, .int .i64 level, p, .bool nested] w (Ret w fun r _ => ∃ b, r = .bool b) := by
  intro n
  induction n with
  | zero => intro xs hx; omega
  | succ n ih =>
  intro xs hx level hl0 hl nested p w S v hu hP hav hv hab
  have hmx : xs.length ≤ maxLen := rd_len hv
  simp only [maxLen] at hmx
  obtain ⟨va, vc, ev, D_v⟩ := rdVs_out (rd_arg hv)
  subst ev
  refine enter Try.func137 rfl Try.ntmps137 (lbr rfl) fun a0 y0 zz0 harg => ?_
  have e0 : sl a0 0 = (.slice va (xs.length) vc) := harg 0 (lbr rfl)
  have e1 : sl a0 1 = (.int .i64 (level)) := harg 1 (lbr rfl)
  have e2 : sl a0 2 = p := harg 2 (lbr rfl)
  have e3 : sl a0 3 = (.bool (nested)) := harg 3 (lbr rfl)
  have kw := Keeps.refl All w
  clear harg
  refine wp_seq_k fun K1 hK1 => ?_
  refine rg mixed y0 zz0 ?_
  refine .i (sp_assign Has.cst) ?_
  refine .done ⟨by kernel_rfl, fun a2 g W2 y2 zz2 hk hg hV hR hP => ?_⟩
  obtain ⟨-, -⟩ := hV
  replace e0 := (hR 0 rfl).trans e0
  replace e1 := (hR 1 rfl).trans e1
  replace e2 := (hR 2 rfl).trans e2
  replace e3 := (hR 3 rfl).trans e3
  replace D_v := D_v.ext hk
  replace kw := kw.x hk
  clear hR hk hg hP
  refine tail_nil (hK1 _ _ ?_)
  refine wp_seq_k fun K3 hK3 => ?_
  refine wp_seq_k fun K4 hK4 => ?_
  refine rg mixed y2 zz2 ?_
  refine .i (sp_move (hbs rfl e0)) ?_
  refine .i (sp_lenVs Try.underlying31 ((hlc rfl).dat D_v sub_all)) ?_
  refine .i (sp_move Has.cst) ?_
  refine .done ⟨by kernel_rfl, fun a5 g W5 y5 zz5 hk hg hV hR hP => ?_⟩
  obtain ⟨e14, e13, -, -⟩ := hV
  replace e0 := (hR 0 rfl).trans e0
  replace e1 := (hR 1 rfl).trans e1
  replace e2 := (hR 2 rfl).trans e2
  replace e3 := (hR 3 rfl).trans e3
  replace D_v := D_v.ext hk
  have e13 : sl a5 13 = (.int .i64 (xs.length)) := e13
  have e14 : sl a5 14 = (.int .i64 (0)) := e14
  replace kw := kw.x hk
  clear hR hk hg hP
  refine tail_nil (hK4 _ _ ?_)
  refine wp_block ?_
  refine wp_for (xs.length) (fun k a W => a.tmps.size = 55 ∧ a.defers = [] ∧ Keeps All w W ∧ sl a 0 = (.slice va (xs.length) vc) ∧ sl a 1 = (.int .i64 (level)) ∧ sl a 2 = p ∧ sl a 3 = (.bool (nested)) ∧ sl a 13 = (.int .i64 (xs.length)) ∧ sl a 14 = (.int .i64 ((k : Nat))) ∧ Rd W (SA w S []) (valsD (xs)) (.slice va (xs.length) vc)) ⟨y5, zz5, kw, e0, e1, e2, e3, e13, (e14.trans (congrArg (Value.int .i64) (rfl))), D_v⟩ ?_
  clear kw e0 e1 e2 e3 e13 e14 D_v
  rintro k a6 W6 hkk ⟨y6, zz6, kw, e0, e1, e2, e3, e13, e14, D_v⟩
  refine wp_seq_k fun K7 hK7 => ?_
  refine rg mixed y6 zz6 ?_
  refine .i (sp_lss (hbs rfl e14) (hbs rfl e13)) ?_
  refine .done ⟨by kernel_rfl, fun a8 g W8 y8 zz8 hk hg hV hR hP => ?_⟩
  obtain ⟨e15, -⟩ := hV
  replace e0 := (hR 0 rfl).trans e0
  replace e1 := (hR 1 rfl).trans e1
  replace e2 := (hR 2 rfl).trans e2
  replace e3 := (hR 3 rfl).trans e3
  replace e13 := (hR 13 rfl).trans e13
  replace e14 := (hR 14 rfl).trans e14
  replace D_v := D_v.ext hk
  replace e15 := e15.q
  replace kw := kw.x hk
  clear hR hk hg hP
  refine tail_nil (hK7 _ _ ?_)
  refine wp_seq_k fun K9 hK9 => ?_
  refine wp_cond_split e15 (fun hc => ?_) (fun hc => ?_)
  ·
   have hlt : k < xs.length := by simpa using hc
   have hce := cnt_elem hlt
   have hcw := cnt_eq xs[k]
   obtain ⟨bq, oq, nqa, nqc, xqa, xqc, evq, hltq, hcq, htq, hnq, hxq, hfq, av_xq⟩ := el_qav hP hav hv hlt
   have D_nq : Rd W8 (SA w S []) (strsD ((xs[k]'hlt).ns)) (.slice nqa (((xs[k]'hlt).ns).length) nqc) := (rd_argQ hnq in_nil).ext kw
   have D_xq : Rd W8 (SA w S []) (valsD ((xs[k]'hlt).xs)) (.slice xqa (((xs[k]'hlt).xs).length) xqc) := (rd_argQ hxq in_nil).ext kw
   refine wp_skip (hK9 _ _ ?_)
   refine wp_seq_k fun K10 hK10 => ?_
   refine wp_block ?_
   refine wp_seq_k fun K11 hK11 => ?_
   refine rg mixed y8 zz8 ?_
   refine .i (sp_move (hbs rfl e14)) ?_
   refine .i (sp_assign (hlc rfl)) ?_
   refine .done ⟨by kernel_rfl, fun a12 g W12 y12 zz12 hk hg hV hR hP => ?_⟩
   obtain ⟨e9, -, -⟩ := hV
   replace e0 := (hR 0 rfl).trans e0
   replace e1 := (hR 1 rfl).trans e1
   replace e2 := (hR 2 rfl).trans e2
   replace e3 := (hR 3 rfl).trans e3
   replace e13 := (hR 13 rfl).trans e13
   replace e14 := (hR 14 rfl).trans e14
   replace D_v := D_v.ext hk
   replace D_nq := D_nq.ext hk
   replace D_xq := D_xq.ext hk
   have e9 : sl a12 9 = (.int .i64 ((k : Nat))) := e9
   replace kw := kw.x hk
   clear hR hk hg hP
   refine tail_nil (hK11 _ _ ?_)
   refine wp_seq_k fun K13 hK13 => ?_
   refine rg mixed y12 zz12 ?_
   refine .i (sp_move (hbs rfl e0)) ?_
   refine .i (sp_move (hbs rfl e9)) ?_
   refine .i (v := (.pointer (some ⟨bq, oq + k * 5, none⟩))) (sp_indexQ (i := k) evq (hlc rfl) (hlc rfl) Try.underlying31 sz33 hlt) ?_
   refine .i (sp_assign (hlc rfl)) ?_
   refine .done ⟨by kernel_rfl, fun a14 g W14 y14 zz14 hk hg hV hR hP => ?_⟩
   obtain ⟨e10, -, -, -, -⟩ := hV
   replace e0 := (hR 0 rfl).trans e0
   replace e1 := (hR 1 rfl).trans e1
   replace e2 := (hR 2 rfl).trans e2
   replace e3 := (hR 3 rfl).trans e3
   replace e13 := (hR 13 rfl).trans e13
   replace e14 := (hR 14 rfl).trans e14
   replace D_v := D_v.ext hk
   replace D_nq := D_nq.ext hk
   replace D_xq := D_xq.ext hk
   have e10 : sl a14 10 = (.pointer (some ⟨bq, oq + k * 5, none⟩)) := e10
   replace kw := kw.x hk
   clear hR hk hg hP
   refine tail_nil (hK13 _ _ ?_)
   refine wp_seq_k fun K15 hK15 => ?_
   refine wp_seq_k fun K16 hK16 => ?_
   refine rg mixed y14 zz14 ?_
   refine .i (sp_move (hbs rfl e3)) ?_
   refine .i (sp_move (hlc rfl)) ?_
   refine .e (t := 21) rfl (hlc rfl) (fun hg => sp_move (hbs rfl e10)) ?_
   refine .e (t := 21) rfl (hlc rfl) (fun hg => sp_nilP ((hlc rfl).undE hg)) ?_
   refine .e (t := 21) (v := (.pointer (some ⟨bq, oq + k * 5 + 0, none⟩))) rfl (hlc rfl) (fun hg => sp_fieldO ((hlc rfl).undE hg) Try.underlying33 rfl sz5 rfl) ?_
   refine .e (t := 21) (v := (.int .u8 ((xs[k]'hlt).k))) rfl (hlc rfl) (fun hg => sp_loadQ kw ((hlc rfl).undE hg) agg5 sz5 (hcq 0 (lbr rfl)) hltq rfl) ?_
   refine .e (t := 21) rfl (hlc rfl) (fun hg => sp_neq ((hlc rfl).undE hg) Has.cst) ?_
   refine .i (sp_and (hlc rfl) ((hlc rfl).weak fun hq => hq)) ?_
   refine .i (sp_move (hlc rfl)) ?_
   refine .e (t := 28) rfl (hlc rfl) (fun hg => sp_move (hbs rfl e10)) ?_
   refine .e (t := 28) rfl (hlc rfl) (fun hg => sp_nilP ((hlc rfl).undE hg)) ?_
   refine .e (t := 28) (v := (.pointer (some ⟨bq, oq + k * 5 + 0, none⟩))) rfl (hlc rfl) (fun hg => sp_fieldO ((hlc rfl).undE hg) Try.underlying33 rfl sz5 rfl) ?_
   refine .e (t := 28) (v := (.int .u8 ((xs[k]'hlt).k))) rfl (hlc rfl) (fun hg => sp_loadQ kw ((hlc rfl).undE hg) agg5 sz5 (hcq 0 (lbr rfl)) hltq rfl) ?_
   refine .e (t := 28) rfl (hlc rfl) (fun hg => sp_neq ((hlc rfl).undE hg) Has.cst) ?_
   refine .i (sp_and (hlc rfl) ((hlc rfl).weak fun hq => hq)) ?_
   refine .done ⟨by kernel_rfl, fun a17 g W17 y17 zz17 hk hg hV hR hP => ?_⟩
   obtain ⟨e34, -, -, -, -, -, -, -, -, -, -, -, -, -, -, -⟩ := hV
   replace e0 := (hR 0 rfl).trans e0
   replace e1 := (hR 1 rfl).trans e1
   replace e2 := (hR 2 rfl).trans e2
   replace e3 := (hR 3 rfl).trans e3
   replace e13 := (hR 13 rfl).trans e13
   replace e14 := (hR 14 rfl).trans e14
   replace e10 := (hR 10 rfl).trans e10
   replace D_v := D_v.ext hk
   replace D_nq := D_nq.ext hk
   replace D_xq := D_xq.ext hk
   replace e34 := e34.q
   replace kw := kw.x hk
   clear hR hk hg hP
   refine tail_nil (hK16 _ _ ?_)
   refine wp_cond_split e34 (fun hc => ?_) (fun hc => ?_)
   ·
    refine wp_exit (hK10 _ _ ?_)
    refine rg mixed y17 zz17 ?_
    refine .i (sp_add (hbs rfl e14) Has.cst (i64_in (by omega))) ?_
    refine .i (sp_move (hlc rfl)) ?_
    refine .done ⟨by kernel_rfl, fun a18 g W18 y18 zz18 hk hg hV hR hP => ?_⟩
    obtain ⟨e14, -, -⟩ := hV
    replace e0 := (hR 0 rfl).trans e0
    replace e1 := (hR 1 rfl).trans e1
    replace e2 := (hR 2 rfl).trans e2
    replace e3 := (hR 3 rfl).trans e3
    replace e13 := (hR 13 rfl).trans e13
    replace D_v := D_v.ext hk
    replace D_nq := D_nq.ext hk
    replace D_xq := D_xq.ext hk
    replace e14 := e14.q
    replace kw := kw.x hk
    clear hR hk hg hP
    exact tail_nil ⟨hlt, y18, zz18, kw, e0, e1, e2, e3, e13, (e14.trans (congrArg (Value.int .i64) (by simp))), D_v⟩
   ·
    refine wp_skip (hK15 _ _ ?_)
    refine wp_seq_k fun K19 hK19 => ?_
    refine wp_seq_k fun K20 hK20 => ?_
    refine rg mixed y17 zz17 ?_
    refine .i (sp_move (hbs rfl e10)) ?_
    refine .i (sp_move (hbs rfl e2)) ?_
    refine .op (φ := IsUB) st_ub (sp_ptrEqQ kw Try.underlying186 sz33 (hlc rfl) (hlc rfl) (hcq 0 (lbr rfl)) hltq hfq (hab)) ?_
    refine .done ⟨by kernel_rfl, fun a21 g W21 y21 zz21 hk hg hV hR hP => ?_⟩
    obtain ⟨e37, -, -, -⟩ := hV
    replace e0 := (hR 0 rfl).trans e0
    replace e1 := (hR 1 rfl).trans e1
    replace e2 := (hR 2 rfl).trans e2
    replace e3 := (hR 3 rfl).trans e3
    replace e13 := (hR 13 rfl).trans e13
    replace e14 := (hR 14 rfl).trans e14
    replace e10 := (hR 10 rfl).trans e10
    obtain ⟨r37_21, e37⟩ := e37
    replace D_v := D_v.ext hk
    replace D_nq := D_nq.ext hk
    replace D_xq := D_xq.ext hk
    have e37 : sl a21 37 = (.bool (r37_21)) := e37
    replace kw := kw.x hk
    clear hR hk hg hP
    refine tail_nil (hK20 _ _ ?_)
    refine wp_cond_split e37 (fun hc => ?_) (fun hc => ?_)
    ·
     refine wp_seq_k fun K22 hK22 => ?_
     refine rg mixed y21 zz21 ?_
     refine .i (sp_assign Has.cst) ?_
     refine .done ⟨by kernel_rfl, fun a23 g W23 y23 zz23 hk hg hV hR hP => ?_⟩
     obtain ⟨e8, -⟩ := hV
     replace D_v := D_v.ext hk
     replace D_nq := D_nq.ext hk
     replace D_xq := D_xq.ext hk
     have e8 : sl a23 8 = (.bool (true)) := e8
     replace kw := kw.x hk
     clear hR hk hg hP
     refine tail_nil (hK22 _ _ ?_)
     refine wp_ret ?_
     refine (show bodyPost Try.prog Try.f137 _ .ret _ _ from ret1 rfl zz23 e8 ⟨_, rfl, kw, ?_⟩)
     exact ⟨_, rfl⟩
    ·
     refine wp_skip (hK19 _ _ ?_)
     refine wp_seq_k fun K24 hK24 => ?_
     refine rg mixed y21 zz21 ?_
     refine .i (sp_move (hbs rfl e2)) ?_
     refine .i (sp_assign (hlc rfl)) ?_
     refine .done ⟨by kernel_rfl, fun a25 g W25 y25 zz25 hk hg hV hR hP => ?_⟩
     obtain ⟨e11, -, -⟩ := hV
     replace e0 := (hR 0 rfl).trans e0
     replace e1 := (hR 1 rfl).trans e1
     replace e2 := (hR 2 rfl).trans e2
     replace e3 := (hR 3 rfl).trans e3
     replace e13 := (hR 13 rfl).trans e13
     replace e14 := (hR 14 rfl).trans e14
     replace e10 := (hR 10 rfl).trans e10
     replace D_v := D_v.ext hk
     replace D_nq := D_nq.ext hk
     replace D_xq := D_xq.ext hk
     have e11 : sl a25 11 = p := e11
     replace kw := kw.x hk
     clear hR hk hg hP
     refine tail_nil (hK24 _ _ ?_)
     refine wp_seq_k fun K26 hK26 => ?_
     refine wp_seq_k fun K27 hK27 => ?_
     refine rg mixed y25 zz25 ?_
     refine .i (sp_move (hbs rfl e1)) ?_
     refine .i (sp_move (hbs rfl e1)) ?_
     refine .i (sp_sub (hlc rfl) Has.cst (i64_in (by omega))) ?_
     refine .i (sp_band (hlc rfl) (hlc rfl)) ?_
     refine .i (sp_eql (hlc rfl) Has.cst) ?_
     refine .done ⟨by kernel_rfl, fun a28 g W28 y28 zz28 hk hg hV hR hP => ?_⟩
     obtain ⟨e43, -, -, -, -, -⟩ := hV
     replace e0 := (hR 0 rfl).trans e0
     replace e1 := (hR 1 rfl).trans e1
     replace e2 := (hR 2 rfl).trans e2
     replace e3 := (hR 3 rfl).trans e3
     replace e13 := (hR 13 rfl).trans e13
     replace e14 := (hR 14 rfl).trans e14
     replace e10 := (hR 10 rfl).trans e10
     replace e11 := (hR 11 rfl).trans e11
     replace D_v := D_v.ext hk
     replace D_nq := D_nq.ext hk
     replace D_xq := D_xq.ext hk
     replace e43 := e43.q
     replace kw := kw.x hk
     clear hR hk hg hP
     refine tail_nil (hK27 _ _ ?_)
     refine wp_cond_split e43 (fun hc => ?_) (fun hc => ?_)
     ·
      refine rg mixed y28 zz28 ?_
      refine .i (sp_move (hbs rfl e10)) ?_
      refine .i (sp_assign (hlc rfl)) ?_
      refine .done ⟨by kernel_rfl, fun a29 g W29 y29 zz29 hk hg hV hR hP => ?_⟩
      obtain ⟨e11, -, -⟩ := hV
      replace e0 := (hR 0 rfl).trans e0
      replace e1 := (hR 1 rfl).trans e1
      replace e2 := (hR 2 rfl).trans e2
      replace e3 := (hR 3 rfl).trans e3
      replace e13 := (hR 13 rfl).trans e13
      replace e14 := (hR 14 rfl).trans e14
      replace e10 := (hR 10 rfl).trans e10
      replace D_v := D_v.ext hk
      replace D_nq := D_nq.ext hk
      replace D_xq := D_xq.ext hk
      have e11 : sl a29 11 = (.pointer (some ⟨bq, oq + k * 5, none⟩)) := e11
      replace kw := kw.x hk
      clear hR hk hg hP
      refine tail_nil (hK26 _ _ ?_)
      refine wp_seq_k fun K30 hK30 => ?_
      refine rg mixed y29 zz29 ?_
      refine .i (sp_move (hbs rfl e10)) ?_
      refine .i (sp_nilP (hlc rfl)) ?_
      refine .i (v := (.pointer (some ⟨bq, oq + k * 5 + 4, none⟩))) (sp_fieldO (hlc rfl) Try.underlying33 rfl sz31 rfl) ?_
      refine .i (v := (.slice xqa (((xs[k]'hlt).xs).length) xqc)) (sp_loadQ kw (hlc rfl) agg31 sz31 (hcq 4 (lbr rfl)) hltq rfl) ?_
      refine .i (sp_move (hbs rfl e1)) ?_
      refine .i (sp_add (hlc rfl) Has.cst (i64_in (by omega))) ?_
      refine .i (sp_move (hbs rfl e11)) ?_
      refine .i (sp_move (hbs rfl e3)) ?_
      refine .op (φ := IsUB) st_ub (sp_call4 (φ1 := Is (.slice xqa (((xs[k]'hlt).xs).length) xqc)) (φ2 := Is (.int .i64 ((level : Int) + (1 : Int)))) (φ3 := Is (.pointer (some ⟨bq, oq + k * 5, none⟩))) (φ4 := Is (.bool (nested))) ent137 (hlc rfl) (hlc rfl) (hlc rfl) (hlc rfl) (fun g u1 u2 u3 u4 W hk hgk h1 h2 h3 h4 => by have h1 : u1 = _ := h1; subst u1; have h2 : u2 = _ := h2; subst u2; have h3 : u3 = _ := h3; subst u3; have h4 : u4 = _ := h4; subst u4; exact ih ((xs[k]'hlt).xs) (by omega) ((level : Int) + (1 : Int)) (by omega) (by omega) (nested) _ W _ _ (Nat.le_trans hu (Nat.le_trans kw.size hk.size)) (pin_sa hP hu) av_xq (D_xq.ext hk) (((abv_q (hcq 0 (lbr rfl))).ext kw).ext hk))) ?_
      refine .done ⟨by kernel_rfl, fun a31 g W31 y31 zz31 hk hg hV hR hP => ?_⟩
      obtain ⟨e53, -, -, -, -, -, -, -, -, -⟩ := hV
      replace e0 := (hR 0 rfl).trans e0
      replace e1 := (hR 1 rfl).trans e1
      replace e2 := (hR 2 rfl).trans e2
      replace e3 := (hR 3 rfl).trans e3
      replace e13 := (hR 13 rfl).trans e13
      replace e14 := (hR 14 rfl).trans e14
      obtain ⟨r53_31, e53⟩ := e53
      replace D_v := D_v.ext hk
      replace D_nq := D_nq.ext hk
      replace D_xq := D_xq.ext hk
      have e53 : sl a31 53 = (.bool (r53_31)) := e53
      replace kw := kw.x hk
      clear hR hk hg hP
      refine tail_nil (hK30 _ _ ?_)
      refine wp_cond_split e53 (fun hc => ?_) (fun hc => ?_)
      ·
       refine wp_seq_k fun K32 hK32 => ?_
       refine rg mixed y31 zz31 ?_
       refine .i (sp_assign Has.cst) ?_
       refine .done ⟨by kernel_rfl, fun a33 g W33 y33 zz33 hk hg hV hR hP => ?_⟩
       obtain ⟨e8, -⟩ := hV
       replace D_v := D_v.ext hk
       replace D_nq := D_nq.ext hk
       replace D_xq := D_xq.ext hk
       have e8 : sl a33 8 = (.bool (true)) := e8
       replace kw := kw.x hk
       clear hR hk hg hP
       refine tail_nil (hK32 _ _ ?_)
       refine wp_ret ?_
       refine (show bodyPost Try.prog Try.f137 _ .ret _ _ from ret1 rfl zz33 e8 ⟨_, rfl, kw, ?_⟩)
       exact ⟨_, rfl⟩
      ·
       refine wp_skip (hK10 _ _ ?_)
       refine rg mixed y31 zz31 ?_
       refine .i (sp_add (hbs rfl e14) Has.cst (i64_in (by omega))) ?_
       refine .i (sp_move (hlc rfl)) ?_
       refine .done ⟨by kernel_rfl, fun a34 g W34 y34 zz34 hk hg hV hR hP => ?_⟩
       obtain ⟨e14, -, -⟩ := hV
       replace e0 := (hR 0 rfl).trans e0
       replace e1 := (hR 1 rfl).trans e1
       replace e2 := (hR 2 rfl).trans e2
       replace e3 := (hR 3 rfl).trans e3
       replace e13 := (hR 13 rfl).trans e13
       replace D_v := D_v.ext hk
       replace D_nq := D_nq.ext hk
       replace D_xq := D_xq.ext hk
       replace e14 := e14.q
       replace kw := kw.x hk
       clear hR hk hg hP
       exact tail_nil ⟨hlt, y34, zz34, kw, e0, e1, e2, e3, e13, (e14.trans (congrArg (Value.int .i64) (by simp))), D_v⟩
     ·
      refine wp_skip (hK26 _ _ ?_)
      refine wp_seq_k fun K35 hK35 => ?_
      refine rg mixed y28 zz28 ?_
      refine .i (sp_move (hbs rfl e10)) ?_
      refine .i (sp_nilP (hlc rfl)) ?_
      refine .i (v := (.pointer (some ⟨bq, oq + k * 5 + 4, none⟩))) (sp_fieldO (hlc rfl) Try.underlying33 rfl sz31 rfl) ?_
      refine .i (v := (.slice xqa (((xs[k]'hlt).xs).length) xqc)) (sp_loadQ kw (hlc rfl) agg31 sz31 (hcq 4 (lbr rfl)) hltq rfl) ?_
      refine .i (sp_move (hbs rfl e1)) ?_
      refine .i (sp_add (hlc rfl) Has.cst (i64_in (by omega))) ?_
      refine .i (sp_move (hbs rfl e11)) ?_
      refine .i (sp_move (hbs rfl e3)) ?_
      refine .op (φ := IsUB) st_ub (sp_call4 (φ1 := Is (.slice xqa (((xs[k]'hlt).xs).length) xqc)) (φ2 := Is (.int .i64 ((level : Int) + (1 : Int)))) (φ3 := Is p) (φ4 := Is (.bool (nested))) ent137 (hlc rfl) (hlc rfl) (hlc rfl) (hlc rfl) (fun g u1 u2 u3 u4 W hk hgk h1 h2 h3 h4 => by have h1 : u1 = _ := h1; subst u1; have h2 : u2 = _ := h2; subst u2; have h3 : u3 = _ := h3; subst u3; have h4 : u4 = _ := h4; subst u4; exact ih ((xs[k]'hlt).xs) (by omega) ((level : Int) + (1 : Int)) (by omega) (by omega) (nested) _ W _ _ (Nat.le_trans hu (Nat.le_trans kw.size hk.size)) (pin_sa hP hu) av_xq (D_xq.ext hk) ((hab.ext kw).ext hk))) ?_
      refine .done ⟨by kernel_rfl, fun a36 g W36 y36 zz36 hk hg hV hR hP => ?_⟩
      obtain ⟨e53, -, -, -, -, -, -, -, -, -⟩ := hV
      replace e0 := (hR 0 rfl).trans e0
      replace e1 := (hR 1 rfl).trans e1
      replace e2 := (hR 2 rfl).trans e2
      replace e3 := (hR 3 rfl).trans e3
      replace e13 := (hR 13 rfl).trans e13
      replace e14 := (hR 14 rfl).trans e14
      obtain ⟨r53_36, e53⟩ := e53
      replace D_v := D_v.ext hk
      replace D_nq := D_nq.ext hk
      replace D_xq := D_xq.ext hk
      have e53 : sl a36 53 = (.bool (r53_36)) := e53
      replace kw := kw.x hk
      clear hR hk hg hP
      refine tail_nil (hK35 _ _ ?_)
      refine wp_cond_split e53 (fun hc => ?_) (fun hc => ?_)
      ·
       refine wp_seq_k fun K37 hK37 => ?_
       refine rg mixed y36 zz36 ?_
       refine .i (sp_assign Has.cst) ?_
       refine .done ⟨by kernel_rfl, fun a38 g W38 y38 zz38 hk hg hV hR hP => ?_⟩
       obtain ⟨e8, -⟩ := hV
       replace D_v := D_v.ext hk
       replace D_nq := D_nq.ext hk
       replace D_xq := D_xq.ext hk
       have e8 : sl a38 8 = (.bool (true)) := e8
       replace kw := kw.x hk
       clear hR hk hg hP
       refine tail_nil (hK37 _ _ ?_)
       refine wp_ret ?_
       refine (show bodyPost Try.prog Try.f137 _ .ret _ _ from ret1 rfl zz38 e8 ⟨_, rfl, kw, ?_⟩)
       exact ⟨_, rfl⟩
      ·
       refine wp_skip (hK10 _ _ ?_)
       refine rg mixed y36 zz36 ?_
       refine .i (sp_add (hbs rfl e14) Has.cst (i64_in (by omega))) ?_
       refine .i (sp_move (hlc rfl)) ?_
       refine .done ⟨by kernel_rfl, fun a39 g W39 y39 zz39 hk hg hV hR hP => ?_⟩
       obtain ⟨e14, -, -⟩ := hV
       replace e0 := (hR 0 rfl).trans e0
       replace e1 := (hR 1 rfl).trans e1
       replace e2 := (hR 2 rfl).trans e2
       replace e3 := (hR 3 rfl).trans e3
       replace e13 := (hR 13 rfl).trans e13
       replace D_v := D_v.ext hk
       replace D_nq := D_nq.ext hk
       replace D_xq := D_xq.ext hk
       replace e14 := e14.q
       replace kw := kw.x hk
       clear hR hk hg hP
       exact tail_nil ⟨hlt, y39, zz39, kw, e0, e1, e2, e3, e13, (e14.trans (congrArg (Value.int .i64) (by simp))), D_v⟩
  ·
   have hge0 : ¬ k < xs.length := by simpa using hc
   have hge : k = xs.length := by omega
   refine wp_exit (hK3 _ _ ?_)
   refine wp_seq_k fun K40 hK40 => ?_
   refine rg mixed y8 zz8 ?_
   refine .i (sp_assign Has.cst) ?_
   refine .done ⟨by kernel_rfl, fun a41 g W41 y41 zz41 hk hg hV hR hP => ?_⟩
   obtain ⟨e8, -⟩ := hV
   replace D_v := D_v.ext hk
   have e8 : sl a41 8 = (.bool (false)) := e8
   replace kw := kw.x hk
   clear hR hk hg hP
   refine tail_nil (hK40 _ _ ?_)
   refine wp_ret ?_
   refine (show bodyPost Try.prog Try.f137 _ .ret _ _ from ret1 rfl zz41 e8 ⟨_, rfl, kw, ?_⟩)
   exact ⟨_, rfl⟩
set_option maxRecDepth 100000 in
theorem CopyP_ok (u : World) (x : V) (hx : x.wt ≤ 1073741824) (w : World) (S : BSet) (v : Value) (hu : u.heap.size ≤ w.heap.size) (hP : Pin u S) (hav : AVv u v) (hv : Rd w S x.d v) : Calls Try.prog 79 #[v] w (Ret w fun r W => ∃ y, Cp x y ∧ Rd W (Fr w) (V.d y) r) := by
  have hwx := wt_eq x
  have hwl := wts_len x.xs
  have hwn := wtN_len x.ns
  obtain ⟨cn0a, cn0c, ci0a, ci0c, ev, ht0, D_cn0, D_ci0⟩ := rdV_out (rd_arg hv)
  subst ev
  refine enter Try.func79 rfl Try.ntmps79 (lbr rfl) fun a0 y0 zz0 harg => ?_
  have e0 : sl a0 0 = (.agg #[(.int .u8 (x.k)), (.int .i64 (x.n)), (.string (x.t)), (.slice cn0a (x.ns.length) cn0c), (.slice ci0a (x.xs.length) ci0c)]) := harg 0 (lbr rfl)
  have kw := Keeps.refl All w
  clear harg
  refine wp_seq_k fun K1 hK1 => ?_
  refine rg mixed y0 zz0 ?_
  refine .boxOp (v := (.agg #[(.int .u8 (x.k)), (.int .i64 (x.n)), (.string (x.t)), (.slice cn0a (x.ns.length) cn0c), (.slice ci0a (x.xs.length) ci0c)])) (hbs rfl e0) ?_
  refine .alloc z33 ?_
  refine .done ⟨by kernel_rfl, fun a2 g W2 y2 zz2 hk hg hV hR hP => ?_⟩
  obtain ⟨⟨b2_2, e2, hb2, own_b2_2⟩, ⟨b1_2, e1, hb1, own_b1_2⟩, -⟩ := hV
  have lo_b2_2 : w.heap.size ≤ b2_2 := Nat.le_trans kw.size (hg.lo _ _ hb2)
  have own_b2_2 : Own W2 b2_2 [(.int .u8 (0)), (.int .i64 (0)), (.string (⟨#[]⟩)), (.slice none 0 0), (.slice none 0 0)] 33 := own_b2_2
  have lo_b1_2 : w.heap.size ≤ b1_2 := Nat.le_trans kw.size (hg.lo _ _ hb1)
  have own_b1_2 : Own W2 b1_2 [(.int .u8 (x.k)), (.int .i64 (x.n)), (.string (x.t)), (.slice cn0a (x.ns.length) cn0c), (.slice ci0a (x.xs.length) ci0c)] 33 := own_b1_2
  have ne_b2_2_b1_2 : b2_2 ≠ b1_2 := fun h => by have := hg.inj _ _ _ hb2 (h ▸ hb1); cases this
  replace D_cn0 := sa_more D_cn0 hk [b2_2, b1_2] (in_cons (hg.lo _ _ hb2) (in_cons (hg.lo _ _ hb1) in_nil))
  replace D_ci0 := sa_more D_ci0 hk [b2_2, b1_2] (in_cons (hg.lo _ _ hb2) (in_cons (hg.lo _ _ hb1) in_nil))
  replace kw := kw.x hk
  clear hR hk hg hP hb2 hb1
  refine tail_nil (hK1 _ _ ?_)
  refine wp_seq_k fun K3 hK3 => ?_
  refine rg mixed y2 zz2 ?_
  refine .i (fo 0 (hbs rfl e1) Try.underlying33 rfl sz5 rfl) ?_
  refine .i (lo1 (hlc rfl) own_b1_2 trivial agg5 sz5 rfl) ?_
  refine .i (fo 1 (hbs rfl e1) Try.underlying33 rfl sz2 rfl) ?_
  refine .i (lo1 (hlc rfl) own_b1_2 trivial agg2 sz2 rfl) ?_
  refine .i (fo 2 (hbs rfl e1) Try.underlying33 rfl sz9 rfl) ?_
  refine .i (lo1 (hlc rfl) own_b1_2 trivial agg9 sz9 rfl) ?_
  refine .i (fo 3 (hbs rfl e1) Try.underlying33 rfl sz23 rfl) ?_
  refine .i (lo1 (hlc rfl) own_b1_2 trivial agg23 sz23 rfl) ?_
  refine .da (X := Fr W2) (e := strsD (x.ns)) (sp_call1 (φ1 := IsD (SA w S [b2_2, b1_2]) (strsD (x.ns))) ent136 ((hlc rfl).dat D_cn0 sub_all) (fun g u1 W hk hgk h1 => (clone_ok (x.ns) (by omega) W _ _ h1).mono (ret_fr hk hgk))) ?_
  refine .op (φ := IsHole (fun v => .agg #[(.int .u8 (x.k)), (.int .i64 (x.n)), (.string (x.t)), v, (.slice none 0 0)]) (IsD (Fr W2) (strsD (x.ns)))) (st_hole (st_d sub_all)) (sp_build1 (vs := [(0, some (.int .u8 (x.k))), (1, some (.int .i64 (x.n))), (2, some (.string (x.t))), (3, none)]) (cells := fun v => #[(.int .u8 (x.k)), (.int .i64 (x.n)), (.string (x.t)), v, (.slice none 0 0)]) Try.underlying33 z33 (pl33 Try.underlying33) (hlc rfl) (fun _ => by simp [Op.operands]) sl_strs ⟨rfl, (hlc rfl), ⟨rfl, (hlc rfl), ⟨rfl, (hlc rfl), ⟨rfl, rfl, trivial⟩⟩⟩⟩ (fun _ _ _ => rfl)) ?_
  refine .alloc z33 ?_
  refine .done ⟨by kernel_rfl, fun a4 g W4 y4 zz4 hk hg hV hR hP => ?_⟩
  obtain ⟨⟨b3_4, e3, hb3, own_b3_4⟩, e15, -, -, -, -, -, -, -, -, -, -⟩ := hV
  have lo_b3_4 : w.heap.size ≤ b3_4 := Nat.le_trans kw.size (hg.lo _ _ hb3)
  have ne_b2_2_b3_4 : b2_2 ≠ b3_4 := Nat.ne_of_lt (Nat.lt_of_lt_of_le own_b2_2.lt (hg.lo _ _ hb3))
  have ne_b1_2_b3_4 : b1_2 ≠ b3_4 := Nat.ne_of_lt (Nat.lt_of_lt_of_le own_b1_2.lt (hg.lo _ _ hb3))
  have own_b3_4 : Own W4 b3_4 [(.int .u8 (0)), (.int .i64 (0)), (.string (⟨#[]⟩)), (.slice none 0 0), (.slice none 0 0)] 33 := own_b3_4
  replace e2 := (hR 2 rfl).trans e2
  replace e1 := (hR 1 rfl).trans e1
  replace D_cn0 := sa_more D_cn0 hk [b3_4] (in_cons (hg.lo _ _ hb3) in_nil)
  replace D_ci0 := sa_more D_ci0 hk [b3_4] (in_cons (hg.lo _ _ hb3) in_nil)
  obtain ⟨v15_4a, v15_4n, v15_4c, ev, D_v15_4⟩ := e15
  replace D_v15_4 : Rd W4 (SF w [b3_4, b2_2, b1_2]) (strsD (x.ns)) _ := fr_end (M := [b2_2, b1_2]) D_v15_4 kw [b3_4] (in_cons ⟨_, hb3⟩ in_nil) (in_cons own_b2_2.lt (in_cons own_b1_2.lt in_nil))
  obtain ⟨xa, xc, ev2, D2⟩ := rdS_out D_v15_4
  injection ev2 with h1 h2 h3; subst h1 h2 h3; clear D2
  have e15 : sl a4 15 = (.agg #[(.int .u8 (x.k)), (.int .i64 (x.n)), (.string (x.t)), (.slice v15_4a (x.ns.length) v15_4c), (.slice none 0 0)]) := ev; clear ev
  replace own_b2_2 := own_b2_2.ext hk
  replace own_b1_2 := own_b1_2.ext hk
  replace kw := kw.x hk
  clear hR hk hg hP hb3
  refine tail_store (b := b3_4) (o := 0) (v := (.agg #[(.int .u8 (x.k)), (.int .i64 (x.n)), (.string (x.t)), (.slice v15_4a (x.ns.length) v15_4c), (.slice none 0 0)])) e3 e15 sz33 rfl own_b3_4 (lbr rfl) (all_cons rfl (all_cons rfl (all_cons rfl (all_cons rfl (all_cons rfl all_nil))))) (fun W5 hs own_b3_4 => ?_)
  have own_b3_4 : Own W5 b3_4 [(.int .u8 (x.k)), (.int .i64 (x.n)), (.string (x.t)), (.slice v15_4a (x.ns.length) v15_4c), (.slice none 0 0)] 33 := own_b3_4
  replace own_b2_2 := own_store own_b2_2 hs ne_b2_2_b3_4
  replace own_b1_2 := own_store own_b1_2 hs ne_b1_2_b3_4
  replace D_cn0 := sa_store D_cn0 hs (by simp)
  replace D_ci0 := sa_store D_ci0 hs (by simp)
  replace D_v15_4 := sf_store D_v15_4 hs (by simp)
  replace kw := keeps_store kw hs lo_b3_4
  clear hs
  refine tail_nil (hK3 _ _ ?_)
  refine wp_seq_k fun K6 hK6 => ?_
  refine wp_seq_k fun K7 hK7 => ?_
  refine rg mixed y4 zz4 ?_
  refine .i (fo 4 (hbs rfl e1) Try.underlying33 rfl sz31 rfl) ?_
  refine .i (lo1 (hlc rfl) own_b1_2 trivial agg31 sz31 rfl) ?_
  refine .i (sp_lenVs Try.underlying31 ((hlc rfl).dat D_ci0 sub_all)) ?_
  refine .i (sp_move Has.cst) ?_
  refine .done ⟨by kernel_rfl, fun a8 g W8 y8 zz8 hk hg hV hR hP => ?_⟩
  obtain ⟨e19, e18, e17, -, -⟩ := hV
  replace e2 := (hR 2 rfl).trans e2
  replace e3 := (hR 3 rfl).trans e3
  replace D_cn0 := D_cn0.ext hk
  replace D_ci0 := D_ci0.ext hk
  replace D_v15_4 := D_v15_4.ext hk
  have e17 : sl a8 17 = (.slice ci0a (x.xs.length) ci0c) := e17
  have e18 : sl a8 18 = (.int .i64 (x.xs.length)) := e18
  have e19 : sl a8 19 = (.int .i64 (0)) := e19
  replace own_b2_2 := own_b2_2.ext hk
  replace own_b1_2 := own_b1_2.ext hk
  replace own_b3_4 := own_b3_4.ext hk
  replace kw := kw.x hk
  clear hR hk hg hP
  refine tail_nil (hK7 _ _ ?_)
  refine wp_block ?_
  replace D_ci0 := sa_less (M' := [b3_4, b2_2]) D_ci0 (ls_keep (ls_keep ls_nil))
  replace D_v15_4 := sf_less (M' := [b3_4, b2_2]) D_v15_4 (ls_keep (ls_keep ls_nil))
  have A_ar9 : Arr W8 w.heap.size 33 5 (SF w (blks none ++ (b3_4 :: (b2_2 :: [])))) (List.map V.d ([])) (.slice none 0 0) none := arr_nil _ _ _ _ _
  replace D_ci0 : Rd W8 (SA w S (blks none ++ (b3_4 :: (b2_2 :: [])))) (valsD (x.xs)) (.slice ci0a (x.xs.length) ci0c) := D_ci0
  replace D_v15_4 : Rd W8 (SF w (blks none ++ (b3_4 :: (b2_2 :: [])))) (strsD (x.ns)) (.slice v15_4a (x.ns.length) v15_4c) := D_v15_4
  have av_ci0 := hav _ _ _ _ _ rfl
  have hvx := rdV_xs hv
  refine wp_for (x.xs.length) (fun k a W => ∃ (ys : List V), ∃ (va4_10 : Value), ∃ (hd4_10 : Option Nat), a.tmps.size = 36 ∧ a.defers = [] ∧ Keeps All w W ∧ sl a 2 = (.pointer (some ⟨b2_2, 0, none⟩)) ∧ sl a 3 = (.pointer (some ⟨b3_4, 0, none⟩)) ∧ sl a 17 = (.slice ci0a (x.xs.length) ci0c) ∧ sl a 18 = (.int .i64 (x.xs.length)) ∧ sl a 19 = (.int .i64 ((k : Nat))) ∧ Own W b2_2 [(.int .u8 (0)), (.int .i64 (0)), (.string (⟨#[]⟩)), (.slice none 0 0), (.slice none 0 0)] 33 ∧ Own W b3_4 [(.int .u8 (x.k)), (.int .i64 (x.n)), (.string (x.t)), (.slice v15_4a (x.ns.length) v15_4c), va4_10] 33 ∧ Rd W (SA w S (blks hd4_10 ++ (b3_4 :: (b2_2 :: [])))) (valsD (x.xs)) (.slice ci0a (x.xs.length) ci0c) ∧ Rd W (SF w (blks hd4_10 ++ (b3_4 :: (b2_2 :: [])))) (strsD (x.ns)) (.slice v15_4a (x.ns.length) v15_4c) ∧ Arr W w.heap.size 33 5 (SF w (blks hd4_10 ++ (b3_4 :: (b2_2 :: [])))) (List.map V.d (ys)) va4_10 hd4_10 ∧ b2_2 ∉ blks hd4_10 ∧ b3_4 ∉ blks hd4_10 ∧ (CpL x.xs ys k)) ⟨[], (.slice none 0 0), none, y8, zz8, kw, e2, e3, e17, e18, (e19.trans (congrArg (Value.int .i64) (rfl))), own_b2_2, own_b3_4, D_ci0, D_v15_4, A_ar9, nb_none, nb_none, cpL_nil _⟩ ?_
  clear kw e2 e3 e17 e18 e19 own_b2_2 own_b3_4 D_ci0 D_v15_4 A_ar9
  rintro k a10 W10 hkk ⟨ys, va4_10, hd4_10, y10, zz10, kw, e2, e3, e17, e18, e19, own_b2_2, own_b3_4, D_ci0, D_v15_4, A4_10, nb_b2_2_ar9_10, nb_b3_4_ar9_10, hys⟩
  refine wp_seq_k fun K11 hK11 => ?_
  refine rg mixed y10 zz10 ?_
  refine .i (sp_lss (hbs rfl e19) (hbs rfl e18)) ?_
  refine .done ⟨by kernel_rfl, fun a12 g W12 y12 zz12 hk hg hV hR hP => ?_⟩
  obtain ⟨e20, -⟩ := hV
  replace e2 := (hR 2 rfl).trans e2
  replace e3 := (hR 3 rfl).trans e3
  replace e17 := (hR 17 rfl).trans e17
  replace e18 := (hR 18 rfl).trans e18
  replace e19 := (hR 19 rfl).trans e19
  replace A4_10 := A4_10.ext hk
  replace D_ci0 := D_ci0.ext hk
  replace D_v15_4 := D_v15_4.ext hk
  replace e20 := e20.q
  replace own_b2_2 := own_b2_2.ext hk
  replace own_b3_4 := own_b3_4.ext hk
  replace kw := kw.x hk
  clear hR hk hg hP
  refine tail_nil (hK11 _ _ ?_)
  refine wp_seq_k fun K13 hK13 => ?_
  refine wp_cond_split e20 (fun hc => ?_) (fun hc => ?_)
  ·
   have hlt : k < x.xs.length := by simpa using hc
   have hwm := wts_mem hlt
   have hwc := cnts_wts (x.xs[k]).xs
   have hwe := wt_eq x.xs[k]
   obtain ⟨bq, oq, nqa, nqc, xqa, xqc, evq, hltq, hcq, htq, hnq, hxq, hfq, av_xq⟩ := el_qav hP av_ci0 hvx hlt
   have D_nq : Rd W12 (SA w S (blks hd4_10 ++ (b3_4 :: (b2_2 :: [])))) (strsD ((x.xs[k]'hlt).ns)) (.slice nqa (((x.xs[k]'hlt).ns).length) nqc) := (rd_argQ hnq (in_app A4_10.ge (in_cons lo_b3_4 (in_cons lo_b2_2 in_nil)))).ext kw
   have D_xq : Rd W12 (SA w S (blks hd4_10 ++ (b3_4 :: (b2_2 :: [])))) (valsD ((x.xs[k]'hlt).xs)) (.slice xqa (((x.xs[k]'hlt).xs).length) xqc) := (rd_argQ hxq (in_app A4_10.ge (in_cons lo_b3_4 (in_cons lo_b2_2 in_nil)))).ext kw
   refine wp_skip (hK13 _ _ ?_)
   refine wp_seq_k fun K14 hK14 => ?_
   refine wp_block ?_
   refine wp_seq_k fun K15 hK15 => ?_
   refine rg mixed y12 zz12 ?_
   refine .i (v := (.pointer (some ⟨bq, oq + k * 5, none⟩))) (sp_indexQ (i := k) evq (hbs rfl e17) (hbs rfl e19) Try.underlying31 sz33 hlt) ?_
   refine .i (v := (.agg #[(.int .u8 ((x.xs[k]'hlt).k)), (.int .i64 ((x.xs[k]'hlt).n)), (.string ((x.xs[k]'hlt).t)), (.slice nqa (((x.xs[k]'hlt).ns).length) nqc), (.slice xqa (((x.xs[k]'hlt).xs).length) xqc)])) (sp_loadQ5 kw (hlc rfl) agg33 sz33 hcq hltq) ?_
   refine .alloc z33 ?_
   refine .done ⟨by kernel_rfl, fun a16 g W16 y16 zz16 hk hg hV hR hP => ?_⟩
   obtain ⟨⟨b5_16, e5, hb5, own_b5_16⟩, e22, -, -⟩ := hV
   have lo_b5_16 : w.heap.size ≤ b5_16 := Nat.le_trans kw.size (hg.lo _ _ hb5)
   have ne_b2_2_b5_16 : b2_2 ≠ b5_16 := Nat.ne_of_lt (Nat.lt_of_lt_of_le own_b2_2.lt (hg.lo _ _ hb5))
   have ne_b3_4_b5_16 : b3_4 ≠ b5_16 := Nat.ne_of_lt (Nat.lt_of_lt_of_le own_b3_4.lt (hg.lo _ _ hb5))
   have own_b5_16 : Own W16 b5_16 [(.int .u8 (0)), (.int .i64 (0)), (.string (⟨#[]⟩)), (.slice none 0 0), (.slice none 0 0)] 33 := own_b5_16
   replace e2 := (hR 2 rfl).trans e2
   replace e3 := (hR 3 rfl).trans e3
   replace e17 := (hR 17 rfl).trans e17
   replace e18 := (hR 18 rfl).trans e18
   replace e19 := (hR 19 rfl).trans e19
   have nb_b5_16_ar9 : b5_16 ∉ blks hd4_10 := nb_lt A4_10.lt (hg.lo _ _ hb5)
   replace A4_10 : Arr W16 w.heap.size 33 5 (SF w (b5_16 :: (blks hd4_10 ++ (b3_4 :: (b2_2 :: []))))) (List.map V.d (ys)) va4_10 hd4_10 := arrF_more A4_10 hk [b5_16] (in_cons (hg.lo _ _ hb5) in_nil)
   replace D_ci0 : Rd W16 (SA w S (b5_16 :: (blks hd4_10 ++ (b3_4 :: (b2_2 :: []))))) (valsD (x.xs)) (.slice ci0a (x.xs.length) ci0c) := sa_more D_ci0 hk [b5_16] (in_cons (hg.lo _ _ hb5) in_nil)
   replace D_v15_4 : Rd W16 (SF w (b5_16 :: (blks hd4_10 ++ (b3_4 :: (b2_2 :: []))))) (strsD (x.ns)) (.slice v15_4a (x.ns.length) v15_4c) := sf_more D_v15_4 hk [b5_16] (in_cons (hg.lo _ _ hb5) in_nil)
   replace D_nq : Rd W16 (SA w S (b5_16 :: (blks hd4_10 ++ (b3_4 :: (b2_2 :: []))))) (strsD ((x.xs[k]'hlt).ns)) (.slice nqa (((x.xs[k]'hlt).ns).length) nqc) := sa_more D_nq hk [b5_16] (in_cons (hg.lo _ _ hb5) in_nil)
   replace D_xq : Rd W16 (SA w S (b5_16 :: (blks hd4_10 ++ (b3_4 :: (b2_2 :: []))))) (valsD ((x.xs[k]'hlt).xs)) (.slice xqa (((x.xs[k]'hlt).xs).length) xqc) := sa_more D_xq hk [b5_16] (in_cons (hg.lo _ _ hb5) in_nil)
   replace e22 := e22.q
   replace own_b2_2 := own_b2_2.ext hk
   replace own_b3_4 := own_b3_4.ext hk
   replace kw := kw.x hk
   clear hR hk hg hP hb5
   refine tail_store (b := b5_16) (o := 0) (v := (.agg #[(.int .u8 ((x.xs[k]'hlt).k)), (.int .i64 ((x.xs[k]'hlt).n)), (.string ((x.xs[k]'hlt).t)), (.slice nqa (((x.xs[k]'hlt).ns).length) nqc), (.slice xqa (((x.xs[k]'hlt).xs).length) xqc)])) e5 e22 sz33 rfl own_b5_16 (lbr rfl) (all_cons rfl (all_cons rfl (all_cons rfl (all_cons rfl (all_cons rfl all_nil))))) (fun W17 hs own_b5_16 => ?_)
   have own_b5_16 : Own W17 b5_16 [(.int .u8 ((x.xs[k]'hlt).k)), (.int .i64 ((x.xs[k]'hlt).n)), (.string ((x.xs[k]'hlt).t)), (.slice nqa (((x.xs[k]'hlt).ns).length) nqc), (.slice xqa (((x.xs[k]'hlt).xs).length) xqc)] 33 := own_b5_16
   replace own_b2_2 := own_store own_b2_2 hs ne_b2_2_b5_16
   replace own_b3_4 := own_store own_b3_4 hs ne_b3_4_b5_16
   replace D_ci0 := sa_store D_ci0 hs (by simp)
   replace D_v15_4 := sf_store D_v15_4 hs (by simp)
   replace D_nq := sa_store D_nq hs (by simp)
   replace D_xq := sa_store D_xq hs (by simp)
   replace A4_10 := arrF_store A4_10 hs (by simp) nb_b5_16_ar9
   replace kw := keeps_store kw hs lo_b5_16
   clear hs
   refine tail_nil (hK15 _ _ ?_)
   refine wp_seq_k fun K18 hK18 => ?_
   refine wp_seq_k fun K19 hK19 => ?_
   refine rg mixed y16 zz16 ?_
   refine .i (fo 4 (hbs rfl e5) Try.underlying33 rfl sz31 rfl) ?_
   refine .i (lo1 (hlc rfl) own_b5_16 trivial agg31 sz31 rfl) ?_
   refine .op (φ := IsUB) st_ub (sp_call4 (φ1 := Is (.slice xqa (((x.xs[k]'hlt).xs).length) xqc)) (φ2 := Is (.int .i64 (1))) (φ3 := Is (.pointer none)) (φ4 := Is (.bool (false))) ent137 (hlc rfl) Has.cst Has.cst Has.cst (fun g u1 u2 u3 u4 W hk hgk h1 h2 h3 h4 => by have h1 : u1 = _ := h1; subst u1; have h2 : u2 = _ := h2; subst u2; have h3 : u3 = _ := h3; subst u3; have h4 : u4 = _ := h4; subst u4; exact endlessP_all u _ ((x.xs[k]'hlt).xs) (Nat.lt_succ_self _) (1) (by omega) (by omega) (false) _ W _ _ (Nat.le_trans hu (Nat.le_trans kw.size hk.size)) (pin_sa hP hu) av_xq (D_xq.ext hk) (.inl rfl))) ?_
   refine .done ⟨by kernel_rfl, fun a20 g W20 y20 zz20 hk hg hV hR hP => ?_⟩
   obtain ⟨e25, -, -, -⟩ := hV
   replace e2 := (hR 2 rfl).trans e2
   replace e3 := (hR 3 rfl).trans e3
   replace e17 := (hR 17 rfl).trans e17
   replace e18 := (hR 18 rfl).trans e18
   replace e19 := (hR 19 rfl).trans e19
   replace e5 := (hR 5 rfl).trans e5
   obtain ⟨r25_20, e25⟩ := e25
   replace A4_10 := A4_10.ext hk
   replace D_ci0 := D_ci0.ext hk
   replace D_v15_4 := D_v15_4.ext hk
   replace D_nq := D_nq.ext hk
   replace D_xq := D_xq.ext hk
   have e25 : sl a20 25 = (.bool (r25_20)) := e25
   replace own_b2_2 := own_b2_2.ext hk
   replace own_b3_4 := own_b3_4.ext hk
   replace own_b5_16 := own_b5_16.ext hk
   replace kw := kw.x hk
   clear hR hk hg hP
   refine tail_nil (hK19 _ _ ?_)
   refine wp_cond_split e25 (fun hc => ?_) (fun hc => ?_)
   ·
    refine rg mixed y20 zz20 ?_
    refine .i (v := (.agg #[(.int .u8 (0)), (.int .i64 (0)), (.string (⟨#[]⟩)), (.slice none 0 0), (.slice none 0 0)])) (sp_build (vs := []) Try.underlying33 z33 (pl33 Try.underlying33) trivial rfl) ?_
    refine .done ⟨by kernel_rfl, fun a21 g W21 y21 zz21 hk hg hV hR hP => ?_⟩
    obtain ⟨e26, -⟩ := hV
    replace e2 := (hR 2 rfl).trans e2
    replace e3 := (hR 3 rfl).trans e3
    replace e17 := (hR 17 rfl).trans e17
    replace e18 := (hR 18 rfl).trans e18
    replace e19 := (hR 19 rfl).trans e19
    replace e5 := (hR 5 rfl).trans e5
    replace A4_10 := A4_10.ext hk
    replace D_ci0 := D_ci0.ext hk
    replace D_v15_4 := D_v15_4.ext hk
    replace D_nq := D_nq.ext hk
    replace D_xq := D_xq.ext hk
    replace e26 := e26.q
    replace own_b2_2 := own_b2_2.ext hk
    replace own_b3_4 := own_b3_4.ext hk
    replace own_b5_16 := own_b5_16.ext hk
    replace kw := kw.x hk
    clear hR hk hg hP
    refine tail_store (b := b5_16) (o := 0) (v := (.agg #[(.int .u8 (0)), (.int .i64 (0)), (.string (⟨#[]⟩)), (.slice none 0 0), (.slice none 0 0)])) e5 e26 sz33 rfl own_b5_16 (lbr rfl) (all_cons rfl (all_cons rfl (all_cons rfl (all_cons rfl (all_cons rfl all_nil))))) (fun W22 hs own_b5_16 => ?_)
    have own_b5_16 : Own W22 b5_16 [(.int .u8 (0)), (.int .i64 (0)), (.string (⟨#[]⟩)), (.slice none 0 0), (.slice none 0 0)] 33 := own_b5_16
    replace own_b2_2 := own_store own_b2_2 hs ne_b2_2_b5_16
    replace own_b3_4 := own_store own_b3_4 hs ne_b3_4_b5_16
    replace D_ci0 := sa_store D_ci0 hs (by simp)
    replace D_v15_4 := sf_store D_v15_4 hs (by simp)
    replace D_nq := sa_store D_nq hs (by simp)
    replace D_xq := sa_store D_xq hs (by simp)
    replace A4_10 := arrF_store A4_10 hs (by simp) nb_b5_16_ar9
    replace kw := keeps_store kw hs lo_b5_16
    clear hs
    refine tail_nil (hK18 _ _ ?_)
    refine wp_reg (fun k => k ∉ blks hd4_10) (Ψ := fun W => Arr W w.heap.size 33 5 (SF w (b5_16 :: (blks hd4_10 ++ (b3_4 :: (b2_2 :: []))))) (List.map V.d (ys)) va4_10 hd4_10) mixed y21 zz21 (fun W W' k h => h.ext k) A4_10 ?_
    refine .i (fo 4 (hbs rfl e3) Try.underlying33 rfl sz31 rfl) ?_
    refine .i (lo1 (hlc rfl) own_b3_4 nb_b3_4_ar9_10 agg31 sz31 rfl) ?_
    refine .i (v := (.agg #[(.int .u8 (0)), (.int .i64 (0)), (.string (⟨#[]⟩)), (.slice none 0 0), (.slice none 0 0)])) (loA (hbs rfl e5) own_b5_16 nb_b5_16_ar9 agg33 sz33 rfl rfl) ?_
    refine .op (φ := IsD (Fr W22) (V.d (V.mk (0) (0) (⟨#[]⟩) ([]) ([])))) (st_d (sub_frnb (fun b hb => A4_10.lt b hb))) (sp_call1 (φ1 := IsD (SA w S (b5_16 :: (blks hd4_10 ++ (b3_4 :: (b2_2 :: []))))) (V.d (V.mk (0) (0) (⟨#[]⟩) ([]) ([])))) ent138 ((hlc rfl).dat (rdV_mk (lbr rfl) (rd_nil _) (rd_nil _) : Rd W22 (SA w S (b5_16 :: (blks hd4_10 ++ (b3_4 :: (b2_2 :: []))))) (V.d (V.mk (0) (0) (⟨#[]⟩) ([]) ([]))) _) (sub_nb (fun b hb => List.mem_cons_of_mem _ (List.mem_append_left _ hb)))) (fun g u1 W hk hgk h1 => (duplicate_all _ (V.mk (0) (0) (⟨#[]⟩) ([]) ([])) (Nat.le_refl _) (by first | omega | exact Nat.le_of_ble_eq_true (by kernel_rfl)) W _ _ h1).mono (ret_fr hk hgk))) ?_
    refine .op (φ := IsD (SF w (b5_16 :: (blks hd4_10 ++ (b3_4 :: (b2_2 :: []))))) (valsD ([V.mk (0) (0) (⟨#[]⟩) ([]) ([])]))) (st_d (sub_nbF (fun b hb => List.mem_cons_of_mem _ (List.mem_append_left _ hb)))) (sp_bsl (ds := [V.d (V.mk (0) (0) (⟨#[]⟩) ([]) ([]))]) Try.underlying31 sz33 z33 (lbr rfl) (lbr rfl) ⟨rfl, ((hlc rfl).sup (fr_sf kw (in_cons own_b5_16.lt (in_app A4_10.lt (in_cons own_b3_4.lt (in_cons own_b2_2.lt in_nil)))))), trivial⟩ rfl (by intro e he; simp at he; rcases he with rfl <;> exact width_V _) (fr_sf kw (in_cons own_b5_16.lt (in_app A4_10.lt (in_cons own_b3_4.lt (in_cons own_b2_2.lt in_nil)))))) ?_
    refine .appB (ds := List.map V.d (ys)) (es := [V.d (V.mk (0) (0) (⟨#[]⟩) ([]) ([]))]) (X := SF w (b5_16 :: (blks hd4_10 ++ (b3_4 :: (b2_2 :: []))))) Try.underlying31 inf33 (lbr rfl) (hlc rfl) (hlc rfl) (sub_nbF (fun b hb => List.mem_cons_of_mem _ (List.mem_append_left _ hb))) (by simp [hys.1, maxLen]; omega) (by simp [hys.1]; omega) kw.size ?_
    refine .i (fo 4 (hbs rfl e3) Try.underlying33 rfl sz31 rfl) ?_
    refine .done ⟨by kernel_rfl, fun a23 g W23 y23 zz23 hk hg hV hR hP => ?_⟩
    obtain ⟨e33, e32, -, -, -, -, -, -⟩ := hV
    replace e2 := (hR 2 rfl).trans e2
    replace e3 := (hR 3 rfl).trans e3
    replace e17 := (hR 17 rfl).trans e17
    replace e18 := (hR 18 rfl).trans e18
    replace e19 := (hR 19 rfl).trans e19
    obtain ⟨v32_23, ev⟩ : ∃ v, sl a23 32 = v := ⟨_, rfl⟩
    rw [ev] at e32
    obtain ⟨hd32_23, A_32_23, hf32_23⟩ := e32
    have e32 := ev; clear ev
    obtain ⟨v32_23a, v32_23n, v32_23c, ev⟩ := arr_sl A_32_23; subst ev
    replace A_32_23 := arrF_new (M' := (b5_16 :: (blks hd32_23 ++ (b3_4 :: (b2_2 :: []))))) A_32_23 (rep_cons (rep_app (rep_q fun _ h => h) (rep_cons (rep_cons rep_nil))))
    replace A_32_23 : Arr W23 w.heap.size 33 5 (SF w (b5_16 :: (blks hd32_23 ++ (b3_4 :: (b2_2 :: []))))) (List.map V.d (ys ++ [V.mk (0) (0) (⟨#[]⟩) ([]) ([])])) (.slice v32_23a v32_23n v32_23c) hd32_23 := by first | exact A_32_23 | (rw [List.map_append]; exact A_32_23)
    have nb_b2_2_23 : b2_2 ∉ blks hd32_23 := nb_new nb_b2_2_ar9_10 own_b2_2.lt hf32_23
    have nb_b3_4_23 : b3_4 ∉ blks hd32_23 := nb_new nb_b3_4_ar9_10 own_b3_4.lt hf32_23
    have nb_b5_16_23 : b5_16 ∉ blks hd32_23 := nb_new nb_b5_16_ar9 own_b5_16.lt hf32_23
    replace D_ci0 := sa_app (M' := (b5_16 :: (blks hd32_23 ++ (b3_4 :: (b2_2 :: []))))) D_ci0 hk (fun b hb => List.mem_cons_of_mem _ (List.mem_append_left _ hb)) (rep_cons (rep_app hf32_23 (rep_cons (rep_cons rep_nil))))
    replace D_v15_4 := sf_app (M' := (b5_16 :: (blks hd32_23 ++ (b3_4 :: (b2_2 :: []))))) D_v15_4 hk (fun b hb => List.mem_cons_of_mem _ (List.mem_append_left _ hb)) (rep_cons (rep_app hf32_23 (rep_cons (rep_cons rep_nil))))
    replace D_nq := sa_app (M' := (b5_16 :: (blks hd32_23 ++ (b3_4 :: (b2_2 :: []))))) D_nq hk (fun b hb => List.mem_cons_of_mem _ (List.mem_append_left _ hb)) (rep_cons (rep_app hf32_23 (rep_cons (rep_cons rep_nil))))
    replace D_xq := sa_app (M' := (b5_16 :: (blks hd32_23 ++ (b3_4 :: (b2_2 :: []))))) D_xq hk (fun b hb => List.mem_cons_of_mem _ (List.mem_append_left _ hb)) (rep_cons (rep_app hf32_23 (rep_cons (rep_cons rep_nil))))
    replace own_b2_2 := own_app own_b2_2 hk nb_b2_2_ar9_10
    replace own_b3_4 := own_app own_b3_4 hk nb_b3_4_ar9_10
    replace own_b5_16 := own_app own_b5_16 hk nb_b5_16_ar9
    replace kw := keeps_app kw hk A4_10.ge
    have e33 : sl a23 33 = (.pointer (some ⟨b3_4, 4, none⟩)) := e33
    clear hR hk hg hP hf32_23 A4_10
    refine tail_store (b := b3_4) (o := 4) (v := (.slice v32_23a v32_23n v32_23c)) e33 e32 sz31 rfl own_b3_4 (lbr rfl) (all_cons rfl all_nil) (fun W24 hs own_b3_4 => ?_)
    have own_b3_4 : Own W24 b3_4 [(.int .u8 (x.k)), (.int .i64 (x.n)), (.string (x.t)), (.slice v15_4a (x.ns.length) v15_4c), (.slice v32_23a v32_23n v32_23c)] 33 := own_b3_4
    replace own_b2_2 := own_store own_b2_2 hs ne_b2_2_b3_4
    replace own_b5_16 := own_store own_b5_16 hs ne_b3_4_b5_16.symm
    replace D_ci0 := sa_store D_ci0 hs (by simp)
    replace D_v15_4 := sf_store D_v15_4 hs (by simp)
    replace D_nq := sa_store D_nq hs (by simp)
    replace D_xq := sa_store D_xq hs (by simp)
    replace A_32_23 := arrF_store A_32_23 hs (by simp) nb_b3_4_23
    replace kw := keeps_store kw hs lo_b3_4
    clear hs
    refine tail_nil (hK14 _ _ ?_)
    refine rg mixed y23 zz23 ?_
    refine .i (sp_add (hbs rfl e19) Has.cst (i64_in (by omega))) ?_
    refine .i (sp_move (hlc rfl)) ?_
    refine .done ⟨by kernel_rfl, fun a25 g W25 y25 zz25 hk hg hV hR hP => ?_⟩
    obtain ⟨e19, -, -⟩ := hV
    replace e2 := (hR 2 rfl).trans e2
    replace e3 := (hR 3 rfl).trans e3
    replace e17 := (hR 17 rfl).trans e17
    replace e18 := (hR 18 rfl).trans e18
    replace A_32_23 := A_32_23.ext hk
    replace D_ci0 := D_ci0.ext hk
    replace D_v15_4 := D_v15_4.ext hk
    replace D_nq := D_nq.ext hk
    replace D_xq := D_xq.ext hk
    replace e19 := e19.q
    replace own_b2_2 := own_b2_2.ext hk
    replace own_b3_4 := own_b3_4.ext hk
    replace own_b5_16 := own_b5_16.ext hk
    replace kw := kw.x hk
    clear hR hk hg hP
    exact tail_nil ⟨hlt, (ys ++ [V.mk (0) (0) (⟨#[]⟩) ([]) ([])]), (.slice v32_23a v32_23n v32_23c), hd32_23, y25, zz25, kw, e2, e3, e17, e18, (e19.trans (congrArg (Value.int .i64) (by simp))), own_b2_2, own_b3_4, (sa_less D_ci0 (ls_skip (ls_keepA (ls_keep (ls_keep ls_nil))))), (sf_less D_v15_4 (ls_skip (ls_keepA (ls_keep (ls_keep ls_nil))))), (arrF_less A_32_23 (ls_skip (ls_keepA (ls_keep (ls_keep ls_nil))))), nb_b2_2_23, nb_b3_4_23, (cpL_step hys hlt (by first | exact .inl rfl | exact .inr rfl))⟩
   ·
    refine wp_skip (hK18 _ _ ?_)
    refine wp_reg (fun k => k ∉ blks hd4_10) (Ψ := fun W => Arr W w.heap.size 33 5 (SF w (b5_16 :: (blks hd4_10 ++ (b3_4 :: (b2_2 :: []))))) (List.map V.d (ys)) va4_10 hd4_10) mixed y20 zz20 (fun W W' k h => h.ext k) A4_10 ?_
    refine .i (fo 4 (hbs rfl e3) Try.underlying33 rfl sz31 rfl) ?_
    refine .i (lo1 (hlc rfl) own_b3_4 nb_b3_4_ar9_10 agg31 sz31 rfl) ?_
    refine .i (v := (.agg #[(.int .u8 ((x.xs[k]'hlt).k)), (.int .i64 ((x.xs[k]'hlt).n)), (.string ((x.xs[k]'hlt).t)), (.slice nqa (((x.xs[k]'hlt).ns).length) nqc), (.slice xqa (((x.xs[k]'hlt).xs).length) xqc)])) (loA (hbs rfl e5) own_b5_16 nb_b5_16_ar9 agg33 sz33 rfl rfl) ?_
    refine .op (φ := IsD (Fr W20) (V.d ((x.xs[k]'hlt)))) (st_d (sub_frnb (fun b hb => A4_10.lt b hb))) (sp_call1 (φ1 := IsD (SA w S (b5_16 :: (blks hd4_10 ++ (b3_4 :: (b2_2 :: []))))) (V.d ((x.xs[k]'hlt)))) ent138 ((hlc rfl).dat (rdV_in (x := (x.xs[k]'hlt)) htq D_nq D_xq : Rd W20 (SA w S (b5_16 :: (blks hd4_10 ++ (b3_4 :: (b2_2 :: []))))) (V.d ((x.xs[k]'hlt))) _) (sub_nb (fun b hb => List.mem_cons_of_mem _ (List.mem_append_left _ hb)))) (fun g u1 W hk hgk h1 => (duplicate_all _ ((x.xs[k]'hlt)) (Nat.le_refl _) (by first | omega | exact Nat.le_of_ble_eq_true (by kernel_rfl)) W _ _ h1).mono (ret_fr hk hgk))) ?_
    refine .op (φ := IsD (SF w (b5_16 :: (blks hd4_10 ++ (b3_4 :: (b2_2 :: []))))) (valsD ([(x.xs[k]'hlt)]))) (st_d (sub_nbF (fun b hb => List.mem_cons_of_mem _ (List.mem_append_left _ hb)))) (sp_bsl (ds := [V.d ((x.xs[k]'hlt))]) Try.underlying31 sz33 z33 (lbr rfl) (lbr rfl) ⟨rfl, ((hlc rfl).sup (fr_sf kw (in_cons own_b5_16.lt (in_app A4_10.lt (in_cons own_b3_4.lt (in_cons own_b2_2.lt in_nil)))))), trivial⟩ rfl (by intro e he; simp at he; rcases he with rfl <;> exact width_V _) (fr_sf kw (in_cons own_b5_16.lt (in_app A4_10.lt (in_cons own_b3_4.lt (in_cons own_b2_2.lt in_nil)))))) ?_
    refine .appB (ds := List.map V.d (ys)) (es := [V.d ((x.xs[k]'hlt))]) (X := SF w (b5_16 :: (blks hd4_10 ++ (b3_4 :: (b2_2 :: []))))) Try.underlying31 inf33 (lbr rfl) (hlc rfl) (hlc rfl) (sub_nbF (fun b hb => List.mem_cons_of_mem _ (List.mem_append_left _ hb))) (by simp [hys.1, maxLen]; omega) (by simp [hys.1]; omega) kw.size ?_
    refine .i (fo 4 (hbs rfl e3) Try.underlying33 rfl sz31 rfl) ?_
    refine .done ⟨by kernel_rfl, fun a26 g W26 y26 zz26 hk hg hV hR hP => ?_⟩
    obtain ⟨e33, e32, -, -, -, -, -, -⟩ := hV
    replace e2 := (hR 2 rfl).trans e2
    replace e3 := (hR 3 rfl).trans e3
    replace e17 := (hR 17 rfl).trans e17
    replace e18 := (hR 18 rfl).trans e18
    replace e19 := (hR 19 rfl).trans e19
    obtain ⟨v32_26, ev⟩ : ∃ v, sl a26 32 = v := ⟨_, rfl⟩
    rw [ev] at e32
    obtain ⟨hd32_26, A_32_26, hf32_26⟩ := e32
    have e32 := ev; clear ev
    obtain ⟨v32_26a, v32_26n, v32_26c, ev⟩ := arr_sl A_32_26; subst ev
    replace A_32_26 := arrF_new (M' := (b5_16 :: (blks hd32_26 ++ (b3_4 :: (b2_2 :: []))))) A_32_26 (rep_cons (rep_app (rep_q fun _ h => h) (rep_cons (rep_cons rep_nil))))
    replace A_32_26 : Arr W26 w.heap.size 33 5 (SF w (b5_16 :: (blks hd32_26 ++ (b3_4 :: (b2_2 :: []))))) (List.map V.d (ys ++ [(x.xs[k]'hlt)])) (.slice v32_26a v32_26n v32_26c) hd32_26 := by first | exact A_32_26 | (rw [List.map_append]; exact A_32_26)
    have nb_b2_2_26 : b2_2 ∉ blks hd32_26 := nb_new nb_b2_2_ar9_10 own_b2_2.lt hf32_26
    have nb_b3_4_26 : b3_4 ∉ blks hd32_26 := nb_new nb_b3_4_ar9_10 own_b3_4.lt hf32_26
    have nb_b5_16_26 : b5_16 ∉ blks hd32_26 := nb_new nb_b5_16_ar9 own_b5_16.lt hf32_26
    replace D_ci0 := sa_app (M' := (b5_16 :: (blks hd32_26 ++ (b3_4 :: (b2_2 :: []))))) D_ci0 hk (fun b hb => List.mem_cons_of_mem _ (List.mem_append_left _ hb)) (rep_cons (rep_app hf32_26 (rep_cons (rep_cons rep_nil))))
    replace D_v15_4 := sf_app (M' := (b5_16 :: (blks hd32_26 ++ (b3_4 :: (b2_2 :: []))))) D_v15_4 hk (fun b hb => List.mem_cons_of_mem _ (List.mem_append_left _ hb)) (rep_cons (rep_app hf32_26 (rep_cons (rep_cons rep_nil))))
    replace D_nq := sa_app (M' := (b5_16 :: (blks hd32_26 ++ (b3_4 :: (b2_2 :: []))))) D_nq hk (fun b hb => List.mem_cons_of_mem _ (List.mem_append_left _ hb)) (rep_cons (rep_app hf32_26 (rep_cons (rep_cons rep_nil))))
    replace D_xq := sa_app (M' := (b5_16 :: (blks hd32_26 ++ (b3_4 :: (b2_2 :: []))))) D_xq hk (fun b hb => List.mem_cons_of_mem _ (List.mem_append_left _ hb)) (rep_cons (rep_app hf32_26 (rep_cons (rep_cons rep_nil))))
    replace own_b2_2 := own_app own_b2_2 hk nb_b2_2_ar9_10
    replace own_b3_4 := own_app own_b3_4 hk nb_b3_4_ar9_10
    replace own_b5_16 := own_app own_b5_16 hk nb_b5_16_ar9
    replace kw := keeps_app kw hk A4_10.ge
    have e33 : sl a26 33 = (.pointer (some ⟨b3_4, 4, none⟩)) := e33
    clear hR hk hg hP hf32_26 A4_10
    refine tail_store (b := b3_4) (o := 4) (v := (.slice v32_26a v32_26n v32_26c)) e33 e32 sz31 rfl own_b3_4 (lbr rfl) (all_cons rfl all_nil) (fun W27 hs own_b3_4 => ?_)
    have own_b3_4 : Own W27 b3_4 [(.int .u8 (x.k)), (.int .i64 (x.n)), (.string (x.t)), (.slice v15_4a (x.ns.length) v15_4c), (.slice v32_26a v32_26n v32_26c)] 33 := own_b3_4
    replace own_b2_2 := own_store own_b2_2 hs ne_b2_2_b3_4
    replace own_b5_16 := own_store own_b5_16 hs ne_b3_4_b5_16.symm
    replace D_ci0 := sa_store D_ci0 hs (by simp)
    replace D_v15_4 := sf_store D_v15_4 hs (by simp)
    replace D_nq := sa_store D_nq hs (by simp)
    replace D_xq := sa_store D_xq hs (by simp)
    replace A_32_26 := arrF_store A_32_26 hs (by simp) nb_b3_4_26
    replace kw := keeps_store kw hs lo_b3_4
    clear hs
    refine tail_nil (hK14 _ _ ?_)
    refine rg mixed y26 zz26 ?_
    refine .i (sp_add (hbs rfl e19) Has.cst (i64_in (by omega))) ?_
    refine .i (sp_move (hlc rfl)) ?_
    refine .done ⟨by kernel_rfl, fun a28 g W28 y28 zz28 hk hg hV hR hP => ?_⟩
    obtain ⟨e19, -, -⟩ := hV
    replace e2 := (hR 2 rfl).trans e2
    replace e3 := (hR 3 rfl).trans e3
    replace e17 := (hR 17 rfl).trans e17
    replace e18 := (hR 18 rfl).trans e18
    replace A_32_26 := A_32_26.ext hk
    replace D_ci0 := D_ci0.ext hk
    replace D_v15_4 := D_v15_4.ext hk
    replace D_nq := D_nq.ext hk
    replace D_xq := D_xq.ext hk
    replace e19 := e19.q
    replace own_b2_2 := own_b2_2.ext hk
    replace own_b3_4 := own_b3_4.ext hk
    replace own_b5_16 := own_b5_16.ext hk
    replace kw := kw.x hk
    clear hR hk hg hP
    exact tail_nil ⟨hlt, (ys ++ [(x.xs[k]'hlt)]), (.slice v32_26a v32_26n v32_26c), hd32_26, y28, zz28, kw, e2, e3, e17, e18, (e19.trans (congrArg (Value.int .i64) (by simp))), own_b2_2, own_b3_4, (sa_less D_ci0 (ls_skip (ls_keepA (ls_keep (ls_keep ls_nil))))), (sf_less D_v15_4 (ls_skip (ls_keepA (ls_keep (ls_keep ls_nil))))), (arrF_less A_32_26 (ls_skip (ls_keepA (ls_keep (ls_keep ls_nil))))), nb_b2_2_26, nb_b3_4_26, (cpL_step hys hlt (by first | exact .inl rfl | exact .inr rfl))⟩
  ·
   have hge0 : ¬ k < x.xs.length := by simpa using hc
   have hge : k = x.xs.length := by omega
   rw [hge] at hys
   have D_va4_10 : Rd W12 (SF w [b3_4, b2_2]) (valsD (ys)) va4_10 := arrF_rd A4_10 (ls_skipA (ls_keep (ls_keep ls_nil))) (nin_cons nb_b3_4_ar9_10 (nin_cons nb_b2_2_ar9_10 nin_nil))
   obtain ⟨va4_10a, va4_10c, ev, D2⟩ := rdVs_out D_va4_10
   subst ev; replace D_va4_10 := D2; clear D2
   replace D_ci0 := sa_less (M' := [b3_4, b2_2]) D_ci0 (ls_skipA (ls_keep (ls_keep ls_nil)))
   replace D_v15_4 := sf_less (M' := [b3_4, b2_2]) D_v15_4 (ls_skipA (ls_keep (ls_keep ls_nil)))
   refine wp_exit (hK6 _ _ ?_)
   refine wp_seq_k fun K29 hK29 => ?_
   refine rg mixed y12 zz12 ?_
   refine .i (v := (.agg #[(.int .u8 (x.k)), (.int .i64 (x.n)), (.string (x.t)), (.slice v15_4a (x.ns.length) v15_4c), (.slice va4_10a (ys.length) va4_10c)])) (loA (hbs rfl e3) own_b3_4 trivial agg33 sz33 rfl rfl) ?_
   refine .done ⟨by kernel_rfl, fun a30 g W30 y30 zz30 hk hg hV hR hP => ?_⟩
   obtain ⟨e35, -⟩ := hV
   replace e2 := (hR 2 rfl).trans e2
   replace D_ci0 := D_ci0.ext hk
   replace D_v15_4 := D_v15_4.ext hk
   replace D_va4_10 := D_va4_10.ext hk
   replace e35 := e35.q
   replace own_b2_2 := own_b2_2.ext hk
   replace own_b3_4 := own_b3_4.ext hk
   replace kw := kw.x hk
   clear hR hk hg hP
   refine tail_store (b := b2_2) (o := 0) (v := (.agg #[(.int .u8 (x.k)), (.int .i64 (x.n)), (.string (x.t)), (.slice v15_4a (x.ns.length) v15_4c), (.slice va4_10a (ys.length) va4_10c)])) e2 e35 sz33 rfl own_b2_2 (lbr rfl) (all_cons rfl (all_cons rfl (all_cons rfl (all_cons rfl (all_cons rfl all_nil))))) (fun W31 hs own_b2_2 => ?_)
   have own_b2_2 : Own W31 b2_2 [(.int .u8 (x.k)), (.int .i64 (x.n)), (.string (x.t)), (.slice v15_4a (x.ns.length) v15_4c), (.slice va4_10a (ys.length) va4_10c)] 33 := own_b2_2
   replace own_b3_4 := own_store own_b3_4 hs ne_b2_2_b3_4.symm
   replace D_ci0 := sa_store D_ci0 hs (by simp)
   replace D_v15_4 := sf_store D_v15_4 hs (by simp)
   replace D_va4_10 := sf_store D_va4_10 hs (by simp)
   replace kw := keeps_store kw hs lo_b2_2
   clear hs
   refine tail_nil (hK29 _ _ ?_)
   refine wp_ret ?_
   refine (show bodyPost Try.prog Try.f79 _ .ret _ _ from retC (v := (.agg #[(.int .u8 (x.k)), (.int .i64 (x.n)), (.string (x.t)), (.slice v15_4a (x.ns.length) v15_4c), (.slice va4_10a (ys.length) va4_10c)])) rfl zz30 e2 own_b2_2 agg33 sz33 rfl (fun h => by cases h) rfl ⟨_, rfl, kw, ?_⟩)
   exact ⟨V.mk (x.k) (x.n) (x.t) (x.ns) (ys), ⟨rfl, rfl, rfl, rfl, hys.1, hys.2⟩, sf_fr (rdV_mk ht0 D_v15_4 D_va4_10 : Rd W31 (SF w [b3_4, b2_2]) (V.d (V.mk (x.k) (x.n) (x.t) (x.ns) (ys))) _)⟩
end Go.Proofs.Ytnobijngkpflcaa
namespace Go.Proofs.Ytnobijngkpflcaa
open Go.Eng
set_option maxRecDepth 100000 in
theorem search_ok (n : Nat) (hn : n ≤ 1073741824) (fi : FuncId) (cb : Array Value) (p : Nat → Bool) (w : World) (ef : Enters Try.prog fi) (hf : ∀ W, Ext w W → ∀ i, i < n → Calls Try.prog fi (#[.int .i64 i] ++ cb) W (Ret W fun u _ => u = .bool (p i))) :
    Calls Try.prog 165 #[.int .i64 n, .func (.func fi) #[] cb] w (Ret w fun u _ => ∃ m : Nat, u = .int .i64 m ∧ m ≤ n ∧ (m = 0 ∨ p (m - 1) = false) ∧ (m = n ∨ p m = true)) := by
  refine enter Try.func165 rfl Try.ntmps165 (lbr rfl) fun a0 y0 zz0 harg => ?_
  have e0 : sl a0 0 = (.int .i64 ((n : Nat))) := harg 0 (lbr rfl)
  have e1 : sl a0 1 = (.func (.func fi) #[] cb) := harg 1 (lbr rfl)
  have kw := Keeps.refl All w
  clear harg
  refine wp_seq_k fun K1 hK1 => ?_
  refine rg mixed y0 zz0 ?_
  refine .i (sp_assign Has.cst) ?_
  refine .done ⟨by kernel_rfl, fun a2 g W2 y2 zz2 hk hg hV hR hP => ?_⟩
  obtain ⟨-, -⟩ := hV
  replace e0 := (hR 0 rfl).trans e0
  replace e1 := (hR 1 rfl).trans e1
  replace kw := kw.x hk
  clear hR hk hg hP
  refine tail_nil (hK1 _ _ ?_)
  refine wp_seq_k fun K3 hK3 => ?_
  refine rg mixed y2 zz2 ?_
  refine .i (sp_move (hbs rfl e0)) ?_
  refine .i (sp_assign Has.cst) ?_
  refine .i (sp_assign (hlc rfl)) ?_
  refine .done ⟨by kernel_rfl, fun a4 g W4 y4 zz4 hk hg hV hR hP => ?_⟩
  obtain ⟨e6, e5, -, -⟩ := hV
  replace e1 := (hR 1 rfl).trans e1
  have e5 : sl a4 5 = (.int .i64 (0)) := e5
  have e6 : sl a4 6 = (.int .i64 ((n : Nat))) := e6
  replace kw := kw.x hk
  clear hR hk hg hP
  refine tail_nil (hK3 _ _ ?_)
  refine wp_seq_k fun K5 hK5 => ?_
  refine wp_block ?_
  refine wp_for (n) (fun k a W => ∃ (lo : Nat), ∃ (hi : Nat), a.tmps.size = 26 ∧ a.defers = [] ∧ Keeps All w W ∧ sl a 1 = (.func (.func fi) #[] cb) ∧ sl a 5 = (.int .i64 ((lo : Nat))) ∧ sl a 6 = (.int .i64 ((hi : Nat))) ∧ (lo ≤ hi ∧ hi ≤ n ∧ k + (hi - lo) ≤ n) ∧ ((lo = 0 ∨ p (lo - 1) = false)) ∧ ((hi = n ∨ p hi = true))) ⟨0, n, y4, zz4, kw, e1, (e5.trans (congrArg (Value.int .i64) (rfl))), (e6.trans (congrArg (Value.int .i64) (rfl))), by omega, .inl rfl, .inl rfl⟩ ?_
  clear kw e1 e5 e6
  rintro k a6 W6 hkk ⟨lo, hi, y6, zz6, kw, e1, e5, e6, hlh, hp1, hp2⟩
  refine wp_seq_k fun K7 hK7 => ?_
  refine wp_seq_k fun K8 hK8 => ?_
  refine rg mixed y6 zz6 ?_
  refine .i (sp_move (hbs rfl e5)) ?_
  refine .i (sp_move (hbs rfl e6)) ?_
  refine .i (sp_lss (hlc rfl) (hlc rfl)) ?_
  refine .done ⟨by kernel_rfl, fun a9 g W9 y9 zz9 hk hg hV hR hP => ?_⟩
  obtain ⟨e11, -, -, -⟩ := hV
  replace e1 := (hR 1 rfl).trans e1
  replace e5 := (hR 5 rfl).trans e5
  replace e6 := (hR 6 rfl).trans e6
  replace e11 := e11.q
  replace kw := kw.x hk
  clear hR hk hg hP
  refine tail_nil (hK8 _ _ ?_)
  refine wp_cond_split e11 (fun hc => ?_) (fun hc => ?_)
  ·
   have hlt : lo < hi := by have := of_decide_eq_true hc; omega
   refine wp_skip (hK7 _ _ ?_)
   refine wp_block ?_
   refine wp_seq_k fun K10 hK10 => ?_
   refine rg mixed y9 zz9 ?_
   refine .i (sp_move (hbs rfl e5)) ?_
   refine .i (sp_move (hbs rfl e6)) ?_
   refine .i (sp_add (hlc rfl) (hlc rfl) (i64_in (by omega))) ?_
   refine .i (v := (.int .u64 (((lo : Nat) : Int) + ((hi : Nat) : Int)))) (sp_conv Try.underlying3 Try.underlying175 (hlc rfl) (u64_in (by omega))) ?_
   refine .i (v := (.int .u64 ((((lo : Nat) : Int) + ((hi : Nat) : Int) : Int) / 2))) (sp_shr1 (hlc rfl)) ?_
   refine .i (v := (.int .i64 ((((lo : Nat) : Int) + ((hi : Nat) : Int) : Int) / 2))) (sp_conv Try.underlying175 Try.underlying3 (hlc rfl) (i64_in (by omega))) ?_
   refine .i (sp_assign (hlc rfl)) ?_
   refine .done ⟨by kernel_rfl, fun a11 g W11 y11 zz11 hk hg hV hR hP => ?_⟩
   obtain ⟨e7, -, -, -, -, -, -, -⟩ := hV
   replace e1 := (hR 1 rfl).trans e1
   replace e5 := (hR 5 rfl).trans e5
   replace e6 := (hR 6 rfl).trans e6
   replace e7 := e7.q
   replace kw := kw.x hk
   clear hR hk hg hP
   refine tail_nil (hK10 _ _ ?_)
   refine wp_seq_k fun K12 hK12 => ?_
   refine rg mixed y11 zz11 ?_
   refine .i (sp_move (hbs rfl e1)) ?_
   refine .i (sp_move (hbs rfl e7)) ?_
   refine .i (v := (.bool (p ((lo + hi) / 2)))) (sp_callF1 ef (hlc rfl) (hlc rfl) (fun g W hk hgk => by rw [show ((((lo : Nat) : Int) + ((hi : Nat) : Int) : Int) / 2 : Int) = (((lo + hi) / 2 : Nat) : Int) by omega]; exact hf W (kw.trans hk) _ (by omega))) ?_
   refine .i (sp_not (hlc rfl)) ?_
   refine .done ⟨by kernel_rfl, fun a13 g W13 y13 zz13 hk hg hV hR hP => ?_⟩
   obtain ⟨e21, -, -, -, -⟩ := hV
   replace e1 := (hR 1 rfl).trans e1
   replace e5 := (hR 5 rfl).trans e5
   replace e6 := (hR 6 rfl).trans e6
   replace e7 := (hR 7 rfl).trans e7
   have e21 : sl a13 21 = (.bool (!(p ((lo + hi) / 2)))) := e21
   replace kw := kw.x hk
   clear hR hk hg hP
   refine tail_nil (hK12 _ _ ?_)
   refine wp_cond_split e21 (fun hc => ?_) (fun hc => ?_)
   ·
    have hpm : p ((lo + hi) / 2) = false := by simpa using hc
    refine rg mixed y13 zz13 ?_
    refine .i (sp_move (hbs rfl e7)) ?_
    refine .i (sp_add (hlc rfl) Has.cst (i64_in (by omega))) ?_
    refine .i (sp_assign (hlc rfl)) ?_
    refine .done ⟨by kernel_rfl, fun a14 g W14 y14 zz14 hk hg hV hR hP => ?_⟩
    obtain ⟨e5, -, -, -⟩ := hV
    replace e1 := (hR 1 rfl).trans e1
    replace e6 := (hR 6 rfl).trans e6
    replace e5 := e5.q
    replace kw := kw.x hk
    clear hR hk hg hP
    exact tail_nil ⟨by omega, ((lo + hi) / 2 + 1), hi, y14, zz14, kw, e1, (e5.trans (congrArg (Value.int .i64) (by omega))), (e6.trans (congrArg (Value.int .i64) (by omega))), by omega, (by first | exact hp1 | exact .inr hpm), (by first | exact hp2 | exact .inr hpm)⟩
   ·
    have hpm : p ((lo + hi) / 2) = true := by simpa using hc
    refine rg mixed y13 zz13 ?_
    refine .i (sp_move (hbs rfl e7)) ?_
    refine .i (sp_assign (hlc rfl)) ?_
    refine .done ⟨by kernel_rfl, fun a15 g W15 y15 zz15 hk hg hV hR hP => ?_⟩
    obtain ⟨e6, -, -⟩ := hV
    replace e1 := (hR 1 rfl).trans e1
    replace e5 := (hR 5 rfl).trans e5
    replace e6 := e6.q
    replace kw := kw.x hk
    clear hR hk hg hP
    exact tail_nil ⟨by omega, lo, ((lo + hi) / 2), y15, zz15, kw, e1, (e5.trans (congrArg (Value.int .i64) (by omega))), (e6.trans (congrArg (Value.int .i64) (by omega))), by omega, (by first | exact hp1 | exact .inr hpm), (by first | exact hp2 | exact .inr hpm)⟩
  ·
   have hge : lo = hi := by have := of_decide_eq_false hc; omega
   subst hge
   refine wp_exit (hK5 _ _ ?_)
   refine wp_seq_k fun K16 hK16 => ?_
   refine rg mixed y9 zz9 ?_
   refine .i (sp_move (hbs rfl e5)) ?_
   refine .i (sp_assign (hlc rfl)) ?_
   refine .done ⟨by kernel_rfl, fun a17 g W17 y17 zz17 hk hg hV hR hP => ?_⟩
   obtain ⟨e4, -, -⟩ := hV
   have e4 : sl a17 4 = (.int .i64 ((lo : Nat))) := e4
   replace kw := kw.x hk
   clear hR hk hg hP
   refine tail_nil (hK16 _ _ ?_)
   refine wp_ret ?_
   refine (show bodyPost Try.prog Try.f165 _ .ret _ _ from ret1 rfl zz17 e4 ⟨_, rfl, kw, ?_⟩)
   exact ⟨_, rfl, hlh.2.1, hp1, hp2⟩
set_option maxRecDepth 100000 in
theorem index_ok (ns : List ByteArray) (name : ByteArray) (w : World) (S : BSet) (v : Value) (hv : Rd w S (strsD ns) v) : Calls Try.prog 139 #[v, .string name] w (Ret w fun u _ => u = .int .i64 (idx name ns 0)) := by
  have hmn : ns.length ≤ maxLen := rd_lenS hv
  simp only [maxLen] at hmn
  obtain ⟨va, vc, ev, D_v⟩ := rdS_out (rd_arg hv)
  subst ev
  refine enter Try.func139 rfl Try.ntmps139 (lbr rfl) fun a0 y0 zz0 harg => ?_
  have e0 : sl a0 0 = (.slice va (ns.length) vc) := harg 0 (lbr rfl)
  have e1 : sl a0 1 = (.string (name)) := harg 1 (lbr rfl)
  have kw := Keeps.refl All w
  clear harg
  refine wp_seq_k fun K1 hK1 => ?_
  refine rg mixed y0 zz0 ?_
  refine .i (sp_assign Has.cst) ?_
  refine .done ⟨by kernel_rfl, fun a2 g W2 y2 zz2 hk hg hV hR hP => ?_⟩
  obtain ⟨-, -⟩ := hV
  replace e0 := (hR 0 rfl).trans e0
  replace e1 := (hR 1 rfl).trans e1
  replace D_v := D_v.ext hk
  replace kw := kw.x hk
  clear hR hk hg hP
  refine tail_nil (hK1 _ _ ?_)
  refine wp_seq_k fun K3 hK3 => ?_
  refine wp_seq_k fun K4 hK4 => ?_
  refine rg mixed y2 zz2 ?_
  refine .i (sp_move (hbs rfl e0)) ?_
  refine .i (sp_lenSs Try.underlying23 ((hlc rfl).dat D_v sub_all)) ?_
  refine .i (sp_move Has.cst) ?_
  refine .done ⟨by kernel_rfl, fun a5 g W5 y5 zz5 hk hg hV hR hP => ?_⟩
  obtain ⟨e8, e7, -, -⟩ := hV
  replace e0 := (hR 0 rfl).trans e0
  replace e1 := (hR 1 rfl).trans e1
  replace D_v := D_v.ext hk
  have e7 : sl a5 7 = (.int .i64 (ns.length)) := e7
  have e8 : sl a5 8 = (.int .i64 (0)) := e8
  replace kw := kw.x hk
  clear hR hk hg hP
  refine tail_nil (hK4 _ _ ?_)
  refine wp_block ?_
  refine wp_for (ns.length) (fun k a W => a.tmps.size = 19 ∧ a.defers = [] ∧ Keeps All w W ∧ sl a 0 = (.slice va (ns.length) vc) ∧ sl a 1 = (.string (name)) ∧ sl a 7 = (.int .i64 (ns.length)) ∧ sl a 8 = (.int .i64 ((k : Nat))) ∧ Rd W (SA w S []) (strsD (ns)) (.slice va (ns.length) vc) ∧ (idx name ns 0 = idx name (ns.drop k) k)) ⟨y5, zz5, kw, e0, e1, e7, (e8.trans (congrArg (Value.int .i64) (rfl))), D_v, rfl⟩ ?_
  clear kw e0 e1 e7 e8 D_v
  rintro k a6 W6 hkk ⟨y6, zz6, kw, e0, e1, e7, e8, D_v, hin⟩
  refine wp_seq_k fun K7 hK7 => ?_
  refine rg mixed y6 zz6 ?_
  refine .i (sp_lss (hbs rfl e8) (hbs rfl e7)) ?_
  refine .done ⟨by kernel_rfl, fun a8 g W8 y8 zz8 hk hg hV hR hP => ?_⟩
  obtain ⟨e9, -⟩ := hV
  replace e0 := (hR 0 rfl).trans e0
  replace e1 := (hR 1 rfl).trans e1
  replace e7 := (hR 7 rfl).trans e7
  replace e8 := (hR 8 rfl).trans e8
  replace D_v := D_v.ext hk
  replace e9 := e9.q
  replace kw := kw.x hk
  clear hR hk hg hP
  refine tail_nil (hK7 _ _ ?_)
  refine wp_seq_k fun K9 hK9 => ?_
  refine wp_cond_split e9 (fun hc => ?_) (fun hc => ?_)
  ·
   have hlt : k < ns.length := by simpa using hc
   rw [List.drop_eq_getElem_cons hlt, idx] at hin
   refine wp_skip (hK9 _ _ ?_)
   refine wp_seq_k fun K10 hK10 => ?_
   refine wp_block ?_
   refine wp_seq_k fun K11 hK11 => ?_
   refine rg mixed y8 zz8 ?_
   refine .i (sp_move (hbs rfl e8)) ?_
   refine .i (sp_assign (hlc rfl)) ?_
   refine .done ⟨by kernel_rfl, fun a12 g W12 y12 zz12 hk hg hV hR hP => ?_⟩
   obtain ⟨e5, -, -⟩ := hV
   replace e0 := (hR 0 rfl).trans e0
   replace e1 := (hR 1 rfl).trans e1
   replace e7 := (hR 7 rfl).trans e7
   replace e8 := (hR 8 rfl).trans e8
   replace D_v := D_v.ext hk
   have e5 : sl a12 5 = (.int .i64 ((k : Nat))) := e5
   replace kw := kw.x hk
   clear hR hk hg hP
   refine tail_nil (hK11 _ _ ?_)
   refine wp_seq_k fun K13 hK13 => ?_
   refine rg mixed y12 zz12 ?_
   refine .i (sp_move (hbs rfl e1)) ?_
   refine .i (sp_move (hbs rfl e0)) ?_
   refine .i (sp_move (hbs rfl e5)) ?_
   refine .rf (sp_indexS (i := k) ((hlc rfl).dat D_v sub_all) (hlc rfl) Try.underlying23 sz9 rfl hlt) ?_
   refine .i (sp_loadStr (hlc rfl) agg9 sz9) ?_
   refine .i (sp_sEql (hlc rfl) (hlc rfl)) ?_
   refine .done ⟨by kernel_rfl, fun a14 g W14 y14 zz14 hk hg hV hR hP => ?_⟩
   obtain ⟨e16, -, -, -, -, -, -⟩ := hV
   replace e0 := (hR 0 rfl).trans e0
   replace e1 := (hR 1 rfl).trans e1
   replace e7 := (hR 7 rfl).trans e7
   replace e8 := (hR 8 rfl).trans e8
   replace e5 := (hR 5 rfl).trans e5
   replace D_v := D_v.ext hk
   have e16 : sl a14 16 = (.bool (decide (name = (ns[k]'hlt)))) := e16
   replace kw := kw.x hk
   clear hR hk hg hP
   refine tail_nil (hK13 _ _ ?_)
   refine wp_cond_split e16 (fun hc => ?_) (fun hc => ?_)
   ·
    have hfin : idx name ns 0 = (k : Nat) := by rw [hin, if_pos (by simpa using hc)]
    refine wp_seq_k fun K15 hK15 => ?_
    refine rg mixed y14 zz14 ?_
    refine .i (sp_move (hbs rfl e5)) ?_
    refine .i (sp_assign (hlc rfl)) ?_
    refine .done ⟨by kernel_rfl, fun a16 g W16 y16 zz16 hk hg hV hR hP => ?_⟩
    obtain ⟨e4, -, -⟩ := hV
    replace D_v := D_v.ext hk
    have e4 : sl a16 4 = (.int .i64 ((k : Nat))) := e4
    replace kw := kw.x hk
    clear hR hk hg hP
    refine tail_nil (hK15 _ _ ?_)
    refine wp_ret ?_
    refine (show bodyPost Try.prog Try.f139 _ .ret _ _ from ret1 rfl zz16 e4 ⟨_, rfl, kw, ?_⟩)
    rw [hfin]; try rfl
   ·
    rw [if_neg (by simpa using hc)] at hin
    refine wp_skip (hK10 _ _ ?_)
    refine rg mixed y14 zz14 ?_
    refine .i (sp_add (hbs rfl e8) Has.cst (i64_in (by omega))) ?_
    refine .i (sp_move (hlc rfl)) ?_
    refine .done ⟨by kernel_rfl, fun a17 g W17 y17 zz17 hk hg hV hR hP => ?_⟩
    obtain ⟨e8, -, -⟩ := hV
    replace e0 := (hR 0 rfl).trans e0
    replace e1 := (hR 1 rfl).trans e1
    replace e7 := (hR 7 rfl).trans e7
    replace D_v := D_v.ext hk
    replace e8 := e8.q
    replace kw := kw.x hk
    clear hR hk hg hP
    exact tail_nil ⟨hlt, y17, zz17, kw, e0, e1, e7, (e8.trans (congrArg (Value.int .i64) (by simp))), D_v, hin⟩
  ·
   have hge0 : ¬ k < ns.length := by simpa using hc
   have hge : k = ns.length := by omega
   rw [hge, List.drop_length] at hin
   have hfin : idx name ns 0 = -1 := hin
   refine wp_exit (hK3 _ _ ?_)
   refine wp_seq_k fun K18 hK18 => ?_
   refine rg mixed y8 zz8 ?_
   refine .i (sp_assign Has.cst) ?_
   refine .done ⟨by kernel_rfl, fun a19 g W19 y19 zz19 hk hg hV hR hP => ?_⟩
   obtain ⟨e4, -⟩ := hV
   replace D_v := D_v.ext hk
   have e4 : sl a19 4 = (.int .i64 (-1)) := e4
   replace kw := kw.x hk
   clear hR hk hg hP
   refine tail_nil (hK18 _ _ ?_)
   refine wp_ret ?_
   refine (show bodyPost Try.prog Try.f139 _ .ret _ _ from ret1 rfl zz19 e4 ⟨_, rfl, kw, ?_⟩)
   rw [hfin]; try rfl
set_option maxRecDepth 100000 in
theorem find1_ok (ns : List ByteArray) (name : ByteArray) (i : Nat) (hi : i < ns.length) (w : World) (S : BSet) (v : Value) (bn bs : Nat) (hv : Rd w S (strsD ns) v) (own_bn : Own w bn [v] 23) (own_bs : Own w bs [.string name] 9) : Calls Try.prog 166 #[.int .i64 i, .pointer (some ⟨bn, 0, none⟩), .pointer (some ⟨bs, 0, none⟩)] w (Ret w fun u _ => u = .bool (!sLt ns[i] name)) := by
  obtain ⟨va, vc, ev, D_v⟩ := rdS_out (rd_arg hv)
  subst ev
  refine enter Try.func166 rfl Try.ntmps166 (lbr rfl) fun a0 y0 zz0 harg => ?_
  have e0 : sl a0 0 = (.int .i64 ((i : Nat))) := harg 0 (lbr rfl)
  have e1 : sl a0 1 = (.pointer (some ⟨bn, 0, none⟩)) := harg 1 (lbr rfl)
  have e2 : sl a0 2 = (.pointer (some ⟨bs, 0, none⟩)) := harg 2 (lbr rfl)
  have kw := Keeps.refl All w
  clear harg
  refine wp_seq_k fun K1 hK1 => ?_
  refine rg mixed y0 zz0 ?_
  refine .i (sp_assign Has.cst) ?_
  refine .done ⟨by kernel_rfl, fun a2 g W2 y2 zz2 hk hg hV hR hP => ?_⟩
  obtain ⟨-, -⟩ := hV
  replace e0 := (hR 0 rfl).trans e0
  replace e1 := (hR 1 rfl).trans e1
  replace e2 := (hR 2 rfl).trans e2
  replace D_v := D_v.ext hk
  replace own_bn := own_bn.ext hk
  replace own_bs := own_bs.ext hk
  replace kw := kw.x hk
  clear hR hk hg hP
  refine tail_nil (hK1 _ _ ?_)
  refine wp_seq_k fun K3 hK3 => ?_
  refine rg mixed y2 zz2 ?_
  refine .i (lo1 (hbs rfl e1) own_bn trivial agg23 sz23 rfl) ?_
  refine .i (sp_move (hbs rfl e0)) ?_
  refine .rf (sp_indexS (i := i) ((hlc rfl).dat D_v sub_all) (hlc rfl) Try.underlying23 sz9 rfl hi) ?_
  refine .i (sp_loadStr (hlc rfl) agg9 sz9) ?_
  refine .i (lo1 (hbs rfl e2) own_bs trivial agg9 sz9 rfl) ?_
  refine .i (sp_sGeq (hlc rfl) (hlc rfl)) ?_
  refine .i (sp_assign (hlc rfl)) ?_
  refine .done ⟨by kernel_rfl, fun a4 g W4 y4 zz4 hk hg hV hR hP => ?_⟩
  obtain ⟨e4, -, -, -, -, -, -, -⟩ := hV
  replace D_v := D_v.ext hk
  have e4 : sl a4 4 = (.bool (!sLt (ns[i]'hi) name)) := e4
  replace own_bn := own_bn.ext hk
  replace own_bs := own_bs.ext hk
  replace kw := kw.x hk
  clear hR hk hg hP
  refine tail_nil (hK3 _ _ ?_)
  refine wp_ret ?_
  refine (show bodyPost Try.prog Try.f166 _ .ret _ _ from ret1 rfl zz4 e4 ⟨_, rfl, kw, ?_⟩)
  exact rfl
set_option maxRecDepth 100000 in
theorem find_ok (ns : List ByteArray) (name : ByteArray) (hn : ns.length ≤ 1073741824) (w : World) (S : BSet) (v : Value) (hv : Rd w S (strsD ns) v) : Calls Try.prog 145 #[v, .string name] w (Ret w fun u _ => u = .tuple #[.int .i64 (findI ns name), .bool (findB ns name)]) := by
  have hlb := lb_le ns name
  obtain ⟨va, vc, ev, D_v⟩ := rdS_out (rd_arg hv)
  subst ev
  refine enter Try.func145 rfl Try.ntmps145 (lbr rfl) fun a0 y0 zz0 harg => ?_
  have e0 : sl a0 0 = (.slice va (ns.length) vc) := harg 0 (lbr rfl)
  have e1 : sl a0 1 = (.string (name)) := harg 1 (lbr rfl)
  have kw := Keeps.refl All w
  clear harg
  refine wp_seq_k fun K1 hK1 => ?_
  refine rg mixed y0 zz0 ?_
  refine .boxOp (v := (.slice va (ns.length) vc)) (hbs rfl e0) ?_
  refine .boxOp (v := (.string (name))) (hbs rfl e1) ?_
  refine .i (sp_assign Has.cst) ?_
  refine .i (sp_assign Has.cst) ?_
  refine .done ⟨by kernel_rfl, fun a2 g W2 y2 zz2 hk hg hV hR hP => ?_⟩
  obtain ⟨-, -, ⟨b3_2, e3, hb3, own_b3_2⟩, ⟨b2_2, e2, hb2, own_b2_2⟩, -⟩ := hV
  have lo_b3_2 : w.heap.size ≤ b3_2 := Nat.le_trans kw.size (hg.lo _ _ hb3)
  have own_b3_2 : Own W2 b3_2 [(.string (name))] 9 := own_b3_2
  have lo_b2_2 : w.heap.size ≤ b2_2 := Nat.le_trans kw.size (hg.lo _ _ hb2)
  have own_b2_2 : Own W2 b2_2 [(.slice va (ns.length) vc)] 23 := own_b2_2
  have ne_b3_2_b2_2 : b3_2 ≠ b2_2 := fun h => by have := hg.inj _ _ _ hb3 (h ▸ hb2); cases this
  replace D_v := sa_more D_v hk [b3_2, b2_2] (in_cons (hg.lo _ _ hb3) (in_cons (hg.lo _ _ hb2) in_nil))
  replace kw := kw.x hk
  clear hR hk hg hP hb3 hb2
  refine tail_nil (hK1 _ _ ?_)
  refine wp_seq_k fun K3 hK3 => ?_
  refine wp_seq_k fun K4 hK4 => ?_
  refine rg mixed y2 zz2 ?_
  refine .i (lo1 (hbs rfl e2) own_b2_2 trivial agg23 sz23 rfl) ?_
  refine .i (v := (.bool (asc ns))) (sp_call1 (φ1 := IsD (SA w S [b3_2, b2_2]) (strsD (ns))) ent164 ((hlc rfl).dat D_v sub_all) (fun g u1 W hk hgk h1 => ascending_ok (ns) W _ _ h1)) ?_
  refine .i (sp_not (hlc rfl)) ?_
  refine .done ⟨by kernel_rfl, fun a5 g W5 y5 zz5 hk hg hV hR hP => ?_⟩
  obtain ⟨e10, -, -, -⟩ := hV
  replace e3 := (hR 3 rfl).trans e3
  replace e2 := (hR 2 rfl).trans e2
  replace D_v := D_v.ext hk
  have e10 : sl a5 10 = (.bool (!(asc ns))) := e10
  replace own_b3_2 := own_b3_2.ext hk
  replace own_b2_2 := own_b2_2.ext hk
  replace kw := kw.x hk
  clear hR hk hg hP
  refine tail_nil (hK4 _ _ ?_)
  refine wp_cond_split e10 (fun hc => ?_) (fun hc => ?_)
  ·
   have hasc : asc ns = false := by simpa using hc
   refine wp_seq_k fun K6 hK6 => ?_
   refine rg mixed y5 zz5 ?_
   refine .i (lo1 (hbs rfl e2) own_b2_2 trivial agg23 sz23 rfl) ?_
   refine .i (lo1 (hbs rfl e3) own_b3_2 trivial agg9 sz9 rfl) ?_
   refine .i (v := (.int .i64 (idx name ns 0))) (sp_call2 (φ1 := IsD (SA w S [b3_2, b2_2]) (strsD (ns))) (φ2 := Is (.string (name))) ent139 ((hlc rfl).dat D_v sub_all) (hlc rfl) (fun g u1 u2 W hk hgk h1 h2 => by have h2 : u2 = _ := h2; subst u2; exact index_ok (ns) (name) W _ _ h1)) ?_
   refine .i (sp_assign (hlc rfl)) ?_
   refine .done ⟨by kernel_rfl, fun a7 g W7 y7 zz7 hk hg hV hR hP => ?_⟩
   obtain ⟨e6, -, -, -, -⟩ := hV
   replace D_v := D_v.ext hk
   have e6 : sl a7 6 = (.int .i64 (idx name ns 0)) := e6
   replace own_b3_2 := own_b3_2.ext hk
   replace own_b2_2 := own_b2_2.ext hk
   replace kw := kw.x hk
   clear hR hk hg hP
   refine tail_nil (hK6 _ _ ?_)
   refine wp_seq_k fun K8 hK8 => ?_
   refine rg mixed y7 zz7 ?_
   refine .i (sp_move (hbs rfl e6)) ?_
   refine .i (sp_move (hbs rfl e6)) ?_
   refine .i (sp_geq (hlc rfl) Has.cst) ?_
   refine .i (sp_assign (hlc rfl)) ?_
   refine .i (sp_assign (hlc rfl)) ?_
   refine .done ⟨by kernel_rfl, fun a9 g W9 y9 zz9 hk hg hV hR hP => ?_⟩
   obtain ⟨e5, e4, -, -, -, -⟩ := hV
   have e4 : sl a9 4 = (.int .i64 (idx name ns 0)) := e4
   replace e5 := e5.q
   replace own_b3_2 := own_b3_2.ext hk
   replace own_b2_2 := own_b2_2.ext hk
   replace kw := kw.x hk
   clear hR hk hg hP
   refine tail_nil (hK8 _ _ ?_)
   refine wp_ret ?_
   refine (show bodyPost Try.prog Try.f145 _ .ret _ _ from ret2 rfl zz9 e4 e5 ⟨_, rfl, kw, ?_⟩)
   simp [findI, findB, hasc]
  ·
   have hasc : asc ns = true := by simpa using hc
   refine wp_skip (hK3 _ _ ?_)
   refine wp_seq_k fun K10 hK10 => ?_
   refine rg mixed y5 zz5 ?_
   refine .i (lo1 (hbs rfl e2) own_b2_2 trivial agg23 sz23 rfl) ?_
   refine .i (sp_lenSs Try.underlying23 ((hlc rfl).dat D_v sub_all)) ?_
   refine .i (v := (.func (.func 166) #[] #[(.pointer (some ⟨b2_2, 0, none⟩)), (.pointer (some ⟨b3_2, 0, none⟩))])) (sp_mkF2 (hbs rfl e2) (hbs rfl e3)) ?_
   refine .i (v := (.int .i64 (((lb ns name : Nat) : Int)))) (sp_call2 (φ1 := Is (.int .i64 (ns.length))) (φ2 := Is (.func (.func 166) #[] #[(.pointer (some ⟨b2_2, 0, none⟩)), (.pointer (some ⟨b3_2, 0, none⟩))])) ent165 (hlc rfl) (hlc rfl) (fun g u1 u2 W hk hgk h1 h2 => by have h1 : u1 = _ := h1; subst u1; have h2 : u2 = _ := h2; subst u2; exact ((search_ok ns.length (by omega) _ _ (fun i => !sLt (ns.getD i ⟨#[]⟩) name) W ent166 fun W2 hk2 i hi => by have h := find1_ok ns name i hi W2 _ _ _ _ (D_v.ext (hk.trans hk2)) (own_b2_2.ext (hk.trans hk2)) (own_b3_2.ext (hk.trans hk2)); rw [List.getD_eq_getElem?_getD, List.getElem?_eq_getElem hi]; exact h)).mono (fun _ _ ⟨v, h1, h2, m, h3, h4, h5, h6⟩ => ⟨v, h1, h2, by rw [lb_of (p := fun i => !sLt (ns.getD i ⟨#[]⟩) name) hasc (fun i h => by simp [List.getD_eq_getElem?_getD, h]) h4 h5 h6]; exact h3⟩))) ?_
   refine .i (sp_assign (hlc rfl)) ?_
   refine .done ⟨by kernel_rfl, fun a11 g W11 y11 zz11 hk hg hV hR hP => ?_⟩
   obtain ⟨e7, -, -, -, -, -⟩ := hV
   replace e3 := (hR 3 rfl).trans e3
   replace e2 := (hR 2 rfl).trans e2
   replace D_v := D_v.ext hk
   have e7 : sl a11 7 = (.int .i64 (((lb ns name : Nat) : Int))) := e7
   replace own_b3_2 := own_b3_2.ext hk
   replace own_b2_2 := own_b2_2.ext hk
   replace kw := kw.x hk
   clear hR hk hg hP
   refine tail_nil (hK10 _ _ ?_)
   refine wp_seq_k fun K12 hK12 => ?_
   refine rg mixed y11 zz11 ?_
   refine .i (sp_move (hbs rfl e7)) ?_
   refine .i (sp_move (hbs rfl e7)) ?_
   refine .i (lo1 (hbs rfl e2) own_b2_2 trivial agg23 sz23 rfl) ?_
   refine .i (sp_lenSs Try.underlying23 ((hlc rfl).dat D_v sub_all)) ?_
   refine .i (sp_lss (hlc rfl) (hlc rfl)) ?_
   refine .i (sp_move (hlc rfl)) ?_
   refine .e (t := 26) rfl (hlc rfl) (fun hg => lo1 (hbs rfl e2) own_b2_2 trivial agg23 sz23 rfl) ?_
   refine .e (t := 26) rfl (hlc rfl) (fun hg => sp_move (hbs rfl e7)) ?_
   refine .opE (t := 26) (φ := IsR (SA w S [b3_2, b2_2]) (D.str (ns.getD (lb ns name) ⟨#[]⟩))) rfl (hlc rfl) (st_r sub_all) (fun hg => sp_indexSD (i := (lb ns name)) (((hlc rfl).undE hg).dat D_v sub_all) ((hlc rfl).undE hg) Try.underlying23 sz9 rfl (by have := of_decide_eq_true hg; omega)) ?_
   refine .e (t := 26) rfl (hlc rfl) (fun hg => sp_loadStr ((hlc rfl).undE hg) agg9 sz9) ?_
   refine .e (t := 26) rfl (hlc rfl) (fun hg => lo1 (hbs rfl e3) own_b3_2 trivial agg9 sz9 rfl) ?_
   refine .e (t := 26) rfl (hlc rfl) (fun hg => sp_sEql ((hlc rfl).undE hg) ((hlc rfl).undE hg)) ?_
   refine .i (sp_and (hlc rfl) ((hlc rfl).weak fun hq => hq)) ?_
   refine .i (sp_assign (hlc rfl)) ?_
   refine .i (sp_assign (hlc rfl)) ?_
   refine .done ⟨by kernel_rfl, fun a13 g W13 y13 zz13 hk hg hV hR hP => ?_⟩
   obtain ⟨e5, e4, -, -, -, -, -, -, -, -, -, -, -, -, -, -⟩ := hV
   replace D_v := D_v.ext hk
   have e4 : sl a13 4 = (.int .i64 (((lb ns name : Nat) : Int))) := e4
   replace e5 := e5.q
   replace own_b3_2 := own_b3_2.ext hk
   replace own_b2_2 := own_b2_2.ext hk
   replace kw := kw.x hk
   clear hR hk hg hP
   refine tail_nil (hK12 _ _ ?_)
   refine wp_ret ?_
   refine (show bodyPost Try.prog Try.f145 _ .ret _ _ from ret2 rfl zz13 e4 e5 ⟨_, rfl, kw, ?_⟩)
   simp only [findI, findB, hasc, if_true]
   rw [find_fin]
end Go.Proofs.Ytnobijngkpflcaa
namespace Go.Proofs.Ytnobijngkpflcaa
open Go.Eng
set_option maxRecDepth 100000 in
theorem Get_ok (x : V) (name : ByteArray) (hx : x.wt ≤ 1073741824) (w : World) (S : BSet) (v : Value) (hS : ∀ b o, S b o → Cln o) (hv : Rd w S x.d v) : Calls Try.prog 101 #[v, .string name] w (Ret w fun r W => ∃ r1, r = .tuple #[r1, .bool (getB x name)] ∧ Rd W (Fr w) (getV x name).d r1) := by
  have hwx := wt_eq x
  have hwl := wts_len x.xs
  have hwn := wtN_len x.ns
  obtain ⟨cn0a, cn0c, ci0a, ci0c, ev, ht0, D_cn0, D_ci0⟩ := rdV_out (rd_arg hv)
  subst ev
  refine enter Try.func101 rfl Try.ntmps101 (lbr rfl) fun a0 y0 zz0 harg => ?_
  have e0 : sl a0 0 = (.agg #[(.int .u8 (x.k)), (.int .i64 (x.n)), (.string (x.t)), (.slice cn0a (x.ns.length) cn0c), (.slice ci0a (x.xs.length) ci0c)]) := harg 0 (lbr rfl)
  have e1 : sl a0 1 = (.string (name)) := harg 1 (lbr rfl)
  have kw := Keeps.refl All w
  clear harg
  refine wp_seq_k fun K1 hK1 => ?_
  refine rg mixed y0 zz0 ?_
  refine .boxOp (v := (.agg #[(.int .u8 (x.k)), (.int .i64 (x.n)), (.string (x.t)), (.slice cn0a (x.ns.length) cn0c), (.slice ci0a (x.xs.length) ci0c)])) (hbs rfl e0) ?_
  refine .alloc z33 ?_
  refine .i (sp_assign Has.cst) ?_
  refine .done ⟨by kernel_rfl, fun a2 g W2 y2 zz2 hk hg hV hR hP => ?_⟩
  obtain ⟨-, ⟨b4_2, e4, hb4, own_b4_2⟩, ⟨b2_2, e2, hb2, own_b2_2⟩, -⟩ := hV
  have lo_b4_2 : w.heap.size ≤ b4_2 := Nat.le_trans kw.size (hg.lo _ _ hb4)
  have own_b4_2 : Own W2 b4_2 [(.int .u8 (0)), (.int .i64 (0)), (.string (⟨#[]⟩)), (.slice none 0 0), (.slice none 0 0)] 33 := own_b4_2
  have lo_b2_2 : w.heap.size ≤ b2_2 := Nat.le_trans kw.size (hg.lo _ _ hb2)
  have own_b2_2 : Own W2 b2_2 [(.int .u8 (x.k)), (.int .i64 (x.n)), (.string (x.t)), (.slice cn0a (x.ns.length) cn0c), (.slice ci0a (x.xs.length) ci0c)] 33 := own_b2_2
  have ne_b4_2_b2_2 : b4_2 ≠ b2_2 := fun h => by have := hg.inj _ _ _ hb4 (h ▸ hb2); cases this
  replace e1 := (hR 1 rfl).trans e1
  replace D_cn0 := sa_more D_cn0 hk [b4_2, b2_2] (in_cons (hg.lo _ _ hb4) (in_cons (hg.lo _ _ hb2) in_nil))
  replace D_ci0 := sa_more D_ci0 hk [b4_2, b2_2] (in_cons (hg.lo _ _ hb4) (in_cons (hg.lo _ _ hb2) in_nil))
  replace kw := kw.x hk
  clear hR hk hg hP hb4 hb2
  refine tail_nil (hK1 _ _ ?_)
  refine wp_seq_k fun K3 hK3 => ?_
  refine wp_seq_k fun K4 hK4 => ?_
  refine rg mixed y2 zz2 ?_
  refine .i (fo 0 (hbs rfl e2) Try.underlying33 rfl sz5 rfl) ?_
  refine .i (lo1 (hlc rfl) own_b2_2 trivial agg5 sz5 rfl) ?_
  refine .i (sp_neq (hlc rfl) Has.cst) ?_
  refine .done ⟨by kernel_rfl, fun a5 g W5 y5 zz5 hk hg hV hR hP => ?_⟩
  obtain ⟨e10, -, -, -⟩ := hV
  replace e1 := (hR 1 rfl).trans e1
  replace e4 := (hR 4 rfl).trans e4
  replace e2 := (hR 2 rfl).trans e2
  replace D_cn0 := D_cn0.ext hk
  replace D_ci0 := D_ci0.ext hk
  have e10 : sl a5 10 = (.bool ((x.k : Int) != (5 : Int))) := e10
  replace own_b4_2 := own_b4_2.ext hk
  replace own_b2_2 := own_b2_2.ext hk
  replace kw := kw.x hk
  clear hR hk hg hP
  refine tail_nil (hK4 _ _ ?_)
  refine wp_cond_split e10 (fun hc => ?_) (fun hc => ?_)
  ·
   have hk : x.k ≠ 5 := by simp at hc; omega
   have hb : getB x name = false := by rw [getB, if_pos hk]
   have hv2 : getV x name = V.mk 0 0 ⟨#[]⟩ [] [] := by rw [getV, if_pos hk]; rfl
   refine wp_seq_k fun K6 hK6 => ?_
   refine rg mixed y5 zz5 ?_
   refine .i (v := (.agg #[(.int .u8 (0)), (.int .i64 (0)), (.string (⟨#[]⟩)), (.slice none 0 0), (.slice none 0 0)])) (sp_build (vs := []) Try.underlying33 z33 (pl33 Try.underlying33) trivial rfl) ?_
   refine .done ⟨by kernel_rfl, fun a7 g W7 y7 zz7 hk hg hV hR hP => ?_⟩
   obtain ⟨e11, -⟩ := hV
   replace e4 := (hR 4 rfl).trans e4
   replace D_cn0 := D_cn0.ext hk
   replace D_ci0 := D_ci0.ext hk
   replace e11 := e11.q
   replace own_b4_2 := own_b4_2.ext hk
   replace own_b2_2 := own_b2_2.ext hk
   replace kw := kw.x hk
   clear hR hk hg hP
   refine tail_store (b := b4_2) (o := 0) (v := (.agg #[(.int .u8 (0)), (.int .i64 (0)), (.string (⟨#[]⟩)), (.slice none 0 0), (.slice none 0 0)])) e4 e11 sz33 rfl own_b4_2 (lbr rfl) (all_cons rfl (all_cons rfl (all_cons rfl (all_cons rfl (all_cons rfl all_nil))))) (fun W8 hs own_b4_2 => ?_)
   have own_b4_2 : Own W8 b4_2 [(.int .u8 (0)), (.int .i64 (0)), (.string (⟨#[]⟩)), (.slice none 0 0), (.slice none 0 0)] 33 := own_b4_2
   replace own_b2_2 := own_store own_b2_2 hs ne_b4_2_b2_2.symm
   replace D_cn0 := sa_store D_cn0 hs (by simp)
   replace D_ci0 := sa_store D_ci0 hs (by simp)
   replace kw := keeps_store kw hs lo_b4_2
   clear hs
   refine tail_assign (v := (.bool (false))) rfl (by rw [y7]; exact Nat.le_of_ble_eq_true rfl) (fun a9 y9 zz9 e5 hr => ?_)
   replace y9 := y9.trans y7; replace zz9 := zz9.trans zz7
   replace e4 := (hr 4 (by decide)).trans e4
   replace e11 := (hr 11 (by decide)).trans e11
   clear hr
   refine tail_nil (hK6 _ _ ?_)
   refine wp_ret ?_
   refine (show bodyPost Try.prog Try.f101 _ .ret _ _ from retCT (v := (.agg #[(.int .u8 (0)), (.int .i64 (0)), (.string (⟨#[]⟩)), (.slice none 0 0), (.slice none 0 0)])) rfl zz9 e4 own_b4_2 agg33 sz33 rfl (fun h => by cases h) rfl e5 ⟨_, rfl, kw, ?_⟩)
   refine ⟨_, by rw [hb], ?_⟩
   rw [hv2]
   exact sf_fr (rdV_mk (lbr rfl) (rd_nil _) (rd_nil _) : Rd W8 (SF w [b4_2, b2_2]) (V.d (V.mk (0) (0) (⟨#[]⟩) ([]) ([]))) _)
  ·
   have hk : ¬ x.k ≠ 5 := by simp at hc; omega
   refine wp_skip (hK3 _ _ ?_)
   refine wp_seq_k fun K10 hK10 => ?_
   refine rg mixed y5 zz5 ?_
   refine .i (fo 3 (hbs rfl e2) Try.underlying33 rfl sz23 rfl) ?_
   refine .i (lo1 (hlc rfl) own_b2_2 trivial agg23 sz23 rfl) ?_
   refine .i (sp_move (hbs rfl e1)) ?_
   refine .i (v := (.tuple #[(.int .i64 (findI x.ns name)), (.bool (findB x.ns name))])) (sp_call2 (φ1 := IsD (SA w S [b4_2, b2_2]) (strsD (x.ns))) (φ2 := Is (.string (name))) ent145 ((hlc rfl).dat D_cn0 sub_all) (hlc rfl) (fun g u1 u2 W hk hgk h1 h2 => by have h2 : u2 = _ := h2; subst u2; exact find_ok (x.ns) (name) (by omega) W _ _ h1)) ?_
   refine .i (sp_move (hlc rfl)) ?_
   refine .i (v := (.int .i64 (findI x.ns name))) (sp_extT (hlc rfl) rfl) ?_
   refine .i (v := (.bool (findB x.ns name))) (sp_extT (hlc rfl) rfl) ?_
   refine .i (sp_assign (hlc rfl)) ?_
   refine .i (sp_assign (hlc rfl)) ?_
   refine .done ⟨by kernel_rfl, fun a11 g W11 y11 zz11 hk hg hV hR hP => ?_⟩
   obtain ⟨e7, e6, -, -, -, -, -, -, -, -⟩ := hV
   replace e4 := (hR 4 rfl).trans e4
   replace e2 := (hR 2 rfl).trans e2
   replace D_cn0 := D_cn0.ext hk
   replace D_ci0 := D_ci0.ext hk
   have e6 : sl a11 6 = (.int .i64 (findI x.ns name)) := e6
   have e7 : sl a11 7 = (.bool (findB x.ns name)) := e7
   replace own_b4_2 := own_b4_2.ext hk
   replace own_b2_2 := own_b2_2.ext hk
   replace kw := kw.x hk
   clear hR hk hg hP
   refine tail_nil (hK10 _ _ ?_)
   refine wp_seq_k fun K12 hK12 => ?_
   refine wp_seq_k fun K13 hK13 => ?_
   refine rg mixed y11 zz11 ?_
   refine .i (sp_move (hbs rfl e7)) ?_
   refine .i (sp_not (hlc rfl)) ?_
   refine .i (sp_move (hlc rfl)) ?_
   refine .e (t := 21) rfl (hlc rfl) (fun hg => sp_move (hbs rfl e6)) ?_
   refine .e (t := 21) rfl (hlc rfl) (fun hg => fo 4 (hbs rfl e2) Try.underlying33 rfl sz31 rfl) ?_
   refine .e (t := 21) rfl (hlc rfl) (fun hg => lo1 ((hlc rfl).undE hg) own_b2_2 trivial agg31 sz31 rfl) ?_
   refine .e (t := 21) rfl (hlc rfl) (fun hg => sp_lenVs Try.underlying31 (((hlc rfl).undE hg).dat D_ci0 sub_all)) ?_
   refine .e (t := 21) rfl (hlc rfl) (fun hg => sp_geq ((hlc rfl).undE hg) ((hlc rfl).undE hg)) ?_
   refine .i (sp_or (hlc rfl) ((hlc rfl).weak fun hq => hq)) ?_
   refine .done ⟨by kernel_rfl, fun a14 g W14 y14 zz14 hk hg hV hR hP => ?_⟩
   obtain ⟨e27, -, -, -, -, -, -, -, -, -⟩ := hV
   replace e4 := (hR 4 rfl).trans e4
   replace e2 := (hR 2 rfl).trans e2
   replace e6 := (hR 6 rfl).trans e6
   replace D_cn0 := D_cn0.ext hk
   replace D_ci0 := D_ci0.ext hk
   replace e27 := e27.q
   replace own_b4_2 := own_b4_2.ext hk
   replace own_b2_2 := own_b2_2.ext hk
   replace kw := kw.x hk
   clear hR hk hg hP
   refine tail_nil (hK13 _ _ ?_)
   refine wp_cond_split e27 (fun hc => ?_) (fun hc => ?_)
   ·
    have hn : findB x.ns name = false ∨ (x.xs.length : Int) ≤ findI x.ns name := by rcases (Bool.or_eq_true _ _).mp hc with h | h; exact .inl (by simpa using h); exact .inr (of_decide_eq_true h)
    have hb : getB x name = false := by rw [getB, if_neg hk, if_pos hn]
    have hv2 : getV x name = V.mk 0 0 ⟨#[]⟩ [] [] := by rw [getV, if_neg hk, if_pos hn]; rfl
    refine wp_seq_k fun K15 hK15 => ?_
    refine rg mixed y14 zz14 ?_
    refine .i (v := (.agg #[(.int .u8 (0)), (.int .i64 (0)), (.string (⟨#[]⟩)), (.slice none 0 0), (.slice none 0 0)])) (sp_build (vs := []) Try.underlying33 z33 (pl33 Try.underlying33) trivial rfl) ?_
    refine .done ⟨by kernel_rfl, fun a16 g W16 y16 zz16 hk hg hV hR hP => ?_⟩
    obtain ⟨e28, -⟩ := hV
    replace e4 := (hR 4 rfl).trans e4
    replace D_cn0 := D_cn0.ext hk
    replace D_ci0 := D_ci0.ext hk
    replace e28 := e28.q
    replace own_b4_2 := own_b4_2.ext hk
    replace own_b2_2 := own_b2_2.ext hk
    replace kw := kw.x hk
    clear hR hk hg hP
    refine tail_store (b := b4_2) (o := 0) (v := (.agg #[(.int .u8 (0)), (.int .i64 (0)), (.string (⟨#[]⟩)), (.slice none 0 0), (.slice none 0 0)])) e4 e28 sz33 rfl own_b4_2 (lbr rfl) (all_cons rfl (all_cons rfl (all_cons rfl (all_cons rfl (all_cons rfl all_nil))))) (fun W17 hs own_b4_2 => ?_)
    have own_b4_2 : Own W17 b4_2 [(.int .u8 (0)), (.int .i64 (0)), (.string (⟨#[]⟩)), (.slice none 0 0), (.slice none 0 0)] 33 := own_b4_2
    replace own_b2_2 := own_store own_b2_2 hs ne_b4_2_b2_2.symm
    replace D_cn0 := sa_store D_cn0 hs (by simp)
    replace D_ci0 := sa_store D_ci0 hs (by simp)
    replace kw := keeps_store kw hs lo_b4_2
    clear hs
    refine tail_assign (v := (.bool (false))) rfl (by rw [y16]; exact Nat.le_of_ble_eq_true rfl) (fun a18 y18 zz18 e5 hr => ?_)
    replace y18 := y18.trans y16; replace zz18 := zz18.trans zz16
    replace e4 := (hr 4 (by decide)).trans e4
    replace e28 := (hr 28 (by decide)).trans e28
    clear hr
    refine tail_nil (hK15 _ _ ?_)
    refine wp_ret ?_
    refine (show bodyPost Try.prog Try.f101 _ .ret _ _ from retCT (v := (.agg #[(.int .u8 (0)), (.int .i64 (0)), (.string (⟨#[]⟩)), (.slice none 0 0), (.slice none 0 0)])) rfl zz18 e4 own_b4_2 agg33 sz33 rfl (fun h => by cases h) rfl e5 ⟨_, rfl, kw, ?_⟩)
    refine ⟨_, by rw [hb], ?_⟩
    rw [hv2]
    exact sf_fr (rdV_mk (lbr rfl) (rd_nil _) (rd_nil _) : Rd W17 (SF w [b4_2, b2_2]) (V.d (V.mk (0) (0) (⟨#[]⟩) ([]) ([]))) _)
   ·
    have hfb : findB x.ns name = true := by simpa using (Bool.or_eq_false_iff.1 hc).1
    have hfi := of_decide_eq_false (Bool.or_eq_false_iff.1 hc).2
    have hn : ¬ (findB x.ns name = false ∨ (x.xs.length : Int) ≤ findI x.ns name) := by rintro (h | h); rw [hfb] at h; cases h; exact hfi h
    obtain ⟨at_, hat, hatn⟩ := find_at hfb
    have hatx : at_ < x.xs.length := by omega
    have hb : getB x name = true := by rw [getB, if_neg hk, if_neg hn]
    have hv2 := getV_in hk hn hat hatx
    have hwm := wts_mem hatx
    refine wp_skip (hK12 _ _ ?_)
    refine wp_seq_k fun K19 hK19 => ?_
    refine rg mixed y14 zz14 ?_
    refine .i (fo 4 (hbs rfl e2) Try.underlying33 rfl sz31 rfl) ?_
    refine .i (lo1 (hlc rfl) own_b2_2 trivial agg31 sz31 rfl) ?_
    refine .i (sp_move (hbs rfl e6)) ?_
    refine .rf (sp_indexV (i := at_) ((hlc rfl).dat D_ci0 sub_all) (hlc rfl) Try.underlying31 sz33 hat hatx) ?_
    refine .da (sp_loadV (hlc rfl) agg33 sz33) ?_
    refine .da (X := Fr W14) (e := V.d (x.xs[at_]'hatx)) (sp_call1 (φ1 := IsD (SA w S [b4_2, b2_2]) (V.d (x.xs[at_]'hatx))) ent79 (hlc rfl) (fun g u1 W hk hgk h1 => (Copy_ok (x.xs[at_]'hatx) (by first | omega | exact Nat.le_of_ble_eq_true (by kernel_rfl)) W _ _ (fun b o h => sa_cln hS b o h.1) h1).mono (ret_fr hk hgk))) ?_
    refine .done ⟨by kernel_rfl, fun a20 g W20 y20 zz20 hk hg hV hR hP => ?_⟩
    obtain ⟨e34, -, -, -, -, -, -⟩ := hV
    replace e4 := (hR 4 rfl).trans e4
    replace D_cn0 := D_cn0.ext hk
    replace D_ci0 := D_ci0.ext hk
    obtain ⟨v34_20, ev⟩ : ∃ v, sl a20 34 = v := ⟨_, rfl⟩
    rw [ev] at e34
    have D_v34_20 : Rd W20 (SF w [b4_2, b2_2]) (V.d (x.xs[at_]'hatx)) v34_20 := fr_end (M := [b4_2, b2_2]) e34 kw [] in_nil (in_cons own_b4_2.lt (in_cons own_b2_2.lt in_nil))
    replace e34 := ev; clear ev
    obtain ⟨cn34_20a, cn34_20c, ci34_20a, ci34_20c, ev, ht_v34_20, D_cn34_20, D_ci34_20⟩ := rdV_out D_v34_20
    subst ev; clear D_v34_20
    replace own_b4_2 := own_b4_2.ext hk
    replace own_b2_2 := own_b2_2.ext hk
    replace kw := kw.x hk
    clear hR hk hg hP
    refine tail_store (b := b4_2) (o := 0) (v := (.agg #[(.int .u8 ((x.xs[at_]'hatx).k)), (.int .i64 ((x.xs[at_]'hatx).n)), (.string ((x.xs[at_]'hatx).t)), (.slice cn34_20a (((x.xs[at_]'hatx).ns).length) cn34_20c), (.slice ci34_20a (((x.xs[at_]'hatx).xs).length) ci34_20c)])) e4 e34 sz33 rfl own_b4_2 (lbr rfl) (all_cons rfl (all_cons rfl (all_cons rfl (all_cons rfl (all_cons rfl all_nil))))) (fun W21 hs own_b4_2 => ?_)
    have own_b4_2 : Own W21 b4_2 [(.int .u8 ((x.xs[at_]'hatx).k)), (.int .i64 ((x.xs[at_]'hatx).n)), (.string ((x.xs[at_]'hatx).t)), (.slice cn34_20a (((x.xs[at_]'hatx).ns).length) cn34_20c), (.slice ci34_20a (((x.xs[at_]'hatx).xs).length) ci34_20c)] 33 := own_b4_2
    replace own_b2_2 := own_store own_b2_2 hs ne_b4_2_b2_2.symm
    replace D_cn0 := sa_store D_cn0 hs (by simp)
    replace D_ci0 := sa_store D_ci0 hs (by simp)
    replace D_cn34_20 := sf_store D_cn34_20 hs (by simp)
    replace D_ci34_20 := sf_store D_ci34_20 hs (by simp)
    replace kw := keeps_store kw hs lo_b4_2
    clear hs
    refine tail_assign (v := (.bool (true))) rfl (by rw [y20]; exact Nat.le_of_ble_eq_true rfl) (fun a22 y22 zz22 e5 hr => ?_)
    replace y22 := y22.trans y20; replace zz22 := zz22.trans zz20
    replace e4 := (hr 4 (by decide)).trans e4
    replace e34 := (hr 34 (by decide)).trans e34
    clear hr
    refine tail_nil (hK19 _ _ ?_)
    refine wp_ret ?_
    refine (show bodyPost Try.prog Try.f101 _ .ret _ _ from retCT (v := (.agg #[(.int .u8 ((x.xs[at_]'hatx).k)), (.int .i64 ((x.xs[at_]'hatx).n)), (.string ((x.xs[at_]'hatx).t)), (.slice cn34_20a (((x.xs[at_]'hatx).ns).length) cn34_20c), (.slice ci34_20a (((x.xs[at_]'hatx).xs).length) ci34_20c)])) rfl zz22 e4 own_b4_2 agg33 sz33 rfl (fun h => by cases h) rfl e5 ⟨_, rfl, kw, ?_⟩)
    refine ⟨_, by rw [hb], ?_⟩
    rw [hv2]
    exact sf_fr (rdV_in (x := (x.xs[at_]'hatx)) ht_v34_20 D_cn34_20 D_ci34_20 : Rd W21 (SF w [b4_2, b2_2]) (V.d ((x.xs[at_]'hatx))) _)
end Go.Proofs.Ytnobijngkpflcaa
namespace Go.Proofs.Ytnobijngkpflcaa
open Go.Eng
set_option maxRecDepth 100000 in
theorem digit_ok (s : ByteArray) (i : Nat) (hi : i < s.size) (hm : s.size ≤ maxLen) (w : World) : Calls Try.prog 152 #[.string s, .int .i64 i] w (Ret w fun u _ => u = .tuple #[.int .i64 (hexV (s[i]'hi).toNat), .bool (hexB (s[i]'hi).toNat)]) := by
  simp only [maxLen] at hm
  have hc8 : (s[i]'hi).toNat < 256 := UInt8.toNat_lt _
  refine enter Try.func152 rfl Try.ntmps152 (lbr rfl) fun a0 y0 zz0 harg => ?_
  have e0 : sl a0 0 = (.string (s)) := harg 0 (lbr rfl)
  have e1 : sl a0 1 = (.int .i64 ((i : Nat))) := harg 1 (lbr rfl)
  have kw := Keeps.refl All w
  clear harg
  refine wp_seq_k fun K1 hK1 => ?_
  refine rg mixed y0 zz0 ?_
  refine .i (sp_assign Has.cst) ?_
  refine .i (sp_assign Has.cst) ?_
  refine .done ⟨by kernel_rfl, fun a2 g W2 y2 zz2 hk hg hV hR hP => ?_⟩
  obtain ⟨-, -, -⟩ := hV
  replace e0 := (hR 0 rfl).trans e0
  replace e1 := (hR 1 rfl).trans e1
  replace kw := kw.x hk
  clear hR hk hg hP
  refine tail_nil (hK1 _ _ ?_)
  refine wp_seq_k fun K3 hK3 => ?_
  refine wp_seq_k fun K4 hK4 => ?_
  refine rg mixed y2 zz2 ?_
  refine .i (sp_move (hbs rfl e1)) ?_
  refine .i (sp_lss (hlc rfl) Has.cst) ?_
  refine .i (sp_move (hlc rfl)) ?_
  refine .e (t := 9) rfl (hlc rfl) (fun hg => sp_move (hbs rfl e1)) ?_
  refine .e (t := 9) rfl (hlc rfl) (fun hg => sp_move (hbs rfl e0)) ?_
  refine .e (t := 9) rfl (hlc rfl) (fun hg => sp_lenS Try.underlying9 ((hlc rfl).undE hg)) ?_
  refine .e (t := 9) rfl (hlc rfl) (fun hg => sp_geq ((hlc rfl).undE hg) ((hlc rfl).undE hg)) ?_
  refine .i (sp_or (hlc rfl) ((hlc rfl).weak fun hq => hq)) ?_
  refine .done ⟨by kernel_rfl, fun a5 g W5 y5 zz5 hk hg hV hR hP => ?_⟩
  obtain ⟨e14, -, -, -, -, -, -, -, -⟩ := hV
  replace e0 := (hR 0 rfl).trans e0
  replace e1 := (hR 1 rfl).trans e1
  replace e14 := e14.q
  replace kw := kw.x hk
  clear hR hk hg hP
  refine tail_nil (hK4 _ _ ?_)
  refine wp_cond_split e14 (fun hc => ?_) (fun hc => ?_)
  ·
   exfalso
   simp at hc
   omega
  ·
   refine wp_skip (hK3 _ _ ?_)
   refine wp_seq_k fun K6 hK6 => ?_
   refine wp_seq_k fun K7 hK7 => ?_
   refine rg mixed y5 zz5 ?_
   refine .i (sp_move (hbs rfl e0)) ?_
   refine .i (sp_move (hbs rfl e1)) ?_
   refine .i (v := (.int .u8 (((s[i]'hi).toNat : Nat)))) (sp_indexStr (i := i) Try.underlying9 (hlc rfl) (hlc rfl) rfl hi) ?_
   refine .i (sp_assign (hlc rfl)) ?_
   refine .done ⟨by kernel_rfl, fun a8 g W8 y8 zz8 hk hg hV hR hP => ?_⟩
   obtain ⟨e6, -, -, -, -⟩ := hV
   have e6 : sl a8 6 = (.int .u8 (((s[i]'hi).toNat : Nat))) := e6
   replace kw := kw.x hk
   clear hR hk hg hP
   refine tail_nil (hK7 _ _ ?_)
   refine wp_block ?_
   refine wp_seq_k fun K9 hK9 => ?_
   refine rg mixed y8 zz8 ?_
   refine .i (sp_move (hbs rfl e6)) ?_
   refine .i (sp_leq Has.cst (hlc rfl)) ?_
   refine .i (sp_move (hlc rfl)) ?_
   refine .e (t := 21) rfl (hlc rfl) (fun hg => sp_move (hbs rfl e6)) ?_
   refine .e (t := 21) rfl (hlc rfl) (fun hg => sp_leq ((hlc rfl).undE hg) Has.cst) ?_
   refine .i (sp_and (hlc rfl) ((hlc rfl).weak fun hq => hq)) ?_
   refine .i (sp_assign (hlc rfl)) ?_
   refine .done ⟨by kernel_rfl, fun a10 g W10 y10 zz10 hk hg hV hR hP => ?_⟩
   obtain ⟨e18, -, -, -, -, -, -, -⟩ := hV
   replace e6 := (hR 6 rfl).trans e6
   replace e18 := e18.q
   replace kw := kw.x hk
   clear hR hk hg hP
   refine tail_nil (hK9 _ _ ?_)
   refine wp_cond_split e18 (fun hc => ?_) (fun hc => ?_)
   ·
    have h1 : 48 ≤ (s[i]'hi).toNat ∧ (s[i]'hi).toNat ≤ 57 := by simp at hc; omega
    have hfin : hexV (s[i]'hi).toNat = (s[i]'hi).toNat - 48 ∧ hexB (s[i]'hi).toNat = true := ⟨by rw [hexV, if_pos h1], by simp [hexB, h1]⟩
    refine wp_seq_k fun K11 hK11 => ?_
    refine rg mixed y10 zz10 ?_
    refine .i (sp_move (hbs rfl e6)) ?_
    refine .i (sp_sub (hlc rfl) Has.cst (u8_in (by omega))) ?_
    refine .i (v := (.int .i64 ((((s[i]'hi).toNat : Nat) : Int) - (48 : Int)))) (sp_conv Try.underlying5 Try.underlying3 (hlc rfl) (i64_in (by omega))) ?_
    refine .i (sp_assign (hlc rfl)) ?_
    refine .i (sp_assign Has.cst) ?_
    refine .done ⟨by kernel_rfl, fun a12 g W12 y12 zz12 hk hg hV hR hP => ?_⟩
    obtain ⟨e5, e4, -, -, -, -⟩ := hV
    replace e4 := e4.q
    have e5 : sl a12 5 = (.bool (true)) := e5
    replace kw := kw.x hk
    clear hR hk hg hP
    refine tail_nil (hK11 _ _ ?_)
    refine wp_ret ?_
    refine (show bodyPost Try.prog Try.f152 _ .ret _ _ from ret2 rfl zz12 e4 e5 ⟨_, rfl, kw, ?_⟩)
    rw [hfin.1, hfin.2]
   ·
    have h1 : ¬ (48 ≤ (s[i]'hi).toNat ∧ (s[i]'hi).toNat ≤ 57) := by simp at hc; omega
    refine wp_seq_k fun K13 hK13 => ?_
    refine rg mixed y10 zz10 ?_
    refine .i (sp_move (hbs rfl e6)) ?_
    refine .i (sp_leq Has.cst (hlc rfl)) ?_
    refine .i (sp_move (hlc rfl)) ?_
    refine .e (t := 31) rfl (hlc rfl) (fun hg => sp_move (hbs rfl e6)) ?_
    refine .e (t := 31) rfl (hlc rfl) (fun hg => sp_leq ((hlc rfl).undE hg) Has.cst) ?_
    refine .i (sp_and (hlc rfl) ((hlc rfl).weak fun hq => hq)) ?_
    refine .i (sp_assign (hlc rfl)) ?_
    refine .done ⟨by kernel_rfl, fun a14 g W14 y14 zz14 hk hg hV hR hP => ?_⟩
    obtain ⟨e28, -, -, -, -, -, -, -⟩ := hV
    replace e6 := (hR 6 rfl).trans e6
    replace e28 := e28.q
    replace kw := kw.x hk
    clear hR hk hg hP
    refine tail_nil (hK13 _ _ ?_)
    refine wp_cond_split e28 (fun hc => ?_) (fun hc => ?_)
    ·
     have h2 : 97 ≤ (s[i]'hi).toNat ∧ (s[i]'hi).toNat ≤ 102 := by simp at hc; omega
     have hfin : hexV (s[i]'hi).toNat = (s[i]'hi).toNat - 97 + 10 ∧ hexB (s[i]'hi).toNat = true := ⟨by rw [hexV, if_neg h1, if_pos h2], by simp [hexB, h2]⟩
     refine wp_seq_k fun K15 hK15 => ?_
     refine rg mixed y14 zz14 ?_
     refine .i (sp_move (hbs rfl e6)) ?_
     refine .i (sp_sub (hlc rfl) Has.cst (u8_in (by omega))) ?_
     refine .i (v := (.int .i64 ((((s[i]'hi).toNat : Nat) : Int) - (97 : Int)))) (sp_conv Try.underlying5 Try.underlying3 (hlc rfl) (i64_in (by omega))) ?_
     refine .i (sp_add (hlc rfl) Has.cst (i64_in (by omega))) ?_
     refine .i (sp_assign (hlc rfl)) ?_
     refine .i (sp_assign Has.cst) ?_
     refine .done ⟨by kernel_rfl, fun a16 g W16 y16 zz16 hk hg hV hR hP => ?_⟩
     obtain ⟨e5, e4, -, -, -, -, -⟩ := hV
     replace e4 := e4.q
     have e5 : sl a16 5 = (.bool (true)) := e5
     replace kw := kw.x hk
     clear hR hk hg hP
     refine tail_nil (hK15 _ _ ?_)
     refine wp_ret ?_
     refine (show bodyPost Try.prog Try.f152 _ .ret _ _ from ret2 rfl zz16 e4 e5 ⟨_, rfl, kw, ?_⟩)
     rw [hfin.1, hfin.2]
    ·
     have h2 : ¬ (97 ≤ (s[i]'hi).toNat ∧ (s[i]'hi).toNat ≤ 102) := by simp at hc; omega
     have hfin : hexV (s[i]'hi).toNat = 0 ∧ hexB (s[i]'hi).toNat = false := ⟨by rw [hexV, if_neg h1, if_neg h2], by simp [hexB]; omega⟩
     refine wp_skip (hK6 _ _ ?_)
     refine wp_seq_k fun K17 hK17 => ?_
     refine rg mixed y14 zz14 ?_
     refine .i (sp_assign Has.cst) ?_
     refine .i (sp_assign Has.cst) ?_
     refine .done ⟨by kernel_rfl, fun a18 g W18 y18 zz18 hk hg hV hR hP => ?_⟩
     obtain ⟨e5, e4, -⟩ := hV
     have e4 : sl a18 4 = (.int .i64 (0)) := e4
     have e5 : sl a18 5 = (.bool (false)) := e5
     replace kw := kw.x hk
     clear hR hk hg hP
     refine tail_nil (hK17 _ _ ?_)
     refine wp_ret ?_
     refine (show bodyPost Try.prog Try.f152 _ .ret _ _ from ret2 rfl zz18 e4 e5 ⟨_, rfl, kw, ?_⟩)
     rw [hfin.1, hfin.2]
set_option maxRecDepth 100000 in
theorem hexIs_ok (s : ByteArray) (hm : s.size ≤ maxLen) (w : World) : Calls Try.prog 135 #[.string s] w (Ret w fun u _ => u = .bool (hexIs s)) := by
  have hmx := hm
  simp only [maxLen] at hmx
  refine enter Try.func135 rfl Try.ntmps135 (lbr rfl) fun a0 y0 zz0 harg => ?_
  have e0 : sl a0 0 = (.string (s)) := harg 0 (lbr rfl)
  have kw := Keeps.refl All w
  clear harg
  refine wp_seq_k fun K1 hK1 => ?_
  refine rg mixed y0 zz0 ?_
  refine .i (sp_assign Has.cst) ?_
  refine .done ⟨by kernel_rfl, fun a2 g W2 y2 zz2 hk hg hV hR hP => ?_⟩
  obtain ⟨-, -⟩ := hV
  replace e0 := (hR 0 rfl).trans e0
  replace kw := kw.x hk
  clear hR hk hg hP
  refine tail_nil (hK1 _ _ ?_)
  refine wp_seq_k fun K3 hK3 => ?_
  refine wp_seq_k fun K4 hK4 => ?_
  refine rg mixed y2 zz2 ?_
  refine .i (sp_move (hbs rfl e0)) ?_
  refine .i (sp_lenS Try.underlying9 (hlc rfl)) ?_
  refine .i (sp_move Has.cst) ?_
  refine .done ⟨by kernel_rfl, fun a5 g W5 y5 zz5 hk hg hV hR hP => ?_⟩
  obtain ⟨e8, e7, -, -⟩ := hV
  replace e0 := (hR 0 rfl).trans e0
  have e7 : sl a5 7 = (.int .i64 (s.size)) := e7
  have e8 : sl a5 8 = (.int .i64 (0)) := e8
  replace kw := kw.x hk
  clear hR hk hg hP
  refine tail_nil (hK4 _ _ ?_)
  refine wp_block ?_
  refine wp_for (s.size) (fun k a W => a.tmps.size = 20 ∧ a.defers = [] ∧ Keeps All w W ∧ sl a 0 = (.string (s)) ∧ sl a 7 = (.int .i64 (s.size)) ∧ sl a 8 = (.int .i64 ((k : Nat))) ∧ (∀ i (h : i < s.size), i < k → hexB (s[i]'h).toNat = true)) ⟨y5, zz5, kw, e0, e7, (e8.trans (congrArg (Value.int .i64) (rfl))), fun i h hi => absurd hi (by omega)⟩ ?_
  clear kw e0 e7 e8
  rintro k a6 W6 hkk ⟨y6, zz6, kw, e0, e7, e8, hinv⟩
  refine wp_seq_k fun K7 hK7 => ?_
  refine rg mixed y6 zz6 ?_
  refine .i (sp_lss (hbs rfl e8) (hbs rfl e7)) ?_
  refine .done ⟨by kernel_rfl, fun a8 g W8 y8 zz8 hk hg hV hR hP => ?_⟩
  obtain ⟨e9, -⟩ := hV
  replace e0 := (hR 0 rfl).trans e0
  replace e7 := (hR 7 rfl).trans e7
  replace e8 := (hR 8 rfl).trans e8
  replace e9 := e9.q
  replace kw := kw.x hk
  clear hR hk hg hP
  refine tail_nil (hK7 _ _ ?_)
  refine wp_seq_k fun K9 hK9 => ?_
  refine wp_cond_split e9 (fun hc => ?_) (fun hc => ?_)
  ·
   have hlt : k < s.size := by simpa using hc
   refine wp_skip (hK9 _ _ ?_)
   refine wp_seq_k fun K10 hK10 => ?_
   refine wp_block ?_
   refine wp_seq_k fun K11 hK11 => ?_
   refine rg mixed y8 zz8 ?_
   refine .i (sp_move (hbs rfl e8)) ?_
   refine .i (sp_assign (hlc rfl)) ?_
   refine .done ⟨by kernel_rfl, fun a12 g W12 y12 zz12 hk hg hV hR hP => ?_⟩
   obtain ⟨e3, -, -⟩ := hV
   replace e0 := (hR 0 rfl).trans e0
   replace e7 := (hR 7 rfl).trans e7
   replace e8 := (hR 8 rfl).trans e8
   have e3 : sl a12 3 = (.int .i64 ((k : Nat))) := e3
   replace kw := kw.x hk
   clear hR hk hg hP
   refine tail_nil (hK11 _ _ ?_)
   refine wp_seq_k fun K13 hK13 => ?_
   refine rg mixed y12 zz12 ?_
   refine .i (sp_move (hbs rfl e0)) ?_
   refine .i (sp_move (hbs rfl e3)) ?_
   refine .i (v := (.tuple #[(.int .i64 (hexV (s[k]'hlt).toNat)), (.bool (hexB (s[k]'hlt).toNat))])) (sp_call2 (φ1 := Is (.string (s))) (φ2 := Is (.int .i64 ((k : Nat)))) ent152 (hlc rfl) (hlc rfl) (fun g u1 u2 W hk hgk h1 h2 => by have h1 : u1 = _ := h1; subst u1; have h2 : u2 = _ := h2; subst u2; exact digit_ok (s) k hlt hm W)) ?_
   refine .i (sp_move (hlc rfl)) ?_
   refine .i (v := (.int .i64 (hexV (s[k]'hlt).toNat))) (sp_extT (hlc rfl) rfl) ?_
   refine .i (v := (.bool (hexB (s[k]'hlt).toNat))) (sp_extT (hlc rfl) rfl) ?_
   refine .i (sp_assign (hlc rfl)) ?_
   refine .i (sp_assign (hlc rfl)) ?_
   refine .done ⟨by kernel_rfl, fun a14 g W14 y14 zz14 hk hg hV hR hP => ?_⟩
   obtain ⟨e5, -, -, -, -, -, -, -, -⟩ := hV
   replace e0 := (hR 0 rfl).trans e0
   replace e7 := (hR 7 rfl).trans e7
   replace e8 := (hR 8 rfl).trans e8
   have e5 : sl a14 5 = (.bool (hexB (s[k]'hlt).toNat)) := e5
   replace kw := kw.x hk
   clear hR hk hg hP
   refine tail_nil (hK13 _ _ ?_)
   refine wp_seq_k fun K15 hK15 => ?_
   refine rg mixed y14 zz14 ?_
   refine .i (sp_move (hbs rfl e5)) ?_
   refine .i (sp_not (hlc rfl)) ?_
   refine .done ⟨by kernel_rfl, fun a16 g W16 y16 zz16 hk hg hV hR hP => ?_⟩
   obtain ⟨e18, -, -⟩ := hV
   replace e0 := (hR 0 rfl).trans e0
   replace e7 := (hR 7 rfl).trans e7
   replace e8 := (hR 8 rfl).trans e8
   have e18 : sl a16 18 = (.bool (!(hexB (s[k]'hlt).toNat))) := e18
   replace kw := kw.x hk
   clear hR hk hg hP
   refine tail_nil (hK15 _ _ ?_)
   refine wp_cond_split e18 (fun hc => ?_) (fun hc => ?_)
   ·
    have hfin : hexIs s = false := hexIs_false hlt (by simpa using hc)
    refine wp_seq_k fun K17 hK17 => ?_
    refine rg mixed y16 zz16 ?_
    refine .i (sp_assign Has.cst) ?_
    refine .done ⟨by kernel_rfl, fun a18 g W18 y18 zz18 hk hg hV hR hP => ?_⟩
    obtain ⟨e2, -⟩ := hV
    have e2 : sl a18 2 = (.bool (false)) := e2
    replace kw := kw.x hk
    clear hR hk hg hP
    refine tail_nil (hK17 _ _ ?_)
    refine wp_ret ?_
    refine (show bodyPost Try.prog Try.f135 _ .ret _ _ from ret1 rfl zz18 e2 ⟨_, rfl, kw, ?_⟩)
    rw [hfin]
   ·
    have hk1 : hexB (s[k]'hlt).toNat = true := by simpa using hc
    refine wp_skip (hK10 _ _ ?_)
    refine rg mixed y16 zz16 ?_
    refine .i (sp_add (hbs rfl e8) Has.cst (i64_in (by omega))) ?_
    refine .i (sp_move (hlc rfl)) ?_
    refine .done ⟨by kernel_rfl, fun a19 g W19 y19 zz19 hk hg hV hR hP => ?_⟩
    obtain ⟨e8, -, -⟩ := hV
    replace e0 := (hR 0 rfl).trans e0
    replace e7 := (hR 7 rfl).trans e7
    replace e8 := e8.q
    replace kw := kw.x hk
    clear hR hk hg hP
    exact tail_nil ⟨hlt, y19, zz19, kw, e0, e7, (e8.trans (congrArg (Value.int .i64) (by simp))), fun i h hi => by rcases Nat.lt_succ_iff_lt_or_eq.1 hi with h1 | h1; exact hinv i h h1; subst h1; exact hk1⟩
  ·
   have hge0 : ¬ k < s.size := by simpa using hc
   have hge : k = s.size := by omega
   have hfin : hexIs s = true := (hexIs_iff s).2 fun i h => hinv i h (by omega)
   refine wp_exit (hK3 _ _ ?_)
   refine wp_seq_k fun K20 hK20 => ?_
   refine rg mixed y8 zz8 ?_
   refine .i (sp_assign Has.cst) ?_
   refine .done ⟨by kernel_rfl, fun a21 g W21 y21 zz21 hk hg hV hR hP => ?_⟩
   obtain ⟨e2, -⟩ := hV
   have e2 : sl a21 2 = (.bool (true)) := e2
   replace kw := kw.x hk
   clear hR hk hg hP
   refine tail_nil (hK20 _ _ ?_)
   refine wp_ret ?_
   refine (show bodyPost Try.prog Try.f135 _ .ret _ _ from ret1 rfl zz21 e2 ⟨_, rfl, kw, ?_⟩)
   rw [hfin]
set_option maxRecDepth 100000 in
theorem wrong_ok (ns : List ByteArray) (w : World) (S : BSet) (v : Value) (hv : Rd w S (strsD ns) v) : Calls Try.prog 77 #[v] w (Ret w fun u _ => u = .int .i64 (wrongE [] ns)) := by
  have hmn : ns.length ≤ maxLen := rd_lenS hv
  simp only [maxLen] at hmn
  obtain ⟨va, vc, ev, D_v⟩ := rdS_out (rd_arg hv)
  subst ev
  refine enter Try.func77 rfl Try.ntmps77 (lbr rfl) fun a0 y0 zz0 harg => ?_
  have e0 : sl a0 0 = (.slice va (ns.length) vc) := harg 0 (lbr rfl)
  have kw := Keeps.refl All w
  clear harg
  refine wp_seq_k fun K1 hK1 => ?_
  refine rg mixed y0 zz0 ?_
  refine .i (sp_assign Has.cst) ?_
  refine .done ⟨by kernel_rfl, fun a2 g W2 y2 zz2 hk hg hV hR hP => ?_⟩
  obtain ⟨-, -⟩ := hV
  replace e0 := (hR 0 rfl).trans e0
  replace D_v := D_v.ext hk
  replace kw := kw.x hk
  clear hR hk hg hP
  refine tail_nil (hK1 _ _ ?_)
  refine wp_seq_k fun K3 hK3 => ?_
  refine rg mixed y2 zz2 ?_
  refine .mkMap ?_
  refine .done ⟨by kernel_rfl, fun a4 g W4 y4 zz4 hk hg hV hR hP => ?_⟩
  obtain ⟨⟨b6_4, e6, hb6, own_b6_4⟩, -⟩ := hV
  have lo_b6_4 : w.heap.size ≤ b6_4 := Nat.le_trans kw.size (hg.lo _ _ hb6)
  have own_b6_4 : OwnM W4 b6_4 ([]) := own_b6_4
  replace e0 := (hR 0 rfl).trans e0
  replace D_v := sa_more D_v hk [b6_4] (in_cons (hg.lo _ _ hb6) in_nil)
  replace kw := kw.x hk
  clear hR hk hg hP hb6
  refine tail_assign (v := (.map (some b6_4))) e6 (by rw [y4]; exact Nat.le_of_ble_eq_true rfl) (fun a5 y5 zz5 e3 hr => ?_)
  replace y5 := y5.trans y4; replace zz5 := zz5.trans zz4
  replace e0 := (hr 0 (by decide)).trans e0
  replace e6 := (hr 6 (by decide)).trans e6
  clear hr
  refine tail_nil (hK3 _ _ ?_)
  refine wp_seq_k fun K6 hK6 => ?_
  refine wp_seq_k fun K7 hK7 => ?_
  refine rg mixed y5 zz5 ?_
  refine .i (sp_move (hbs rfl e0)) ?_
  refine .i (sp_lenSs Try.underlying23 ((hlc rfl).dat D_v sub_all)) ?_
  refine .i (sp_move Has.cst) ?_
  refine .done ⟨by kernel_rfl, fun a8 g W8 y8 zz8 hk hg hV hR hP => ?_⟩
  obtain ⟨e9, e8, e7, -⟩ := hV
  replace e3 := (hR 3 rfl).trans e3
  replace D_v := D_v.ext hk
  have e7 : sl a8 7 = (.slice va (ns.length) vc) := e7
  have e8 : sl a8 8 = (.int .i64 (ns.length)) := e8
  have e9 : sl a8 9 = (.int .i64 (0)) := e9
  replace own_b6_4 := own_b6_4.ext hk
  replace kw := kw.x hk
  clear hR hk hg hP
  refine tail_nil (hK7 _ _ ?_)
  refine wp_block ?_
  rw [show [] = ones (ns.take 0) by rfl] at own_b6_4
  refine wp_for (ns.length) (fun k a W => a.tmps.size = 30 ∧ a.defers = [] ∧ Keeps All w W ∧ sl a 3 = (.map (some b6_4)) ∧ sl a 7 = (.slice va (ns.length) vc) ∧ sl a 8 = (.int .i64 (ns.length)) ∧ sl a 9 = (.int .i64 ((k : Nat))) ∧ OwnM W b6_4 (ones (ns.take k)) ∧ Rd W (SA w S [b6_4]) (strsD (ns)) (.slice va (ns.length) vc) ∧ (wrongE [] ns = wrongE (ns.take k) (ns.drop k))) ⟨y8, zz8, kw, e3, e7, e8, (e9.trans (congrArg (Value.int .i64) (rfl))), own_b6_4, D_v, rfl⟩ ?_
  clear kw e3 e7 e8 e9 own_b6_4 D_v
  rintro k a9 W9 hkk ⟨y9, zz9, kw, e3, e7, e8, e9, own_b6_4, D_v, hin⟩
  refine wp_seq_k fun K10 hK10 => ?_
  refine rg mixed y9 zz9 ?_
  refine .i (sp_lss (hbs rfl e9) (hbs rfl e8)) ?_
  refine .done ⟨by kernel_rfl, fun a11 g W11 y11 zz11 hk hg hV hR hP => ?_⟩
  obtain ⟨e10, -⟩ := hV
  replace e3 := (hR 3 rfl).trans e3
  replace e7 := (hR 7 rfl).trans e7
  replace e8 := (hR 8 rfl).trans e8
  replace e9 := (hR 9 rfl).trans e9
  replace D_v := D_v.ext hk
  replace e10 := e10.q
  replace own_b6_4 := own_b6_4.ext hk
  replace kw := kw.x hk
  clear hR hk hg hP
  refine tail_nil (hK10 _ _ ?_)
  refine wp_seq_k fun K12 hK12 => ?_
  refine wp_cond_split e10 (fun hc => ?_) (fun hc => ?_)
  ·
   have hlt : k < ns.length := by simpa using hc
   rw [List.drop_eq_getElem_cons hlt, wrongE] at hin
   refine wp_skip (hK12 _ _ ?_)
   refine wp_seq_k fun K13 hK13 => ?_
   refine wp_block ?_
   refine wp_seq_k fun K14 hK14 => ?_
   refine rg mixed y11 zz11 ?_
   refine .rf (sp_indexS (i := k) ((hbs rfl e7).dat D_v sub_all) (hbs rfl e9) Try.underlying23 sz9 rfl hlt) ?_
   refine .i (sp_loadStr (hlc rfl) agg9 sz9) ?_
   refine .i (sp_assign (hlc rfl)) ?_
   refine .done ⟨by kernel_rfl, fun a15 g W15 y15 zz15 hk hg hV hR hP => ?_⟩
   obtain ⟨e5, -, -, -⟩ := hV
   replace e3 := (hR 3 rfl).trans e3
   replace e7 := (hR 7 rfl).trans e7
   replace e8 := (hR 8 rfl).trans e8
   replace e9 := (hR 9 rfl).trans e9
   replace D_v := D_v.ext hk
   have e5 : sl a15 5 = (.string (ns[k]'hlt)) := e5
   replace own_b6_4 := own_b6_4.ext hk
   replace kw := kw.x hk
   clear hR hk hg hP
   refine tail_nil (hK14 _ _ ?_)
   refine wp_seq_k fun K16 hK16 => ?_
   refine wp_seq_k fun K17 hK17 => ?_
   refine rg mixed y15 zz15 ?_
   refine .i (sp_move (hbs rfl e5)) ?_
   refine .i (sp_lenS Try.underlying9 (hlc rfl)) ?_
   refine .i (sp_neq (hlc rfl) Has.cst) ?_
   refine .i (sp_move (hlc rfl)) ?_
   refine .e (t := 16) rfl (hlc rfl) (fun hg => sp_move (hbs rfl e5)) ?_
   refine .e (t := 16) (v := (.bool (hexIs (ns[k]'hlt)))) rfl (hlc rfl) (fun hg => sp_call1 (φ1 := Is (.string (ns[k]'hlt))) ent135 ((hlc rfl).undE hg) (fun g u1 W hk hgk h1 => by have h1 : u1 = _ := h1; subst u1; exact hexIs_ok (ns[k]'hlt) (rd_strAt D_v k hlt) W)) ?_
   refine .e (t := 16) rfl (hlc rfl) (fun hg => sp_not ((hlc rfl).undE hg)) ?_
   refine .i (sp_or (hlc rfl) ((hlc rfl).weak fun hq => hq)) ?_
   refine .done ⟨by kernel_rfl, fun a18 g W18 y18 zz18 hk hg hV hR hP => ?_⟩
   obtain ⟨e20, -, -, -, -, -, -, -, -⟩ := hV
   replace e3 := (hR 3 rfl).trans e3
   replace e7 := (hR 7 rfl).trans e7
   replace e8 := (hR 8 rfl).trans e8
   replace e9 := (hR 9 rfl).trans e9
   replace e5 := (hR 5 rfl).trans e5
   replace D_v := D_v.ext hk
   replace e20 := e20.q
   replace own_b6_4 := own_b6_4.ext hk
   replace kw := kw.x hk
   clear hR hk hg hP
   refine tail_nil (hK17 _ _ ?_)
   refine wp_cond_split e20 (fun hc => ?_) (fun hc => ?_)
   ·
    have hd : digB ns[k] = false := by rcases (Bool.or_eq_true _ _).mp hc with h | h; simp at h; simp [digB]; omega; simp [digB]; simp at h; simp [h]
    have hfin : wrongE [] ns = 3 := by rw [hin, if_pos hd]
    refine wp_seq_k fun K19 hK19 => ?_
    refine rg mixed y18 zz18 ?_
    refine .i (sp_assign Has.cst) ?_
    refine .done ⟨by kernel_rfl, fun a20 g W20 y20 zz20 hk hg hV hR hP => ?_⟩
    obtain ⟨e2, -⟩ := hV
    replace D_v := D_v.ext hk
    have e2 : sl a20 2 = (.int .i64 (3)) := e2
    replace own_b6_4 := own_b6_4.ext hk
    replace kw := kw.x hk
    clear hR hk hg hP
    refine tail_nil (hK19 _ _ ?_)
    refine wp_ret ?_
    refine (show bodyPost Try.prog Try.f77 _ .ret _ _ from ret1 rfl zz20 e2 ⟨_, rfl, kw, ?_⟩)
    rw [hfin]
   ·
    have hd : ¬ digB ns[k] = false := by have h1 := (Bool.or_eq_false_iff.1 hc).1; have h2 := (Bool.or_eq_false_iff.1 hc).2; simp at h1 h2; simp [digB, h2]; omega
    rw [if_neg hd] at hin
    refine wp_skip (hK16 _ _ ?_)
    refine wp_seq_k fun K21 hK21 => ?_
    refine wp_seq_k fun K22 hK22 => ?_
    refine rg mixed y18 zz18 ?_
    refine .i (sp_move (hbs rfl e3)) ?_
    refine .i (sp_move (hbs rfl e5)) ?_
    refine .i (sp_lookup Try.underlying72 Try.underlying9 z3 (hlc rfl) (hlc rfl) own_b6_4 trivial) ?_
    refine .i (sp_gtr (hlc rfl) Has.cst) ?_
    refine .done ⟨by kernel_rfl, fun a23 g W23 y23 zz23 hk hg hV hR hP => ?_⟩
    obtain ⟨e24, -, -, -, -⟩ := hV
    replace e3 := (hR 3 rfl).trans e3
    replace e7 := (hR 7 rfl).trans e7
    replace e8 := (hR 8 rfl).trans e8
    replace e9 := (hR 9 rfl).trans e9
    replace e5 := (hR 5 rfl).trans e5
    replace D_v := D_v.ext hk
    replace e24 := e24.q
    replace own_b6_4 := own_b6_4.ext hk
    replace kw := kw.x hk
    clear hR hk hg hP
    refine tail_nil (hK22 _ _ ?_)
    refine wp_cond_split e24 (fun hc => ?_) (fun hc => ?_)
    ·
     have hm : memB ns[k] (ns.take k) = true := by have h := of_decide_eq_true hc; rw [mget_ones] at h; split at h; assumption; omega
     have hfin : wrongE [] ns = 7 := by rw [hin, if_pos hm]
     refine wp_seq_k fun K24 hK24 => ?_
     refine rg mixed y23 zz23 ?_
     refine .i (sp_assign Has.cst) ?_
     refine .done ⟨by kernel_rfl, fun a25 g W25 y25 zz25 hk hg hV hR hP => ?_⟩
     obtain ⟨e2, -⟩ := hV
     replace D_v := D_v.ext hk
     have e2 : sl a25 2 = (.int .i64 (7)) := e2
     replace own_b6_4 := own_b6_4.ext hk
     replace kw := kw.x hk
     clear hR hk hg hP
     refine tail_nil (hK24 _ _ ?_)
     refine wp_ret ?_
     refine (show bodyPost Try.prog Try.f77 _ .ret _ _ from ret1 rfl zz25 e2 ⟨_, rfl, kw, ?_⟩)
     rw [hfin]
    ·
     have hm : memB ns[k] (ns.take k) = false := by have h := of_decide_eq_false hc; rw [mget_ones] at h; cases hq : memB ns[k] (ns.take k) with | false => rfl | true => rw [if_pos hq] at h; omega
     rw [if_neg (by rw [hm]; simp)] at hin
     have hmg : mget (ones (ns.take k)) ns[k] = 0 := by rw [mget_ones, if_neg (by rw [hm]; simp)]
     have hms := mset_ones hm
     refine wp_skip (hK21 _ _ ?_)
     refine rg mixed y23 zz23 ?_
     refine .i (sp_move (hbs rfl e3)) ?_
     refine .i (sp_move (hbs rfl e5)) ?_
     refine .i (sp_lookup Try.underlying72 Try.underlying9 z3 (hlc rfl) (hlc rfl) own_b6_4 trivial) ?_
     refine .i (sp_add (hlc rfl) Has.cst (i64_in (by omega))) ?_
     refine .done ⟨by kernel_rfl, fun a26 g W26 y26 zz26 hk hg hV hR hP => ?_⟩
     obtain ⟨e28, -, e26, e25, -⟩ := hV
     replace e3 := (hR 3 rfl).trans e3
     replace e7 := (hR 7 rfl).trans e7
     replace e8 := (hR 8 rfl).trans e8
     replace e9 := (hR 9 rfl).trans e9
     replace D_v := D_v.ext hk
     have e25 : sl a26 25 = (.map (some b6_4)) := e25
     have e26 : sl a26 26 = (.string (ns[k]'hlt)) := e26
     replace e28 := e28.q
     replace own_b6_4 := own_b6_4.ext hk
     replace kw := kw.x hk
     clear hR hk hg hP
     refine tail_updM Try.underlying72 Try.underlying9 e25 e26 e28 own_b6_4 (fun W27 hs own_b6_4 => ?_)
     have own_b6_4 : OwnM W27 b6_4 (mset (ones (ns.take k)) (ns[k]'hlt) ((mget (ones (ns.take k)) (ns[k]'hlt) : Int) + (1 : Int))) := own_b6_4
     replace D_v := sa_store D_v hs (by simp)
     replace kw := keeps_store kw hs lo_b6_4
     clear hs
     refine tail_nil (hK13 _ _ ?_)
     refine rg mixed y26 zz26 ?_
     refine .i (sp_add (hbs rfl e9) Has.cst (i64_in (by omega))) ?_
     refine .i (sp_move (hlc rfl)) ?_
     refine .done ⟨by kernel_rfl, fun a28 g W28 y28 zz28 hk hg hV hR hP => ?_⟩
     obtain ⟨e9, -, -⟩ := hV
     replace e3 := (hR 3 rfl).trans e3
     replace e7 := (hR 7 rfl).trans e7
     replace e8 := (hR 8 rfl).trans e8
     replace D_v := D_v.ext hk
     replace e9 := e9.q
     replace own_b6_4 := own_b6_4.ext hk
     replace kw := kw.x hk
     clear hR hk hg hP
     rw [show mset (ones (ns.take k)) (ns[k]'hlt) ((mget (ones (ns.take k)) (ns[k]'hlt) : Int) + (1 : Int)) = ones (ns.take (k + 1)) by rw [hmg, List.take_succ_eq_append_getElem hlt]; exact hms] at own_b6_4
     exact tail_nil ⟨hlt, y28, zz28, kw, e3, e7, e8, (e9.trans (congrArg (Value.int .i64) (by simp))), own_b6_4, D_v, (by rw [List.take_succ_eq_append_getElem hlt]; exact hin)⟩
  ·
   have hge0 : ¬ k < ns.length := by simpa using hc
   have hge : k = ns.length := by omega
   have hfin : wrongE [] ns = 0 := by rw [hin, hge, List.drop_length]; rfl
   refine wp_exit (hK6 _ _ ?_)
   refine wp_seq_k fun K29 hK29 => ?_
   refine rg mixed y11 zz11 ?_
   refine .i (sp_assign Has.cst) ?_
   refine .done ⟨by kernel_rfl, fun a30 g W30 y30 zz30 hk hg hV hR hP => ?_⟩
   obtain ⟨e2, -⟩ := hV
   replace D_v := D_v.ext hk
   have e2 : sl a30 2 = (.int .i64 (0)) := e2
   replace own_b6_4 := own_b6_4.ext hk
   replace kw := kw.x hk
   clear hR hk hg hP
   refine tail_nil (hK29 _ _ ?_)
   refine wp_ret ?_
   refine (show bodyPost Try.prog Try.f77 _ .ret _ _ from ret1 rfl zz30 e2 ⟨_, rfl, kw, ?_⟩)
   rw [hfin]
set_option maxRecDepth 100000 in
theorem mayA_ok (au : Au) (w : World) (S : BSet) (v : Value) (hv : Rd w S au.d v) : Calls Try.prog 18 #[v] w (Ret w fun u _ => u = .bool (mayA au)) := by
  obtain ⟨p0_1a, p0_1c, ev, D_p0_1⟩ := rdAu_out (rd_arg hv)
  subst ev
  refine enter Try.func18 rfl Try.ntmps18 (lbr rfl) fun a0 y0 zz0 harg => ?_
  have e0 : sl a0 0 = (.agg #[(.int .i64 (au.th)), (.slice p0_1a (au.ids.length) p0_1c)]) := harg 0 (lbr rfl)
  have kw := Keeps.refl All w
  clear harg
  refine wp_seq_k fun K1 hK1 => ?_
  refine rg mixed y0 zz0 ?_
  refine .boxOp (v := (.agg #[(.int .i64 (au.th)), (.slice p0_1a (au.ids.length) p0_1c)])) (hbs rfl e0) ?_
  refine .i (sp_assign Has.cst) ?_
  refine .done ⟨by kernel_rfl, fun a2 g W2 y2 zz2 hk hg hV hR hP => ?_⟩
  obtain ⟨-, ⟨b1_2, e1, hb1, own_b1_2⟩, -⟩ := hV
  have lo_b1_2 : w.heap.size ≤ b1_2 := Nat.le_trans kw.size (hg.lo _ _ hb1)
  have own_b1_2 : Own W2 b1_2 [(.int .i64 (au.th)), (.slice p0_1a (au.ids.length) p0_1c)] 27 := own_b1_2
  replace D_p0_1 := sa_more D_p0_1 hk [b1_2] (in_cons (hg.lo _ _ hb1) in_nil)
  replace kw := kw.x hk
  clear hR hk hg hP hb1
  refine tail_nil (hK1 _ _ ?_)
  refine wp_seq_k fun K3 hK3 => ?_
  refine rg mixed y2 zz2 ?_
  refine .i (fo 1 (hbs rfl e1) Try.underlying27 rfl sz23 rfl) ?_
  refine .i (lo1 (hlc rfl) own_b1_2 trivial agg23 sz23 rfl) ?_
  refine .i (sp_lenSs Try.underlying23 ((hlc rfl).dat D_p0_1 sub_all)) ?_
  refine .i (sp_assign (hlc rfl)) ?_
  refine .done ⟨by kernel_rfl, fun a4 g W4 y4 zz4 hk hg hV hR hP => ?_⟩
  obtain ⟨e3, -, -, -, -⟩ := hV
  replace e1 := (hR 1 rfl).trans e1
  replace D_p0_1 := D_p0_1.ext hk
  have e3 : sl a4 3 = (.int .i64 (au.ids.length)) := e3
  replace own_b1_2 := own_b1_2.ext hk
  replace kw := kw.x hk
  clear hR hk hg hP
  refine tail_nil (hK3 _ _ ?_)
  refine wp_seq_k fun K5 hK5 => ?_
  refine wp_seq_k fun K6 hK6 => ?_
  refine rg mixed y4 zz4 ?_
  refine .i (sp_move (hbs rfl e3)) ?_
  refine .i (sp_lss (hlc rfl) Has.cst) ?_
  refine .i (sp_move (hlc rfl)) ?_
  refine .e (t := 9) rfl (hlc rfl) (fun hg => sp_move (hbs rfl e3)) ?_
  refine .e (t := 9) rfl (hlc rfl) (fun hg => sp_gtr ((hlc rfl).undE hg) Has.cst) ?_
  refine .i (sp_or (hlc rfl) ((hlc rfl).weak fun hq => hq)) ?_
  refine .i (sp_move (hlc rfl)) ?_
  refine .e (t := 13) rfl (hlc rfl) (fun hg => fo 0 (hbs rfl e1) Try.underlying27 rfl sz3 rfl) ?_
  refine .e (t := 13) rfl (hlc rfl) (fun hg => lo1 ((hlc rfl).undE hg) own_b1_2 trivial agg3 sz3 rfl) ?_
  refine .e (t := 13) rfl (hlc rfl) (fun hg => sp_lss ((hlc rfl).undE hg) Has.cst) ?_
  refine .i (sp_or (hlc rfl) ((hlc rfl).weak fun hq => hq)) ?_
  refine .i (sp_move (hlc rfl)) ?_
  refine .e (t := 18) rfl (hlc rfl) (fun hg => fo 0 (hbs rfl e1) Try.underlying27 rfl sz3 rfl) ?_
  refine .e (t := 18) rfl (hlc rfl) (fun hg => lo1 ((hlc rfl).undE hg) own_b1_2 trivial agg3 sz3 rfl) ?_
  refine .e (t := 18) rfl (hlc rfl) (fun hg => sp_move (hbs rfl e3)) ?_
  refine .e (t := 18) rfl (hlc rfl) (fun hg => sp_gtr ((hlc rfl).undE hg) ((hlc rfl).undE hg)) ?_
  refine .i (sp_or (hlc rfl) ((hlc rfl).weak fun hq => hq)) ?_
  refine .done ⟨by kernel_rfl, fun a7 g W7 y7 zz7 hk hg hV hR hP => ?_⟩
  obtain ⟨e23, -, -, -, -, -, -, -, -, -, -, -, -, -, -, -, -, -⟩ := hV
  replace e1 := (hR 1 rfl).trans e1
  replace D_p0_1 := D_p0_1.ext hk
  replace e23 := e23.q
  replace own_b1_2 := own_b1_2.ext hk
  replace kw := kw.x hk
  clear hR hk hg hP
  refine tail_nil (hK6 _ _ ?_)
  refine wp_cond_split e23 (fun hc => ?_) (fun hc => ?_)
  ·
   have hfin : mayA au = false := by rw [mayA, if_pos]; simp at hc; omega
   refine wp_seq_k fun K8 hK8 => ?_
   refine rg mixed y7 zz7 ?_
   refine .i (sp_assign Has.cst) ?_
   refine .done ⟨by kernel_rfl, fun a9 g W9 y9 zz9 hk hg hV hR hP => ?_⟩
   obtain ⟨e2, -⟩ := hV
   replace D_p0_1 := D_p0_1.ext hk
   have e2 : sl a9 2 = (.bool (false)) := e2
   replace own_b1_2 := own_b1_2.ext hk
   replace kw := kw.x hk
   clear hR hk hg hP
   refine tail_nil (hK8 _ _ ?_)
   refine wp_ret ?_
   refine (show bodyPost Try.prog Try.f18 _ .ret _ _ from ret1 rfl zz9 e2 ⟨_, rfl, kw, ?_⟩)
   rw [hfin]
  ·
   have hfin : mayA au = decide (wrongE [] au.ids = 0) := by rw [mayA, if_neg]; simp at hc; omega
   refine wp_skip (hK5 _ _ ?_)
   refine wp_seq_k fun K10 hK10 => ?_
   refine rg mixed y7 zz7 ?_
   refine .i (fo 1 (hbs rfl e1) Try.underlying27 rfl sz23 rfl) ?_
   refine .i (lo1 (hlc rfl) own_b1_2 trivial agg23 sz23 rfl) ?_
   refine .i (v := (.int .i64 (wrongE [] au.ids))) (sp_call1 (φ1 := IsD (SA w S [b1_2]) (strsD (au.ids))) ent77 ((hlc rfl).dat D_p0_1 sub_all) (fun g u1 W hk hgk h1 => wrong_ok (au.ids) W _ _ h1)) ?_
   refine .i (sp_eql (hlc rfl) Has.cst) ?_
   refine .i (sp_assign (hlc rfl)) ?_
   refine .done ⟨by kernel_rfl, fun a11 g W11 y11 zz11 hk hg hV hR hP => ?_⟩
   obtain ⟨e2, -, -, -, -, -⟩ := hV
   replace D_p0_1 := D_p0_1.ext hk
   replace e2 := e2.q
   replace own_b1_2 := own_b1_2.ext hk
   replace kw := kw.x hk
   clear hR hk hg hP
   refine tail_nil (hK10 _ _ ?_)
   refine wp_ret ?_
   refine (show bodyPost Try.prog Try.f18 _ .ret _ _ from ret1 rfl zz11 e2 ⟨_, rfl, kw, ?_⟩)
   rw [hfin]
   exact congrArg Value.bool (by rw [Bool.eq_iff_iff]; simp)
set_option maxRecDepth 100000 in
theorem contains_ok (ns : List ByteArray) (name : ByteArray) (w : World) (S : BSet) (v : Value) (hv : Rd w S (strsD ns) v) : Calls Try.prog 80 #[v, .string name] w (Ret w fun u _ => u = .bool (memB name ns)) := by
  obtain ⟨va, vc, ev, D_v⟩ := rdS_out (rd_arg hv)
  subst ev
  refine enter Try.func80 rfl Try.ntmps80 (lbr rfl) fun a0 y0 zz0 harg => ?_
  have e0 : sl a0 0 = (.slice va (ns.length) vc) := harg 0 (lbr rfl)
  have e1 : sl a0 1 = (.string (name)) := harg 1 (lbr rfl)
  have kw := Keeps.refl All w
  clear harg
  refine wp_seq_k fun K1 hK1 => ?_
  refine rg mixed y0 zz0 ?_
  refine .i (sp_assign Has.cst) ?_
  refine .done ⟨by kernel_rfl, fun a2 g W2 y2 zz2 hk hg hV hR hP => ?_⟩
  obtain ⟨-, -⟩ := hV
  replace e0 := (hR 0 rfl).trans e0
  replace e1 := (hR 1 rfl).trans e1
  replace D_v := D_v.ext hk
  replace kw := kw.x hk
  clear hR hk hg hP
  refine tail_nil (hK1 _ _ ?_)
  refine wp_seq_k fun K3 hK3 => ?_
  refine rg mixed y2 zz2 ?_
  refine .i (sp_move (hbs rfl e0)) ?_
  refine .i (sp_move (hbs rfl e1)) ?_
  refine .i (v := (.int .i64 (idx name ns 0))) (sp_call2 (φ1 := IsD (SA w S []) (strsD (ns))) (φ2 := Is (.string (name))) ent139 ((hlc rfl).dat D_v sub_all) (hlc rfl) (fun g u1 u2 W hk hgk h1 h2 => by have h2 : u2 = _ := h2; subst u2; exact index_ok (ns) (name) W _ _ h1)) ?_
  refine .i (sp_geq (hlc rfl) Has.cst) ?_
  refine .i (sp_assign (hlc rfl)) ?_
  refine .done ⟨by kernel_rfl, fun a4 g W4 y4 zz4 hk hg hV hR hP => ?_⟩
  obtain ⟨e4, -, -, -, -, -⟩ := hV
  replace D_v := D_v.ext hk
  replace e4 := e4.q
  replace kw := kw.x hk
  clear hR hk hg hP
  refine tail_nil (hK3 _ _ ?_)
  refine wp_ret ?_
  refine (show bodyPost Try.prog Try.f80 _ .ret _ _ from ret1 rfl zz4 e4 ⟨_, rfl, kw, ?_⟩)
  rw [idx_mem]
set_option maxRecDepth 100000 in
theorem hasA_ok (au : Au) (name : ByteArray) (w : World) (S : BSet) (v : Value) (hv : Rd w S au.d v) : Calls Try.prog 25 #[v, .string name] w (Ret w fun u _ => u = .bool (hasA au name)) := by
  obtain ⟨p0_1a, p0_1c, ev, D_p0_1⟩ := rdAu_out (rd_arg hv)
  subst ev
  refine enter Try.func25 rfl Try.ntmps25 (lbr rfl) fun a0 y0 zz0 harg => ?_
  have e0 : sl a0 0 = (.agg #[(.int .i64 (au.th)), (.slice p0_1a (au.ids.length) p0_1c)]) := harg 0 (lbr rfl)
  have e1 : sl a0 1 = (.string (name)) := harg 1 (lbr rfl)
  have kw := Keeps.refl All w
  clear harg
  refine wp_seq_k fun K1 hK1 => ?_
  refine rg mixed y0 zz0 ?_
  refine .boxOp (v := (.agg #[(.int .i64 (au.th)), (.slice p0_1a (au.ids.length) p0_1c)])) (hbs rfl e0) ?_
  refine .i (sp_assign Has.cst) ?_
  refine .done ⟨by kernel_rfl, fun a2 g W2 y2 zz2 hk hg hV hR hP => ?_⟩
  obtain ⟨-, ⟨b2_2, e2, hb2, own_b2_2⟩, -⟩ := hV
  have lo_b2_2 : w.heap.size ≤ b2_2 := Nat.le_trans kw.size (hg.lo _ _ hb2)
  have own_b2_2 : Own W2 b2_2 [(.int .i64 (au.th)), (.slice p0_1a (au.ids.length) p0_1c)] 27 := own_b2_2
  replace e1 := (hR 1 rfl).trans e1
  replace D_p0_1 := sa_more D_p0_1 hk [b2_2] (in_cons (hg.lo _ _ hb2) in_nil)
  replace kw := kw.x hk
  clear hR hk hg hP hb2
  refine tail_nil (hK1 _ _ ?_)
  refine wp_seq_k fun K3 hK3 => ?_
  refine rg mixed y2 zz2 ?_
  refine .i (fo 1 (hbs rfl e2) Try.underlying27 rfl sz23 rfl) ?_
  refine .i (lo1 (hlc rfl) own_b2_2 trivial agg23 sz23 rfl) ?_
  refine .i (sp_move (hbs rfl e1)) ?_
  refine .i (v := (.bool (memB name au.ids))) (sp_call2 (φ1 := IsD (SA w S [b2_2]) (strsD (au.ids))) (φ2 := Is (.string (name))) ent80 ((hlc rfl).dat D_p0_1 sub_all) (hlc rfl) (fun g u1 u2 W hk hgk h1 h2 => by have h2 : u2 = _ := h2; subst u2; exact contains_ok (au.ids) (name) W _ _ h1)) ?_
  refine .i (sp_assign (hlc rfl)) ?_
  refine .done ⟨by kernel_rfl, fun a4 g W4 y4 zz4 hk hg hV hR hP => ?_⟩
  obtain ⟨e4, -, -, -, -, -⟩ := hV
  replace D_p0_1 := D_p0_1.ext hk
  have e4 : sl a4 4 = (.bool (memB name au.ids)) := e4
  replace own_b2_2 := own_b2_2.ext hk
  replace kw := kw.x hk
  clear hR hk hg hP
  refine tail_nil (hK3 _ _ ?_)
  refine wp_ret ?_
  refine (show bodyPost Try.prog Try.f25 _ .ret _ _ from ret1 rfl zz4 e4 ⟨_, rfl, kw, ?_⟩)
  exact rfl
set_option maxRecDepth 100000 in
theorem refSameA_ok (au bu : Au) (w : World) (S : BSet) (v u : Value) (hv : Rd w S au.d v) (hu : Rd w S bu.d u) : Calls Try.prog 20 #[v, u] w (Ret w fun u _ => u = .bool (sameA au bu)) := by
  obtain ⟨p0_1a, p0_1c, ev, D_p0_1⟩ := rdAu_out (rd_arg hv)
  subst ev
  obtain ⟨p1_1a, p1_1c, ev, D_p1_1⟩ := rdAu_out (rd_arg hu)
  subst ev
  refine enter Try.func20 rfl Try.ntmps20 (lbr rfl) fun a0 y0 zz0 harg => ?_
  have e0 : sl a0 0 = (.agg #[(.int .i64 (au.th)), (.slice p0_1a (au.ids.length) p0_1c)]) := harg 0 (lbr rfl)
  have e1 : sl a0 1 = (.agg #[(.int .i64 (bu.th)), (.slice p1_1a (bu.ids.length) p1_1c)]) := harg 1 (lbr rfl)
  have kw := Keeps.refl All w
  clear harg
  refine wp_seq_k fun K1 hK1 => ?_
  refine rg mixed y0 zz0 ?_
  refine .boxOp (v := (.agg #[(.int .i64 (au.th)), (.slice p0_1a (au.ids.length) p0_1c)])) (hbs rfl e0) ?_
  refine .boxOp (v := (.agg #[(.int .i64 (bu.th)), (.slice p1_1a (bu.ids.length) p1_1c)])) (hbs rfl e1) ?_
  refine .i (sp_assign Has.cst) ?_
  refine .done ⟨by kernel_rfl, fun a2 g W2 y2 zz2 hk hg hV hR hP => ?_⟩
  obtain ⟨-, ⟨b3_2, e3, hb3, own_b3_2⟩, ⟨b2_2, e2, hb2, own_b2_2⟩, -⟩ := hV
  have lo_b3_2 : w.heap.size ≤ b3_2 := Nat.le_trans kw.size (hg.lo _ _ hb3)
  have own_b3_2 : Own W2 b3_2 [(.int .i64 (bu.th)), (.slice p1_1a (bu.ids.length) p1_1c)] 27 := own_b3_2
  have lo_b2_2 : w.heap.size ≤ b2_2 := Nat.le_trans kw.size (hg.lo _ _ hb2)
  have own_b2_2 : Own W2 b2_2 [(.int .i64 (au.th)), (.slice p0_1a (au.ids.length) p0_1c)] 27 := own_b2_2
  have ne_b3_2_b2_2 : b3_2 ≠ b2_2 := fun h => by have := hg.inj _ _ _ hb3 (h ▸ hb2); cases this
  replace D_p0_1 := sa_more D_p0_1 hk [b3_2, b2_2] (in_cons (hg.lo _ _ hb3) (in_cons (hg.lo _ _ hb2) in_nil))
  replace D_p1_1 := sa_more D_p1_1 hk [b3_2, b2_2] (in_cons (hg.lo _ _ hb3) (in_cons (hg.lo _ _ hb2) in_nil))
  replace kw := kw.x hk
  clear hR hk hg hP hb3 hb2
  refine tail_nil (hK1 _ _ ?_)
  refine wp_seq_k fun K3 hK3 => ?_
  refine wp_seq_k fun K4 hK4 => ?_
  refine rg mixed y2 zz2 ?_
  refine .i (fo 0 (hbs rfl e2) Try.underlying27 rfl sz3 rfl) ?_
  refine .i (lo1 (hlc rfl) own_b2_2 trivial agg3 sz3 rfl) ?_
  refine .i (fo 0 (hbs rfl e3) Try.underlying27 rfl sz3 rfl) ?_
  refine .i (lo1 (hlc rfl) own_b3_2 trivial agg3 sz3 rfl) ?_
  refine .i (sp_neq (hlc rfl) (hlc rfl)) ?_
  refine .i (sp_move (hlc rfl)) ?_
  refine .e (t := 11) rfl (hlc rfl) (fun hg => fo 1 (hbs rfl e2) Try.underlying27 rfl sz23 rfl) ?_
  refine .e (t := 11) rfl (hlc rfl) (fun hg => lo1 ((hlc rfl).undE hg) own_b2_2 trivial agg23 sz23 rfl) ?_
  refine .e (t := 11) rfl (hlc rfl) (fun hg => sp_lenSs Try.underlying23 (((hlc rfl).undE hg).dat D_p0_1 sub_all)) ?_
  refine .e (t := 11) rfl (hlc rfl) (fun hg => fo 1 (hbs rfl e3) Try.underlying27 rfl sz23 rfl) ?_
  refine .e (t := 11) rfl (hlc rfl) (fun hg => lo1 ((hlc rfl).undE hg) own_b3_2 trivial agg23 sz23 rfl) ?_
  refine .e (t := 11) rfl (hlc rfl) (fun hg => sp_lenSs Try.underlying23 (((hlc rfl).undE hg).dat D_p1_1 sub_all)) ?_
  refine .e (t := 11) rfl (hlc rfl) (fun hg => sp_neq ((hlc rfl).undE hg) ((hlc rfl).undE hg)) ?_
  refine .i (sp_or (hlc rfl) ((hlc rfl).weak fun hq => hq)) ?_
  refine .done ⟨by kernel_rfl, fun a5 g W5 y5 zz5 hk hg hV hR hP => ?_⟩
  obtain ⟨e19, -, -, -, -, -, -, -, -, -, -, -, -, -, -⟩ := hV
  replace e3 := (hR 3 rfl).trans e3
  replace e2 := (hR 2 rfl).trans e2
  replace D_p0_1 := D_p0_1.ext hk
  replace D_p1_1 := D_p1_1.ext hk
  replace e19 := e19.q
  replace own_b3_2 := own_b3_2.ext hk
  replace own_b2_2 := own_b2_2.ext hk
  replace kw := kw.x hk
  clear hR hk hg hP
  refine tail_nil (hK4 _ _ ?_)
  refine wp_cond_split e19 (fun hc => ?_) (fun hc => ?_)
  ·
   have hfin : sameA au bu = false := by cases hq : sameA au bu with | false => rfl | true => have := (sameA_iff au bu).1 hq; subst this; simp at hc
   refine wp_seq_k fun K6 hK6 => ?_
   refine rg mixed y5 zz5 ?_
   refine .i (sp_assign Has.cst) ?_
   refine .done ⟨by kernel_rfl, fun a7 g W7 y7 zz7 hk hg hV hR hP => ?_⟩
   obtain ⟨e4, -⟩ := hV
   replace D_p0_1 := D_p0_1.ext hk
   replace D_p1_1 := D_p1_1.ext hk
   have e4 : sl a7 4 = (.bool (false)) := e4
   replace own_b3_2 := own_b3_2.ext hk
   replace own_b2_2 := own_b2_2.ext hk
   replace kw := kw.x hk
   clear hR hk hg hP
   refine tail_nil (hK6 _ _ ?_)
   refine wp_ret ?_
   refine (show bodyPost Try.prog Try.f20 _ .ret _ _ from ret1 rfl zz7 e4 ⟨_, rfl, kw, ?_⟩)
   rw [hfin]
  ·
   simp at hc
   obtain ⟨q1, q2⟩ := hc
   have hl1 := rd_lenS D_p0_1
   simp only [maxLen] at hl1
   refine wp_skip (hK3 _ _ ?_)
   refine wp_seq_k fun K8 hK8 => ?_
   refine wp_seq_k fun K9 hK9 => ?_
   refine rg mixed y5 zz5 ?_
   refine .i (sp_assign Has.cst) ?_
   refine .done ⟨by kernel_rfl, fun a10 g W10 y10 zz10 hk hg hV hR hP => ?_⟩
   obtain ⟨e5, -⟩ := hV
   replace e3 := (hR 3 rfl).trans e3
   replace e2 := (hR 2 rfl).trans e2
   replace D_p0_1 := D_p0_1.ext hk
   replace D_p1_1 := D_p1_1.ext hk
   have e5 : sl a10 5 = (.int .i64 (0)) := e5
   replace own_b3_2 := own_b3_2.ext hk
   replace own_b2_2 := own_b2_2.ext hk
   replace kw := kw.x hk
   clear hR hk hg hP
   refine tail_nil (hK9 _ _ ?_)
   refine wp_block ?_
   refine wp_for (au.ids.length) (fun k a W => a.tmps.size = 38 ∧ a.defers = [] ∧ Keeps All w W ∧ sl a 2 = (.pointer (some ⟨b2_2, 0, none⟩)) ∧ sl a 3 = (.pointer (some ⟨b3_2, 0, none⟩)) ∧ sl a 5 = (.int .i64 ((k : Nat))) ∧ Own W b3_2 [(.int .i64 (bu.th)), (.slice p1_1a (bu.ids.length) p1_1c)] 27 ∧ Own W b2_2 [(.int .i64 (au.th)), (.slice p0_1a (au.ids.length) p0_1c)] 27 ∧ Rd W (SA w S [b3_2, b2_2]) (strsD (au.ids)) (.slice p0_1a (au.ids.length) p0_1c) ∧ Rd W (SA w S [b3_2, b2_2]) (strsD (bu.ids)) (.slice p1_1a (bu.ids.length) p1_1c) ∧ (∀ i (h1 : i < au.ids.length) (h2 : i < bu.ids.length), i < k → au.ids[i] = bu.ids[i])) ⟨y10, zz10, kw, e2, e3, (e5.trans (congrArg (Value.int .i64) (rfl))), own_b3_2, own_b2_2, D_p0_1, D_p1_1, fun i h1 h2 hi => absurd hi (by omega)⟩ ?_
   clear kw e2 e3 e5 own_b3_2 own_b2_2 D_p0_1 D_p1_1
   rintro k a11 W11 hkk ⟨y11, zz11, kw, e2, e3, e5, own_b3_2, own_b2_2, D_p0_1, D_p1_1, hinv⟩
   refine wp_seq_k fun K12 hK12 => ?_
   refine wp_seq_k fun K13 hK13 => ?_
   refine rg mixed y11 zz11 ?_
   refine .i (sp_move (hbs rfl e5)) ?_
   refine .i (fo 1 (hbs rfl e2) Try.underlying27 rfl sz23 rfl) ?_
   refine .i (lo1 (hlc rfl) own_b2_2 trivial agg23 sz23 rfl) ?_
   refine .i (sp_lenSs Try.underlying23 ((hlc rfl).dat D_p0_1 sub_all)) ?_
   refine .i (sp_lss (hlc rfl) (hlc rfl)) ?_
   refine .done ⟨by kernel_rfl, fun a14 g W14 y14 zz14 hk hg hV hR hP => ?_⟩
   obtain ⟨e24, -, -, -, -, -⟩ := hV
   replace e3 := (hR 3 rfl).trans e3
   replace e2 := (hR 2 rfl).trans e2
   replace e5 := (hR 5 rfl).trans e5
   replace D_p0_1 := D_p0_1.ext hk
   replace D_p1_1 := D_p1_1.ext hk
   replace e24 := e24.q
   replace own_b3_2 := own_b3_2.ext hk
   replace own_b2_2 := own_b2_2.ext hk
   replace kw := kw.x hk
   clear hR hk hg hP
   refine tail_nil (hK13 _ _ ?_)
   refine wp_cond_split e24 (fun hc => ?_) (fun hc => ?_)
   ·
    have hlt : k < au.ids.length := by simpa using hc
    refine wp_skip (hK12 _ _ ?_)
    refine wp_seq_k fun K15 hK15 => ?_
    refine wp_block ?_
    refine wp_seq_k fun K16 hK16 => ?_
    refine rg mixed y14 zz14 ?_
    refine .i (fo 1 (hbs rfl e2) Try.underlying27 rfl sz23 rfl) ?_
    refine .i (lo1 (hlc rfl) own_b2_2 trivial agg23 sz23 rfl) ?_
    refine .i (sp_move (hbs rfl e5)) ?_
    refine .rf (sp_indexS (i := k) ((hlc rfl).dat D_p0_1 sub_all) (hlc rfl) Try.underlying23 sz9 rfl hlt) ?_
    refine .i (sp_loadStr (hlc rfl) agg9 sz9) ?_
    refine .i (fo 1 (hbs rfl e3) Try.underlying27 rfl sz23 rfl) ?_
    refine .i (lo1 (hlc rfl) own_b3_2 trivial agg23 sz23 rfl) ?_
    refine .i (sp_move (hbs rfl e5)) ?_
    refine .rf (sp_indexS (i := k) ((hlc rfl).dat D_p1_1 sub_all) (hlc rfl) Try.underlying23 sz9 rfl (by omega)) ?_
    refine .i (sp_loadStr (hlc rfl) agg9 sz9) ?_
    refine .i (sp_sNeq (hlc rfl) (hlc rfl)) ?_
    refine .done ⟨by kernel_rfl, fun a17 g W17 y17 zz17 hk hg hV hR hP => ?_⟩
    obtain ⟨e37, -, -, -, -, -, -, -, -, -, -, -⟩ := hV
    replace e3 := (hR 3 rfl).trans e3
    replace e2 := (hR 2 rfl).trans e2
    replace e5 := (hR 5 rfl).trans e5
    replace D_p0_1 := D_p0_1.ext hk
    replace D_p1_1 := D_p1_1.ext hk
    replace e37 := e37.q
    replace own_b3_2 := own_b3_2.ext hk
    replace own_b2_2 := own_b2_2.ext hk
    replace kw := kw.x hk
    clear hR hk hg hP
    refine tail_nil (hK16 _ _ ?_)
    refine wp_cond_split e37 (fun hc => ?_) (fun hc => ?_)
    ·
     have hfin : sameA au bu = false := by cases hq : sameA au bu with | false => rfl | true => have := (sameA_iff au bu).1 hq; subst this; simp at hc
     refine wp_seq_k fun K18 hK18 => ?_
     refine rg mixed y17 zz17 ?_
     refine .i (sp_assign Has.cst) ?_
     refine .done ⟨by kernel_rfl, fun a19 g W19 y19 zz19 hk hg hV hR hP => ?_⟩
     obtain ⟨e4, -⟩ := hV
     replace D_p0_1 := D_p0_1.ext hk
     replace D_p1_1 := D_p1_1.ext hk
     have e4 : sl a19 4 = (.bool (false)) := e4
     replace own_b3_2 := own_b3_2.ext hk
     replace own_b2_2 := own_b2_2.ext hk
     replace kw := kw.x hk
     clear hR hk hg hP
     refine tail_nil (hK18 _ _ ?_)
     refine wp_ret ?_
     refine (show bodyPost Try.prog Try.f20 _ .ret _ _ from ret1 rfl zz19 e4 ⟨_, rfl, kw, ?_⟩)
     rw [hfin]
    ·
     have hk1 : au.ids[k] = bu.ids[k] := by simpa using hc
     refine wp_skip (hK15 _ _ ?_)
     refine rg mixed y17 zz17 ?_
     refine .i (sp_move (hbs rfl e5)) ?_
     refine .i (sp_add (hlc rfl) Has.cst (i64_in (by omega))) ?_
     refine .i (sp_assign (hlc rfl)) ?_
     refine .done ⟨by kernel_rfl, fun a20 g W20 y20 zz20 hk hg hV hR hP => ?_⟩
     obtain ⟨e5, -, -, -⟩ := hV
     replace e3 := (hR 3 rfl).trans e3
     replace e2 := (hR 2 rfl).trans e2
     replace D_p0_1 := D_p0_1.ext hk
     replace D_p1_1 := D_p1_1.ext hk
     replace e5 := e5.q
     replace own_b3_2 := own_b3_2.ext hk
     replace own_b2_2 := own_b2_2.ext hk
     replace kw := kw.x hk
     clear hR hk hg hP
     exact tail_nil ⟨hlt, y20, zz20, kw, e2, e3, (e5.trans (congrArg (Value.int .i64) (by simp))), own_b3_2, own_b2_2, D_p0_1, D_p1_1, fun i h1 h2 hi => by rcases Nat.lt_succ_iff_lt_or_eq.1 hi with h | h; exact hinv i h1 h2 h; subst h; exact hk1⟩
   ·
    have hge0 : ¬ k < au.ids.length := by simpa using hc
    have hge : k = au.ids.length := by omega
    have hfin : sameA au bu = true := (sameA_iff au bu).2 (Au.ext' q1 (List.ext_getElem (by omega) fun i h1 h2 => hinv i h1 h2 (by omega)))
    refine wp_exit (hK8 _ _ ?_)
    refine wp_seq_k fun K21 hK21 => ?_
    refine rg mixed y14 zz14 ?_
    refine .i (sp_assign Has.cst) ?_
    refine .done ⟨by kernel_rfl, fun a22 g W22 y22 zz22 hk hg hV hR hP => ?_⟩
    obtain ⟨e4, -⟩ := hV
    replace D_p0_1 := D_p0_1.ext hk
    replace D_p1_1 := D_p1_1.ext hk
    have e4 : sl a22 4 = (.bool (true)) := e4
    replace own_b3_2 := own_b3_2.ext hk
    replace own_b2_2 := own_b2_2.ext hk
    replace kw := kw.x hk
    clear hR hk hg hP
    refine tail_nil (hK21 _ _ ?_)
    refine wp_ret ?_
    refine (show bodyPost Try.prog Try.f20 _ .ret _ _ from ret1 rfl zz22 e4 ⟨_, rfl, kw, ?_⟩)
    rw [hfin]
end Go.Proofs.Ytnobijngkpflcaa
namespace Go.Proofs.Ytnobijngkpflcaa
open Go.Eng
set_option maxRecDepth 100000 in
theorem refText_ok (t : ByteArray) (w : World) : Calls Try.prog 78 #[.string t] w (Ret w fun u _ => u = .agg #[.int .u8 3, .int .i64 0, .string t, .slice none 0 0, .slice none 0 0]) := by
  refine enter Try.func78 rfl Try.ntmps78 (lbr rfl) fun a0 y0 zz0 harg => ?_
  have e0 : sl a0 0 = (.string (t)) := harg 0 (lbr rfl)
  have kw := Keeps.refl All w
  clear harg
  refine wp_seq_k fun K1 hK1 => ?_
  refine rg mixed y0 zz0 ?_
  refine .alloc z33 ?_
  refine .done ⟨by kernel_rfl, fun a2 g W2 y2 zz2 hk hg hV hR hP => ?_⟩
  obtain ⟨⟨b2_2, e2, hb2, own_b2_2⟩, -⟩ := hV
  have lo_b2_2 : w.heap.size ≤ b2_2 := Nat.le_trans kw.size (hg.lo _ _ hb2)
  have own_b2_2 : Own W2 b2_2 [(.int .u8 (0)), (.int .i64 (0)), (.string (⟨#[]⟩)), (.slice none 0 0), (.slice none 0 0)] 33 := own_b2_2
  replace e0 := (hR 0 rfl).trans e0
  replace kw := kw.x hk
  clear hR hk hg hP hb2
  refine tail_nil (hK1 _ _ ?_)
  refine wp_seq_k fun K3 hK3 => ?_
  refine rg mixed y2 zz2 ?_
  refine .i (sp_move (hbs rfl e0)) ?_
  refine .i (v := (.agg #[(.int .u8 (3)), (.int .i64 (0)), (.string (t)), (.slice none 0 0), (.slice none 0 0)])) (sp_build (vs := [(0, (.int .u8 (3))), (2, (.string (t)))]) Try.underlying33 z33 (pl33 Try.underlying33) ⟨rfl, Has.cst, rfl, (hlc rfl), trivial⟩ rfl) ?_
  refine .done ⟨by kernel_rfl, fun a4 g W4 y4 zz4 hk hg hV hR hP => ?_⟩
  obtain ⟨e4, -, -⟩ := hV
  replace e2 := (hR 2 rfl).trans e2
  replace e4 := e4.q
  replace own_b2_2 := own_b2_2.ext hk
  replace kw := kw.x hk
  clear hR hk hg hP
  refine tail_store (b := b2_2) (o := 0) (v := (.agg #[(.int .u8 (3)), (.int .i64 (0)), (.string (t)), (.slice none 0 0), (.slice none 0 0)])) e2 e4 sz33 rfl own_b2_2 (lbr rfl) (all_cons rfl (all_cons rfl (all_cons rfl (all_cons rfl (all_cons rfl all_nil))))) (fun W5 hs own_b2_2 => ?_)
  have own_b2_2 : Own W5 b2_2 [(.int .u8 (3)), (.int .i64 (0)), (.string (t)), (.slice none 0 0), (.slice none 0 0)] 33 := own_b2_2
  replace kw := keeps_store kw hs lo_b2_2
  clear hs
  refine tail_nil (hK3 _ _ ?_)
  refine wp_ret ?_
  refine (show bodyPost Try.prog Try.f78 _ .ret _ _ from retC (v := (.agg #[(.int .u8 (3)), (.int .i64 (0)), (.string (t)), (.slice none 0 0), (.slice none 0 0)])) rfl zz4 e2 own_b2_2 agg33 sz33 rfl (fun h => by cases h) rfl ⟨_, rfl, kw, ?_⟩)
  exact rfl
set_option maxRecDepth 100000 in
theorem pkText_ok (t : ByteArray) (w : World) : Calls Try.prog 37 #[.string t] w (Ret w fun u _ => u = .agg #[.int .u8 3, .int .i64 0, .string t, .slice none 0 0, .slice none 0 0]) := by
  refine enter Try.func37 rfl Try.ntmps37 (lbr rfl) fun a0 y0 zz0 harg => ?_
  have e0 : sl a0 0 = (.string (t)) := harg 0 (lbr rfl)
  have kw := Keeps.refl All w
  clear harg
  refine wp_seq_k fun K1 hK1 => ?_
  refine rg mixed y0 zz0 ?_
  refine .alloc z33 ?_
  refine .done ⟨by kernel_rfl, fun a2 g W2 y2 zz2 hk hg hV hR hP => ?_⟩
  obtain ⟨⟨b2_2, e2, hb2, own_b2_2⟩, -⟩ := hV
  have lo_b2_2 : w.heap.size ≤ b2_2 := Nat.le_trans kw.size (hg.lo _ _ hb2)
  have own_b2_2 : Own W2 b2_2 [(.int .u8 (0)), (.int .i64 (0)), (.string (⟨#[]⟩)), (.slice none 0 0), (.slice none 0 0)] 33 := own_b2_2
  replace e0 := (hR 0 rfl).trans e0
  replace kw := kw.x hk
  clear hR hk hg hP hb2
  refine tail_nil (hK1 _ _ ?_)
  refine wp_seq_k fun K3 hK3 => ?_
  refine rg mixed y2 zz2 ?_
  refine .i (sp_move (hbs rfl e0)) ?_
  refine .i (v := (.agg #[(.int .u8 (3)), (.int .i64 (0)), (.string (t)), (.slice none 0 0), (.slice none 0 0)])) (sp_build (vs := [(0, (.int .u8 (3))), (2, (.string (t)))]) Try.underlying33 z33 (pl33 Try.underlying33) ⟨rfl, Has.cst, rfl, (hlc rfl), trivial⟩ rfl) ?_
  refine .done ⟨by kernel_rfl, fun a4 g W4 y4 zz4 hk hg hV hR hP => ?_⟩
  obtain ⟨e4, -, -⟩ := hV
  replace e2 := (hR 2 rfl).trans e2
  replace e4 := e4.q
  replace own_b2_2 := own_b2_2.ext hk
  replace kw := kw.x hk
  clear hR hk hg hP
  refine tail_store (b := b2_2) (o := 0) (v := (.agg #[(.int .u8 (3)), (.int .i64 (0)), (.string (t)), (.slice none 0 0), (.slice none 0 0)])) e2 e4 sz33 rfl own_b2_2 (lbr rfl) (all_cons rfl (all_cons rfl (all_cons rfl (all_cons rfl (all_cons rfl all_nil))))) (fun W5 hs own_b2_2 => ?_)
  have own_b2_2 : Own W5 b2_2 [(.int .u8 (3)), (.int .i64 (0)), (.string (t)), (.slice none 0 0), (.slice none 0 0)] 33 := own_b2_2
  replace kw := keeps_store kw hs lo_b2_2
  clear hs
  refine tail_nil (hK3 _ _ ?_)
  refine wp_ret ?_
  refine (show bodyPost Try.prog Try.f37 _ .ret _ _ from retC (v := (.agg #[(.int .u8 (3)), (.int .i64 (0)), (.string (t)), (.slice none 0 0), (.slice none 0 0)])) rfl zz4 e2 own_b2_2 agg33 sz33 rfl (fun h => by cases h) rfl ⟨_, rfl, kw, ?_⟩)
  exact rfl
set_option maxRecDepth 100000 in
theorem pkNum_ok (n : Int) (w : World) : Calls Try.prog 39 #[.int .i64 n] w (Ret w fun u _ => u = .agg #[.int .u8 2, .int .i64 n, .string ⟨#[]⟩, .slice none 0 0, .slice none 0 0]) := by
  refine enter Try.func39 rfl Try.ntmps39 (lbr rfl) fun a0 y0 zz0 harg => ?_
  have e0 : sl a0 0 = (.int .i64 (n)) := harg 0 (lbr rfl)
  have kw := Keeps.refl All w
  clear harg
  refine wp_seq_k fun K1 hK1 => ?_
  refine rg mixed y0 zz0 ?_
  refine .alloc z33 ?_
  refine .done ⟨by kernel_rfl, fun a2 g W2 y2 zz2 hk hg hV hR hP => ?_⟩
  obtain ⟨⟨b2_2, e2, hb2, own_b2_2⟩, -⟩ := hV
  have lo_b2_2 : w.heap.size ≤ b2_2 := Nat.le_trans kw.size (hg.lo _ _ hb2)
  have own_b2_2 : Own W2 b2_2 [(.int .u8 (0)), (.int .i64 (0)), (.string (⟨#[]⟩)), (.slice none 0 0), (.slice none 0 0)] 33 := own_b2_2
  replace e0 := (hR 0 rfl).trans e0
  replace kw := kw.x hk
  clear hR hk hg hP hb2
  refine tail_nil (hK1 _ _ ?_)
  refine wp_seq_k fun K3 hK3 => ?_
  refine rg mixed y2 zz2 ?_
  refine .i (sp_move (hbs rfl e0)) ?_
  refine .i (v := (.agg #[(.int .u8 (2)), (.int .i64 (n)), (.string (⟨#[]⟩)), (.slice none 0 0), (.slice none 0 0)])) (sp_build (vs := [(0, (.int .u8 (2))), (1, (.int .i64 (n)))]) Try.underlying33 z33 (pl33 Try.underlying33) ⟨rfl, Has.cst, rfl, (hlc rfl), trivial⟩ rfl) ?_
  refine .done ⟨by kernel_rfl, fun a4 g W4 y4 zz4 hk hg hV hR hP => ?_⟩
  obtain ⟨e4, -, -⟩ := hV
  replace e2 := (hR 2 rfl).trans e2
  replace e4 := e4.q
  replace own_b2_2 := own_b2_2.ext hk
  replace kw := kw.x hk
  clear hR hk hg hP
  refine tail_store (b := b2_2) (o := 0) (v := (.agg #[(.int .u8 (2)), (.int .i64 (n)), (.string (⟨#[]⟩)), (.slice none 0 0), (.slice none 0 0)])) e2 e4 sz33 rfl own_b2_2 (lbr rfl) (all_cons rfl (all_cons rfl (all_cons rfl (all_cons rfl (all_cons rfl all_nil))))) (fun W5 hs own_b2_2 => ?_)
  have own_b2_2 : Own W5 b2_2 [(.int .u8 (2)), (.int .i64 (n)), (.string (⟨#[]⟩)), (.slice none 0 0), (.slice none 0 0)] 33 := own_b2_2
  replace kw := keeps_store kw hs lo_b2_2
  clear hs
  refine tail_nil (hK3 _ _ ?_)
  refine wp_ret ?_
  refine (show bodyPost Try.prog Try.f39 _ .ret _ _ from retC (v := (.agg #[(.int .u8 (2)), (.int .i64 (n)), (.string (⟨#[]⟩)), (.slice none 0 0), (.slice none 0 0)])) rfl zz4 e2 own_b2_2 agg33 sz33 rfl (fun h => by cases h) rfl ⟨_, rfl, kw, ?_⟩)
  exact rfl
set_option maxRecDepth 100000 in
theorem refTexts_ok (ns : List ByteArray) (hn : ns.length ≤ 1073741824) (w : World) (S : BSet) (v : Value) (hv : Rd w S (strsD ns) v) : Calls Try.prog 19 #[v] w (Ret w fun u W => Rd W (Fr w) (txtsV ns).d u) := by
  obtain ⟨va, vc, ev, D_v⟩ := rdS_out (rd_arg hv)
  subst ev
  refine enter Try.func19 rfl Try.ntmps19 (lbr rfl) fun a0 y0 zz0 harg => ?_
  have e0 : sl a0 0 = (.slice va (ns.length) vc) := harg 0 (lbr rfl)
  have kw := Keeps.refl All w
  clear harg
  refine wp_seq_k fun K1 hK1 => ?_
  refine rg mixed y0 zz0 ?_
  refine .alloc z33 ?_
  refine .done ⟨by kernel_rfl, fun a2 g W2 y2 zz2 hk hg hV hR hP => ?_⟩
  obtain ⟨⟨b2_2, e2, hb2, own_b2_2⟩, -⟩ := hV
  have lo_b2_2 : w.heap.size ≤ b2_2 := Nat.le_trans kw.size (hg.lo _ _ hb2)
  have own_b2_2 : Own W2 b2_2 [(.int .u8 (0)), (.int .i64 (0)), (.string (⟨#[]⟩)), (.slice none 0 0), (.slice none 0 0)] 33 := own_b2_2
  replace e0 := (hR 0 rfl).trans e0
  replace D_v := sa_more D_v hk [b2_2] (in_cons (hg.lo _ _ hb2) in_nil)
  replace kw := kw.x hk
  clear hR hk hg hP hb2
  refine tail_nil (hK1 _ _ ?_)
  refine wp_seq_k fun K3 hK3 => ?_
  refine rg mixed y2 zz2 ?_
  refine .i (v := (.agg #[(.int .u8 (4)), (.int .i64 (0)), (.string (⟨#[]⟩)), (.slice none 0 0), (.slice none 0 0)])) (sp_build (vs := [(0, (.int .u8 (4)))]) Try.underlying33 z33 (pl33 Try.underlying33) ⟨rfl, Has.cst, trivial⟩ rfl) ?_
  refine .alloc z33 ?_
  refine .done ⟨by kernel_rfl, fun a4 g W4 y4 zz4 hk hg hV hR hP => ?_⟩
  obtain ⟨⟨b3_4, e3, hb3, own_b3_4⟩, e5, -⟩ := hV
  have lo_b3_4 : w.heap.size ≤ b3_4 := Nat.le_trans kw.size (hg.lo _ _ hb3)
  have ne_b2_2_b3_4 : b2_2 ≠ b3_4 := Nat.ne_of_lt (Nat.lt_of_lt_of_le own_b2_2.lt (hg.lo _ _ hb3))
  have own_b3_4 : Own W4 b3_4 [(.int .u8 (0)), (.int .i64 (0)), (.string (⟨#[]⟩)), (.slice none 0 0), (.slice none 0 0)] 33 := own_b3_4
  replace e0 := (hR 0 rfl).trans e0
  replace e2 := (hR 2 rfl).trans e2
  replace D_v := sa_more D_v hk [b3_4] (in_cons (hg.lo _ _ hb3) in_nil)
  replace e5 := e5.q
  replace own_b2_2 := own_b2_2.ext hk
  replace kw := kw.x hk
  clear hR hk hg hP hb3
  refine tail_store (b := b3_4) (o := 0) (v := (.agg #[(.int .u8 (4)), (.int .i64 (0)), (.string (⟨#[]⟩)), (.slice none 0 0), (.slice none 0 0)])) e3 e5 sz33 rfl own_b3_4 (lbr rfl) (all_cons rfl (all_cons rfl (all_cons rfl (all_cons rfl (all_cons rfl all_nil))))) (fun W5 hs own_b3_4 => ?_)
  have own_b3_4 : Own W5 b3_4 [(.int .u8 (4)), (.int .i64 (0)), (.string (⟨#[]⟩)), (.slice none 0 0), (.slice none 0 0)] 33 := own_b3_4
  replace own_b2_2 := own_store own_b2_2 hs ne_b2_2_b3_4
  replace D_v := sa_store D_v hs (by simp)
  replace kw := keeps_store kw hs lo_b3_4
  clear hs
  refine tail_nil (hK3 _ _ ?_)
  refine wp_seq_k fun K6 hK6 => ?_
  refine wp_seq_k fun K7 hK7 => ?_
  refine rg mixed y4 zz4 ?_
  refine .i (sp_assign Has.cst) ?_
  refine .done ⟨by kernel_rfl, fun a8 g W8 y8 zz8 hk hg hV hR hP => ?_⟩
  obtain ⟨e4, -⟩ := hV
  replace e0 := (hR 0 rfl).trans e0
  replace e2 := (hR 2 rfl).trans e2
  replace e3 := (hR 3 rfl).trans e3
  replace D_v := D_v.ext hk
  have e4 : sl a8 4 = (.int .i64 (0)) := e4
  replace own_b2_2 := own_b2_2.ext hk
  replace own_b3_4 := own_b3_4.ext hk
  replace kw := kw.x hk
  clear hR hk hg hP
  refine tail_nil (hK7 _ _ ?_)
  refine wp_block ?_
  have A_ar9 : Arr W8 w.heap.size 33 5 (SF w (blks none ++ (b3_4 :: (b2_2 :: [])))) (List.map V.d ([])) (.slice none 0 0) none := arr_nil _ _ _ _ _
  replace D_v : Rd W8 (SA w S (blks none ++ (b3_4 :: (b2_2 :: [])))) (strsD (ns)) (.slice va (ns.length) vc) := D_v
  refine wp_for (ns.length) (fun k a W => ∃ (va4_10 : Value), ∃ (hd4_10 : Option Nat), a.tmps.size = 23 ∧ a.defers = [] ∧ Keeps All w W ∧ sl a 0 = (.slice va (ns.length) vc) ∧ sl a 2 = (.pointer (some ⟨b2_2, 0, none⟩)) ∧ sl a 3 = (.pointer (some ⟨b3_4, 0, none⟩)) ∧ sl a 4 = (.int .i64 ((k : Nat))) ∧ Own W b2_2 [(.int .u8 (0)), (.int .i64 (0)), (.string (⟨#[]⟩)), (.slice none 0 0), (.slice none 0 0)] 33 ∧ Own W b3_4 [(.int .u8 (4)), (.int .i64 (0)), (.string (⟨#[]⟩)), (.slice none 0 0), va4_10] 33 ∧ Rd W (SA w S (blks hd4_10 ++ (b3_4 :: (b2_2 :: [])))) (strsD (ns)) (.slice va (ns.length) vc) ∧ Arr W w.heap.size 33 5 (SF w (blks hd4_10 ++ (b3_4 :: (b2_2 :: [])))) (List.map V.d (List.map txtV (ns.take k))) va4_10 hd4_10 ∧ b2_2 ∉ blks hd4_10 ∧ b3_4 ∉ blks hd4_10) ⟨(.slice none 0 0), none, y8, zz8, kw, e0, e2, e3, (e4.trans (congrArg (Value.int .i64) (rfl))), own_b2_2, own_b3_4, D_v, A_ar9, nb_none, nb_none⟩ ?_
  clear kw e0 e2 e3 e4 own_b2_2 own_b3_4 D_v A_ar9
  rintro k a10 W10 hkk ⟨va4_10, hd4_10, y10, zz10, kw, e0, e2, e3, e4, own_b2_2, own_b3_4, D_v, A4_10, nb_b2_2_ar9_10, nb_b3_4_ar9_10⟩
  refine wp_seq_k fun K11 hK11 => ?_
  refine wp_seq_k fun K12 hK12 => ?_
  refine rg mixed y10 zz10 ?_
  refine .i (sp_move (hbs rfl e4)) ?_
  refine .i (sp_move (hbs rfl e0)) ?_
  refine .i (sp_lenSs Try.underlying23 ((hlc rfl).dat D_v sub_all)) ?_
  refine .i (sp_lss (hlc rfl) (hlc rfl)) ?_
  refine .done ⟨by kernel_rfl, fun a13 g W13 y13 zz13 hk hg hV hR hP => ?_⟩
  obtain ⟨e9, -, -, -, -⟩ := hV
  replace e0 := (hR 0 rfl).trans e0
  replace e2 := (hR 2 rfl).trans e2
  replace e3 := (hR 3 rfl).trans e3
  replace e4 := (hR 4 rfl).trans e4
  replace A4_10 := A4_10.ext hk
  replace D_v := D_v.ext hk
  replace e9 := e9.q
  replace own_b2_2 := own_b2_2.ext hk
  replace own_b3_4 := own_b3_4.ext hk
  replace kw := kw.x hk
  clear hR hk hg hP
  refine tail_nil (hK12 _ _ ?_)
  refine wp_cond_split e9 (fun hc => ?_) (fun hc => ?_)
  ·
   have hlt : k < ns.length := by simpa using hc
   refine wp_skip (hK11 _ _ ?_)
   refine wp_seq_k fun K14 hK14 => ?_
   refine wp_block ?_
   refine wp_reg (fun k => k ∉ blks hd4_10) (Ψ := fun W => Arr W w.heap.size 33 5 (SF w (blks hd4_10 ++ (b3_4 :: (b2_2 :: [])))) (List.map V.d (List.map txtV (ns.take k))) va4_10 hd4_10) mixed y13 zz13 (fun W W' k h => h.ext k) A4_10 ?_
   refine .i (fo 4 (hbs rfl e3) Try.underlying33 rfl sz31 rfl) ?_
   refine .i (lo1 (hlc rfl) own_b3_4 nb_b3_4_ar9_10 agg31 sz31 rfl) ?_
   refine .i (sp_move (hbs rfl e0)) ?_
   refine .i (sp_move (hbs rfl e4)) ?_
   refine .op (φ := IsR (SA w S (blks hd4_10 ++ (b3_4 :: (b2_2 :: [])))) (D.str (ns[k]'hlt))) (st_r (sub_nb (fun b hb => List.mem_append_left _ hb))) (sp_indexS (i := k) ((hlc rfl).dat D_v (sub_nb (fun b hb => List.mem_append_left _ hb))) (hlc rfl) Try.underlying23 sz9 rfl hlt) ?_
   refine .i (sp_loadStr (hlc rfl) agg9 sz9) ?_
   refine .i (v := (.agg #[(.int .u8 (3)), (.int .i64 (0)), (.string (ns[k]'hlt)), (.slice none 0 0), (.slice none 0 0)])) (sp_call1 (φ1 := Is (.string (ns[k]'hlt))) ent78 (hlc rfl) (fun g u1 W hk hgk h1 => by have h1 : u1 = _ := h1; subst u1; exact refText_ok (ns[k]'hlt) W)) ?_
   refine .op (φ := IsD (SF w (blks hd4_10 ++ (b3_4 :: (b2_2 :: [])))) (valsD ([V.mk (3) (0) (ns[k]'hlt) ([]) ([])]))) (st_d (sub_nbF (fun b hb => List.mem_append_left _ hb))) (sp_bsl (ds := [V.d (V.mk (3) (0) (ns[k]'hlt) ([]) ([]))]) Try.underlying31 sz33 z33 (lbr rfl) (lbr rfl) ⟨rfl, ((hlc rfl).dat (rdV_mk (rd_strAt D_v k hlt) (rd_nil _) (rd_nil _) : Rd W13 (SF w (blks hd4_10 ++ (b3_4 :: (b2_2 :: [])))) (V.d (V.mk (3) (0) (ns[k]'hlt) ([]) ([]))) _) (sub_nbF (fun b hb => List.mem_append_left _ hb))), trivial⟩ rfl (by intro e he; simp at he; rcases he with rfl <;> exact width_V _) (fr_sf kw (in_app A4_10.lt (in_cons own_b3_4.lt (in_cons own_b2_2.lt in_nil))))) ?_
   refine .appB (ds := List.map V.d (List.map txtV (ns.take k))) (es := [V.d (V.mk (3) (0) (ns[k]'hlt) ([]) ([]))]) (X := SF w (blks hd4_10 ++ (b3_4 :: (b2_2 :: [])))) Try.underlying31 inf33 (lbr rfl) (hlc rfl) (hlc rfl) (sub_nbF (fun b hb => List.mem_append_left _ hb)) (by simp [maxLen]; omega) (by simp; omega) kw.size ?_
   refine .i (fo 4 (hbs rfl e3) Try.underlying33 rfl sz31 rfl) ?_
   refine .done ⟨by kernel_rfl, fun a15 g W15 y15 zz15 hk hg hV hR hP => ?_⟩
   obtain ⟨e21, e20, -, -, -, -, -, -, -, -, -⟩ := hV
   replace e0 := (hR 0 rfl).trans e0
   replace e2 := (hR 2 rfl).trans e2
   replace e3 := (hR 3 rfl).trans e3
   replace e4 := (hR 4 rfl).trans e4
   obtain ⟨v20_15, ev⟩ : ∃ v, sl a15 20 = v := ⟨_, rfl⟩
   rw [ev] at e20
   obtain ⟨hd20_15, A_20_15, hf20_15⟩ := e20
   have e20 := ev; clear ev
   obtain ⟨v20_15a, v20_15n, v20_15c, ev⟩ := arr_sl A_20_15; subst ev
   replace A_20_15 := arrF_new (M' := (blks hd20_15 ++ (b3_4 :: (b2_2 :: [])))) A_20_15 (rep_app (rep_q fun _ h => h) (rep_cons (rep_cons rep_nil)))
   replace A_20_15 : Arr W15 w.heap.size 33 5 (SF w (blks hd20_15 ++ (b3_4 :: (b2_2 :: [])))) (List.map V.d ((List.map txtV (ns.take k)) ++ [V.mk (3) (0) (ns[k]'hlt) ([]) ([])])) (.slice v20_15a v20_15n v20_15c) hd20_15 := by first | exact A_20_15 | (rw [List.map_append]; exact A_20_15)
   have nb_b2_2_15 : b2_2 ∉ blks hd20_15 := nb_new nb_b2_2_ar9_10 own_b2_2.lt hf20_15
   have nb_b3_4_15 : b3_4 ∉ blks hd20_15 := nb_new nb_b3_4_ar9_10 own_b3_4.lt hf20_15
   replace D_v := sa_app (M' := (blks hd20_15 ++ (b3_4 :: (b2_2 :: [])))) D_v hk (fun b hb => List.mem_append_left _ hb) (rep_app hf20_15 (rep_cons (rep_cons rep_nil)))
   replace own_b2_2 := own_app own_b2_2 hk nb_b2_2_ar9_10
   replace own_b3_4 := own_app own_b3_4 hk nb_b3_4_ar9_10
   replace kw := keeps_app kw hk A4_10.ge
   have e21 : sl a15 21 = (.pointer (some ⟨b3_4, 4, none⟩)) := e21
   clear hR hk hg hP hf20_15 A4_10
   refine tail_store (b := b3_4) (o := 4) (v := (.slice v20_15a v20_15n v20_15c)) e21 e20 sz31 rfl own_b3_4 (lbr rfl) (all_cons rfl all_nil) (fun W16 hs own_b3_4 => ?_)
   have own_b3_4 : Own W16 b3_4 [(.int .u8 (4)), (.int .i64 (0)), (.string (⟨#[]⟩)), (.slice none 0 0), (.slice v20_15a v20_15n v20_15c)] 33 := own_b3_4
   replace own_b2_2 := own_store own_b2_2 hs ne_b2_2_b3_4
   replace D_v := sa_store D_v hs (by simp)
   replace A_20_15 := arrF_store A_20_15 hs (by simp) nb_b3_4_15
   replace kw := keeps_store kw hs lo_b3_4
   clear hs
   refine tail_nil (hK14 _ _ ?_)
   refine rg mixed y15 zz15 ?_
   refine .i (sp_move (hbs rfl e4)) ?_
   refine .i (sp_add (hlc rfl) Has.cst (i64_in (by omega))) ?_
   refine .i (sp_assign (hlc rfl)) ?_
   refine .done ⟨by kernel_rfl, fun a17 g W17 y17 zz17 hk hg hV hR hP => ?_⟩
   obtain ⟨e4, -, -, -⟩ := hV
   replace e0 := (hR 0 rfl).trans e0
   replace e2 := (hR 2 rfl).trans e2
   replace e3 := (hR 3 rfl).trans e3
   replace A_20_15 := A_20_15.ext hk
   replace D_v := D_v.ext hk
   replace e4 := e4.q
   replace own_b2_2 := own_b2_2.ext hk
   replace own_b3_4 := own_b3_4.ext hk
   replace kw := kw.x hk
   clear hR hk hg hP
   rw [show (List.map txtV (ns.take k)) ++ [V.mk (3) (0) (ns[k]'hlt) ([]) ([])] = List.map txtV (ns.take (k + 1)) by rw [List.take_succ_eq_append_getElem hlt, List.map_append]; rfl] at A_20_15
   exact tail_nil ⟨hlt, (.slice v20_15a v20_15n v20_15c), hd20_15, y17, zz17, kw, e0, e2, e3, (e4.trans (congrArg (Value.int .i64) (by simp))), own_b2_2, own_b3_4, D_v, A_20_15, nb_b2_2_15, nb_b3_4_15⟩
  ·
   have hge0 : ¬ k < ns.length := by simpa using hc
   have hge : k = ns.length := by omega
   rw [show List.map txtV (ns.take k) = List.map txtV ns by rw [hge, List.take_length]] at A4_10
   have D_va4_10 : Rd W13 (SF w [b3_4, b2_2]) (valsD (List.map txtV ns)) va4_10 := arrF_rd A4_10 (ls_skipA (ls_keep (ls_keep ls_nil))) (nin_cons nb_b3_4_ar9_10 (nin_cons nb_b2_2_ar9_10 nin_nil))
   obtain ⟨va4_10a, va4_10c, ev, D2⟩ := rdVs_out D_va4_10
   subst ev; replace D_va4_10 := D2; clear D2
   replace D_v := sa_less (M' := [b3_4, b2_2]) D_v (ls_skipA (ls_keep (ls_keep ls_nil)))
   refine wp_exit (hK6 _ _ ?_)
   refine wp_seq_k fun K18 hK18 => ?_
   refine rg mixed y13 zz13 ?_
   refine .i (v := (.agg #[(.int .u8 (4)), (.int .i64 (0)), (.string (⟨#[]⟩)), (.slice none 0 0), (.slice va4_10a ((List.map txtV ns).length) va4_10c)])) (loA (hbs rfl e3) own_b3_4 trivial agg33 sz33 rfl rfl) ?_
   refine .done ⟨by kernel_rfl, fun a19 g W19 y19 zz19 hk hg hV hR hP => ?_⟩
   obtain ⟨e22, -⟩ := hV
   replace e2 := (hR 2 rfl).trans e2
   replace D_v := D_v.ext hk
   replace D_va4_10 := D_va4_10.ext hk
   replace e22 := e22.q
   replace own_b2_2 := own_b2_2.ext hk
   replace own_b3_4 := own_b3_4.ext hk
   replace kw := kw.x hk
   clear hR hk hg hP
   refine tail_store (b := b2_2) (o := 0) (v := (.agg #[(.int .u8 (4)), (.int .i64 (0)), (.string (⟨#[]⟩)), (.slice none 0 0), (.slice va4_10a ((List.map txtV ns).length) va4_10c)])) e2 e22 sz33 rfl own_b2_2 (lbr rfl) (all_cons rfl (all_cons rfl (all_cons rfl (all_cons rfl (all_cons rfl all_nil))))) (fun W20 hs own_b2_2 => ?_)
   have own_b2_2 : Own W20 b2_2 [(.int .u8 (4)), (.int .i64 (0)), (.string (⟨#[]⟩)), (.slice none 0 0), (.slice va4_10a ((List.map txtV ns).length) va4_10c)] 33 := own_b2_2
   replace own_b3_4 := own_store own_b3_4 hs ne_b2_2_b3_4.symm
   replace D_v := sa_store D_v hs (by simp)
   replace D_va4_10 := sf_store D_va4_10 hs (by simp)
   replace kw := keeps_store kw hs lo_b2_2
   clear hs
   refine tail_nil (hK18 _ _ ?_)
   refine wp_ret ?_
   refine (show bodyPost Try.prog Try.f19 _ .ret _ _ from retC (v := (.agg #[(.int .u8 (4)), (.int .i64 (0)), (.string (⟨#[]⟩)), (.slice none 0 0), (.slice va4_10a ((List.map txtV ns).length) va4_10c)])) rfl zz19 e2 own_b2_2 agg33 sz33 rfl (fun h => by cases h) rfl ⟨_, rfl, kw, ?_⟩)
   exact sf_fr (rdV_mk (lbr rfl) (rd_nil _) D_va4_10 : Rd W20 (SF w [b3_4, b2_2]) (V.d (V.mk (4) (0) (⟨#[]⟩) ([]) (List.map txtV ns))) _)
set_option maxRecDepth 100000 in
theorem object_ok (th : Int) (ns : List ByteArray) (hn : ns.length ≤ 1073741824) (w : World) (S : BSet) (v : Value) (hv : Rd w S (strsD ns) v) : Calls Try.prog 17 #[.int .i64 th, v] w (Ret w fun u W => Rd W (Fr w) (objV th ns).d u) := by
  obtain ⟨va, vc, ev, D_v⟩ := rdS_out (rd_arg hv)
  subst ev
  refine enter Try.func17 rfl Try.ntmps17 (lbr rfl) fun a0 y0 zz0 harg => ?_
  have e0 : sl a0 0 = (.int .i64 (th)) := harg 0 (lbr rfl)
  have e1 : sl a0 1 = (.slice va (ns.length) vc) := harg 1 (lbr rfl)
  have kw := Keeps.refl All w
  clear harg
  refine wp_seq_k fun K1 hK1 => ?_
  refine rg mixed y0 zz0 ?_
  refine .alloc z33 ?_
  refine .done ⟨by kernel_rfl, fun a2 g W2 y2 zz2 hk hg hV hR hP => ?_⟩
  obtain ⟨⟨b4_2, e4, hb4, own_b4_2⟩, -⟩ := hV
  have lo_b4_2 : w.heap.size ≤ b4_2 := Nat.le_trans kw.size (hg.lo _ _ hb4)
  have own_b4_2 : Own W2 b4_2 [(.int .u8 (0)), (.int .i64 (0)), (.string (⟨#[]⟩)), (.slice none 0 0), (.slice none 0 0)] 33 := own_b4_2
  replace e0 := (hR 0 rfl).trans e0
  replace e1 := (hR 1 rfl).trans e1
  replace D_v := sa_more D_v hk [b4_2] (in_cons (hg.lo _ _ hb4) in_nil)
  replace kw := kw.x hk
  clear hR hk hg hP hb4
  refine tail_nil (hK1 _ _ ?_)
  refine wp_seq_k fun K3 hK3 => ?_
  refine rg mixed y2 zz2 ?_
  refine .da (X := SF w [b4_2]) (e := strsD ([⟨#[107, 101, 121, 105, 100, 115]⟩, ⟨#[116, 104, 114, 101, 115, 104, 111, 108, 100]⟩])) (sp_bsl (ds := [D.str (⟨#[107, 101, 121, 105, 100, 115]⟩), D.str (⟨#[116, 104, 114, 101, 115, 104, 111, 108, 100]⟩)]) Try.underlying23 sz9 z9 (lbr rfl) (lbr rfl) ⟨rfl, (Has.cst.str (lbr rfl)), ⟨rfl, (Has.cst.str (lbr rfl)), trivial⟩⟩ rfl (by simp [width]) (fr_sf kw (in_cons own_b4_2.lt in_nil))) ?_
  refine .i (sp_move (hbs rfl e1)) ?_
  refine .da (X := Fr W2) (e := V.d (txtsV ns)) (sp_call1 (φ1 := IsD (SA w S [b4_2]) (strsD (ns))) ent19 ((hlc rfl).dat D_v sub_all) (fun g u1 W hk hgk h1 => (refTexts_ok (ns) (by omega) W _ _ h1).mono (ret_fr hk hgk))) ?_
  refine .i (sp_move (hbs rfl e0)) ?_
  refine .i (v := (.agg #[(.int .u8 (2)), (.int .i64 (th)), (.string (⟨#[]⟩)), (.slice none 0 0), (.slice none 0 0)])) (sp_build (vs := [(0, (.int .u8 (2))), (1, (.int .i64 (th)))]) Try.underlying33 z33 (pl33 Try.underlying33) ⟨rfl, Has.cst, rfl, (hlc rfl), trivial⟩ rfl) ?_
  refine .da (X := SF w [b4_2]) (e := valsD ([txtsV ns, V.mk (2) (th) (⟨#[]⟩) ([]) ([])])) (sp_bsl (ds := [V.d (txtsV ns), V.d (V.mk (2) (th) (⟨#[]⟩) ([]) ([]))]) Try.underlying31 sz33 z33 (lbr rfl) (lbr rfl) ⟨rfl, ((hlc rfl).sup (fr_sf kw (in_cons own_b4_2.lt in_nil))), ⟨rfl, ((hlc rfl).dat (rdV_mk (lbr rfl) (rd_nil _) (rd_nil _) : Rd W2 (SF w [b4_2]) (V.d (V.mk (2) (th) (⟨#[]⟩) ([]) ([]))) _) sub_all), trivial⟩⟩ rfl (by intro e he; simp at he; rcases he with rfl | rfl <;> exact width_V _) (fr_sf kw (in_cons own_b4_2.lt in_nil))) ?_
  refine .da (X := SF w [b4_2]) (e := V.d (V.mk (5) (0) (⟨#[]⟩) ([⟨#[107, 101, 121, 105, 100, 115]⟩, ⟨#[116, 104, 114, 101, 115, 104, 111, 108, 100]⟩]) ([txtsV ns, V.mk (2) (th) (⟨#[]⟩) ([]) ([])]))) (sp_buildD (zd := [.int .u8 0, .int .i64 0, .str ⟨#[]⟩, strsD [], valsD []]) (es := [(0, D.int .u8 (5)), (3, strsD ([⟨#[107, 101, 121, 105, 100, 115]⟩, ⟨#[116, 104, 114, 101, 115, 104, 111, 108, 100]⟩])), (4, valsD ([txtsV ns, V.mk (2) (th) (⟨#[]⟩) ([]) ([])]))]) Try.underlying33 z33 (pl33 Try.underlying33) ⟨rfl, Has.cst.int, ⟨rfl, (hlc rfl), ⟨rfl, (hlc rfl), trivial⟩⟩⟩ zV rfl (by simp [fits, width, strsD, valsD]) (by rw [V.d_eq]; rfl)) ?_
  refine .done ⟨by kernel_rfl, fun a4 g W4 y4 zz4 hk hg hV hR hP => ?_⟩
  obtain ⟨e11, -, -, -, -, -, -, -⟩ := hV
  replace e4 := (hR 4 rfl).trans e4
  replace D_v := D_v.ext hk
  obtain ⟨v11_4, ev⟩ : ∃ v, sl a4 11 = v := ⟨_, rfl⟩
  rw [ev] at e11
  have D_v11_4 : Rd W4 (SF w [b4_2]) (V.d (V.mk (5) (0) (⟨#[]⟩) ([⟨#[107, 101, 121, 105, 100, 115]⟩, ⟨#[116, 104, 114, 101, 115, 104, 111, 108, 100]⟩]) ([txtsV ns, V.mk (2) (th) (⟨#[]⟩) ([]) ([])]))) v11_4 := sf_end e11 hk [] in_nil
  replace e11 := ev; clear ev
  obtain ⟨cn11_4a, cn11_4c, ci11_4a, ci11_4c, ev, ht_v11_4, D_cn11_4, D_ci11_4⟩ := rdV_out D_v11_4
  subst ev; clear D_v11_4
  replace own_b4_2 := own_b4_2.ext hk
  replace kw := kw.x hk
  clear hR hk hg hP
  refine tail_store (b := b4_2) (o := 0) (v := (.agg #[(.int .u8 ((V.mk (5) (0) (⟨#[]⟩) ([⟨#[107, 101, 121, 105, 100, 115]⟩, ⟨#[116, 104, 114, 101, 115, 104, 111, 108, 100]⟩]) ([txtsV ns, V.mk (2) (th) (⟨#[]⟩) ([]) ([])])).k)), (.int .i64 ((V.mk (5) (0) (⟨#[]⟩) ([⟨#[107, 101, 121, 105, 100, 115]⟩, ⟨#[116, 104, 114, 101, 115, 104, 111, 108, 100]⟩]) ([txtsV ns, V.mk (2) (th) (⟨#[]⟩) ([]) ([])])).n)), (.string ((V.mk (5) (0) (⟨#[]⟩) ([⟨#[107, 101, 121, 105, 100, 115]⟩, ⟨#[116, 104, 114, 101, 115, 104, 111, 108, 100]⟩]) ([txtsV ns, V.mk (2) (th) (⟨#[]⟩) ([]) ([])])).t)), (.slice cn11_4a (((V.mk (5) (0) (⟨#[]⟩) ([⟨#[107, 101, 121, 105, 100, 115]⟩, ⟨#[116, 104, 114, 101, 115, 104, 111, 108, 100]⟩]) ([txtsV ns, V.mk (2) (th) (⟨#[]⟩) ([]) ([])])).ns).length) cn11_4c), (.slice ci11_4a (((V.mk (5) (0) (⟨#[]⟩) ([⟨#[107, 101, 121, 105, 100, 115]⟩, ⟨#[116, 104, 114, 101, 115, 104, 111, 108, 100]⟩]) ([txtsV ns, V.mk (2) (th) (⟨#[]⟩) ([]) ([])])).xs).length) ci11_4c)])) e4 e11 sz33 rfl own_b4_2 (lbr rfl) (all_cons rfl (all_cons rfl (all_cons rfl (all_cons rfl (all_cons rfl all_nil))))) (fun W5 hs own_b4_2 => ?_)
  have own_b4_2 : Own W5 b4_2 [(.int .u8 ((V.mk (5) (0) (⟨#[]⟩) ([⟨#[107, 101, 121, 105, 100, 115]⟩, ⟨#[116, 104, 114, 101, 115, 104, 111, 108, 100]⟩]) ([txtsV ns, V.mk (2) (th) (⟨#[]⟩) ([]) ([])])).k)), (.int .i64 ((V.mk (5) (0) (⟨#[]⟩) ([⟨#[107, 101, 121, 105, 100, 115]⟩, ⟨#[116, 104, 114, 101, 115, 104, 111, 108, 100]⟩]) ([txtsV ns, V.mk (2) (th) (⟨#[]⟩) ([]) ([])])).n)), (.string ((V.mk (5) (0) (⟨#[]⟩) ([⟨#[107, 101, 121, 105, 100, 115]⟩, ⟨#[116, 104, 114, 101, 115, 104, 111, 108, 100]⟩]) ([txtsV ns, V.mk (2) (th) (⟨#[]⟩) ([]) ([])])).t)), (.slice cn11_4a (((V.mk (5) (0) (⟨#[]⟩) ([⟨#[107, 101, 121, 105, 100, 115]⟩, ⟨#[116, 104, 114, 101, 115, 104, 111, 108, 100]⟩]) ([txtsV ns, V.mk (2) (th) (⟨#[]⟩) ([]) ([])])).ns).length) cn11_4c), (.slice ci11_4a (((V.mk (5) (0) (⟨#[]⟩) ([⟨#[107, 101, 121, 105, 100, 115]⟩, ⟨#[116, 104, 114, 101, 115, 104, 111, 108, 100]⟩]) ([txtsV ns, V.mk (2) (th) (⟨#[]⟩) ([]) ([])])).xs).length) ci11_4c)] 33 := own_b4_2
  replace D_v := sa_store D_v hs (by simp)
  replace D_cn11_4 := sf_store D_cn11_4 hs (by simp)
  replace D_ci11_4 := sf_store D_ci11_4 hs (by simp)
  replace kw := keeps_store kw hs lo_b4_2
  clear hs
  refine tail_nil (hK3 _ _ ?_)
  refine wp_ret ?_
  refine (show bodyPost Try.prog Try.f17 _ .ret _ _ from retC (v := (.agg #[(.int .u8 ((V.mk (5) (0) (⟨#[]⟩) ([⟨#[107, 101, 121, 105, 100, 115]⟩, ⟨#[116, 104, 114, 101, 115, 104, 111, 108, 100]⟩]) ([txtsV ns, V.mk (2) (th) (⟨#[]⟩) ([]) ([])])).k)), (.int .i64 ((V.mk (5) (0) (⟨#[]⟩) ([⟨#[107, 101, 121, 105, 100, 115]⟩, ⟨#[116, 104, 114, 101, 115, 104, 111, 108, 100]⟩]) ([txtsV ns, V.mk (2) (th) (⟨#[]⟩) ([]) ([])])).n)), (.string ((V.mk (5) (0) (⟨#[]⟩) ([⟨#[107, 101, 121, 105, 100, 115]⟩, ⟨#[116, 104, 114, 101, 115, 104, 111, 108, 100]⟩]) ([txtsV ns, V.mk (2) (th) (⟨#[]⟩) ([]) ([])])).t)), (.slice cn11_4a (((V.mk (5) (0) (⟨#[]⟩) ([⟨#[107, 101, 121, 105, 100, 115]⟩, ⟨#[116, 104, 114, 101, 115, 104, 111, 108, 100]⟩]) ([txtsV ns, V.mk (2) (th) (⟨#[]⟩) ([]) ([])])).ns).length) cn11_4c), (.slice ci11_4a (((V.mk (5) (0) (⟨#[]⟩) ([⟨#[107, 101, 121, 105, 100, 115]⟩, ⟨#[116, 104, 114, 101, 115, 104, 111, 108, 100]⟩]) ([txtsV ns, V.mk (2) (th) (⟨#[]⟩) ([]) ([])])).xs).length) ci11_4c)])) rfl zz4 e4 own_b4_2 agg33 sz33 rfl (fun h => by cases h) rfl ⟨_, rfl, kw, ?_⟩)
  exact sf_fr (rdV_in (x := (V.mk (5) (0) (⟨#[]⟩) ([⟨#[107, 101, 121, 105, 100, 115]⟩, ⟨#[116, 104, 114, 101, 115, 104, 111, 108, 100]⟩]) ([txtsV ns, V.mk (2) (th) (⟨#[]⟩) ([]) ([])]))) ht_v11_4 D_cn11_4 D_ci11_4 : Rd W5 (SF w [b4_2]) (V.d ((V.mk (5) (0) (⟨#[]⟩) ([⟨#[107, 101, 121, 105, 100, 115]⟩, ⟨#[116, 104, 114, 101, 115, 104, 111, 108, 100]⟩]) ([txtsV ns, V.mk (2) (th) (⟨#[]⟩) ([]) ([])])))) _)
set_option maxRecDepth 100000 in
theorem id_ok (c : Nat) (w : World) : Calls Try.prog 15 #[.int .u8 c] w (Ret w fun u _ => u = .string (ofBytes (List.replicate (lit 64) (c : Int)))) := by
  refine enter Try.func15 rfl Try.ntmps15 (lbr rfl) fun a0 y0 zz0 harg => ?_
  have e0 : sl a0 0 = (.int .u8 ((c : Nat))) := harg 0 (lbr rfl)
  have kw := Keeps.refl All w
  clear harg
  refine wp_seq_k fun K1 hK1 => ?_
  refine rg mixed y0 zz0 ?_
  refine .i (sp_assign Has.cst) ?_
  refine .done ⟨by kernel_rfl, fun a2 g W2 y2 zz2 hk hg hV hR hP => ?_⟩
  obtain ⟨-, -⟩ := hV
  replace e0 := (hR 0 rfl).trans e0
  replace kw := kw.x hk
  clear hR hk hg hP
  refine tail_nil (hK1 _ _ ?_)
  refine wp_seq_k fun K3 hK3 => ?_
  refine rg mixed y2 zz2 ?_
  refine .op (φ := IsArr W2 w.heap.size 5 1 (SF w []) (List.replicate (lit 64) (D.int .u8 (0 : Int))) none) st_arr (sp_mkA (n := (lit 64)) (zd := (D.int .u8 0)) Try.underlying25 inf5 z5 (lbr rfl) rdC_z8 Has.cst Has.cst (lbr rfl) (lbr rfl) (lbr rfl) kw.size) ?_
  refine .done ⟨by kernel_rfl, fun a4 g W4 y4 zz4 hk hg hV hR hP => ?_⟩
  obtain ⟨e5, -⟩ := hV
  replace e0 := (hR 0 rfl).trans e0
  obtain ⟨v5_4, ev⟩ : ∃ v, sl a4 5 = v := ⟨_, rfl⟩
  rw [ev] at e5
  obtain ⟨hd5_4, A_5_4, hf5_4⟩ := e5
  have e5 := ev; clear ev
  replace hf5_4 := row_new hf5_4
  obtain ⟨g5_4, c5_4, ev, hh⟩ := arr_open A_5_4 (by rw [List.length_replicate]; exact Nat.le_of_ble_eq_true rfl)
  rw [List.length_replicate] at ev; subst ev; subst hh
  replace A_5_4 := arrF_new A_5_4 (M' := (blks (some g5_4) ++ [])) (fun b hb => (List.mem_append.1 hb).symm)
  replace A_5_4 : Arr W4 w.heap.size 5 1 (SF w (blks (some g5_4) ++ [])) (List.map (D.int .u8) (List.replicate (lit 64) (0 : Int))) (.slice (some ⟨g5_4, 0, none⟩) (lit 64) c5_4) (some g5_4) := by rw [List.map_replicate]; exact A_5_4
  replace kw := kw.x hk
  clear hR hk hg hP hf5_4
  refine tail_assign (v := (.slice (some ⟨g5_4, 0, none⟩) (lit 64) c5_4)) e5 (by rw [y4]; exact Nat.le_of_ble_eq_true rfl) (fun a5 y5 zz5 e3 hr => ?_)
  replace y5 := y5.trans y4; replace zz5 := zz5.trans zz4
  replace e0 := (hr 0 (by decide)).trans e0
  replace e5 := (hr 5 (by decide)).trans e5
  clear hr
  refine tail_nil (hK3 _ _ ?_)
  refine wp_seq_k fun K6 hK6 => ?_
  refine wp_seq_k fun K7 hK7 => ?_
  refine rg mixed y5 zz5 ?_
  refine .i (sp_assign Has.cst) ?_
  refine .done ⟨by kernel_rfl, fun a8 g W8 y8 zz8 hk hg hV hR hP => ?_⟩
  obtain ⟨e4, -⟩ := hV
  replace e0 := (hR 0 rfl).trans e0
  replace e3 := (hR 3 rfl).trans e3
  replace A_5_4 := A_5_4.ext hk
  have e4 : sl a8 4 = (.int .i64 (0)) := e4
  replace kw := kw.x hk
  clear hR hk hg hP
  refine tail_nil (hK7 _ _ ?_)
  refine wp_block ?_
  rw [show List.replicate (lit 64) (0 : Int) = List.replicate 0 (c : Int) ++ List.replicate (lit 64 - 0) (0 : Int) by rw [List.replicate_zero, Nat.sub_zero, List.nil_append]] at A_5_4
  refine wp_for (lit 64) (fun k a W => a.tmps.size = 18 ∧ a.defers = [] ∧ Keeps All w W ∧ sl a 0 = (.int .u8 ((c : Nat))) ∧ sl a 3 = (.slice (some ⟨g5_4, 0, none⟩) (lit 64) c5_4) ∧ sl a 4 = (.int .i64 ((k : Nat))) ∧ Arr W w.heap.size 5 1 (SF w (blks (some g5_4) ++ [])) (List.map (D.int .u8) (List.replicate k (c : Int) ++ List.replicate (lit 64 - k) (0 : Int))) (.slice (some ⟨g5_4, 0, none⟩) (lit 64) c5_4) (some g5_4)) ⟨y8, zz8, kw, e0, e3, (e4.trans (congrArg (Value.int .i64) (rfl))), A_5_4⟩ ?_
  clear kw e0 e3 e4 A_5_4
  rintro k a9 W9 hkk ⟨y9, zz9, kw, e0, e3, e4, A3_9⟩
  refine wp_seq_k fun K10 hK10 => ?_
  refine wp_seq_k fun K11 hK11 => ?_
  refine rg mixed y9 zz9 ?_
  refine .i (sp_move (hbs rfl e4)) ?_
  refine .i (sp_move (hbs rfl e3)) ?_
  refine .i (sp_lenV Try.underlying25 (hlc rfl)) ?_
  refine .i (sp_lss (hlc rfl) (hlc rfl)) ?_
  refine .done ⟨by kernel_rfl, fun a12 g W12 y12 zz12 hk hg hV hR hP => ?_⟩
  obtain ⟨e9, -, -, -, -⟩ := hV
  replace e0 := (hR 0 rfl).trans e0
  replace e3 := (hR 3 rfl).trans e3
  replace e4 := (hR 4 rfl).trans e4
  replace A3_9 := A3_9.ext hk
  replace e9 := e9.q
  replace kw := kw.x hk
  clear hR hk hg hP
  refine tail_nil (hK11 _ _ ?_)
  refine wp_cond_split e9 (fun hc => ?_) (fun hc => ?_)
  ·
   have hl8 : lit 64 = 64 := rfl
   have hlt : k < lit 64 := by have := of_decide_eq_true hc; omega
   refine wp_skip (hK10 _ _ ?_)
   refine wp_seq_k fun K13 hK13 => ?_
   refine wp_block ?_
   refine rg mixed y12 zz12 ?_
   refine .i (sp_move (hbs rfl e3)) ?_
   refine .i (sp_move (hbs rfl e4)) ?_
   refine .i (sp_move (hbs rfl e0)) ?_
   refine .i (v := (.pointer (some ⟨g5_4, k * 1, none⟩))) (sp_indexRow (i := k) (hlc rfl) (hlc rfl) Try.underlying25 sz5 (lbr rfl) rfl hlt rfl) ?_
   refine .done ⟨by kernel_rfl, fun a14 g W14 y14 zz14 hk hg hV hR hP => ?_⟩
   obtain ⟨e15, e14, -, -, -⟩ := hV
   replace e0 := (hR 0 rfl).trans e0
   replace e3 := (hR 3 rfl).trans e3
   replace e4 := (hR 4 rfl).trans e4
   replace A3_9 := A3_9.ext hk
   have e14 : sl a14 14 = (.int .u8 ((c : Nat))) := e14
   have e15 : sl a14 15 = (.pointer (some ⟨g5_4, k * 1, none⟩)) := e15
   replace kw := kw.x hk
   clear hR hk hg hP
   refine tail_storeA (i := k) (dd := D.int .u8 ((c : Nat))) e15 e14 sz5 A3_9 (by rw [List.length_map, List.length_append, List.length_replicate, List.length_replicate]; omega) rfl (sub_neF (by simp [blks])) rd_int rfl (fun W15 hs A_15 => ?_)
   rw [← List.map_set] at A_15
   replace A_15 : Arr W15 w.heap.size 5 1 (SF w (blks (some g5_4) ++ [])) (List.map (D.int .u8) ((List.replicate k (c : Int) ++ List.replicate (lit 64 - k) (0 : Int)).set k ((c : Nat) : Int))) (.slice (some ⟨g5_4, 0, none⟩) (lit 64) c5_4) (some g5_4) := A_15
   replace kw := keeps_store kw hs (A_15.ge _ (by simp [blks]))
   clear hs
   refine tail_nil (hK13 _ _ ?_)
   refine rg mixed y14 zz14 ?_
   refine .i (sp_move (hbs rfl e4)) ?_
   refine .i (sp_add (hlc rfl) Has.cst (i64_in (by omega))) ?_
   refine .i (sp_assign (hlc rfl)) ?_
   refine .done ⟨by kernel_rfl, fun a16 g W16 y16 zz16 hk hg hV hR hP => ?_⟩
   obtain ⟨e4, -, -, -⟩ := hV
   replace e0 := (hR 0 rfl).trans e0
   replace e3 := (hR 3 rfl).trans e3
   replace A_15 := A_15.ext hk
   replace e4 := e4.q
   replace kw := kw.x hk
   clear hR hk hg hP
   rw [show (List.replicate k (c : Int) ++ List.replicate (lit 64 - k) (0 : Int)).set k ((c : Nat) : Int) = List.replicate (k + 1) (c : Int) ++ List.replicate (lit 64 - (k + 1)) (0 : Int) by exact rep_set hlt] at A_15
   exact tail_nil ⟨hlt, y16, zz16, kw, e0, e3, (e4.trans (congrArg (Value.int .i64) (by simp))), A_15⟩
  ·
   have hge : k = lit 64 := by have := of_decide_eq_false hc; omega
   rw [show List.replicate k (c : Int) ++ List.replicate (lit 64 - k) (0 : Int) = List.replicate (lit 64) (c : Int) by rw [hge, Nat.sub_self, List.replicate_zero, List.append_nil]] at A3_9
   have D_v5_4 : Rd W12 (SF w []) (bytesD (List.replicate (lit 64) (c : Int))) (.slice (some ⟨g5_4, 0, none⟩) (lit 64) c5_4) := arrF_rd A3_9 ls_nil nin_nil
   obtain ⟨v5_4a, v5_4c, ev, D2⟩ := rdB_out D_v5_4
   replace e3 := e3.trans ev
   replace D_v5_4 := D2; clear D2 ev
   refine wp_exit (hK6 _ _ ?_)
   refine wp_seq_k fun K17 hK17 => ?_
   refine rg mixed y12 zz12 ?_
   refine .i (sp_move (hbs rfl e3)) ?_
   refine .i (v := (.string (ofBytes (List.replicate (lit 64) (c : Int))))) (sp_b2s Try.underlying25 Try.underlying5 Try.underlying9 ((hlc rfl).dat D_v5_4 sub_all)) ?_
   refine .i (sp_assign (hlc rfl)) ?_
   refine .done ⟨by kernel_rfl, fun a18 g W18 y18 zz18 hk hg hV hR hP => ?_⟩
   obtain ⟨e2, -, -, -⟩ := hV
   replace D_v5_4 := D_v5_4.ext hk
   replace e2 := e2.q
   replace kw := kw.x hk
   clear hR hk hg hP
   refine tail_nil (hK17 _ _ ?_)
   refine wp_ret ?_
   refine (show bodyPost Try.prog Try.f15 _ .ret _ _ from ret1 rfl zz18 e2 ⟨_, rfl, kw, ?_⟩)
   exact rfl
set_option maxRecDepth 100000 in
theorem longA_ok (l : List Au) (w : World) (S : BSet) (v : Value) (hv : Rd w S (ausD l) v) : Calls Try.prog 49 #[v] w (Ret w fun u _ => u = .bool (decide (5000 ≤ szA l 0))) := by
  have hmx : l.length ≤ maxLen := rd_lenA hv
  simp only [maxLen] at hmx
  obtain ⟨va, vc, ev, D_v⟩ := rdAus_out (rd_arg hv)
  subst ev
  refine enter Try.func49 rfl Try.ntmps49 (lbr rfl) fun a0 y0 zz0 harg => ?_
  have e0 : sl a0 0 = (.slice va (l.length) vc) := harg 0 (lbr rfl)
  have kw := Keeps.refl All w
  clear harg
  refine wp_seq_k fun K1 hK1 => ?_
  refine rg mixed y0 zz0 ?_
  refine .i (sp_assign Has.cst) ?_
  refine .done ⟨by kernel_rfl, fun a2 g W2 y2 zz2 hk hg hV hR hP => ?_⟩
  obtain ⟨-, -⟩ := hV
  replace e0 := (hR 0 rfl).trans e0
  replace D_v := D_v.ext hk
  replace kw := kw.x hk
  clear hR hk hg hP
  refine tail_nil (hK1 _ _ ?_)
  refine wp_seq_k fun K3 hK3 => ?_
  refine rg mixed y2 zz2 ?_
  refine .i (sp_assign Has.cst) ?_
  refine .done ⟨by kernel_rfl, fun a4 g W4 y4 zz4 hk hg hV hR hP => ?_⟩
  obtain ⟨e3, -⟩ := hV
  replace e0 := (hR 0 rfl).trans e0
  replace D_v := D_v.ext hk
  have e3 : sl a4 3 = (.int .i64 (0)) := e3
  replace kw := kw.x hk
  clear hR hk hg hP
  refine tail_nil (hK3 _ _ ?_)
  refine wp_seq_k fun K5 hK5 => ?_
  refine wp_seq_k fun K6 hK6 => ?_
  refine rg mixed y4 zz4 ?_
  refine .i (sp_assign Has.cst) ?_
  refine .done ⟨by kernel_rfl, fun a7 g W7 y7 zz7 hk hg hV hR hP => ?_⟩
  obtain ⟨e4, -⟩ := hV
  replace e0 := (hR 0 rfl).trans e0
  replace e3 := (hR 3 rfl).trans e3
  replace D_v := D_v.ext hk
  have e4 : sl a7 4 = (.int .i64 (0)) := e4
  replace kw := kw.x hk
  clear hR hk hg hP
  refine tail_nil (hK6 _ _ ?_)
  refine wp_block ?_
  refine wp_for (l.length) (fun k a W => ∃ (n2 : Nat), a.tmps.size = 41 ∧ a.defers = [] ∧ Keeps All w W ∧ sl a 0 = (.slice va (l.length) vc) ∧ sl a 3 = (.int .i64 ((n2 : Nat))) ∧ sl a 4 = (.int .i64 ((k : Nat))) ∧ Rd W (SA w S []) (ausD (l)) (.slice va (l.length) vc) ∧ (szA l 0 = szA (l.drop k) n2) ∧ (n2 ≤ 10010)) ⟨0, y7, zz7, kw, e0, (e3.trans (congrArg (Value.int .i64) (rfl))), (e4.trans (congrArg (Value.int .i64) (rfl))), D_v, rfl, by omega⟩ ?_
  clear kw e0 e3 e4 D_v
  rintro k a8 W8 hkk ⟨n2, y8, zz8, kw, e0, e3, e4, D_v, hin, hb2⟩
  refine wp_seq_k fun K9 hK9 => ?_
  refine wp_seq_k fun K10 hK10 => ?_
  refine rg mixed y8 zz8 ?_
  refine .i (sp_move (hbs rfl e4)) ?_
  refine .i (sp_move (hbs rfl e0)) ?_
  refine .i (sp_lenL Try.underlying153 ((hlc rfl).dat D_v sub_all)) ?_
  refine .i (sp_lss (hlc rfl) (hlc rfl)) ?_
  refine .done ⟨by kernel_rfl, fun a11 g W11 y11 zz11 hk hg hV hR hP => ?_⟩
  obtain ⟨e9, -, -, -, -⟩ := hV
  replace e0 := (hR 0 rfl).trans e0
  replace e3 := (hR 3 rfl).trans e3
  replace e4 := (hR 4 rfl).trans e4
  replace D_v := D_v.ext hk
  replace e9 := e9.q
  replace kw := kw.x hk
  clear hR hk hg hP
  refine tail_nil (hK10 _ _ ?_)
  refine wp_cond_split e9 (fun hc => ?_) (fun hc => ?_)
  ·
   have hlt : k < l.length := by simpa using hc
   have hdr := List.drop_eq_getElem_cons hlt
   rw [hdr, szA] at hin
   have hmn : (l[k]'hlt).ids.length ≤ maxLen := rd_idsA hv hlt
   simp only [maxLen] at hmn
   refine wp_skip (hK9 _ _ ?_)
   refine wp_seq_k fun K12 hK12 => ?_
   refine wp_block ?_
   refine wp_seq_k fun K13 hK13 => ?_
   refine rg mixed y11 zz11 ?_
   refine .i (sp_assign Has.cst) ?_
   refine .done ⟨by kernel_rfl, fun a14 g W14 y14 zz14 hk hg hV hR hP => ?_⟩
   obtain ⟨e5, -⟩ := hV
   replace e0 := (hR 0 rfl).trans e0
   replace e3 := (hR 3 rfl).trans e3
   replace e4 := (hR 4 rfl).trans e4
   replace D_v := D_v.ext hk
   have e5 : sl a14 5 = (.int .i64 (0)) := e5
   replace kw := kw.x hk
   clear hR hk hg hP
   refine tail_nil (hK13 _ _ ?_)
   refine wp_block ?_
   refine wp_for ((l[k]'hlt).ids.length) (fun j a W => ∃ (n3 : Nat), a.tmps.size = 41 ∧ a.defers = [] ∧ Keeps All w W ∧ sl a 0 = (.slice va (l.length) vc) ∧ sl a 3 = (.int .i64 ((n3 : Nat))) ∧ sl a 4 = (.int .i64 ((k : Nat))) ∧ sl a 5 = (.int .i64 ((j : Nat))) ∧ Rd W (SA w S []) (ausD (l)) (.slice va (l.length) vc) ∧ (szI (l[k]'hlt).ids n2 = szI ((l[k]'hlt).ids.drop j) n3) ∧ (n3 ≤ 10010)) ⟨n2, y14, zz14, kw, e0, (e3.trans (congrArg (Value.int .i64) (rfl))), e4, (e5.trans (congrArg (Value.int .i64) (rfl))), D_v, rfl, by omega⟩ ?_
   clear kw e0 e3 e4 e5 D_v
   rintro j a15 W15 hkj ⟨n3, y15, zz15, kw, e0, e3, e4, e5, D_v, hin2, hb3⟩
   refine wp_seq_k fun K16 hK16 => ?_
   refine wp_seq_k fun K17 hK17 => ?_
   refine rg mixed y15 zz15 ?_
   refine .i (sp_move (hbs rfl e5)) ?_
   refine .i (sp_move (hbs rfl e0)) ?_
   refine .i (sp_move (hbs rfl e4)) ?_
   refine .rf (X := SA w S []) (e := Au.d (l[k]'hlt)) (sp_indexL (i := k) ((hlc rfl).dat D_v sub_all) (hlc rfl) Try.underlying153 sz27 rfl hlt) ?_
   refine .rf (X := SA w S []) (e := strsD ((l[k]'hlt).ids)) (sp_fieldR (hlc rfl) Try.underlying27 rfl sz23 rfl (by first | rfl | simp [widths, width, hssD, width_V])) ?_
   refine .da (X := SA w S []) (e := strsD ((l[k]'hlt).ids)) (sp_loadR (hlc rfl) agg23 sz23 rfl) ?_
   refine .i (sp_lenSs Try.underlying23 (hlc rfl)) ?_
   refine .i (sp_lss (hlc rfl) (hlc rfl)) ?_
   refine .i (sp_move (hlc rfl)) ?_
   refine .e (t := 20) rfl (hlc rfl) (fun hg => sp_move (hbs rfl e3)) ?_
   refine .e (t := 20) rfl (hlc rfl) (fun hg => sp_lss ((hlc rfl).undE hg) Has.cst) ?_
   refine .i (sp_and (hlc rfl) ((hlc rfl).weak fun hq => hq)) ?_
   refine .done ⟨by kernel_rfl, fun a18 g W18 y18 zz18 hk hg hV hR hP => ?_⟩
   obtain ⟨e23, -, -, -, -, -, -, -, -, -, -, -, -⟩ := hV
   replace e0 := (hR 0 rfl).trans e0
   replace e3 := (hR 3 rfl).trans e3
   replace e4 := (hR 4 rfl).trans e4
   replace e5 := (hR 5 rfl).trans e5
   replace D_v := D_v.ext hk
   replace e23 := e23.q
   replace kw := kw.x hk
   clear hR hk hg hP
   refine tail_nil (hK17 _ _ ?_)
   refine wp_cond_split e23 (fun hc => ?_) (fun hc => ?_)
   ·
    simp at hc
    obtain ⟨hltj, hn3i⟩ := hc
    have hn3 : n3 < 5000 := by omega
    rw [List.drop_eq_getElem_cons hltj, szI, if_pos hn3] at hin2
    refine wp_skip (hK16 _ _ ?_)
    refine wp_seq_k fun K19 hK19 => ?_
    refine wp_block ?_
    refine rg mixed y18 zz18 ?_
    refine .i (sp_move (hbs rfl e3)) ?_
    refine .i (sp_add (hlc rfl) Has.cst (i64_in (by omega))) ?_
    refine .i (sp_move (hbs rfl e0)) ?_
    refine .i (sp_move (hbs rfl e4)) ?_
    refine .rf (X := SA w S []) (e := Au.d (l[k]'hlt)) (sp_indexL (i := k) ((hlc rfl).dat D_v sub_all) (hlc rfl) Try.underlying153 sz27 rfl hlt) ?_
    refine .rf (X := SA w S []) (e := strsD ((l[k]'hlt).ids)) (sp_fieldR (hlc rfl) Try.underlying27 rfl sz23 rfl (by first | rfl | simp [widths, width, hssD, width_V])) ?_
    refine .da (X := SA w S []) (e := strsD ((l[k]'hlt).ids)) (sp_loadR (hlc rfl) agg23 sz23 rfl) ?_
    refine .i (sp_move (hbs rfl e5)) ?_
    refine .rf (sp_indexS (i := j) (hlc rfl) (hlc rfl) Try.underlying23 sz9 rfl hltj) ?_
    refine .i (sp_loadStr (hlc rfl) agg9 sz9) ?_
    refine .i (sp_lenS Try.underlying9 (hlc rfl)) ?_
    refine .i (sp_min Has.cst (hlc rfl)) ?_
    refine .i (sp_add (hlc rfl) (hlc rfl) (i64_in (by omega))) ?_
    refine .i (sp_assign (hlc rfl)) ?_
    refine .done ⟨by kernel_rfl, fun a20 g W20 y20 zz20 hk hg hV hR hP => ?_⟩
    obtain ⟨e3, -, -, -, -, -, -, -, -, -, -, -, -, -, -⟩ := hV
    replace e0 := (hR 0 rfl).trans e0
    replace e4 := (hR 4 rfl).trans e4
    replace e5 := (hR 5 rfl).trans e5
    replace D_v := D_v.ext hk
    replace e3 := e3.q
    replace kw := kw.x hk
    clear hR hk hg hP
    refine tail_nil (hK19 _ _ ?_)
    refine rg mixed y20 zz20 ?_
    refine .i (sp_move (hbs rfl e5)) ?_
    refine .i (sp_add (hlc rfl) Has.cst (i64_in (by omega))) ?_
    refine .i (sp_assign (hlc rfl)) ?_
    refine .done ⟨by kernel_rfl, fun a21 g W21 y21 zz21 hk hg hV hR hP => ?_⟩
    obtain ⟨e5, -, -, -⟩ := hV
    replace e0 := (hR 0 rfl).trans e0
    replace e3 := (hR 3 rfl).trans e3
    replace e4 := (hR 4 rfl).trans e4
    replace D_v := D_v.ext hk
    replace e5 := e5.q
    replace kw := kw.x hk
    clear hR hk hg hP
    exact tail_nil ⟨hltj, (n3 + 10 + min 5000 ((l[k]'hlt).ids[j]'hltj).size), y21, zz21, kw, e0, (e3.trans (congrArg (Value.int .i64) (by push_cast; omega))), e4, (e5.trans (congrArg (Value.int .i64) (by simp))), D_v, hin2, by omega⟩
   ·
    have hfn : szI (l[k]'hlt).ids n2 = n3 := by
     rw [hin2]; simp at hc
     by_cases hltj : j < (l[k]'hlt).ids.length
     · exact szI_big _ (by have := hc hltj; omega)
     · rw [List.drop_eq_nil_of_le (by omega)]; rfl
    have hs1 := (szI_le (l[k]'hlt).ids n2).2
    rw [hfn] at hs1 hin
    refine wp_exit (hK12 _ _ ?_)
    refine rg mixed y18 zz18 ?_
    refine .i (sp_move (hbs rfl e4)) ?_
    refine .i (sp_add (hlc rfl) Has.cst (i64_in (by omega))) ?_
    refine .i (sp_assign (hlc rfl)) ?_
    refine .done ⟨by kernel_rfl, fun a22 g W22 y22 zz22 hk hg hV hR hP => ?_⟩
    obtain ⟨e4, -, -, -⟩ := hV
    replace e0 := (hR 0 rfl).trans e0
    replace e3 := (hR 3 rfl).trans e3
    replace D_v := D_v.ext hk
    replace e4 := e4.q
    replace kw := kw.x hk
    clear hR hk hg hP
    exact tail_nil ⟨hlt, n3, y22, zz22, kw, e0, (e3.trans (congrArg (Value.int .i64) (rfl))), (e4.trans (congrArg (Value.int .i64) (by simp))), D_v, hin, by omega⟩
  ·
   have hge0 : ¬ k < l.length := by simpa using hc
   have hge : k = l.length := by omega
   have hfin : szA l 0 = n2 := by rw [hin, hge, List.drop_length]; rfl
   refine wp_exit (hK5 _ _ ?_)
   refine wp_seq_k fun K23 hK23 => ?_
   refine rg mixed y11 zz11 ?_
   refine .i (sp_move (hbs rfl e3)) ?_
   refine .i (sp_geq (hlc rfl) Has.cst) ?_
   refine .i (sp_assign (hlc rfl)) ?_
   refine .done ⟨by kernel_rfl, fun a24 g W24 y24 zz24 hk hg hV hR hP => ?_⟩
   obtain ⟨e2, -, -, -⟩ := hV
   replace D_v := D_v.ext hk
   replace e2 := e2.q
   replace kw := kw.x hk
   clear hR hk hg hP
   refine tail_nil (hK23 _ _ ?_)
   refine wp_ret ?_
   refine (show bodyPost Try.prog Try.f49 _ .ret _ _ from ret1 rfl zz24 e2 ⟨_, rfl, kw, ?_⟩)
   rw [hfin]
   exact congrArg Value.bool (decide_eq_decide.2 (by omega))
end Go.Proofs.Ytnobijngkpflcaa
namespace Go.Proofs.Ytnobijngkpflcaa
open Go.Eng
set_option maxRecDepth 100000 in
theorem Err_ok (k : Nat) (n : Int) (t : ByteArray) (cn ci mv : Value) (e : Int) (w : World) (bo : Nat) (own_bo : Own w bo [.int .u8 k, .int .i64 n, .string t, cn, ci, mv, .int .i64 e] 74) : Calls Try.prog 24 #[.pointer (some ⟨bo, 0, none⟩)] w (Ret w fun u _ => u = .int .i64 (errK k e)) := by
  refine enter Try.func24 rfl Try.ntmps24 (lbr rfl) fun a0 y0 zz0 harg => ?_
  have e0 : sl a0 0 = (.pointer (some ⟨bo, 0, none⟩)) := harg 0 (lbr rfl)
  have kw := Keeps.refl All w
  clear harg
  refine wp_seq_k fun K1 hK1 => ?_
  refine rg mixed y0 zz0 ?_
  refine .i (sp_assign Has.cst) ?_
  refine .done ⟨by kernel_rfl, fun a2 g W2 y2 zz2 hk hg hV hR hP => ?_⟩
  obtain ⟨-, -⟩ := hV
  replace e0 := (hR 0 rfl).trans e0
  replace own_bo := own_bo.ext hk
  replace kw := kw.x hk
  clear hR hk hg hP
  refine tail_nil (hK1 _ _ ?_)
  refine wp_seq_k fun K3 hK3 => ?_
  refine wp_seq_k fun K4 hK4 => ?_
  refine rg mixed y2 zz2 ?_
  refine .i (sp_move (hbs rfl e0)) ?_
  refine .i (v := (.bool (false))) (sp_nilEq Try.underlying40 (hlc rfl) Has.cst (by simp) rfl) ?_
  refine .done ⟨by kernel_rfl, fun a5 g W5 y5 zz5 hk hg hV hR hP => ?_⟩
  obtain ⟨e4, -, -⟩ := hV
  replace e0 := (hR 0 rfl).trans e0
  have e4 : sl a5 4 = (.bool (false)) := e4
  replace own_bo := own_bo.ext hk
  replace kw := kw.x hk
  clear hR hk hg hP
  refine tail_nil (hK4 _ _ ?_)
  refine wp_cond_false e4 ?_
  refine wp_skip (hK3 _ _ ?_)
  refine wp_seq_k fun K6 hK6 => ?_
  refine wp_seq_k fun K7 hK7 => ?_
  refine rg mixed y5 zz5 ?_
  refine .i (sp_move (hbs rfl e0)) ?_
  refine .i (sp_nilP (hlc rfl)) ?_
  refine .i (fo 6 (hlc rfl) Try.underlying74 rfl sz28 rfl) ?_
  refine .i (lo1 (hlc rfl) own_bo trivial agg28 sz28 rfl) ?_
  refine .i (sp_eql (hlc rfl) Has.cst) ?_
  refine .i (sp_move (hlc rfl)) ?_
  refine .e (t := 10) rfl (hlc rfl) (fun hg => sp_move (hbs rfl e0)) ?_
  refine .e (t := 10) rfl (hlc rfl) (fun hg => sp_nilP ((hlc rfl).undE hg)) ?_
  refine .e (t := 10) rfl (hlc rfl) (fun hg => fo 0 ((hlc rfl).undE hg) Try.underlying74 rfl sz33 rfl) ?_
  refine .e (t := 10) rfl (hlc rfl) (fun hg => fo 0 ((hlc rfl).undE hg) Try.underlying33 rfl sz5 rfl) ?_
  refine .e (t := 10) rfl (hlc rfl) (fun hg => lo1 ((hlc rfl).undE hg) own_bo trivial agg5 sz5 rfl) ?_
  refine .e (t := 10) rfl (hlc rfl) (fun hg => sp_neq ((hlc rfl).undE hg) Has.cst) ?_
  refine .i (sp_and (hlc rfl) ((hlc rfl).weak fun hq => hq)) ?_
  refine .done ⟨by kernel_rfl, fun a8 g W8 y8 zz8 hk hg hV hR hP => ?_⟩
  obtain ⟨e17, -, -, -, -, -, -, -, -, -, -, -, -, -⟩ := hV
  replace e0 := (hR 0 rfl).trans e0
  replace e17 := e17.q
  replace own_bo := own_bo.ext hk
  replace kw := kw.x hk
  clear hR hk hg hP
  refine tail_nil (hK7 _ _ ?_)
  refine wp_cond_split e17 (fun hc => ?_) (fun hc => ?_)
  ·
   have hf : errK k e = 10 := by rw [errK, if_pos]; simp at hc; omega
   refine wp_seq_k fun K9 hK9 => ?_
   refine rg mixed y8 zz8 ?_
   refine .i (sp_assign Has.cst) ?_
   refine .done ⟨by kernel_rfl, fun a10 g W10 y10 zz10 hk hg hV hR hP => ?_⟩
   obtain ⟨e2, -⟩ := hV
   have e2 : sl a10 2 = (.int .i64 (10)) := e2
   replace own_bo := own_bo.ext hk
   replace kw := kw.x hk
   clear hR hk hg hP
   refine tail_nil (hK9 _ _ ?_)
   refine wp_ret ?_
   refine (show bodyPost Try.prog Try.f24 _ .ret _ _ from ret1 rfl zz10 e2 ⟨_, rfl, kw, ?_⟩)
   rw [hf]
  ·
   have hf : errK k e = e := by rw [errK, if_neg]; simp at hc; omega
   refine wp_skip (hK6 _ _ ?_)
   refine wp_seq_k fun K11 hK11 => ?_
   refine rg mixed y8 zz8 ?_
   refine .i (sp_move (hbs rfl e0)) ?_
   refine .i (sp_nilP (hlc rfl)) ?_
   refine .i (fo 6 (hlc rfl) Try.underlying74 rfl sz28 rfl) ?_
   refine .i (lo1 (hlc rfl) own_bo trivial agg28 sz28 rfl) ?_
   refine .i (sp_assign (hlc rfl)) ?_
   refine .done ⟨by kernel_rfl, fun a12 g W12 y12 zz12 hk hg hV hR hP => ?_⟩
   obtain ⟨e2, -, -, -, -, -⟩ := hV
   have e2 : sl a12 2 = (.int .i64 (e)) := e2
   replace own_bo := own_bo.ext hk
   replace kw := kw.x hk
   clear hR hk hg hP
   refine tail_nil (hK11 _ _ ?_)
   refine wp_ret ?_
   refine (show bodyPost Try.prog Try.f24 _ .ret _ _ from ret1 rfl zz12 e2 ⟨_, rfl, kw, ?_⟩)
   rw [hf]
set_option maxRecDepth 100000 in
theorem Fail_ok (k : Nat) (n : Int) (t : ByteArray) (cn ci mv : Value) (e : Int) (f : Int) (w : World) (bo : Nat) (own_bo : Own w bo [.int .u8 k, .int .i64 n, .string t, cn, ci, mv, .int .i64 e] 74) : Calls Try.prog 22 #[.pointer (some ⟨bo, 0, none⟩), .int .i64 f] w (RetL w [bo] fun u W => u = .tuple #[] ∧ Own W bo [.int .u8 k, .int .i64 n, .string t, cn, ci, mv, .int .i64 (failK k e f)] 74) := by
  refine enter Try.func22 rfl Try.ntmps22 (lbr rfl) fun a0 y0 zz0 harg => ?_
  have e0 : sl a0 0 = (.pointer (some ⟨bo, 0, none⟩)) := harg 0 (lbr rfl)
  have e1 : sl a0 1 = (.int .i64 (f)) := harg 1 (lbr rfl)
  have kw := Keeps.refl (fun k => k ∉ [bo]) w
  clear harg
  refine wp_seq_k fun K1 hK1 => ?_
  refine rg mixed y0 zz0 ?_
  refine .i (sp_move (hbs rfl e0)) ?_
  refine .i (v := (.int .i64 (errK (k : Nat) e))) (sp_call1 (φ1 := Is (.pointer (some ⟨bo, 0, none⟩))) ent24 (hlc rfl) (fun g u1 W hk hgk h1 => by have h1 : u1 = _ := h1; subst u1; exact Err_ok _ _ _ _ _ _ _ W _ (own_bo.ext hk))) ?_
  refine .i (sp_eql (hlc rfl) Has.cst) ?_
  refine .done ⟨by kernel_rfl, fun a2 g W2 y2 zz2 hk hg hV hR hP => ?_⟩
  obtain ⟨e6, -, -, -⟩ := hV
  replace e0 := (hR 0 rfl).trans e0
  replace e1 := (hR 1 rfl).trans e1
  replace e6 := e6.q
  replace own_bo := own_bo.ext hk
  replace kw := kw.x hk
  clear hR hk hg hP
  refine tail_nil (hK1 _ _ ?_)
  refine wp_cond_split e6 (fun hc => ?_) (fun hc => ?_)
  ·
   have hf : failK k e f = f := by rw [failK, if_pos (by simpa using hc)]
   refine rg mixed y2 zz2 ?_
   refine .i (sp_move (hbs rfl e0)) ?_
   refine .i (sp_move (hbs rfl e1)) ?_
   refine .i (sp_nilP (hlc rfl)) ?_
   refine .i (fo 6 (hlc rfl) Try.underlying74 rfl sz28 rfl) ?_
   refine .done ⟨by kernel_rfl, fun a3 g W3 y3 zz3 hk hg hV hR hP => ?_⟩
   obtain ⟨e10, -, e8, -, -⟩ := hV
   have e8 : sl a3 8 = (.int .i64 (f)) := e8
   have e10 : sl a3 10 = (.pointer (some ⟨bo, 6, none⟩)) := e10
   replace own_bo := own_bo.ext hk
   replace kw := kw.x hk
   clear hR hk hg hP
   refine tail_store (b := bo) (o := 6) (v := (.int .i64 (f))) e10 e8 sz28 rfl own_bo (lbr rfl) (all_cons rfl all_nil) (fun W4 hs own_bo => ?_)
   have own_bo : Own W4 bo [(.int .u8 ((k : Nat))), (.int .i64 (n)), (.string (t)), cn, ci, mv, (.int .i64 (f))] 74 := own_bo
   replace kw := keeps_storeN kw hs (by simp)
   clear hs
   refine tail_nil ?_
   refine (show bodyPost Try.prog Try.f22 _ .ret _ _ from ret0 rfl zz3 ⟨_, rfl, kw, ?_⟩)
   exact ⟨rfl, by rw [hf]; exact own_bo⟩
  ·
   have hf : failK k e f = e := by rw [failK, if_neg (by simpa using hc)]
   refine wp_skip ?_
   refine (show bodyPost Try.prog Try.f22 _ .ret _ _ from ret0 rfl zz2 ⟨_, rfl, kw, ?_⟩)
   exact ⟨rfl, by rw [hf]; exact own_bo⟩
set_option maxRecDepth 100000 in
theorem items_ok (x : V) (most : Int) (w : World) (S : BSet) (v : Value) (hv : Rd w S x.d v) : Calls Try.prog 100 #[v, .int .i64 most] w (Ret w fun r W => ∃ r1, r = .tuple #[r1, .int .i64 (itemsE x most)] ∧ Rd W (Ar w S) (valsD (itemsV x most)) r1) := by
  obtain ⟨cn0a, cn0c, ci0a, ci0c, ev, ht0, D_cn0, D_ci0⟩ := rdV_out (rd_arg hv)
  subst ev
  refine enter Try.func100 rfl Try.ntmps100 (lbr rfl) fun a0 y0 zz0 harg => ?_
  have e0 : sl a0 0 = (.agg #[(.int .u8 (x.k)), (.int .i64 (x.n)), (.string (x.t)), (.slice cn0a (x.ns.length) cn0c), (.slice ci0a (x.xs.length) ci0c)]) := harg 0 (lbr rfl)
  have e1 : sl a0 1 = (.int .i64 (most)) := harg 1 (lbr rfl)
  have kw := Keeps.refl All w
  clear harg
  refine wp_seq_k fun K1 hK1 => ?_
  refine rg mixed y0 zz0 ?_
  refine .boxOp (v := (.agg #[(.int .u8 (x.k)), (.int .i64 (x.n)), (.string (x.t)), (.slice cn0a (x.ns.length) cn0c), (.slice ci0a (x.xs.length) ci0c)])) (hbs rfl e0) ?_
  refine .i (sp_assign Has.cst) ?_
  refine .i (sp_assign Has.cst) ?_
  refine .done ⟨by kernel_rfl, fun a2 g W2 y2 zz2 hk hg hV hR hP => ?_⟩
  obtain ⟨-, -, ⟨b2_2, e2, hb2, own_b2_2⟩, -⟩ := hV
  have lo_b2_2 : w.heap.size ≤ b2_2 := Nat.le_trans kw.size (hg.lo _ _ hb2)
  have own_b2_2 : Own W2 b2_2 [(.int .u8 (x.k)), (.int .i64 (x.n)), (.string (x.t)), (.slice cn0a (x.ns.length) cn0c), (.slice ci0a (x.xs.length) ci0c)] 33 := own_b2_2
  replace e1 := (hR 1 rfl).trans e1
  replace D_cn0 := sa_more D_cn0 hk [b2_2] (in_cons (hg.lo _ _ hb2) in_nil)
  replace D_ci0 := sa_more D_ci0 hk [b2_2] (in_cons (hg.lo _ _ hb2) in_nil)
  replace kw := kw.x hk
  clear hR hk hg hP hb2
  refine tail_nil (hK1 _ _ ?_)
  refine wp_seq_k fun K3 hK3 => ?_
  refine wp_seq_k fun K4 hK4 => ?_
  refine rg mixed y2 zz2 ?_
  refine .i (fo 0 (hbs rfl e2) Try.underlying33 rfl sz5 rfl) ?_
  refine .i (lo1 (hlc rfl) own_b2_2 trivial agg5 sz5 rfl) ?_
  refine .i (sp_neq (hlc rfl) Has.cst) ?_
  refine .done ⟨by kernel_rfl, fun a5 g W5 y5 zz5 hk hg hV hR hP => ?_⟩
  obtain ⟨e8, -, -, -⟩ := hV
  replace e1 := (hR 1 rfl).trans e1
  replace e2 := (hR 2 rfl).trans e2
  replace D_cn0 := D_cn0.ext hk
  replace D_ci0 := D_ci0.ext hk
  have e8 : sl a5 8 = (.bool ((x.k : Int) != (4 : Int))) := e8
  replace own_b2_2 := own_b2_2.ext hk
  replace kw := kw.x hk
  clear hR hk hg hP
  refine tail_nil (hK4 _ _ ?_)
  refine wp_cond_split e8 (fun hc => ?_) (fun hc => ?_)
  ·
   have hk : x.k ≠ 4 := by simp at hc; omega
   have hf : itemsE x most = 10 := by rw [itemsE, if_pos hk]
   have hv2 : itemsV x most = [] := by rw [itemsV, hf]; rfl
   refine wp_seq_k fun K6 hK6 => ?_
   refine rg mixed y5 zz5 ?_
   refine .i (sp_assign Has.cst) ?_
   refine .i (sp_assign Has.cst) ?_
   refine .done ⟨by kernel_rfl, fun a7 g W7 y7 zz7 hk hg hV hR hP => ?_⟩
   obtain ⟨e5, e4, -⟩ := hV
   replace D_cn0 := D_cn0.ext hk
   replace D_ci0 := D_ci0.ext hk
   have e4 : sl a7 4 = (.slice none 0 0) := e4
   have e5 : sl a7 5 = (.int .i64 (10)) := e5
   replace own_b2_2 := own_b2_2.ext hk
   replace kw := kw.x hk
   clear hR hk hg hP
   refine tail_nil (hK6 _ _ ?_)
   refine wp_ret ?_
   refine (show bodyPost Try.prog Try.f100 _ .ret _ _ from ret2 rfl zz7 e4 e5 ⟨_, rfl, kw, ?_⟩)
   refine ⟨_, by rw [hf], ?_⟩
   rw [hv2]
   exact rd_nil _
  ·
   have hk : ¬ x.k ≠ 4 := by simp at hc; omega
   refine wp_skip (hK3 _ _ ?_)
   refine wp_seq_k fun K8 hK8 => ?_
   refine wp_seq_k fun K9 hK9 => ?_
   refine rg mixed y5 zz5 ?_
   refine .i (fo 4 (hbs rfl e2) Try.underlying33 rfl sz31 rfl) ?_
   refine .i (lo1 (hlc rfl) own_b2_2 trivial agg31 sz31 rfl) ?_
   refine .i (sp_lenVs Try.underlying31 ((hlc rfl).dat D_ci0 sub_all)) ?_
   refine .i (sp_move (hbs rfl e1)) ?_
   refine .i (sp_gtr (hlc rfl) (hlc rfl)) ?_
   refine .done ⟨by kernel_rfl, fun a10 g W10 y10 zz10 hk hg hV hR hP => ?_⟩
   obtain ⟨e13, -, -, -, -, -⟩ := hV
   replace e2 := (hR 2 rfl).trans e2
   replace D_cn0 := D_cn0.ext hk
   replace D_ci0 := D_ci0.ext hk
   replace e13 := e13.q
   replace own_b2_2 := own_b2_2.ext hk
   replace kw := kw.x hk
   clear hR hk hg hP
   refine tail_nil (hK9 _ _ ?_)
   refine wp_cond_split e13 (fun hc => ?_) (fun hc => ?_)
   ·
    have hl : most < x.xs.length := of_decide_eq_true hc
    have hf : itemsE x most = 5 := by rw [itemsE, if_neg hk, if_pos hl]
    have hv2 : itemsV x most = [] := by rw [itemsV, hf]; rfl
    refine wp_seq_k fun K11 hK11 => ?_
    refine rg mixed y10 zz10 ?_
    refine .i (sp_assign Has.cst) ?_
    refine .i (sp_assign Has.cst) ?_
    refine .done ⟨by kernel_rfl, fun a12 g W12 y12 zz12 hk hg hV hR hP => ?_⟩
    obtain ⟨e5, e4, -⟩ := hV
    replace D_cn0 := D_cn0.ext hk
    replace D_ci0 := D_ci0.ext hk
    have e4 : sl a12 4 = (.slice none 0 0) := e4
    have e5 : sl a12 5 = (.int .i64 (5)) := e5
    replace own_b2_2 := own_b2_2.ext hk
    replace kw := kw.x hk
    clear hR hk hg hP
    refine tail_nil (hK11 _ _ ?_)
    refine wp_ret ?_
    refine (show bodyPost Try.prog Try.f100 _ .ret _ _ from ret2 rfl zz12 e4 e5 ⟨_, rfl, kw, ?_⟩)
    refine ⟨_, by rw [hf], ?_⟩
    rw [hv2]
    exact rd_nil _
   ·
    have hl : ¬ most < x.xs.length := of_decide_eq_false hc
    have hf : itemsE x most = 0 := by rw [itemsE, if_neg hk, if_neg hl]
    have hv2 : itemsV x most = x.xs := by rw [itemsV, if_pos hf]
    refine wp_skip (hK8 _ _ ?_)
    refine wp_seq_k fun K13 hK13 => ?_
    refine rg mixed y10 zz10 ?_
    refine .i (fo 4 (hbs rfl e2) Try.underlying33 rfl sz31 rfl) ?_
    refine .i (lo1 (hlc rfl) own_b2_2 trivial agg31 sz31 rfl) ?_
    refine .i (sp_assign (hlc rfl)) ?_
    refine .i (sp_assign Has.cst) ?_
    refine .done ⟨by kernel_rfl, fun a14 g W14 y14 zz14 hk hg hV hR hP => ?_⟩
    obtain ⟨e5, e4, -, -, -⟩ := hV
    replace D_cn0 := D_cn0.ext hk
    replace D_ci0 := D_ci0.ext hk
    have e4 : sl a14 4 = (.slice ci0a (x.xs.length) ci0c) := e4
    have e5 : sl a14 5 = (.int .i64 (0)) := e5
    replace own_b2_2 := own_b2_2.ext hk
    replace kw := kw.x hk
    clear hR hk hg hP
    refine tail_nil (hK13 _ _ ?_)
    refine wp_ret ?_
    refine (show bodyPost Try.prog Try.f100 _ .ret _ _ from ret2 rfl zz14 e4 e5 ⟨_, rfl, kw, ?_⟩)
    refine ⟨_, by rw [hf], ?_⟩
    rw [hv2]
    exact sa_ar D_ci0
set_option maxRecDepth 100000 in
theorem texts1_ok (x : V) (most : Int) (hx : x.wt ≤ 1073741824) (w : World) (S : BSet) (v : Value) (bq : Nat) (hv : Rd w S x.d v) (own_bq : Own w bq [.int .i64 most] 3) : Calls Try.prog 99 #[v, .pointer (some ⟨bq, 0, none⟩)] w (Ret w fun r W => ∃ r1, r = .tuple #[r1, .int .i64 (textsE most x)] ∧ Rd W (Fr w) (strsD (textsL most x)) r1) := by
  have hwx := wt_eq x
  have hwl := wts_len x.xs
  obtain ⟨cn0a, cn0c, ci0a, ci0c, ev, ht0, D_cn0, D_ci0⟩ := rdV_out (rd_arg hv)
  subst ev
  refine enter Try.func99 rfl Try.ntmps99 (lbr rfl) fun a0 y0 zz0 harg => ?_
  have e0 : sl a0 0 = (.agg #[(.int .u8 (x.k)), (.int .i64 (x.n)), (.string (x.t)), (.slice cn0a (x.ns.length) cn0c), (.slice ci0a (x.xs.length) ci0c)]) := harg 0 (lbr rfl)
  have e1 : sl a0 1 = (.pointer (some ⟨bq, 0, none⟩)) := harg 1 (lbr rfl)
  have kw := Keeps.refl All w
  clear harg
  refine wp_seq_k fun K1 hK1 => ?_
  refine rg mixed y0 zz0 ?_
  refine .boxOp (v := (.agg #[(.int .u8 (x.k)), (.int .i64 (x.n)), (.string (x.t)), (.slice cn0a (x.ns.length) cn0c), (.slice ci0a (x.xs.length) ci0c)])) (hbs rfl e0) ?_
  refine .i (sp_assign Has.cst) ?_
  refine .i (sp_assign Has.cst) ?_
  refine .done ⟨by kernel_rfl, fun a2 g W2 y2 zz2 hk hg hV hR hP => ?_⟩
  obtain ⟨-, -, ⟨b2_2, e2, hb2, own_b2_2⟩, -⟩ := hV
  have lo_b2_2 : w.heap.size ≤ b2_2 := Nat.le_trans kw.size (hg.lo _ _ hb2)
  have ne_bq_b2_2 : bq ≠ b2_2 := Nat.ne_of_lt (Nat.lt_of_lt_of_le own_bq.lt (hg.lo _ _ hb2))
  have own_b2_2 : Own W2 b2_2 [(.int .u8 (x.k)), (.int .i64 (x.n)), (.string (x.t)), (.slice cn0a (x.ns.length) cn0c), (.slice ci0a (x.xs.length) ci0c)] 33 := own_b2_2
  replace e1 := (hR 1 rfl).trans e1
  replace D_cn0 := sa_more D_cn0 hk [b2_2] (in_cons (hg.lo _ _ hb2) in_nil)
  replace D_ci0 := sa_more D_ci0 hk [b2_2] (in_cons (hg.lo _ _ hb2) in_nil)
  replace own_bq := own_bq.ext hk
  replace kw := kw.x hk
  clear hR hk hg hP hb2
  refine tail_nil (hK1 _ _ ?_)
  refine wp_seq_k fun K3 hK3 => ?_
  refine rg mixed y2 zz2 ?_
  refine .i (v := (.agg #[(.int .u8 (x.k)), (.int .i64 (x.n)), (.string (x.t)), (.slice cn0a (x.ns.length) cn0c), (.slice ci0a (x.xs.length) ci0c)])) (loA (hbs rfl e2) own_b2_2 trivial agg33 sz33 rfl rfl) ?_
  refine .i (lo1 (hbs rfl e1) own_bq trivial agg3 sz3 rfl) ?_
  refine .op (φ := IsT (IsD (SA w S [b2_2]) (valsD (itemsV (x) most))) (Is (.int .i64 (itemsE (x) most)))) (st_t (st_d sub_all) (st_is _)) (sp_call2 (φ1 := IsD (SA w S [b2_2]) (V.d (x))) (φ2 := Is (.int .i64 (most))) ent100 ((hlc rfl).dat (rdV_in (x := x) ht0 D_cn0 D_ci0 : Rd W2 (SA w S [b2_2]) (V.d (x)) _) sub_all) (hlc rfl) (fun g u1 u2 W hk hgk h1 h2 => by have h2 : u2 = _ := h2; subst u2; exact (items_ok (x) (most) W _ _ h1).mono (fun _ _ ⟨v, h1, h2, r1, h3, h4⟩ => ⟨v, h1, h2, r1, _, h3, rd_ar_sa kw (in_cons own_b2_2.lt in_nil) hk hgk h4, rfl⟩))) ?_
  refine .op (φ := IsT (IsD (SA w S [b2_2]) (valsD (itemsV (x) most))) (Is (.int .i64 (itemsE (x) most)))) (st_t (st_d sub_all) (st_is _)) (sp_move (hlc rfl)) ?_
  refine .da (X := SA w S [b2_2]) (e := valsD (itemsV (x) most)) (sp_ext2 (hlc rfl) rfl) ?_
  refine .i (v := (.int .i64 (itemsE (x) most))) (sp_ext2' (hlc rfl) rfl) ?_
  refine .da (X := SA w S [b2_2]) (e := valsD (itemsV (x) most)) (sp_assign (hlc rfl)) ?_
  refine .i (sp_assign (hlc rfl)) ?_
  refine .done ⟨by kernel_rfl, fun a4 g W4 y4 zz4 hk hg hV hR hP => ?_⟩
  obtain ⟨e6, e5, -, -, -, -, -, -, -⟩ := hV
  replace D_cn0 := D_cn0.ext hk
  replace D_ci0 := D_ci0.ext hk
  obtain ⟨v5_4, ev⟩ : ∃ v, sl a4 5 = v := ⟨_, rfl⟩
  rw [ev] at e5
  have D_v5_4 : Rd W4 (SA w S [b2_2]) (valsD (itemsV (x) most)) v5_4 := sa_end e5 hk [] in_nil
  replace e5 := ev; clear ev
  obtain ⟨v5_4a, v5_4c, ev, D2⟩ := rdVs_out D_v5_4
  subst ev; replace D_v5_4 := D2; clear D2
  have e6 : sl a4 6 = (.int .i64 (itemsE (x) most)) := e6
  replace own_bq := own_bq.ext hk
  replace own_b2_2 := own_b2_2.ext hk
  replace kw := kw.x hk
  clear hR hk hg hP
  refine tail_nil (hK3 _ _ ?_)
  refine wp_seq_k fun K5 hK5 => ?_
  refine wp_seq_k fun K6 hK6 => ?_
  refine rg mixed y4 zz4 ?_
  refine .i (sp_move (hbs rfl e6)) ?_
  refine .i (sp_neq (hlc rfl) Has.cst) ?_
  refine .done ⟨by kernel_rfl, fun a7 g W7 y7 zz7 hk hg hV hR hP => ?_⟩
  obtain ⟨e17, -, -⟩ := hV
  replace e5 := (hR 5 rfl).trans e5
  replace e6 := (hR 6 rfl).trans e6
  replace D_v5_4 := D_v5_4.ext hk
  replace e17 := e17.q
  replace own_bq := own_bq.ext hk
  replace own_b2_2 := own_b2_2.ext hk
  replace kw := kw.x hk
  clear hR hk hg hP
  refine tail_nil (hK6 _ _ ?_)
  refine wp_cond_split e17 (fun hc => ?_) (fun hc => ?_)
  ·
   have hi : itemsE x most ≠ 0 := by simpa using hc
   have hf : textsE most x = itemsE x most := by rw [textsE, if_pos hi]
   have hv2 : textsL most x = [] := by rw [textsL, hf, if_neg hi]
   refine wp_seq_k fun K8 hK8 => ?_
   refine rg mixed y7 zz7 ?_
   refine .i (sp_move (hbs rfl e6)) ?_
   refine .i (sp_assign Has.cst) ?_
   refine .i (sp_assign (hlc rfl)) ?_
   refine .done ⟨by kernel_rfl, fun a9 g W9 y9 zz9 hk hg hV hR hP => ?_⟩
   obtain ⟨e4, e3, -, -⟩ := hV
   replace D_v5_4 := D_v5_4.ext hk
   have e3 : sl a9 3 = (.slice none 0 0) := e3
   have e4 : sl a9 4 = (.int .i64 (itemsE (x) most)) := e4
   replace own_bq := own_bq.ext hk
   replace own_b2_2 := own_b2_2.ext hk
   replace kw := kw.x hk
   clear hR hk hg hP
   refine tail_nil (hK8 _ _ ?_)
   refine wp_ret ?_
   refine (show bodyPost Try.prog Try.f99 _ .ret _ _ from ret2 rfl zz9 e3 e4 ⟨_, rfl, kw, ?_⟩)
   refine ⟨_, by rw [hf], ?_⟩
   rw [hv2]
   exact rd_nil _
  ·
   have hi : itemsE x most = 0 := by simpa using hc
   have hiv : itemsV x most = x.xs := by rw [itemsV, if_pos hi]
   refine wp_skip (hK5 _ _ ?_)
   refine wp_seq_k fun K10 hK10 => ?_
   refine rg mixed y7 zz7 ?_
   refine .i (sp_assign Has.cst) ?_
   refine .done ⟨by kernel_rfl, fun a11 g W11 y11 zz11 hk hg hV hR hP => ?_⟩
   obtain ⟨e7, -⟩ := hV
   replace e5 := (hR 5 rfl).trans e5
   replace D_v5_4 := D_v5_4.ext hk
   have e7 : sl a11 7 = (.slice none 0 0) := e7
   replace own_bq := own_bq.ext hk
   replace own_b2_2 := own_b2_2.ext hk
   replace kw := kw.x hk
   clear hR hk hg hP
   refine tail_nil (hK10 _ _ ?_)
   refine wp_seq_k fun K12 hK12 => ?_
   refine wp_seq_k fun K13 hK13 => ?_
   refine rg mixed y11 zz11 ?_
   refine .i (sp_move (hbs rfl e5)) ?_
   refine .i (sp_lenVs Try.underlying31 ((hlc rfl).dat D_v5_4 sub_all)) ?_
   refine .i (sp_move Has.cst) ?_
   refine .done ⟨by kernel_rfl, fun a14 g W14 y14 zz14 hk hg hV hR hP => ?_⟩
   obtain ⟨e21, e20, e19, -⟩ := hV
   replace e7 := (hR 7 rfl).trans e7
   replace D_v5_4 := D_v5_4.ext hk
   replace e19 := e19.q
   have e20 : sl a14 20 = (.int .i64 ((itemsV (x) most).length)) := e20
   have e21 : sl a14 21 = (.int .i64 (0)) := e21
   replace own_bq := own_bq.ext hk
   replace own_b2_2 := own_b2_2.ext hk
   replace kw := kw.x hk
   clear hR hk hg hP
   refine tail_nil (hK13 _ _ ?_)
   refine wp_block ?_
   replace D_v5_4 := sa_less (M' := []) D_v5_4 ls_nil
   have A_ar15 : Arr W14 w.heap.size 9 1 (SF w (blks none ++ [])) (List.map D.str ([])) (.slice none 0 0) none := arr_nil _ _ _ _ _
   replace D_v5_4 : Rd W14 (SA w S (blks none ++ [])) (valsD (itemsV (x) most)) (.slice v5_4a ((itemsV (x) most).length) v5_4c) := D_v5_4
   refine wp_for ((itemsV x most).length) (fun k a W => ∃ (vs7_16 : Value), ∃ (hds7_16 : Option Nat), a.tmps.size = 35 ∧ a.defers = [] ∧ Keeps All w W ∧ sl a 7 = vs7_16 ∧ sl a 19 = (.slice v5_4a ((itemsV (x) most).length) v5_4c) ∧ sl a 20 = (.int .i64 ((itemsV (x) most).length)) ∧ sl a 21 = (.int .i64 ((k : Nat))) ∧ Rd W (SA w S (blks hds7_16 ++ [])) (valsD (itemsV (x) most)) (.slice v5_4a ((itemsV (x) most).length) v5_4c) ∧ Arr W w.heap.size 9 1 (SF w (blks hds7_16 ++ [])) (List.map D.str (List.map V.t ((itemsV x most).take k))) vs7_16 hds7_16 ∧ (∀ i (h : i < (itemsV x most).length), i < k → ((itemsV x most)[i]'h).k = 3)) ⟨(.slice none 0 0), none, y14, zz14, kw, e7, e19, e20, (e21.trans (congrArg (Value.int .i64) (rfl))), D_v5_4, A_ar15, fun i h hi => absurd hi (by omega)⟩ ?_
   clear kw e7 e19 e20 e21 D_v5_4 A_ar15
   rintro k a16 W16 hkk ⟨vs7_16, hds7_16, y16, zz16, kw, e7, e19, e20, e21, D_v5_4, As7_16, hinv⟩
   refine wp_seq_k fun K17 hK17 => ?_
   refine rg mixed y16 zz16 ?_
   refine .i (sp_lss (hbs rfl e21) (hbs rfl e20)) ?_
   refine .done ⟨by kernel_rfl, fun a18 g W18 y18 zz18 hk hg hV hR hP => ?_⟩
   obtain ⟨e22, -⟩ := hV
   replace e7 := (hR 7 rfl).trans e7
   replace e19 := (hR 19 rfl).trans e19
   replace e20 := (hR 20 rfl).trans e20
   replace e21 := (hR 21 rfl).trans e21
   replace As7_16 := As7_16.ext hk
   replace D_v5_4 := D_v5_4.ext hk
   replace e22 := e22.q
   replace kw := kw.x hk
   clear hR hk hg hP
   refine tail_nil (hK17 _ _ ?_)
   refine wp_seq_k fun K19 hK19 => ?_
   refine wp_cond_split e22 (fun hc => ?_) (fun hc => ?_)
   ·
    have hlt : k < (itemsV x most).length := by simpa using hc
    refine wp_skip (hK19 _ _ ?_)
    refine wp_seq_k fun K20 hK20 => ?_
    refine wp_block ?_
    refine wp_seq_k fun K21 hK21 => ?_
    refine rg mixed y18 zz18 ?_
    refine .rf (sp_indexV (i := k) ((hbs rfl e19).dat D_v5_4 sub_all) (hbs rfl e21) Try.underlying31 sz33 rfl hlt) ?_
    refine .da (sp_loadV (hlc rfl) agg33 sz33) ?_
    refine .alloc z33 ?_
    refine .done ⟨by kernel_rfl, fun a22 g W22 y22 zz22 hk hg hV hR hP => ?_⟩
    obtain ⟨⟨b9_22, e9, hb9, own_b9_22⟩, e24, -, -⟩ := hV
    have lo_b9_22 : w.heap.size ≤ b9_22 := Nat.le_trans kw.size (hg.lo _ _ hb9)
    have own_b9_22 : Own W22 b9_22 [(.int .u8 (0)), (.int .i64 (0)), (.string (⟨#[]⟩)), (.slice none 0 0), (.slice none 0 0)] 33 := own_b9_22
    replace e7 := (hR 7 rfl).trans e7
    replace e19 := (hR 19 rfl).trans e19
    replace e20 := (hR 20 rfl).trans e20
    replace e21 := (hR 21 rfl).trans e21
    have nb_b9_22_ar15 : b9_22 ∉ blks hds7_16 := nb_lt As7_16.lt (hg.lo _ _ hb9)
    replace As7_16 : Arr W22 w.heap.size 9 1 (SF w (b9_22 :: (blks hds7_16 ++ []))) (List.map D.str (List.map V.t ((itemsV x most).take k))) vs7_16 hds7_16 := arrF_more As7_16 hk [b9_22] (in_cons (hg.lo _ _ hb9) in_nil)
    replace D_v5_4 : Rd W22 (SA w S (b9_22 :: (blks hds7_16 ++ []))) (valsD (itemsV (x) most)) (.slice v5_4a ((itemsV (x) most).length) v5_4c) := sa_more D_v5_4 hk [b9_22] (in_cons (hg.lo _ _ hb9) in_nil)
    obtain ⟨v24_22, ev⟩ : ∃ v, sl a22 24 = v := ⟨_, rfl⟩
    rw [ev] at e24
    have D_v24_22 : Rd W22 (SA w S (b9_22 :: (blks hds7_16 ++ []))) (V.d ((itemsV (x) most)[k]'hlt)) v24_22 := sa_end e24 hk [b9_22] (in_cons ⟨_, hb9⟩ in_nil)
    replace e24 := ev; clear ev
    obtain ⟨cn24_22a, cn24_22c, ci24_22a, ci24_22c, ev, ht_v24_22, D_cn24_22, D_ci24_22⟩ := rdV_out D_v24_22
    subst ev; clear D_v24_22
    replace kw := kw.x hk
    clear hR hk hg hP hb9
    refine tail_store (b := b9_22) (o := 0) (v := (.agg #[(.int .u8 (((itemsV (x) most)[k]'hlt).k)), (.int .i64 (((itemsV (x) most)[k]'hlt).n)), (.string (((itemsV (x) most)[k]'hlt).t)), (.slice cn24_22a ((((itemsV (x) most)[k]'hlt).ns).length) cn24_22c), (.slice ci24_22a ((((itemsV (x) most)[k]'hlt).xs).length) ci24_22c)])) e9 e24 sz33 rfl own_b9_22 (lbr rfl) (all_cons rfl (all_cons rfl (all_cons rfl (all_cons rfl (all_cons rfl all_nil))))) (fun W23 hs own_b9_22 => ?_)
    have own_b9_22 : Own W23 b9_22 [(.int .u8 (((itemsV (x) most)[k]'hlt).k)), (.int .i64 (((itemsV (x) most)[k]'hlt).n)), (.string (((itemsV (x) most)[k]'hlt).t)), (.slice cn24_22a ((((itemsV (x) most)[k]'hlt).ns).length) cn24_22c), (.slice ci24_22a ((((itemsV (x) most)[k]'hlt).xs).length) ci24_22c)] 33 := own_b9_22
    replace D_v5_4 := sa_store D_v5_4 hs (by simp)
    replace D_cn24_22 := sa_store D_cn24_22 hs (by simp)
    replace D_ci24_22 := sa_store D_ci24_22 hs (by simp)
    replace As7_16 := arrF_store As7_16 hs (by simp) nb_b9_22_ar15
    replace kw := keeps_store kw hs lo_b9_22
    clear hs
    refine tail_nil (hK21 _ _ ?_)
    refine wp_seq_k fun K24 hK24 => ?_
    refine wp_seq_k fun K25 hK25 => ?_
    refine rg mixed y22 zz22 ?_
    refine .i (fo 0 (hbs rfl e9) Try.underlying33 rfl sz5 rfl) ?_
    refine .i (lo1 (hlc rfl) own_b9_22 trivial agg5 sz5 rfl) ?_
    refine .i (sp_neq (hlc rfl) Has.cst) ?_
    refine .done ⟨by kernel_rfl, fun a26 g W26 y26 zz26 hk hg hV hR hP => ?_⟩
    obtain ⟨e27, -, -, -⟩ := hV
    replace e7 := (hR 7 rfl).trans e7
    replace e19 := (hR 19 rfl).trans e19
    replace e20 := (hR 20 rfl).trans e20
    replace e21 := (hR 21 rfl).trans e21
    replace e9 := (hR 9 rfl).trans e9
    replace As7_16 := As7_16.ext hk
    replace D_v5_4 := D_v5_4.ext hk
    replace D_cn24_22 := D_cn24_22.ext hk
    replace D_ci24_22 := D_ci24_22.ext hk
    replace e27 := e27.q
    replace own_b9_22 := own_b9_22.ext hk
    replace kw := kw.x hk
    clear hR hk hg hP
    refine tail_nil (hK25 _ _ ?_)
    refine wp_cond_split e27 (fun hc => ?_) (fun hc => ?_)
    ·
     have h3 : ((itemsV x most)[k]'hlt).k ≠ 3 := by simp at hc; omega
     have hall : allT x.xs = false := allT_false (k := k) (by rw [← hiv]; exact hlt) (by simpa [hiv] using h3)
     have hf : textsE most x = 10 := by rw [textsE, if_neg (by simp [hi]), hall]; rfl
     have hv2 : textsL most x = [] := by rw [textsL, hf]; rfl
     refine wp_seq_k fun K27 hK27 => ?_
     refine rg mixed y26 zz26 ?_
     refine .i (sp_assign Has.cst) ?_
     refine .i (sp_assign Has.cst) ?_
     refine .done ⟨by kernel_rfl, fun a28 g W28 y28 zz28 hk hg hV hR hP => ?_⟩
     obtain ⟨e4, e3, -⟩ := hV
     replace As7_16 := As7_16.ext hk
     replace D_v5_4 := D_v5_4.ext hk
     replace D_cn24_22 := D_cn24_22.ext hk
     replace D_ci24_22 := D_ci24_22.ext hk
     have e3 : sl a28 3 = (.slice none 0 0) := e3
     have e4 : sl a28 4 = (.int .i64 (10)) := e4
     replace own_b9_22 := own_b9_22.ext hk
     replace kw := kw.x hk
     clear hR hk hg hP
     refine tail_nil (hK27 _ _ ?_)
     refine wp_ret ?_
     refine (show bodyPost Try.prog Try.f99 _ .ret _ _ from ret2 rfl zz28 e3 e4 ⟨_, rfl, kw, ?_⟩)
     refine ⟨_, by rw [hf], ?_⟩
     rw [hv2]
     exact rd_nil _
    ·
     have h3 : ((itemsV x most)[k]'hlt).k = 3 := by simp at hc; omega
     have hlx : k < x.xs.length := by rw [← hiv]; exact hlt
     refine wp_skip (hK24 _ _ ?_)
     refine wp_reg (fun k => k ∉ blks hds7_16) (Ψ := fun W => Arr W w.heap.size 9 1 (SF w (b9_22 :: (blks hds7_16 ++ []))) (List.map D.str (List.map V.t ((itemsV x most).take k))) vs7_16 hds7_16) mixed y26 zz26 (fun W W' k h => h.ext k) As7_16 ?_
     refine .i (sp_move (hbs rfl e7)) ?_
     refine .i (fo 2 (hbs rfl e9) Try.underlying33 rfl sz9 rfl) ?_
     refine .i (lo1 (hlc rfl) own_b9_22 nb_b9_22_ar15 agg9 sz9 rfl) ?_
     refine .op (φ := IsD (SF w (b9_22 :: (blks hds7_16 ++ []))) (strsD ([((itemsV (x) most)[k]'hlt).t]))) (st_d (sub_nbF (fun b hb => List.mem_cons_of_mem _ (List.mem_append_left _ hb)))) (sp_bsl (ds := [D.str (((itemsV (x) most)[k]'hlt).t)]) Try.underlying23 sz9 z9 (lbr rfl) (lbr rfl) ⟨rfl, ((hlc rfl).str ht_v24_22), trivial⟩ rfl (by simp [width]) (fr_sf kw (in_cons own_b9_22.lt (in_app As7_16.lt in_nil)))) ?_
     refine .appB (ds := List.map D.str (List.map V.t ((itemsV x most).take k))) (es := [D.str (((itemsV (x) most)[k]'hlt).t)]) (X := SF w (b9_22 :: (blks hds7_16 ++ []))) Try.underlying23 inf9 (lbr rfl) (hlc rfl) (hlc rfl) (sub_nbF (fun b hb => List.mem_cons_of_mem _ (List.mem_append_left _ hb))) (by simp [maxLen]; omega) (by simp; omega) kw.size ?_
     refine .done ⟨by kernel_rfl, fun a29 g W29 y29 zz29 hk hg hV hR hP => ?_⟩
     obtain ⟨e32, -, -, -, -, -⟩ := hV
     replace e7 := (hR 7 rfl).trans e7
     replace e19 := (hR 19 rfl).trans e19
     replace e20 := (hR 20 rfl).trans e20
     replace e21 := (hR 21 rfl).trans e21
     obtain ⟨v32_29, ev⟩ : ∃ v, sl a29 32 = v := ⟨_, rfl⟩
     rw [ev] at e32
     obtain ⟨hd32_29, A_32_29, hf32_29⟩ := e32
     have e32 := ev; clear ev
     obtain ⟨v32_29a, v32_29n, v32_29c, ev⟩ := arr_sl A_32_29; subst ev
     replace A_32_29 := arrF_new (M' := (b9_22 :: (blks hd32_29 ++ []))) A_32_29 (rep_cons (rep_app (rep_q fun _ h => h) rep_nil))
     replace A_32_29 : Arr W29 w.heap.size 9 1 (SF w (b9_22 :: (blks hd32_29 ++ []))) (List.map D.str ((List.map V.t ((itemsV x most).take k)) ++ [((itemsV (x) most)[k]'hlt).t])) (.slice v32_29a v32_29n v32_29c) hd32_29 := by first | exact A_32_29 | (rw [List.map_append]; exact A_32_29)
     have nb_b9_22_29 : b9_22 ∉ blks hd32_29 := nb_new nb_b9_22_ar15 own_b9_22.lt hf32_29
     replace D_v5_4 := sa_app (M' := (b9_22 :: (blks hd32_29 ++ []))) D_v5_4 hk (fun b hb => List.mem_cons_of_mem _ (List.mem_append_left _ hb)) (rep_cons (rep_app hf32_29 rep_nil))
     replace D_cn24_22 := sa_app (M' := (b9_22 :: (blks hd32_29 ++ []))) D_cn24_22 hk (fun b hb => List.mem_cons_of_mem _ (List.mem_append_left _ hb)) (rep_cons (rep_app hf32_29 rep_nil))
     replace D_ci24_22 := sa_app (M' := (b9_22 :: (blks hd32_29 ++ []))) D_ci24_22 hk (fun b hb => List.mem_cons_of_mem _ (List.mem_append_left _ hb)) (rep_cons (rep_app hf32_29 rep_nil))
     replace own_b9_22 := own_app own_b9_22 hk nb_b9_22_ar15
     replace kw := keeps_app kw hk As7_16.ge
     clear hR hk hg hP hf32_29 As7_16
     refine tail_assign (v := (.slice v32_29a v32_29n v32_29c)) e32 (by rw [y29]; exact Nat.le_of_ble_eq_true rfl) (fun a30 y30 zz30 e7 hr => ?_)
     replace y30 := y30.trans y29; replace zz30 := zz30.trans zz29
     replace e19 := (hr 19 (by decide)).trans e19
     replace e20 := (hr 20 (by decide)).trans e20
     replace e21 := (hr 21 (by decide)).trans e21
     replace e32 := (hr 32 (by decide)).trans e32
     clear hr
     refine tail_nil (hK20 _ _ ?_)
     refine rg mixed y30 zz30 ?_
     refine .i (sp_add (hbs rfl e21) Has.cst (i64_in (by omega))) ?_
     refine .i (sp_move (hlc rfl)) ?_
     refine .done ⟨by kernel_rfl, fun a31 g W31 y31 zz31 hk hg hV hR hP => ?_⟩
     obtain ⟨e21, -, -⟩ := hV
     replace e7 := (hR 7 rfl).trans e7
     replace e19 := (hR 19 rfl).trans e19
     replace e20 := (hR 20 rfl).trans e20
     replace A_32_29 := A_32_29.ext hk
     replace D_v5_4 := D_v5_4.ext hk
     replace e21 := e21.q
     replace own_b9_22 := own_b9_22.ext hk
     replace kw := kw.x hk
     clear hR hk hg hP
     rw [show (List.map V.t ((itemsV x most).take k)) ++ [((itemsV (x) most)[k]'hlt).t] = List.map V.t ((itemsV x most).take (k + 1)) by rw [List.take_succ_eq_append_getElem hlt, List.map_append]; rfl] at A_32_29
     exact tail_nil ⟨hlt, (.slice v32_29a v32_29n v32_29c), hd32_29, y31, zz31, kw, e7, e19, e20, (e21.trans (congrArg (Value.int .i64) (by simp))), (sa_less D_v5_4 (ls_skip (ls_keepA ls_nil))), (arrF_less A_32_29 (ls_skip (ls_keepA ls_nil))), fun i h hi => by rcases Nat.lt_succ_iff_lt_or_eq.1 hi with h1 | h1; exact hinv i h h1; subst h1; exact h3⟩
   ·
    have hge0 : ¬ k < (itemsV x most).length := by simpa using hc
    have hge : k = (itemsV x most).length := by omega
    have hall : allT x.xs = true := allT_true fun i h => by have := hinv i (by rw [hiv]; exact h) (by rw [hge, hiv]; exact h); simpa [hiv] using this
    have hf : textsE most x = 0 := by rw [textsE, if_neg (by simp [hi]), if_pos hall]
    have hv2 : textsL most x = x.xs.map V.t := by rw [textsL, if_pos hf]
    rw [show List.map V.t ((itemsV x most).take k) = List.map V.t x.xs by rw [hge, hiv, List.take_length]] at As7_16
    have D_vs7_16 : Rd W18 (SF w []) (strsD (List.map V.t x.xs)) vs7_16 := arrF_rd As7_16 ls_nil nin_nil
    obtain ⟨vs7_16a, vs7_16c, ev, D2⟩ := rdS_out D_vs7_16
    subst ev; replace D_vs7_16 := D2; clear D2
    replace D_v5_4 := sa_less (M' := []) D_v5_4 ls_nil
    refine wp_exit (hK12 _ _ ?_)
    refine wp_seq_k fun K32 hK32 => ?_
    refine rg mixed y18 zz18 ?_
    refine .i (sp_move (hbs rfl e7)) ?_
    refine .i (sp_assign (hlc rfl)) ?_
    refine .i (sp_assign Has.cst) ?_
    refine .done ⟨by kernel_rfl, fun a33 g W33 y33 zz33 hk hg hV hR hP => ?_⟩
    obtain ⟨e4, e3, -, -⟩ := hV
    replace D_v5_4 := D_v5_4.ext hk
    replace D_vs7_16 := D_vs7_16.ext hk
    replace e3 := e3.q
    have e4 : sl a33 4 = (.int .i64 (0)) := e4
    replace kw := kw.x hk
    clear hR hk hg hP
    refine tail_nil (hK32 _ _ ?_)
    refine wp_ret ?_
    refine (show bodyPost Try.prog Try.f99 _ .ret _ _ from ret2 rfl zz33 e3 e4 ⟨_, rfl, kw, ?_⟩)
    refine ⟨_, by rw [hf], ?_⟩
    rw [hv2]
    exact sf_fr D_vs7_16
end Go.Proofs.Ytnobijngkpflcaa
