/-
  Rows that are made and written into; loops by hand; remainders; parts of slices.
-/
import Derived.Test.YtnobijngkpflcaaEngI
import Derived.Test.YtnobijngkpflcaaPureF
namespace Go.Eng
section
variable {P : Program} {Q : Exit → Act → World → Prop} {a : Act} {w : World}
/-- at a loop's round -/
def LoopAt (P : Program) (c : Code) (Q : Exit → Act → World → Prop) (a : Act) (w : World) : Prop :=
  ∀ b k cs, ∃ e a' w', Q e a' w' ∧ Arrives P (lone (b.at a (.code c :: .inLoop c :: k)) cs w) b k cs e a' w'
theorem wp_loopAt {c : Code} (h : LoopAt P c Q a w) : (Code.loop c).wp P Q a w := by
  intro b k cs
  obtain ⟨e, a', w', hq, harr⟩ := h b k cs
  exact ⟨e, a', w', hq, .of_steps (.one step_loop) harr⟩
theorem loopAt {c : Code} (h : c.wp P (Exit.then (fun a' w' => LoopAt P c Q a' w') Q) a w) : LoopAt P c Q a w := by
  intro b k cs
  obtain ⟨e, a₁, w₁, hq, harr⟩ := h b (.inLoop c :: k) cs
  cases e with
  | normal =>
    obtain ⟨e₂, a₂, w₂, hq₂, harr₂⟩ := hq b k cs
    exact ⟨e₂, a₂, w₂, hq₂, .of_steps (Steps.trans harr (.one step_inLoop)) harr₂⟩
  | exit id => exact ⟨_, a₁, w₁, hq, .pass (x := .inLoop c) rfl (fun _ _ => .inl (by simp)) harr⟩
  | goto l => exact ⟨_, a₁, w₁, hq, .pass (x := .inLoop c) rfl (fun _ _ => .inl (by simp)) harr⟩
  | ret => exact ⟨_, a₁, w₁, hq, .pass (x := .inLoop c) rfl (fun _ _ => .inl (by simp)) harr⟩
  | panic ch => exact ⟨_, a₁, w₁, hq, .pass (x := .inLoop c) rfl (fun _ _ => .inl (by simp)) harr⟩
  | outgrown => exact ⟨_, a₁, w₁, hq, .pass (x := .inLoop c) rfl (fun _ _ => .inl (by simp)) harr⟩
end
/-! ### rows -/
theorem made_list (z : Array Value) (hz : 0 < z.size) : ∀ n : Nat, (madeCells z (n * z.size)).toList = (List.replicate n z.toList).flatten
  | 0 => by simp [madeCells]
  | n + 1 => by
    have ih := made_list z hz n
    rw [List.replicate_succ', List.flatten_append, ← ih]
    simp only [madeCells, Array.toList_map, Array.toList_range]
    rw [Nat.add_mul, Nat.one_mul, List.range_add, List.map_append, List.map_map]
    congr 1
    simp only [List.flatten_cons, List.flatten_nil, List.append_nil]
    apply List.ext_getElem
    · simp
    · intro i h1 h2
      simp at h1
      simp [Nat.mod_eq_of_lt h1, h1]
theorem row_rep {W : World} {X : BSet} {sz : Nat} {zd : D} {cs : List Value} (hl : cs.length = sz) (h : RdC W X zd cs) : ∀ n : Nat, RowIs W X sz (List.replicate n zd) (List.replicate n cs).flatten
  | 0 => rfl
  | n + 1 => by
    rw [List.replicate_succ, List.replicate_succ, List.flatten_cons]
    exact ⟨cs, _, rfl, hl, h, row_rep hl h n⟩
theorem RowIs.set {W : World} {X : BSet} {sz : Nat} {d : D} {c : List Value} (hl : c.length = sz) (h : RdC W X d c) : ∀ {ds : List D} {cs : List Value} (i : Nat), i < ds.length → RowIs W X sz ds cs → RowIs W X sz (ds.set i d) (splice cs (i * sz) c)
  | [], _, i, hi, _ => by simp at hi
  | e :: ds, cs, 0, _, hr => by
    simp only [RowIs] at hr
    obtain ⟨c1, r, rfl, h1, h2, h3⟩ := hr
    simp only [List.set_cons_zero, RowIs]
    exact ⟨c, r, by simp [splice, hl, ← h1], hl, h, h3⟩
  | e :: ds, cs, i + 1, hi, hr => by
    simp only [RowIs] at hr
    obtain ⟨c1, r, rfl, h1, h2, h3⟩ := hr
    simp only [List.set_cons_succ, RowIs]
    refine ⟨c1, splice r (i * sz) c, ?_, h1, h2, RowIs.set hl h i (by simpa using hi) h3⟩
    unfold splice
    rw [Nat.add_mul, Nat.one_mul, Nat.add_comm (i * sz) sz, ← h1, List.take_append, List.drop_append]
    simp [List.take_of_length_le, Nat.add_assoc]
theorem arr_open {W : World} {lo : Nat} {e : TypeId} {sz : Nat} {X : BSet} {ds : List D} {v : Value} {hd : Option Nat} (h : Arr W lo e sz X ds v hd) (hn : 0 < ds.length) : ∃ g cap, v = .slice (some ⟨g, 0, none⟩) ds.length cap ∧ hd = some g := by
  obtain ⟨h1, cs, h2, _⟩ := h
  rcases h2.2 with ⟨_, h0⟩ | ⟨g, cap, cur, rfl, _⟩
  · omega
  · exact ⟨g, cap, rfl, h1.symm⟩
section
variable {P : Program} {ops : Array Oper} {S : Nat → Prop} {w0 : World} {a0 : Act} {Γ : Ctx}
variable {d : Option Tmp} {ty : TypeId} {pos : String} {af : Array Edge} {gd : Option (Nat × Bool)}
theorem sp_rem {x y : Operand} {k : IntKind} {m n : Int} {T T' : TypeId} (hx : Has S w0 a0 Γ x (Is (.int k m))) (hy : Has S w0 a0 Γ y (Is (.int k n))) (hn : n ≠ 0) : Spec P ops S w0 a0 Γ ⟨d, .binOp .rem T x y T', ty, pos, af, gd⟩ (Is (.int k (m.tmod n))) := sp_val fun a g W hk hg he => by
  have e1 : a.eval x = .int k m := hx.of_env hk hg he (by simp [Op.operands])
  have e2 : a.eval y = .int k n := hy.of_env hk hg he (by simp [Op.operands])
  simp [execOp, e1, e2, binOp, Op.intArith, Op.intDiv, eqGuard, hn]
theorem sp_mkA {x y : Operand} {T E : TypeId} {n sz bytes lo : Nat} {z : Value} {zd : D} {X : BSet} (hT : P.underlying T = some (.slice E)) (hi : inf P E sz bytes) (hz : zeroOf P E = some z) (hsz : 0 < sz) (hzd : ∀ W X, RdC W X zd z.cells.toList) (hx : Has S w0 a0 Γ x (Is (.int .i64 n))) (hy : Has S w0 a0 Γ y (Is (.int .i64 n)))
    (hn : n * sz ≤ 16777216) (hb : bytes * n ≤ 281474976710656) (hm : n ≤ maxLen) (hlo : lo ≤ w0.heap.size) : Spec P ops S w0 a0 Γ ⟨d, .makeSlice T x y, ty, pos, af, gd⟩ (IsArr w0 lo E sz X (List.replicate n zd) none) := fun a g W hk hg he => by
  have e1 : a.eval x = .int .i64 n := hx.of_env hk hg he (by simp [Op.operands])
  have e2 : a.eval y = .int .i64 n := hy.of_env hk hg he (by simp [Op.operands])
  obtain ⟨i, z', h1, h2, h3, h4, h5⟩ := hi
  have ez : z' = z := by
    unfold zeroOf at hz; rw [h1] at hz; simp [h2] at hz; exact hz
  subst ez
  have hm' : n ≤ 9223372036854775807 := by simp only [maxLen] at hm; omega
  have hr := run_makeSlice (P := P) W T E i _ hT h1 h2 .i64 .i64 n n (by omega) (by omega) (by rw [h3]; simpa using hn) (by rw [h4]; omega) (by omega)
  have hrun : (execOp a.eval ⟨d, .makeSlice T x y, ty, pos, af, gd⟩).run P W = .ok (.value (.slice (some ⟨W.heap.size, 0, none⟩) n n)) (W.alloc (.cells (madeCells z'.cells (n * sz)) E)) := by
    simp only [execOp, e1, e2, Sem.run_bind]
    rw [hr]; simp [h3]
  unfold OpRuns
  rw [hrun]
  have hnew : (W.alloc (.cells (madeCells z'.cells (n * sz)) E)).heap[W.heap.size]? = some (.cells (madeCells z'.cells (n * sz)) E (0, 0)) := by
    show (W.heap.push _)[W.heap.size]? = _
    simp
  have hlist : (madeCells z'.cells (n * sz)).toList = (List.replicate n z'.cells.toList).flatten := by rw [← h5]; exact made_list _ (by omega) n
  refine ⟨ext_alloc _ _, some W.heap.size, ⟨rfl, (madeCells z'.cells (n * sz)).toList, ⟨by simp [madeCells], .inr ⟨W.heap.size, n, madeCells z'.cells (n * sz), by simp, Nat.le_trans hlo hk.size, hnew, by simp, hm, by simp [madeCells], by rw [List.take_of_length_le (by simp [madeCells])]⟩⟩, ?_⟩, fun b hb => .inr ?_⟩
  · rw [hlist]
    exact row_rep (by simpa using h5) (hzd _ _) n
  · simp [blks] at hb; subst hb; exact hk.size
theorem sp_indexRow {x y : Operand} {T E : TypeId} {g0 n cap i o sz : Nat} {j : Int} (hx : Has S w0 a0 Γ x (Is (.slice (some ⟨g0, 0, none⟩) n cap))) (hy : Has S w0 a0 Γ y (Is (.int .i64 j))) (hT : P.underlying T = some (.slice E)) (hz : szOf P E = some sz) (hsz : 0 < sz) (hj : j = i) (hi : i < n) (ho : i * sz = o) :
    Spec P ops S w0 a0 Γ ⟨d, .indexAddr T x y, ty, pos, af, gd⟩ (Is (.pointer (some ⟨g0, o, none⟩))) := sp_val fun a g W hk hg he => by
  have e1 : a.eval x = .slice (some ⟨g0, 0, none⟩) n cap := hx.of_env hk hg he (by simp [Op.operands])
  have e2 : a.eval y = .int .i64 j := hy.of_env hk hg he (by simp [Op.operands])
  subst hj; subst ho
  have hi2 : (0 : Int) ≤ (i : Int) ∧ (i : Int) < (n : Int) := by omega
  have hadd : (⟨g0, 0, none⟩ : Addr).add (i * sz) = ⟨g0, i * sz, none⟩ := by rw [add_none]; simp
  simp [execOp, e1, e2, Instr.indexAt, asIntOf, run_und hT, run_szOf hz, hi, hadd]
theorem tail_storeA {Q : Exit → Act → World → Prop} {r : List Oper} {a : Act} {W : World} {T : TypeId} {E : TypeId} {x y : Operand} {g0 n cap o sz i lo : Nat} {v : Value} {X : BSet} {ds : List D} {dd : D}
    (hx : a.eval x = .pointer (some ⟨g0, o, none⟩)) (hy : a.eval y = v) (hz : szOf P T = some sz) (hA : Arr W lo E sz X ds (.slice (some ⟨g0, 0, none⟩) n cap) (some g0)) (hi : i < ds.length) (ho : i * sz = o) (hX : ∀ b o, X b o → b ≠ g0)
    (hv : Rd W X dd v) (hw : width dd = sz)
    (h : ∀ W', Keeps (fun k => k ≠ g0) W W' → Arr W' lo E sz X (ds.set i dd) (.slice (some ⟨g0, 0, none⟩) n cap) (some g0) → runTail P ops Q r a W') :
    runTail P ops Q (⟨none, .store T x y, ty, pos, af, none⟩ :: r) a W := by
  obtain ⟨c, hc, rfl⟩ := hv
  have hcl : c.length = sz := (rdc_width _ _ hc).trans hw
  have hcells : (asm dd c).cells = c.toArray := cells_asm hc
  obtain ⟨h1, cs, ⟨hlen, hown⟩, hrow⟩ := hA
  rcases hown with ⟨h0, _⟩ | ⟨g, cap', cur, hs, hlo, hg, hnc, hcm, hcs, htake⟩
  · cases h0
  simp at hs
  obtain ⟨rfl, rfl, rfl⟩ := hs
  subst ho
  have hfit : i * sz + sz ≤ ds.length * sz := by rw [← Nat.succ_mul]; exact Nat.mul_le_mul_right _ hi
  have hcur : ds.length * sz ≤ cur.size := by rw [hcs]; exact Nat.mul_le_mul_right _ hnc
  have ho : Own W g0 cur.toList E := by unfold Own; simpa using hg
  refine tail_store (b := g0) (o := i * sz) (v := asm dd c) hx hy hz (by rw [hcells]; simpa using hcl) ho (by simp; omega) (by rw [hcells]; simpa using rdc_one dd c hc) fun W' hk ho' => h W' hk ?_
  rw [hcells] at ho'
  have hlen' : (splice cur.toList (i * sz) c).length = cur.size := by simp [splice]; omega
  have hsp : (splice cur.toList (i * sz) c).take (ds.length * sz) = splice cs (i * sz) c := by
    rw [← htake]
    unfold splice
    rw [List.take_append, List.take_append]
    simp only [List.length_append, List.length_take, Array.length_toList, List.take_take]
    rw [Nat.min_eq_left (by omega : i * sz ≤ cur.size), Nat.min_eq_right (by omega : i * sz ≤ ds.length * sz)]
    rw [show min (i * sz) (ds.length * sz) = i * sz by omega]
    rw [List.take_of_length_le (by omega : c.length ≤ ds.length * sz - i * sz), List.drop_take]
  refine ⟨rfl, splice cs (i * sz) c, ⟨?_, .inr ⟨g0, cap, (splice cur.toList (i * sz) c).toArray, by simp, hlo, by unfold Own at ho'; simpa using ho', by simpa using hnc, hcm, by simp [hlen', hcs], by simpa using hsp⟩⟩, ?_⟩
  · rw [← hsp]; simp [hlen']; omega
  · exact RowIs.set hcl (hc.keeps hk hX) i hi (hrow.move hk.size fun b hb hlt => ⟨hk.block b hlt (hX b _ hb), by rw [hk.block b hlt (hX b _ hb)]; exact hb⟩)
theorem rdl_take {W : World} {X : BSet} {b sz : Nat} : ∀ (ds : List D) (h o : Nat), RdL W X b sz ds o → RdL W X b sz (ds.take h) o
  | [], h, _, _ => by simp [RdL]
  | d :: ds, 0, _, _ => by simp [RdL]
  | d :: ds, h + 1, o, hr => by
    simp only [List.take_succ_cons, RdL] at hr ⊢
    exact ⟨hr.1, rdl_take ds h _ hr.2⟩
theorem sp_sliceDHi {x y : Operand} {T E : TypeId} {X : BSet} {sz h : Nat} {j : Int} {ds : List D} (hT : P.underlying T = some (.slice E)) (hz : szOf P E = some sz) (hx : Has S w0 a0 Γ x (IsD X (.lst sz ds))) (hy : Has S w0 a0 Γ y (Is (.int .i64 j))) (hj : j = h) (hh : h ≤ ds.length) (hne : 0 < ds.length) :
    Spec P ops S w0 a0 Γ ⟨d, .slice T x none (some y) none, ty, pos, af, gd⟩ (IsD X (.lst sz (ds.take h))) := fun a g W hk hg he => by
  have hd := hx.of_env hk hg he (by simp [Op.operands])
  have e2 : a.eval y = .int .i64 j := hy.of_env hk hg he (by simp [Op.operands])
  obtain ⟨cs, h1, e1⟩ := hd
  simp only [RdC] at h1
  obtain ⟨ad, cap, rfl, hc1, hc2, h4⟩ := h1
  simp only [asm, List.headD] at e1
  rcases h4 with rfl | ⟨b, o, rfl, hb, hlt, hl⟩
  · simp at hne
  subst hj
  have hjc : (h : Int) ≤ (cap : Int) := by omega
  have hrun : (execOp a.eval ⟨d, .slice T x none (some y) none, ty, pos, af, gd⟩).run P W = .ok (.value (.slice (some ⟨b, o, none⟩) h cap)) W := by
    have hadd : (⟨b, o, none⟩ : Addr).add 0 = ⟨b, o, none⟩ := by simp [Addr.add]
    simp [execOp, Instr.sliceAt, Instr.slice, Instr.sliceBounds, Instr.sliceBound, asIntOf, e1, e2, run_und hT, run_szOf hz, hjc, hadd]
    intro hlt'; omega
  unfold OpRuns
  rw [hrun]
  refine ⟨.refl _ _, [.slice (some ⟨b, o, none⟩) h cap], ?_, rfl⟩
  simp only [RdC]
  have hl2 : (ds.take h).length = h := by simp; omega
  exact ⟨some ⟨b, o, none⟩, cap, by rw [hl2], by omega, hc2, .inr ⟨b, o, rfl, hb, hlt, rdl_take ds h o hl⟩⟩
end
theorem rdC_zV (W : World) (X : BSet) : RdC W X (V.d V.zero) [.int .u8 0, .int .i64 0, .string ⟨#[]⟩, .slice none 0 0, .slice none 0 0] := by
  rw [V.d_eq]; simp only [RdC]; exact zV W X
theorem rdC_zS (W : World) (X : BSet) : RdC W X (D.str ⟨#[]⟩) [.string ⟨#[]⟩] := by simp only [RdC]; exact ⟨trivial, by decide⟩
section
variable {P : Program} {ops : Array Oper} {S : Nat → Prop} {w0 : World} {a0 : Act} {Γ : Ctx}
variable {d : Option Tmp} {ty : TypeId} {pos : String} {af : Array Edge} {gd : Option (Nat × Bool)}
theorem sp_sliceDV {x y : Operand} {T E : TypeId} {X : BSet} {h : Nat} {j : Int} {xs : List V} (hT : P.underlying T = some (.slice E)) (hz : szOf P E = some 5) (hx : Has S w0 a0 Γ x (IsD X (valsD xs))) (hy : Has S w0 a0 Γ y (Is (.int .i64 j))) (hj : j = h) (hh : h ≤ xs.length) (hne : 0 < xs.length) :
    Spec P ops S w0 a0 Γ ⟨d, .slice T x none (some y) none, ty, pos, af, gd⟩ (IsD X (valsD (xs.take h))) := by
  have := sp_sliceDHi (ty := ty) (pos := pos) (af := af) (gd := gd) (d := d) (ops := ops) (P := P) (X := X) (ds := xs.map V.d) hT hz hx hy hj (by simpa using hh) (by simpa using hne)
  rw [← List.map_take] at this; exact this
theorem sp_sliceDS {x y : Operand} {T E : TypeId} {X : BSet} {h : Nat} {j : Int} {xs : List ByteArray} (hT : P.underlying T = some (.slice E)) (hz : szOf P E = some 1) (hx : Has S w0 a0 Γ x (IsD X (strsD xs))) (hy : Has S w0 a0 Γ y (Is (.int .i64 j))) (hj : j = h) (hh : h ≤ xs.length) (hne : 0 < xs.length) :
    Spec P ops S w0 a0 Γ ⟨d, .slice T x none (some y) none, ty, pos, af, gd⟩ (IsD X (strsD (xs.take h))) := by
  have := sp_sliceDHi (ty := ty) (pos := pos) (af := af) (gd := gd) (d := d) (ops := ops) (P := P) (X := X) (ds := xs.map D.str) hT hz hx hy hj (by simpa using hh) (by simpa using hne)
  rw [← List.map_take] at this; exact this
end
end Go.Eng
