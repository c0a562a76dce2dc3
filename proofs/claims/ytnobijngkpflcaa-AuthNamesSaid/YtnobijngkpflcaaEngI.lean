/-
  Conversions, closures, bytes.
-/
import Derived.Test.YtnobijngkpflcaaEngH
import Derived.Laws.MakeOwn
import Derived.Laws.BytesString
import Derived.Laws.Shifts
namespace Go.Eng
theorem u64_in {n : Int} (h : 0 ≤ n ∧ n ≤ 18446744073709551615) : IntKind.u64.wrap n = n := by simp [IntKind.wrap, IntKind.bits, IntKind.signed]; omega
def bytesD (ns : List Int) : D := .lst 1 (ns.map (D.int .u8))
def ofBytes (ns : List Int) : ByteArray := ns.foldl (fun r n => r.push (UInt8.ofNat n.toNat)) ByteArray.empty
section
variable {P : Program} {ops : Array Oper} {S : Nat → Prop} {w0 : World} {a0 : Act} {Γ : Ctx}
variable {d : Option Tmp} {ty : TypeId} {pos : String} {af : Array Edge} {gd : Option (Nat × Bool)}
theorem sp_conv {x : Operand} {A B : TypeId} {k k' k2 : IntKind} {m m' : Int} (hA : P.underlying A = some (.int k2)) (hB : P.underlying B = some (.int k')) (hx : Has S w0 a0 Γ x (Is (.int k m))) (hm : k'.wrap m = m') :
    Spec P ops S w0 a0 Γ ⟨d, .convert A B x, ty, pos, af, gd⟩ (Is (.int k' m')) := sp_val fun a g W hk hg he => by
  have e1 : a.eval x = .int k m := hx.of_env hk hg he (by simp [Op.operands])
  simp [execOp, convert, run_und hA, run_und hB, e1, Conv.intToInt, hm]
theorem sp_shr1 {x : Operand} {T T' : TypeId} {k k2 : IntKind} {m : Int} (hx : Has S w0 a0 Γ x (Is (.int k m))) :
    Spec P ops S w0 a0 Γ ⟨d, .binOp .shr T x (.const (.int k2 1)) T', ty, pos, af, gd⟩ (Is (.int k (m / 2))) := sp_val fun a g W hk hg he => by
  have e1 : a.eval x = .int k m := hx.of_env hk hg he (by simp [Op.operands])
  have e2 : a.eval (.const (.int k2 1)) = .int k2 1 := rfl
  have hb : min (1 : Int).toNat k.bits = 1 := by cases k <;> rfl
  have := shift_shr_any k k2 m 1 (by omega)
  rw [hb] at this
  simp [execOp, e1, e2, binOp, eqGuard, this]
theorem sp_mkF0 {f : FuncId} {caps : Array Operand} {vs : Array Value} (h : ∀ a g W, Keeps S w0 W → GOk w0 W g → Env Γ a0 a g W (Oper.looksAt ops ⟨d, .makeFunc (.func f) #[] caps, ty, pos, af, gd⟩) → caps.map a.eval = vs) :
    Spec P ops S w0 a0 Γ ⟨d, .makeFunc (.func f) #[] caps, ty, pos, af, gd⟩ (Is (.func (.func f) #[] vs)) := sp_val fun a g W hk hg he => by
  have := h a g W hk hg he
  simp [execOp, Instr.makeFunc, this]
theorem sp_mkF2 {f : FuncId} {x y : Operand} {u v : Value} (hx : Has S w0 a0 Γ x (Is u)) (hy : Has S w0 a0 Γ y (Is v)) :
    Spec P ops S w0 a0 Γ ⟨d, .makeFunc (.func f) #[] #[x, y], ty, pos, af, gd⟩ (Is (.func (.func f) #[] #[u, v])) := sp_mkF0 fun a g W hk hg he => by
  have e1 : a.eval x = u := hx.of_env hk hg he (by simp [Op.operands])
  have e2 : a.eval y = v := hy.of_env hk hg he (by simp [Op.operands])
  simp [e1, e2]
theorem sp_callF1 {q x : Operand} {f : FuncId} {cb : Array Value} {u : Value} {ts : Array TypeId} {φ : Fact} (hf : Enters P f) (hq : Has S w0 a0 Γ q (Is (.func (.func f) #[] cb))) (hx : Has S w0 a0 Γ x (Is u))
    (hc : ∀ g W, Keeps S w0 W → GOk w0 W g → Calls P f (#[u] ++ cb) W (Ret W (φ g))) :
    Spec P ops S w0 a0 Γ ⟨d, .call ⟨.value q, #[x], ts⟩, ty, pos, af, gd⟩ φ := fun a g W hk hg he => by
  have e1 : a.eval q = .func (.func f) #[] cb := hq.of_env hk hg he (by simp [Op.operands, Call.operands])
  have e2 : a.eval x = u := hx.of_env hk hg he (by simp [Op.operands, Call.operands])
  have hrun : (execOp a.eval ⟨d, .call ⟨.value q, #[x], ts⟩, ty, pos, af, gd⟩).run P W = .ok (.enter f (#[u] ++ cb)) W := by
    have hf' : ∀ (args : Array Value) w, (callFunc f args).run P w = .ok (.enter f args) w := hf
    simp [execOp, resolve, e1, e2, Deferred.ofValue, invoke, hf']
  unfold OpRuns
  rw [hrun]
  exact (hc g W hk hg).mono fun e W' ⟨v, h1, h2, h3⟩ => ⟨v, h1, h2, h3⟩

/-- a number that simp leaves as it is -/
def lit (n : Nat) : Nat := n
theorem made_zero (n : Nat) : (madeCells (Value.int .u8 0).cells n).toList = (List.replicate n (0 : Int)).map (Value.int .u8) := by
  apply List.ext_getElem
  · simp [madeCells]
  · intro i h1 h2
    simp [madeCells, Value.cells, Nat.mod_one]
theorem row_bytes {W : World} {X : BSet} : ∀ (ns : List Int), RowIs W X 1 (ns.map (D.int .u8)) (ns.map (Value.int .u8))
  | [] => rfl
  | n :: ns => ⟨[.int .u8 n], ns.map (Value.int .u8), rfl, rfl, rfl, row_bytes ns⟩
theorem row_bytes_eq {W : World} {X : BSet} : ∀ (ns : List Int) (cs : List Value), RowIs W X 1 (ns.map (D.int .u8)) cs → cs = ns.map (Value.int .u8)
  | [], cs, h => by simpa only [List.map_nil, RowIs] using h
  | n :: ns, cs, h => by
    simp only [List.map_cons, RowIs] at h
    obtain ⟨c, r, h0, h1, h2, h3⟩ := h
    simp only [RdC] at h2
    rw [h0, h2, row_bytes_eq ns r h3]; rfl
theorem sp_mkZ {x y : Operand} {T E : TypeId} {n : Nat} {X : BSet} (hT : P.underlying T = some (.slice E)) (hi : inf P E 1 1) (hz : zeroOf P E = some (.int .u8 0)) (hx : Has S w0 a0 Γ x (Is (.int .i64 n))) (hy : Has S w0 a0 Γ y (Is (.int .i64 n))) (hn : n ≤ 16777216)
    (hX : ∀ b o, Fr w0 b o → X b o) : Spec P ops S w0 a0 Γ ⟨d, .makeSlice T x y, ty, pos, af, gd⟩ (IsD X (bytesD (List.replicate n 0))) := fun a g W hk hg he => by
  have e1 : a.eval x = .int .i64 n := hx.of_env hk hg he (by simp [Op.operands])
  have e2 : a.eval y = .int .i64 n := hy.of_env hk hg he (by simp [Op.operands])
  obtain ⟨i, z, h1, h2, h3, h4, h5⟩ := hi
  have ez : z = .int .u8 0 := by
    unfold zeroOf at hz; rw [h1] at hz; simp [h2] at hz; exact hz
  subst ez
  have hr := run_makeSlice (P := P) W T E i _ hT h1 h2 .i64 .i64 n n (by omega) (by omega) (by simp [h3]; omega) (by rw [h4]; omega) (by omega)
  have hrun : (execOp a.eval ⟨d, .makeSlice T x y, ty, pos, af, gd⟩).run P W = .ok (.value (.slice (some ⟨W.heap.size, 0, none⟩) n n)) (W.alloc (.cells (madeCells (Value.int .u8 0).cells n) E)) := by
    simp only [execOp, e1, e2, Sem.run_bind]
    rw [hr]; simp [h3]
  unfold OpRuns
  rw [hrun]
  refine ⟨ext_alloc _ _, ?_⟩
  have hnew : (W.alloc (.cells (madeCells (Value.int .u8 0).cells n) E)).heap[W.heap.size]? = some (.cells (madeCells (Value.int .u8 0).cells n) E (0, 0)) := by
    show (W.heap.push _)[W.heap.size]? = _
    simp
  have hfr := fresh_out hk hg W.heap.size _ ⟨Nat.le_refl _, ⟨_, _, hnew⟩⟩
  have := rd_of_row (W := W.alloc (.cells (madeCells (Value.int .u8 0).cells n) E)) (o := 0) (b := W.heap.size) (cap := n) (ds := (List.replicate n (0 : Int)).map (D.int .u8)) (X := fun b o => X b o ∧ Out g b) (by simp) (by simp only [maxLen]; omega) ⟨hX _ _ hfr.1, hfr.2⟩ (by simp) (cs := (List.replicate n (0 : Int)).map (Value.int .u8)) (fun j hj => by
      unfold World.cell?
      rw [hnew]
      simp only [← made_zero] at hj ⊢
      simp at hj
      simp [hj]) (row_bytes _)
  simpa [IsD, bytesD] using this
theorem sp_b2s {x : Operand} {A B E : TypeId} {X : BSet} {ns : List Int} (hA : P.underlying A = some (.slice E)) (hE : P.underlying E = some (.int .u8)) (hB : P.underlying B = some .string) (hx : Has S w0 a0 Γ x (IsD X (bytesD ns))) :
    Spec P ops S w0 a0 Γ ⟨d, .convert A B x, ty, pos, af, gd⟩ (Is (.string (ofBytes ns))) := sp_val fun a g W hk hg he => by
  have h := hx.of_env hk hg he (by simp [Op.operands])
  rcases rd_row (show Rd W _ (.lst 1 (ns.map (D.int .u8))) _ from h) with ⟨h0, ad, cap, e1⟩ | ⟨b, o, cap, cs, e1, _, _, hc, hr⟩
  · have : ns = [] := by simpa using h0
    subst this
    have hc := run_convert_bytes_string (P := P) W A B E ad 0 cap hA hE hB
    simp only [execOp, e1, Sem.run_bind, hc]
    cases ad with
    | none => simp [Conv.bytesToString, ofBytes]
    | some ad =>
      have := run_bytesToString (P := P) W ad 0 cap [] (by simp [loadCells, loadCellsFrom])
      rw [this]; rfl
  · have ecs := row_bytes_eq ns cs hr
    subst ecs
    have hc' := run_convert_bytes_string (P := P) W A B E (some ⟨b, o, none⟩) (ns.map (D.int .u8)).length cap hA hE hB
    have hl := run_loadCellsFrom (P := P) hc (ns.map (Value.int .u8)).length 0 #[] (by simp)
    have := run_bytesToString (P := P) W ⟨b, o, none⟩ (ns.map (D.int .u8)).length cap ns (by simpa [loadCells] using hl)
    simp only [execOp, e1, Sem.run_bind, hc', this]
    rfl
end
theorem rd_ar_sf {S0 S1 : Nat → Prop} {w w0 W W' : World} {M : List Nat} {g : Gh} {d : D} {u : Value} (kw : Keeps S0 w w0) (hM : ∀ b ∈ M, b < w0.heap.size) (hk : Keeps S1 w0 W) (hg : GOk w0 W g) (h : Rd W' (Ar W (fun b o => SF w M b o ∧ Out g b)) d u) : IsD (SF w M) d g u W' :=
  h.mono fun b o hb _ => by
    by_cases hlt : b < W.heap.size
    · exact hb.1 hlt
    · have h1 := kw.size
      have h2 := hk.size
      exact ⟨⟨by omega, hb.2 (by omega), fun hm => by have := hM b hm; omega⟩, fun t ht => by have := hg.hi t b ht; omega⟩
theorem ret_arF {S0 S1 : Nat → Prop} {w w0 W : World} {M : List Nat} {g : Gh} {d : D} (kw : Keeps S0 w w0) (hM : ∀ b ∈ M, b < w0.heap.size) (hk : Keeps S1 w0 W) (hg : GOk w0 W g) : ∀ e W', Ret W (fun u W' => Rd W' (Ar W (fun b o => SF w M b o ∧ Out g b)) d u) e W' → Ret W (IsD (SF w M) d g) e W' :=
  fun _ _ ⟨v, h1, h2, h3⟩ => ⟨v, h1, h2, rd_ar_sf kw hM hk hg h3⟩
theorem rd_ar_fr {S1 : Nat → Prop} {w0 W W' : World} {g : Gh} {d : D} {u : Value} (hk : Keeps S1 w0 W) (hg : GOk w0 W g) (h : Rd W' (Ar W (fun b o => Fr w0 b o ∧ Out g b)) d u) : IsD (Fr w0) d g u W' :=
  h.mono fun b o hb _ => by
    by_cases hlt : b < W.heap.size
    · exact hb.1 hlt
    · have h2 := hk.size
      exact ⟨⟨by omega, hb.2 (by omega)⟩, fun t ht => by have := hg.hi t b ht; omega⟩
theorem ret_arR {S1 : Nat → Prop} {w0 W : World} {g : Gh} {d : D} (hk : Keeps S1 w0 W) (hg : GOk w0 W g) : ∀ e W', Ret W (fun u W' => Rd W' (Ar W (fun b o => Fr w0 b o ∧ Out g b)) d u) e W' → Ret W (IsD (Fr w0) d g) e W' :=
  fun _ _ ⟨v, h1, h2, h3⟩ => ⟨v, h1, h2, rd_ar_fr hk hg h3⟩

/-! ### rows that begin inside a region -/
section
variable {P : Program} {ops : Array Oper} {S : Nat → Prop} {w0 : World} {a0 : Act} {Γ : Ctx}
variable {d : Option Tmp} {ty : TypeId} {pos : String} {af : Array Edge} {gd : Option (Nat × Bool)}
variable {K : List Oper → Ctx → (World → Prop) → List Bool → Prop} {l : List Oper} {Ψ Ψ' : World → Prop} {ms : List Bool} {fl : Bool}
theorem sp_bslA {T E : TypeId} {lo : Nat} {X : BSet} (hT : P.underlying T = some (.slice E)) {sz : Nat} (hz : szOf P E = some sz) (hlo : lo ≤ w0.heap.size) : Spec P ops S w0 a0 Γ ⟨d, .buildSlice T 0 #[], ty, pos, af, gd⟩ (IsArr w0 lo E sz X [] none) := fun a g W hk hg he => by
  have hrun : (execOp a.eval ⟨d, .buildSlice T 0 #[], ty, pos, af, gd⟩).run P W = .ok (.value (.slice (some ⟨W.heap.size, 0, none⟩) 0 0)) (W.alloc (.cells #[] E)) := by
    simp [execOp, Instr.buildSlice, run_und hT, run_szOf hz, Instr.fill, newRow, newObj, Sem.run]
    congr 2; apply Array.ext'; simp
  unfold OpRuns
  rw [hrun]
  refine ⟨ext_alloc _ _, some W.heap.size, ⟨rfl, [], ⟨by simp, .inr ⟨W.heap.size, 0, #[], rfl, Nat.le_trans hlo hk.size, own_alloc W [] E, by simp, by simp, by simp, by simp⟩⟩, rfl⟩, fun b hb => .inr ?_⟩
  simp [blks] at hb; subst hb; exact hk.size
theorem run_app0 {W : World} {lo : Nat} {t e : TypeId} {sz bytes n : Nat} {v : Value} {xs : List Value} (ht : P.underlying t = some (.slice e)) (hinf : inf P e sz bytes) (hown : W.ownsRow lo e sz v n xs) (ad : Option Addr) (c : Nat) :
    (Builtin.append_ #[t, t] ty #[v, .slice ad 0 c]).run P W = .ok v W := by
  obtain ⟨i, z, hi, hz, hs1, hs2, hzs⟩ := hinf
  rcases hown.2 with ⟨rfl, rfl⟩ | ⟨g, cap, cur, rfl, hbg, hg, hnc, hcm, hcs, htake⟩
  · cases ad <;> simp [Builtin.append_, run_und ht, sizeOf, typeInfo, hi, Builtin.lenOf, Builtin.firstCells, storeCells, loadCells, loadCellsFrom]
  · cases ad <;> simp [Builtin.append_, run_und ht, sizeOf, typeInfo, hi, Builtin.lenOf, Builtin.firstCells, storeCells, loadCells, loadCellsFrom, hnc]
theorem Chain.appB {x y : Operand} {T E : TypeId} {lo sz bytes : Nat} {ds es : List D} {X : BSet} {hd : Option Nat} {v : Value} (hT : P.underlying T = some (.slice E)) (hi : inf P E sz bytes) (hsz : 0 < sz)
    (hx : Has (fun k => k ∉ blks hd) w0 a0 Γ x (Is v)) (hy : Has (fun k => k ∉ blks hd) w0 a0 Γ y (IsD X (.lst sz es))) (hX : ∀ b o, X b o → b ∉ blks hd)
    (h63 : ds.length + es.length ≤ maxLen) (hb : (ds.length + es.length) * bytes ≤ 140737488355328) (hlo : lo ≤ w0.heap.size)
    (h : Chain P ops (fun k => k ∉ blks hd) w0 a0 K true l ((d, IsArr w0 lo E sz X (ds ++ es) hd) :: Γ) Tr (true :: ms)) :
    Chain P ops (fun k => k ∉ blks hd) w0 a0 K false (⟨d, .call ⟨.builtin .append, #[x, y], #[T, T]⟩, ty, pos, af, none⟩ :: l) Γ (fun W => Arr W lo E sz X ds v hd) ms := by
  refine .last _ Tr st_arr st_tr (fun a g W hk hg he hψ => ?_) h
  have hxe : a.eval x = v := hx.of_env hk hg he (by simp [Op.operands, Call.operands])
  have hyd := hy.of_env hk hg he (by simp [Op.operands, Call.operands])
  have hw : Region.wanted (⟨d, .call ⟨.builtin .append, #[x, y], #[T, T]⟩, ty, pos, af, none⟩ : Oper) (yielded ops a.tmps) = true := rfl
  unfold ObRun; rw [if_pos hw]
  unfold OpRuns
  obtain ⟨hv, cs, hown, hrow⟩ := hψ
  have hzero : ∀ ad c, a.eval y = .slice ad 0 c → es = [] → match (execOp a.eval ⟨d, .call ⟨.builtin .append, #[x, y], #[T, T]⟩, ty, pos, af, none⟩).run P W with
      | .ok (.value v) W' => Keeps (fun k => k ∉ blks hd) W W' ∧ IsArr w0 lo E sz X (ds ++ es) hd g v W' ∧ Tr W'
      | .ok .skip W' => Keeps (fun k => k ∉ blks hd) W W' ∧ IsArr w0 lo E sz X (ds ++ es) hd g undef W' ∧ Tr W'
      | .ok (.enter f args) W' => Calls P f args W' fun e W'' => ∃ v, e = .returned v ∧ Keeps (fun k => k ∉ blks hd) W W'' ∧ IsArr w0 lo E sz X (ds ++ es) hd g v W'' ∧ Tr W''
      | _ => False := fun ad c ey he0 => by
    have hop : (execOp a.eval ⟨d, .call ⟨.builtin .append, #[x, y], #[T, T]⟩, ty, pos, af, none⟩).run P W = .ok (.value v) W := by
      simp [execOp, resolve, invoke, builtin, hxe, ey, run_app0 (ty := ty) hT hi hown ad c]
    rw [hop]
    subst he0
    refine ⟨.refl _ _, ⟨hd, ⟨hv, cs, by simpa using hown, ?_⟩, fun b hb => .inl hb⟩, trivial⟩
    rw [List.append_nil]
    exact hrow.move (Nat.le_refl _) fun b hb _ => ⟨rfl, hb, hX b _ hb⟩
  rcases rd_row hyd with ⟨h0, ad, cap, ey⟩ | ⟨b, o, cap, cs2, ey, hbx, hlt, hc, hr⟩
  · exact hzero ad cap ey h0
  by_cases hne : 0 < es.length
  · obtain ⟨v', W', hrun, hown', hk', hfr⟩ := run_app (P := P) (ty := ty) (c := cap) hT hi hsz hown hr.length (cells_addr hc) (fun u hu => by rw [oneC_eq]; exact hr.one u hu) h63 hb (Nat.le_trans hlo hk.size) hne
    have hop : (execOp a.eval ⟨d, .call ⟨.builtin .append, #[x, y], #[T, T]⟩, ty, pos, af, none⟩).run P W = .ok (.value v') W' := by
      simp [execOp, resolve, invoke, builtin, hxe, ey, hrun]
    rw [hop]
    rw [hv] at hk' hfr
    have hnb : ∀ b o, X b o → b < W.heap.size → b ∉ blks v'.ownBlock := fun b o hb hlt hm => (hfr b hm).elim (hX b o hb) (by omega)
    refine ⟨hk', ⟨v'.ownBlock, ⟨rfl, cs ++ cs2, by rw [List.length_append]; exact hown', RowIs.append ?_ ?_⟩, fun b hb => (hfr b hb).imp id fun h => Nat.le_trans hk.size h⟩, trivial⟩
    · exact hrow.move hk'.size fun b hb hlt => ⟨hk'.block b hlt (hX b _ hb), by rw [hk'.block b hlt (hX b _ hb)]; exact hb, hnb b _ hb hlt⟩
    · exact hr.move hk'.size fun b hb hlt => ⟨hk'.block b hlt (hX b _ hb.1), by rw [hk'.block b hlt (hX b _ hb.1)]; exact hb.1, hnb b _ hb.1 hlt⟩
  · have h0 : es = [] := List.length_eq_zero_iff.1 (by omega)
    subst h0
    exact hzero _ cap ey rfl
theorem row_new {W : World} {hd : Option Nat} (h : ∀ b ∈ blks hd, b ∈ blks none ∨ W.heap.size ≤ b) : ∀ b ∈ blks hd, W.heap.size ≤ b := fun b hb => (h b hb).resolve_left (by simp [blks])
end
end Go.Eng
