/-
  Maps from strings to ints of the call's own.
-/
import Derived.Test.YtnobijngkpflcaaEngK
import Derived.MapKept
namespace Go.Eng
theorem u8_in {n : Int} (h : 0 ≤ n ∧ n < 256) : IntKind.u8.wrap n = n := by
  simp only [IntKind.wrap, IntKind.signed, IntKind.bits]
  simp
  omega
abbrev As := List (ByteArray × Int)
def mget : As → ByteArray → Int
  | [], _ => 0
  | (s, n) :: r, k => if k = s then n else mget r k
def mset : As → ByteArray → Int → As
  | [], k, n => [(k, n)]
  | (s, m) :: r, k, n => if k = s then (s, n) :: r else (s, m) :: mset r k n
def midx : As → ByteArray → Option (Nat × Int)
  | [], _ => none
  | (s, n) :: r, k => if k = s then some (0, n) else (midx r k).map fun q => (q.1 + 1, q.2)
theorem mget_set (A : As) (k j : ByteArray) (n : Int) : mget (mset A k n) j = if j = k then n else mget A j := by
  induction A with
  | nil => simp only [mset, mget]
  | cons q A ih =>
    obtain ⟨s, m⟩ := q
    simp only [mset]
    by_cases h : k = s
    · subst h
      rw [if_pos rfl]
      simp only [mget]
      by_cases hj : j = k <;> simp [hj]
    · rw [if_neg h]
      simp only [mget, ih]
      by_cases hj : j = s
      · subst hj
        have : ¬ j = k := fun e => h e.symm
        simp [this]
      · simp [hj]
theorem midx_get (A : As) (k : ByteArray) : mget A k = match midx A k with | none => 0 | some q => q.2 := by
  induction A with
  | nil => rfl
  | cons q A ih =>
    obtain ⟨s, m⟩ := q
    simp only [mget, midx]
    by_cases h : k = s
    · simp [h]
    · simp only [h, if_false, ih]
      cases midx A k <;> rfl

theorem rdC_z8 (W : World) (X : BSet) : RdC W X (D.int .u8 0) [.int .u8 0] := by simp only [RdC]
theorem rd_int {W : World} {X : BSet} {k : IntKind} {n : Int} : Rd W X (.int k n) (.int k n) := ⟨[.int k n], by simp only [RdC], rfl⟩
theorem rdB_out {W : World} {S : BSet} {v : Value} {l : List Int} (h : Rd W S (bytesD l) v) : ∃ ad cap, v = .slice ad l.length cap ∧ Rd W S (bytesD l) (.slice ad l.length cap) := by
  have h' := h
  obtain ⟨cs, h1, h2⟩ := h
  simp only [bytesD, RdC] at h1
  obtain ⟨ad, cap, rfl, _⟩ := h1
  have e : v = .slice ad l.length cap := by rw [h2]; simp [asm, bytesD]
  exact ⟨ad, cap, e, e ▸ h'⟩
def MapIs (es : List MapEntry) (A : As) : Prop := es.map (fun e => (e.key, e.val)) = A.map fun q => (Value.string q.1, Value.int .i64 q.2)
def OwnM (W : World) (b : Nat) (A : As) : Prop := ∃ es clock, W.heap[b]? = some (.map es clock) ∧ MapIs es.toList A
theorem OwnM.lt {W : World} {b : Nat} {A : As} (h : OwnM W b A) : b < W.heap.size := by
  obtain ⟨_, _, h, _⟩ := h; exact (Array.getElem?_eq_some_iff.1 h).1
theorem OwnM.keeps {W W' : World} {b : Nat} {A : As} {S : Nat → Prop} (h : OwnM W b A) (k : Keeps S W W') (hs : S b) : OwnM W' b A := by
  obtain ⟨es, c, h1, h2⟩ := h
  exact ⟨es, c, (k.block b (Array.getElem?_eq_some_iff.1 h1).1 hs).trans h1, h2⟩
theorem OwnM.ext {W W' : World} {b : Nat} {A : As} (h : OwnM W b A) (k : Ext W W') : OwnM W' b A := h.keeps k trivial
theorem ownM_store {W W' : World} {b b' : Nat} {A : As} (h : OwnM W b' A) (k : Keeps (fun x => x ≠ b) W W') (hne : b' ≠ b) : OwnM W' b' A := h.keeps k hne

theorem find_now (k : ByteArray) : ∀ (es : List MapEntry) (A : As) (i : Nat), MapIs es A → Instr.findNow .string (.string k) es i = some ((midx A k).map fun q => (i + q.1, .int .i64 q.2))
  | [], A, i, h => by
    have : A = [] := by simpa [MapIs] using h
    subst this; rfl
  | e :: es, [], i, h => by simp [MapIs] at h
  | e :: es, (s, n) :: A, i, h => by
    simp only [MapIs, List.map_cons, List.cons.injEq, Prod.mk.injEq] at h
    obtain ⟨⟨h1, h2⟩, h3⟩ := h
    unfold Instr.findNow
    simp only [h1, Instr.sameNow, midx]
    by_cases hk : k = s
    · subst hk
      have hb : (k == k) = true := (MapKept.bytes_beq k k).2 rfl
      simp [hb, h2]
    · have hb : (k == s) = false := by
        cases hq : (k == s) with
        | false => rfl
        | true => exact absurd ((MapKept.bytes_beq k s).1 hq) hk
      simp only [hb, hk, if_false]
      rw [find_now k es A (i + 1) h3]
      cases midx A k with
      | none => rfl
      | some q => simp; omega
theorem midx_at (k : ByteArray) : ∀ (A : As) (j : Nat) (n : Int), midx A k = some (j, n) → ∃ h : j < A.length, A[j] = (k, n) ∧ mset A k = fun m => A.set j (k, m)
  | [], j, n, h => by cases h
  | (s, m) :: A, j, n, h => by
    simp only [midx] at h
    by_cases hk : k = s
    · subst hk
      simp at h
      obtain ⟨rfl, rfl⟩ := h
      exact ⟨by simp, rfl, by funext q; simp [mset]⟩
    · rw [if_neg hk] at h
      cases hq : midx A k with
      | none => rw [hq] at h; cases h
      | some q =>
        rw [hq] at h
        simp at h
        obtain ⟨rfl, rfl⟩ := h
        obtain ⟨h1, h2, h3⟩ := midx_at k A q.1 q.2 (by rw [hq])
        refine ⟨by simpa using h1, by simpa using h2, ?_⟩
        funext x
        simp [mset, hk, h3]
theorem midx_none (k : ByteArray) : ∀ A : As, midx A k = none → ∀ n, mset A k n = A ++ [(k, n)]
  | [], _, n => rfl
  | (s, m) :: A, h, n => by
    simp only [midx] at h
    by_cases hk : k = s
    · rw [if_pos hk] at h; cases h
    · rw [if_neg hk] at h
      simp only [mset, hk, if_false, List.cons_append]
      rw [midx_none k A (by cases hq : midx A k with | none => rfl | some q => rw [hq] at h; cases h) n]

section
variable {P : Program} {ops : Array Oper} {S : Nat → Prop} {w0 : World} {a0 : Act} {Γ : Ctx}
variable {d : Option Tmp} {ty : TypeId} {pos : String} {af : Array Edge} {gd : Option (Nat × Bool)}
variable {K : List Oper → Ctx → (World → Prop) → List Bool → Prop} {l : List Oper} {Ψ Ψ' : World → Prop} {ms : List Bool} {fl : Bool}

theorem run_lookupM {W : World} {b : Nat} {A : As} {T kt et : TypeId} {k : ByteArray} (hT : P.underlying T = some (.map kt et)) (hk : P.underlying kt = some .string) (hz : zeroOf P et = some (.int .i64 0)) (h : OwnM W b A) :
    (Instr.lookup T (.map (some b)) (.string k) false).run P W = .ok (.int .i64 (mget A k)) W := by
  obtain ⟨es, c, h1, h2⟩ := h
  have hf := find_now k es.toList A 0 h2
  have hck := MapKept.run_checkKey (P := P) (w := W) (kt := kt) (d := .string) (k := .string k) hk trivial es.isEmpty 9999
  have hfk := MapKept.run_findKey (P := P) (w := W) hk hf
  have hzz : (zeroValue et).run P W = .ok (.int .i64 0) W := by
    unfold zeroOf at hz
    cases hi : P.info? et with
    | none => rw [hi] at hz; cases hz
    | some i => rw [hi] at hz; simp at hz; simp [zeroValue, typeInfo, program, Sem.run, hi, hz]
  have hg : (getObj b).run P W = .ok (.map es c) W := by simp [getObj, Sem.run, h1]
  rw [midx_get]
  simp only [Instr.lookup, Sem.run_bind, run_und hT, Result.andThen_ok, hg, Sem.run_pure, hck, hfk]
  cases midx A k with
  | none => simp [hzz]
  | some q => simp
theorem sp_lookup {x y : Operand} {b : Nat} {A : As} {T kt et : TypeId} {k : ByteArray} (hT : P.underlying T = some (.map kt et)) (hk : P.underlying kt = some .string) (hz : zeroOf P et = some (.int .i64 0)) (hx : Has S w0 a0 Γ x (Is (.map (some b)))) (hy : Has S w0 a0 Γ y (Is (.string k))) (h : OwnM w0 b A) (hS : S b) :
    Spec P ops S w0 a0 Γ ⟨d, .lookup T x y false, ty, pos, af, gd⟩ (Is (.int .i64 (mget A k))) := sp_val fun a g W hk' hg he => by
  have e1 : a.eval x = .map (some b) := hx.of_env hk' hg he (by simp [Op.operands])
  have e2 : a.eval y = .string k := hy.of_env hk' hg he (by simp [Op.operands])
  simp [execOp, e1, e2, run_lookupM hT hk hz (h.keeps hk' hS)]
def IsMap (A : As) (t : Nat) : Fact := fun g u W => ∃ b, u = .map (some b) ∧ (t, b) ∈ g ∧ OwnM W b A
theorem st_map {A : As} {t : Nat} : Stable All (IsMap A t) :=
  ⟨fun _ _ _ _ k ⟨b, h1, h2, h3⟩ => ⟨b, h1, h2, h3.ext k⟩, fun _ _ _ _ _ _ ⟨b, h1, h2, h3⟩ => ⟨b, h1, List.mem_cons_of_mem _ h2, h3⟩⟩
theorem Chain.mkMap {t : Nat} {T : TypeId} (h : Chain P ops All w0 a0 K fl l ((some t, IsMap [] t) :: Γ) Ψ (false :: ms)) :
    Chain P ops All w0 a0 K fl (⟨some t, .makeMap T none, ty, pos, af, none⟩ :: l) Γ Ψ ms := by
  refine .box _ t st_map rfl (fun a g W hk hg he => ?_) h
  have hw : Region.wanted (⟨some t, .makeMap T none, ty, pos, af, none⟩ : Oper) (yielded ops a.tmps) = true := rfl
  unfold ObRun; rw [if_pos hw]
  unfold OpRuns
  have : (execOp a.eval ⟨some t, .makeMap T none, ty, pos, af, none⟩).run P W = .ok (.value (.map (some W.heap.size))) (W.alloc (.map #[] 0)) := by
    simp [execOp, Instr.makeMap, newObj, Sem.run]
  rw [this]
  exact ⟨ext_alloc _ _, by simp, W.heap.size, rfl, List.mem_cons_self, #[], 0, by show (W.heap.push _)[W.heap.size]? = _; simp, rfl⟩
theorem run_updM {W : World} {b : Nat} {A : As} {T kt et : TypeId} {k : ByteArray} {n : Int} (hT : P.underlying T = some (.map kt et)) (hk : P.underlying kt = some .string) (h : OwnM W b A) :
    ∃ W', (Instr.mapUpdate T (.map (some b)) (.string k) (.int .i64 n)).run P W = .ok () W' ∧ Keeps (fun x => x ≠ b) W W' ∧ OwnM W' b (mset A k n) := by
  obtain ⟨es, c, h1, h2⟩ := h
  have hf := find_now k es.toList A 0 h2
  have hck := MapKept.run_checkKey (P := P) (w := W) (kt := kt) (d := .string) (k := .string k) hk trivial false 9999
  have hfk := MapKept.run_findKey (P := P) (w := W) hk hf
  have hg : (getObj b).run P W = .ok (.map es c) W := by simp [getObj, Sem.run, h1]
  have keeps : ∀ o, Keeps (fun x => x ≠ b) W { W with heap := W.heap.setIfInBounds b o } := fun o => ⟨rfl, rfl, rfl, by simp, fun x _ hx => (MapKept.heap_set h1).2 x hx⟩
  cases hm : midx A k with
  | none =>
    rw [hm] at hfk
    refine ⟨_, ?_, keeps (.map (es.push { key := .string k, val := .int .i64 n, born := c }) (c + 1)), _, _, (MapKept.heap_set h1).1, ?_⟩
    · simp only [Instr.mapUpdate, Sem.run_bind, run_und hT, Result.andThen_ok, hg, hck, hfk, Option.map_none]
      exact MapKept.run_setObj_map _ h1
    · rw [midx_none k A hm]
      simp only [MapIs, Array.toList_push, List.map_append, List.map_cons, List.map_nil]
      rw [h2]
  | some q =>
    rw [hm] at hfk
    obtain ⟨hj, hA, hset⟩ := midx_at k A q.1 q.2 hm
    have hlen : es.size = A.length := by have := congrArg List.length h2; simpa using this
    have hje : q.1 < es.size := by omega
    have hkey : (es[q.1]'hje).key = .string k := by
      have h3 : (es.toList.map (fun e => (e.key, e.val)))[q.1]? = (A.map fun q => (Value.string q.1, Value.int .i64 q.2))[q.1]? := congrArg (·[q.1]?) h2
      simp [hje, hj, hA] at h3
      exact h3.1
    refine ⟨_, ?_, keeps (.map (es.modify q.1 fun e => { e with key := .string k, val := .int .i64 n }) c), _, _, (MapKept.heap_set h1).1, ?_⟩
    · simp only [Instr.mapUpdate, Sem.run_bind, run_und hT, Result.andThen_ok, hg, hck, hfk, Option.map_some, Nat.zero_add]
      have hst : (Instr.keyThatStays (((es[q.1]?).map (·.key)).getD (.string k)) (.string k)).run P W = .ok (.string k) W := by
        have hb : (k == k) = true := (MapKept.bytes_beq k k).2 rfl
        simp [hje, hkey, Instr.keyThatStays, Instr.sameBits, hb]
      rw [hst]
      simp only [Result.andThen_ok]
      exact MapKept.run_setObj_map _ h1
    · rw [hset]
      simp only [MapIs]
      apply List.ext_getElem?
      intro i
      have h3 : (es.toList.map (fun e => (e.key, e.val)))[i]? = (A.map fun q => (Value.string q.1, Value.int .i64 q.2))[i]? := congrArg (·[i]?) h2
      by_cases hi : q.1 = i
      · subst hi
        simp [Array.getElem?_modify, hje, hj]
      · simp only [List.getElem?_map, Array.getElem?_toList, Array.getElem?_modify, hi, if_false, List.getElem?_set_ne hi] at h3 ⊢
        exact h3
theorem Chain.updM {x y z : Operand} {T kt et : TypeId} {b : Nat} {A : As} {k : ByteArray} {n : Int} (hT : P.underlying T = some (.map kt et)) (hk : P.underlying kt = some .string)
    (hx : Has (fun k => k ≠ b) w0 a0 Γ x (Is (.map (some b)))) (hy : Has (fun k => k ≠ b) w0 a0 Γ y (Is (.string k))) (hz : Has (fun k => k ≠ b) w0 a0 Γ z (Is (.int .i64 n)))
    (h : Chain P ops (fun k => k ≠ b) w0 a0 K false l ((d, Any) :: Γ) (fun W => OwnM W b (mset A k n)) (true :: ms)) :
    Chain P ops (fun k => k ≠ b) w0 a0 K false (⟨d, .mapUpdate T x y z, ty, pos, af, none⟩ :: l) Γ (fun W => OwnM W b A) ms := by
  refine .main _ _ st_any (fun W W' k h => h.ext k) (fun a g W hk' hg he hψ => ?_) h
  have e1 : a.eval x = .map (some b) := hx.of_env hk' hg he (by simp [Op.operands])
  have e2 : a.eval y = .string k := hy.of_env hk' hg he (by simp [Op.operands])
  have e3 : a.eval z = .int .i64 n := hz.of_env hk' hg he (by simp [Op.operands])
  have hw : Region.wanted (⟨d, .mapUpdate T x y z, ty, pos, af, none⟩ : Oper) (yielded ops a.tmps) = true := rfl
  unfold ObRun; rw [if_pos hw]
  unfold OpRuns
  obtain ⟨W', h1, h2, h3⟩ := run_updM (n := n) (k := k) hT hk hψ
  have : (execOp a.eval ⟨d, .mapUpdate T x y z, ty, pos, af, none⟩).run P W = .ok .skip W' := by simp [execOp, e1, e2, e3, h1]
  rw [this]
  exact ⟨h2, trivial, h3⟩
theorem tail_updM {Q : Exit → Act → World → Prop} {r : List Oper} {a : Act} {W : World} {T kt et : TypeId} {x y z : Operand} {b : Nat} {A : As} {k : ByteArray} {n : Int}
    (hT : P.underlying T = some (.map kt et)) (hk : P.underlying kt = some .string) (hx : a.eval x = .map (some b)) (hy : a.eval y = .string k) (hz : a.eval z = .int .i64 n) (ho : OwnM W b A)
    (h : ∀ W', Keeps (fun k => k ≠ b) W W' → OwnM W' b (mset A k n) → runTail P ops Q r a W') : runTail P ops Q (⟨none, .mapUpdate T x y z, ty, pos, af, none⟩ :: r) a W := by
  obtain ⟨W', h1, h2, h3⟩ := run_updM (n := n) (k := k) hT hk ho
  have hw : Region.wanted (⟨none, .mapUpdate T x y z, ty, pos, af, none⟩ : Oper) (yielded ops a.tmps) = true := rfl
  unfold runTail ObRun; rw [if_pos hw]
  unfold OpRuns
  have : (execOp a.eval ⟨none, .mapUpdate T x y z, ty, pos, af, none⟩).run P W = .ok .skip W' := by simp [execOp, hx, hy, hz, h1]
  rw [this]
  exact h W' h2 h3
theorem sp_indexStr {x y : Operand} {T : TypeId} {s : ByteArray} {j : Int} {i : Nat} (hT : P.underlying T = some .string) (hx : Has S w0 a0 Γ x (Is (.string s))) (hy : Has S w0 a0 Γ y (Is (.int .i64 j))) (hj : j = i) (hi : i < s.size) :
    Spec P ops S w0 a0 Γ ⟨d, .index T x y, ty, pos, af, gd⟩ (Is (.int .u8 ((s[i]'hi).toNat : Nat))) := sp_val fun a g W hk hg he => by
  have e1 : a.eval x = .string s := hx.of_env hk hg he (by simp [Op.operands])
  have e2 : a.eval y = .int .i64 j := hy.of_env hk hg he (by simp [Op.operands])
  subst hj
  have hs : s[(i : Int).toNat]? = some (s[i]'hi) := by simp [hi]
  have h0 : (0 : Int) ≤ (i : Int) := by omega
  simp [execOp, e1, e2, Instr.index, asIntOf, run_und hT, h0, hi]
theorem sp_sAdd {x y : Operand} {T T' : TypeId} {s t : ByteArray} (hx : Has S w0 a0 Γ x (Is (.string s))) (hy : Has S w0 a0 Γ y (Is (.string t))) (h : s.size + t.size ≤ 9223372036854775807) : Spec P ops S w0 a0 Γ ⟨d, .binOp .add T x y T', ty, pos, af, gd⟩ (Is (.string (s ++ t))) := sp_val fun a g W hk hg he => by
  have e1 : a.eval x = .string s := hx.of_env hk hg he (by simp [Op.operands])
  have e2 : a.eval y = .string t := hy.of_env hk hg he (by simp [Op.operands])
  have h' : ¬ ((s.size + t.size : Nat) : Int) > IntKind.i64.max := by
    have : IntKind.i64.max = 9223372036854775807 := by decide
    rw [this]; omega
  simp only [execOp, e1, e2, binOp, eqGuard, Op.stringOp]
  simp
  omega
end
end Go.Eng
