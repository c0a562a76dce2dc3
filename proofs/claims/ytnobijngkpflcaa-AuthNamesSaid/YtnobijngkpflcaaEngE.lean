/-
  Rules that the printed proofs use: sets of blocks, regions' ends, loops, api.Value's fields.
-/
import Derived.Test.YtnobijngkpflcaaEngV
namespace Go.Eng

/-! ### sets of blocks -/
/-- what came in through S, or was made since w; none of M -/
def SA (w : World) (S : BSet) (M : List Nat) : BSet := fun b o => (b < w.heap.size → S b o) ∧ (w.heap.size ≤ b → Cln o) ∧ b ∉ M
/-- what was made since w; none of M -/
def SF (w : World) (M : List Nat) : BSet := fun b o => w.heap.size ≤ b ∧ Cln o ∧ b ∉ M
def Ar (w : World) (S : BSet) : BSet := fun b o => (b < w.heap.size → S b o) ∧ (w.heap.size ≤ b → Cln o)
def Tr : World → Prop := fun _ => True
theorem st_tr : StableE Tr := fun _ _ _ _ => trivial

theorem sub_all {S : BSet} : ∀ b o, S b o → All b := fun _ _ _ => trivial

theorem rd_arg {w : World} {S : BSet} {d : D} {v : Value} (h : Rd w S d v) : Rd w (SA w S []) d v := h.mono fun b o hb hlt => ⟨fun _ => hb, fun h' => by omega, by simp⟩
theorem ref_arg {w : World} {S : BSet} {d : D} {v : Value} (h : Ref w S d v) : Ref w (SA w S []) d v := h.mono fun b o hb hlt => ⟨fun _ => hb, fun h' => by omega, by simp⟩

theorem not_more {W : World} {b : Nat} {M news : List Nat} (hm : b ∉ M) (hlt : b < W.heap.size) (hn : ∀ b ∈ news, W.heap.size ≤ b) : b ∉ news ++ M := fun h => by
  rcases List.mem_append.1 h with h1 | h1
  · have := hn b h1; omega
  · exact hm h1
theorem not_ghost {g : Gh} {b : Nat} {M news : List Nat} (hm : b ∉ M) (ho : Out g b) (hn : ∀ b ∈ news, ∃ t, (t, b) ∈ g) : b ∉ news ++ M := fun h => by
  rcases List.mem_append.1 h with h1 | h1
  · obtain ⟨t, ht⟩ := hn b h1; exact ho t ht
  · exact hm h1
/-- a known datum at a region's end; news: the boxes that the region has laid -/
theorem sa_more {w W W' : World} {S : BSet} {M : List Nat} {d : D} {v : Value} (h : Rd W (SA w S M) d v) (k : Ext W W') (news : List Nat) (hn : ∀ b ∈ news, W.heap.size ≤ b) : Rd W' (SA w S (news ++ M)) d v :=
  (h.mono fun _ _ hb hlt => ⟨hb.1, hb.2.1, not_more hb.2.2 hlt hn⟩ : Rd W (SA w S (news ++ M)) d v).ext k
theorem sf_more {w W W' : World} {M : List Nat} {d : D} {v : Value} (h : Rd W (SF w M) d v) (k : Ext W W') (news : List Nat) (hn : ∀ b ∈ news, W.heap.size ≤ b) : Rd W' (SF w (news ++ M)) d v :=
  (h.mono fun _ _ hb hlt => ⟨hb.1, hb.2.1, not_more hb.2.2 hlt hn⟩ : Rd W (SF w (news ++ M)) d v).ext k
theorem ra_more {w W W' : World} {S : BSet} {M : List Nat} {d : D} {v : Value} (h : Ref W (SA w S M) d v) (k : Ext W W') (news : List Nat) (hn : ∀ b ∈ news, W.heap.size ≤ b) : Ref W' (SA w S (news ++ M)) d v :=
  (h.mono fun _ _ hb hlt => ⟨hb.1, hb.2.1, not_more hb.2.2 hlt hn⟩ : Ref W (SA w S (news ++ M)) d v).ext k
/-- a datum that the region has come by -/
theorem sa_end {w W W' : World} {S : BSet} {M : List Nat} {d : D} {v : Value} {g : Gh} (h : IsD (SA w S M) d g v W') (_k : Ext W W') (news : List Nat) (hn : ∀ b ∈ news, ∃ t, (t, b) ∈ g) : Rd W' (SA w S (news ++ M)) d v :=
  Rd.mono h fun _ _ hb _ => ⟨hb.1.1, hb.1.2.1, not_ghost hb.1.2.2 hb.2 hn⟩
theorem sf_end {w W W' : World} {M : List Nat} {d : D} {v : Value} {g : Gh} (h : IsD (SF w M) d g v W') (_k : Ext W W') (news : List Nat) (hn : ∀ b ∈ news, ∃ t, (t, b) ∈ g) : Rd W' (SF w (news ++ M)) d v :=
  Rd.mono h fun _ _ hb _ => ⟨hb.1.1, hb.1.2.1, not_ghost hb.1.2.2 hb.2 hn⟩
theorem fr_end {S0 : Nat → Prop} {w W W' : World} {M : List Nat} {d : D} {v : Value} {g : Gh} (h : IsD (Fr W) d g v W') (kw : Keeps S0 w W) (news : List Nat) (hn : ∀ b ∈ news, ∃ t, (t, b) ∈ g) (hM : ∀ b ∈ M, b < W.heap.size) : Rd W' (SF w (news ++ M)) d v :=
  Rd.mono h fun b _ hb _ => ⟨Nat.le_trans kw.size hb.1.1, hb.1.2, not_ghost (fun h1 => by have := hM b h1; have h2 : W.heap.size ≤ b := hb.1.1; omega) hb.2 hn⟩
theorem rsa_end {w W W' : World} {S : BSet} {M : List Nat} {d : D} {v : Value} {g : Gh} (h : IsR (SA w S M) d g v W') (_k : Ext W W') (news : List Nat) (hn : ∀ b ∈ news, ∃ t, (t, b) ∈ g) : Ref W' (SA w S (news ++ M)) d v :=
  Ref.mono h fun _ _ hb _ => ⟨hb.1.1, hb.1.2.1, not_ghost hb.1.2.2 hb.2 hn⟩
/-- behind a store into a box -/
theorem sa_store {w W W' : World} {S : BSet} {M : List Nat} {d : D} {v : Value} {b : Nat} (h : Rd W (SA w S M) d v) (k : Keeps (fun x => x ≠ b) W W') (hb : b ∈ M) : Rd W' (SA w S M) d v :=
  h.keeps k fun x _ hx e => hx.2.2 (e ▸ hb)
theorem sf_store {w W W' : World} {M : List Nat} {d : D} {v : Value} {b : Nat} (h : Rd W (SF w M) d v) (k : Keeps (fun x => x ≠ b) W W') (hb : b ∈ M) : Rd W' (SF w M) d v :=
  h.keeps k fun x _ hx e => hx.2.2 (e ▸ hb)
theorem ra_store {w W W' : World} {S : BSet} {M : List Nat} {d : D} {v : Value} {b : Nat} (h : Ref W (SA w S M) d v) (k : Keeps (fun x => x ≠ b) W W') (hb : b ∈ M) : Ref W' (SA w S M) d v :=
  h.keeps k fun x _ hx e => hx.2.2 (e ▸ hb)
theorem own_store {W W' : World} {b b' : Nat} {cs : List Value} {T : TypeId} (h : Own W b' cs T) (k : Keeps (fun x => x ≠ b) W W') (hne : b' ≠ b) : Own W' b' cs T := h.keeps k hne
theorem ext_store {w W W' : World} {b : Nat} (h : Ext w W) (k : Keeps (fun x => x ≠ b) W W') (hb : w.heap.size ≤ b) : Ext w W' :=
  ⟨k.os.trans h.os, k.tape.trans h.tape, k.output.trans h.output, Nat.le_trans h.size k.size, fun i hi _ => by
    rw [k.block i (Nat.lt_of_lt_of_le hi h.size) (by intro e; omega)]; exact h.block i hi trivial⟩
/-- fewer boxes are spoken of -/
theorem sa_less {w W : World} {S : BSet} {M M' : List Nat} {d : D} {v : Value} (h : Rd W (SA w S M) d v) (hm : ∀ b ∈ M', b ∈ M) : Rd W (SA w S M') d v := h.mono fun b _ hb _ => ⟨hb.1, hb.2.1, fun h' => hb.2.2 (hm b h')⟩
theorem sf_less {w W : World} {M M' : List Nat} {d : D} {v : Value} (h : Rd W (SF w M) d v) (hm : ∀ b ∈ M', b ∈ M) : Rd W (SF w M') d v := h.mono fun b _ hb _ => ⟨hb.1, hb.2.1, fun h' => hb.2.2 (hm b h')⟩
theorem sf_sa {w W : World} {S : BSet} {M : List Nat} {d : D} {v : Value} (h : Rd W (SF w M) d v) : Rd W (SA w S M) d v := h.mono fun b _ hb _ => ⟨fun hlt => absurd hb.1 (by omega), fun _ => hb.2.1, hb.2.2⟩
theorem sa_ar {w W : World} {S : BSet} {M : List Nat} {d : D} {v : Value} (h : Rd W (SA w S M) d v) : Rd W (Ar w S) d v := h.mono fun b _ hb _ => ⟨hb.1, hb.2.1⟩
theorem sf_fr {w W : World} {M : List Nat} {d : D} {v : Value} (h : Rd W (SF w M) d v) : Rd W (Fr w) d v := h.mono fun b _ hb _ => ⟨hb.1, hb.2.1⟩
theorem sf_ar {w W : World} {S : BSet} {M : List Nat} {d : D} {v : Value} (h : Rd W (SF w M) d v) : Rd W (Ar w S) d v := h.mono fun b _ hb _ => ⟨fun hlt => absurd hb.1 (by omega), fun _ => hb.2.1⟩

/-! ### what calls hand back, inside a region -/
theorem ret_fr {S1 : Nat → Prop} {w0 W : World} {g : Gh} {d : D} (hk : Keeps S1 w0 W) (hg : GOk w0 W g) : ∀ e W', Ret W (fun u W' => Rd W' (Fr W) d u) e W' → Ret W (IsD (Fr w0) d g) e W' :=
  fun _ _ ⟨v, h1, h2, h3⟩ => ⟨v, h1, h2, fresh_d hk hg h3⟩
theorem rd_ar_sa {S0 S1 : Nat → Prop} {w w0 W W' : World} {S : BSet} {M : List Nat} {g : Gh} {d : D} {u : Value} (kw : Keeps S0 w w0) (hM : ∀ b ∈ M, b < w0.heap.size) (hk : Keeps S1 w0 W) (hg : GOk w0 W g) (h : Rd W' (Ar W (fun b o => SA w S M b o ∧ Out g b)) d u) : IsD (SA w S M) d g u W' :=
  h.mono fun b o hb _ => by
    by_cases hlt : b < W.heap.size
    · exact hb.1 hlt
    · have h1 := kw.size
      have h2 := hk.size
      exact ⟨⟨fun h => by omega, fun _ => hb.2 (by omega), fun hm => by have := hM b hm; omega⟩, fun t ht => by have := hg.hi t b ht; omega⟩
theorem ret_ar {S0 S1 : Nat → Prop} {w w0 W : World} {S : BSet} {M : List Nat} {g : Gh} {d : D} (kw : Keeps S0 w w0) (hM : ∀ b ∈ M, b < w0.heap.size) (hk : Keeps S1 w0 W) (hg : GOk w0 W g) : ∀ e W', Ret W (fun u W' => Rd W' (Ar W (fun b o => SA w S M b o ∧ Out g b)) d u) e W' → Ret W (IsD (SA w S M) d g) e W' :=
  fun _ _ ⟨v, h1, h2, h3⟩ => ⟨v, h1, h2, rd_ar_sa kw hM hk hg h3⟩

/-- a pair -/
def IsT (φ1 φ2 : Fact) : Fact := fun g u W => ∃ u1 u2, u = .tuple #[u1, u2] ∧ φ1 g u1 W ∧ φ2 g u2 W
theorem st_t {S : Nat → Prop} {φ1 φ2 : Fact} (h1 : Stable S φ1) (h2 : Stable S φ2) : Stable S (IsT φ1 φ2) :=
  ⟨fun _ _ _ _ k ⟨u1, u2, e, a, b⟩ => ⟨u1, u2, e, h1.world _ _ _ _ k a, h2.world _ _ _ _ k b⟩, fun _ _ _ _ _ hb ⟨u1, u2, e, a, b⟩ => ⟨u1, u2, e, h1.ghost _ _ _ _ _ hb a, h2.ghost _ _ _ _ _ hb b⟩⟩

/-! ### loops -/
section
variable {P : Program} {Q : Exit → Act → World → Prop} {a : Act} {w : World}
theorem wp_loopN {c : Code} (I : Nat → Act → World → Prop) (n : Nat) (h0 : I n a w)
    (round : ∀ n a w, I n a w → c.wp P (Exit.then (fun a' w' => ∃ m, m < n ∧ I m a' w') Q) a w) : (Code.loop c).wp P Q a w := by
  intro b k cs
  have key : ∀ n a w, I n a w → ∃ e a' w', Q e a' w' ∧ Arrives P (lone (b.at a (.code c :: .inLoop c :: k)) cs w) b k cs e a' w' := by
    intro n
    induction n using Nat.strongRecOn with
    | _ n ih =>
      intro a w hI
      obtain ⟨e, a₁, w₁, hq, harr⟩ := round n a w hI b (.inLoop c :: k) cs
      cases e with
      | normal =>
        obtain ⟨m, hlt, hI₁⟩ := hq
        obtain ⟨e₂, a₂, w₂, hq₂, harr₂⟩ := ih m hlt a₁ w₁ hI₁
        exact ⟨e₂, a₂, w₂, hq₂, .of_steps (Steps.trans harr (.one step_inLoop)) harr₂⟩
      | exit id => exact ⟨_, a₁, w₁, hq, .pass (x := .inLoop c) rfl (fun _ _ => .inl (by simp)) harr⟩
      | goto l => exact ⟨_, a₁, w₁, hq, .pass (x := .inLoop c) rfl (fun _ _ => .inl (by simp)) harr⟩
      | ret => exact ⟨_, a₁, w₁, hq, .pass (x := .inLoop c) rfl (fun _ _ => .inl (by simp)) harr⟩
      | panic ch => exact ⟨_, a₁, w₁, hq, .pass (x := .inLoop c) rfl (fun _ _ => .inl (by simp)) harr⟩
      | outgrown => exact ⟨_, a₁, w₁, hq, .pass (x := .inLoop c) rfl (fun _ _ => .inl (by simp)) harr⟩
  obtain ⟨e, a', w', hq, harr⟩ := key n a w h0
  exact ⟨e, a', w', hq, .of_steps (.one step_loop) harr⟩
/-- k counts up; a round at n is never gone on from -/
theorem wp_for {c : Code} (n : Nat) (I : Nat → Act → World → Prop) (h0 : I 0 a w)
    (round : ∀ k a w, k ≤ n → I k a w → c.wp P (Exit.then (fun a' w' => k < n ∧ I (k + 1) a' w') Q) a w) : (Code.loop c).wp P Q a w := by
  refine wp_loopN (fun r a w => ∃ k, k + r = n ∧ I k a w) n ⟨0, by omega, h0⟩ ?_
  rintro r a w ⟨k, hk, hI⟩
  refine wp_mono (round k a w (by omega) hI) ?_
  intro e a' w' h
  cases e with
  | normal => obtain ⟨h1, h2⟩ := h; exact ⟨n - (k + 1), by omega, k + 1, by omega, h2⟩
  | exit id => exact h
  | goto l => exact h
  | ret => exact h
  | panic ch => exact h
  | outgrown => exact h
end

/-! ### fields and elements -/
section
variable {P : Program} {ops : Array Oper} {S : Nat → Prop} {w0 : World} {a0 : Act} {Γ : Ctx}
variable {d : Option Tmp} {ty : TypeId} {pos : String} {af : Array Edge} {gd : Option (Nat × Bool)}

theorem sp_indexV {x y : Operand} {T E : TypeId} {S' : BSet} {xs : List V} {i : Nat} {j : Int} (hx : Has S w0 a0 Γ x (IsD S' (valsD xs))) (hy : Has S w0 a0 Γ y (Is (.int .i64 j))) (hT : P.underlying T = some (.slice E)) (hz : szOf P E = some 5)
    (hj : j = i) (hi : i < xs.length) : Spec P ops S w0 a0 Γ ⟨d, .indexAddr T x y, ty, pos, af, gd⟩ (IsR S' (V.d xs[i])) := by
  subst hj
  have := sp_indexD (ty := ty) (pos := pos) (af := af) (gd := gd) (d := d) (ops := ops) hx hy hT hz (i := i) (by simpa using hi)
  simpa using this
theorem sp_indexS {x y : Operand} {T E : TypeId} {S' : BSet} {ns : List ByteArray} {i : Nat} {j : Int} (hx : Has S w0 a0 Γ x (IsD S' (strsD ns))) (hy : Has S w0 a0 Γ y (Is (.int .i64 j))) (hT : P.underlying T = some (.slice E)) (hz : szOf P E = some 1)
    (hj : j = i) (hi : i < ns.length) : Spec P ops S w0 a0 Γ ⟨d, .indexAddr T x y, ty, pos, af, gd⟩ (IsR S' (.str ns[i])) := by
  subst hj
  have := sp_indexD (ty := ty) (pos := pos) (af := af) (gd := gd) (d := d) (ops := ops) hx hy hT hz (i := i) (by simpa using hi)
  simpa using this
theorem sp_mono {o : Oper} {φ ψ : Fact} (h : Spec P ops S w0 a0 Γ o φ) (hi : ∀ g v W, φ g v W → ψ g v W) : Spec P ops S w0 a0 Γ o ψ :=
  fun a g W hk hg he => (h a g W hk hg he).mono fun v W' ⟨h1, h2⟩ => ⟨h1, hi _ _ _ h2⟩
theorem d_str {S' : BSet} {s : ByteArray} {g : Gh} {v : Value} {W : World} (h : IsD S' (.str s) g v W) : v = .string s := by
  obtain ⟨cs, h1, rfl⟩ := h; simp only [RdC] at h1; rw [h1.1]; rfl
theorem d_int {S' : BSet} {k : IntKind} {n : Int} {g : Gh} {v : Value} {W : World} (h : IsD S' (.int k n) g v W) : v = .int k n := by
  obtain ⟨cs, h1, rfl⟩ := h; simp only [RdC] at h1; rw [h1]; rfl
theorem d_bool {S' : BSet} {b : Bool} {g : Gh} {v : Value} {W : World} (h : IsD S' (.bool b) g v W) : v = .bool b := by
  obtain ⟨cs, h1, rfl⟩ := h; simp only [RdC] at h1; rw [h1]; rfl
theorem sp_loadStr {x : Operand} {T : TypeId} {S' : BSet} {s : ByteArray} (hx : Has S w0 a0 Γ x (IsR S' (.str s))) (hT : aggB P T = some false) (hz : szOf P T = some 1) : Spec P ops S w0 a0 Γ ⟨d, .load T x, ty, pos, af, gd⟩ (Is (.string s)) :=
  sp_mono (sp_loadR hx hT hz rfl) fun _ _ _ h => d_str h
theorem sp_loadInt {x : Operand} {T : TypeId} {S' : BSet} {k : IntKind} {n : Int} (hx : Has S w0 a0 Γ x (IsR S' (.int k n))) (hT : aggB P T = some false) (hz : szOf P T = some 1) : Spec P ops S w0 a0 Γ ⟨d, .load T x, ty, pos, af, gd⟩ (Is (.int k n)) :=
  sp_mono (sp_loadR hx hT hz rfl) fun _ _ _ h => d_int h
theorem sp_loadV {x : Operand} {T : TypeId} {S' : BSet} {y : V} (hx : Has S w0 a0 Γ x (IsR S' y.d)) (hT : aggB P T = some true) (hz : szOf P T = some 5) : Spec P ops S w0 a0 Γ ⟨d, .load T x, ty, pos, af, gd⟩ (IsD S' y.d) := by
  refine sp_loadR hx ?_ hz ?_
  · rw [hT, V.d_eq]; rfl
  · rw [V.d_eq]; rfl
theorem sp_fieldV {x : Operand} {T : TypeId} {S' : BSet} {y : V} {f n : Nat} {fs : Array Field} {fd : Field} {e : D} (hx : Has S w0 a0 Γ x (IsR S' y.d)) (hT : P.underlying T = some (.struct fs)) (hf : fs[f]? = some fd) (hz : szOf P fd.type = some (n + 1))
    (hy : ([.int .u8 y.k, .int .i64 y.n, .str y.t, strsD y.ns, valsD y.xs] : List D)[f]? = some e) (ho : fd.offset = f) : Spec P ops S w0 a0 Γ ⟨d, .fieldAddr T x f, ty, pos, af, gd⟩ (IsR S' e) := by
  rw [V.d_eq] at hx
  refine sp_fieldR hx hT hf hz hy ?_
  rw [ho]
  match f, hy with
  | 0, _ => rfl
  | 1, _ => rfl
  | 2, _ => rfl
  | 3, _ => rfl
  | 4, _ => rfl
theorem i64_in {n : Int} (h : -9223372036854775808 ≤ n ∧ n ≤ 9223372036854775807) : IntKind.i64.wrap n = n := IntWalk.i64_in n h
end
end Go.Eng
namespace Go.Eng
theorem rdS_out {W : World} {S : BSet} {ns : List ByteArray} {v : Value} (h : Rd W S (strsD ns) v) : ∃ ad cap, v = .slice ad ns.length cap ∧ Rd W S (strsD ns) (.slice ad ns.length cap) := by
  have h' := h
  obtain ⟨cs, h1, h2⟩ := h
  simp only [strsD, RdC] at h1
  obtain ⟨ad, cap, rfl, _⟩ := h1
  have e : v = .slice ad ns.length cap := by rw [h2]; simp [asm, strsD]
  exact ⟨ad, cap, e, e ▸ h'⟩
theorem rdVs_out {W : World} {S : BSet} {xs : List V} {v : Value} (h : Rd W S (valsD xs) v) : ∃ ad cap, v = .slice ad xs.length cap ∧ Rd W S (valsD xs) (.slice ad xs.length cap) := by
  have h' := h
  obtain ⟨cs, h1, h2⟩ := h
  simp only [valsD, RdC] at h1
  obtain ⟨ad, cap, rfl, _⟩ := h1
  have e : v = .slice ad xs.length cap := by rw [h2]; simp [asm, valsD]
  exact ⟨ad, cap, e, e ▸ h'⟩
theorem rdV_out {W : World} {S : BSet} {x : V} {v : Value} (h : Rd W S x.d v) : ∃ a1 c1 a2 c2, v = .agg #[.int .u8 x.k, .int .i64 x.n, .string x.t, .slice a1 x.ns.length c1, .slice a2 x.xs.length c2] ∧ x.t.size ≤ maxLen ∧ Rd W S (strsD x.ns) (.slice a1 x.ns.length c1) ∧ Rd W S (valsD x.xs) (.slice a2 x.xs.length c2) := by
  obtain ⟨cn, ci, h1, h2, h3, h4⟩ := rd_V.1 h
  obtain ⟨a1, c1, e1, h3'⟩ := rdS_out (rd_one1 h3 rfl)
  obtain ⟨a2, c2, e2, h4'⟩ := rdVs_out (rd_one1 h4 rfl)
  subst e1; subst e2
  exact ⟨a1, c1, a2, c2, h1, h2, h3', h4'⟩
theorem rdV_in {W : World} {S : BSet} {x : V} {cn ci : Value} (h2 : x.t.size ≤ maxLen) (h3 : Rd W S (strsD x.ns) cn) (h4 : Rd W S (valsD x.xs) ci) : Rd W S x.d (.agg #[.int .u8 x.k, .int .i64 x.n, .string x.t, cn, ci]) :=
  rd_V.2 ⟨cn, ci, rfl, h2, rdc_one1 h3 rfl, rdc_one1 h4 rfl⟩
theorem one_rd {W : World} {S : BSet} {dd : D} {v : Value} (h : Rd W S dd v) (ha : dd.isAgg = false) : oneC v = true := rdc_one dd [v] (rdc_one1 h ha) v (by simp)
theorem rd_nil {W : World} {S : BSet} (sz : Nat) : Rd W S (.lst sz []) (.slice none 0 0) := ⟨[.slice none 0 0], by simp only [RdC]; exact ⟨none, 0, rfl, by simp, by simp, .inl trivial⟩, rfl⟩
theorem rd_str {W : World} {S : BSet} {s : ByteArray} (h : s.size ≤ maxLen) : Rd W S (.str s) (.string s) := ⟨[.string s], by simp only [RdC]; exact ⟨trivial, h⟩, rfl⟩
theorem in_nil {p : Nat → Prop} : ∀ b ∈ ([] : List Nat), p b := fun _ h => by cases h
theorem in_cons {p : Nat → Prop} {x : Nat} {l : List Nat} (h : p x) (hl : ∀ b ∈ l, p b) : ∀ b ∈ x :: l, p b := List.forall_mem_cons.2 ⟨h, hl⟩
theorem all_nil {p : Value → Prop} : ∀ b ∈ ([] : List Value), p b := fun _ h => by cases h
theorem all_cons {p : Value → Prop} {x : Value} {l : List Value} (h : p x) (hl : ∀ b ∈ l, p b) : ∀ b ∈ x :: l, p b := List.forall_mem_cons.2 ⟨h, hl⟩
section
variable {P : Program} {ops : Array Oper} {S : Nat → Prop} {w0 : World} {a0 : Act} {Γ : Ctx}
variable {d : Option Tmp} {ty : TypeId} {pos : String} {af : Array Edge} {gd : Option (Nat × Bool)}
theorem sp_lenSs {x : Operand} {T E : TypeId} {S' : BSet} {ns : List ByteArray} (hT : P.underlying T = some (.slice E)) (hx : Has S w0 a0 Γ x (IsD S' (strsD ns))) :
    Spec P ops S w0 a0 Γ ⟨d, .call ⟨.builtin .len, #[x], #[T]⟩, ty, pos, af, gd⟩ (Is (.int .i64 ns.length)) := by
  have := sp_lenD (ops := ops) (d := d) (ty := ty) (pos := pos) (af := af) (gd := gd) hT hx
  simpa using this
theorem sp_lenVs {x : Operand} {T E : TypeId} {S' : BSet} {xs : List V} (hT : P.underlying T = some (.slice E)) (hx : Has S w0 a0 Γ x (IsD S' (valsD xs))) :
    Spec P ops S w0 a0 Γ ⟨d, .call ⟨.builtin .len, #[x], #[T]⟩, ty, pos, af, gd⟩ (Is (.int .i64 xs.length)) := by
  have := sp_lenD (ops := ops) (d := d) (ty := ty) (pos := pos) (af := af) (gd := gd) hT hx
  simpa using this
theorem sp_min {x y : Operand} {T T' : TypeId} {m n : Int} (hx : Has S w0 a0 Γ x (Is (.int .i64 m))) (hy : Has S w0 a0 Γ y (Is (.int .i64 n))) :
    Spec P ops S w0 a0 Γ ⟨d, .call ⟨.builtin .min, #[x, y], #[T, T']⟩, ty, pos, af, gd⟩ (Is (.int .i64 (min m n))) := sp_val fun a g W hk hg he => by
  have e1 : a.eval x = .int .i64 m := hx.of_env hk hg he (by simp [Op.operands, Call.operands])
  have e2 : a.eval y = .int .i64 n := hy.of_env hk hg he (by simp [Op.operands, Call.operands])
  have e3 : (if n < m then n else m) = min m n := by simp only [Int.min_def]; split <;> split <;> omega
  simp [execOp, resolve, invoke, builtin, Builtin.min_, Builtin.min2, e1, e2, e3]
theorem sp_max {x y : Operand} {T T' : TypeId} {m n : Int} (hx : Has S w0 a0 Γ x (Is (.int .i64 m))) (hy : Has S w0 a0 Γ y (Is (.int .i64 n))) :
    Spec P ops S w0 a0 Γ ⟨d, .call ⟨.builtin .max, #[x, y], #[T, T']⟩, ty, pos, af, gd⟩ (Is (.int .i64 (max m n))) := sp_val fun a g W hk hg he => by
  have e1 : a.eval x = .int .i64 m := hx.of_env hk hg he (by simp [Op.operands, Call.operands])
  have e2 : a.eval y = .int .i64 n := hy.of_env hk hg he (by simp [Op.operands, Call.operands])
  have e3 : (if m < n then n else m) = max m n := by simp only [Int.max_def]; split <;> split <;> omega
  simp [execOp, resolve, invoke, builtin, Builtin.max_, Builtin.max2, e1, e2, e3]
end

/-! ### literals -/
section
variable {P : Program} {ops : Array Oper} {S : Nat → Prop} {w0 : World} {a0 : Act} {Γ : Ctx}
variable {d : Option Tmp} {ty : TypeId} {pos : String} {af : Array Edge} {gd : Option (Nat × Bool)}
def placesOf (P : Program) (fs : List Field) : List (Nat × Nat) := fs.map fun f => (f.offset, (szOf P f.type).getD 0)
theorem run_places : ∀ (fs : List Field) (w : World), (fs.all fun f => (szOf P f.type).isSome) = true →
    (fs.mapM fun f => (do pure (f.offset, ← sizeOf f.type) : Sem (Nat × Nat))).run P w = .ok (placesOf P fs) w
  | [], w, _ => rfl
  | f :: fs, w, h => by
    simp only [List.all_cons, Bool.and_eq_true] at h
    cases hz : szOf P f.type with
    | none => rw [hz] at h; simp at h
    | some n =>
      have := run_places fs w h.2
      simp [List.mapM_cons, run_szOf hz, placesOf, hz] at this ⊢
      simp [this, placesOf]
def PartsAre (S : Nat → Prop) (w0 : World) (a0 : Act) (Γ : Ctx) : List (Nat × Operand) → List (Nat × Value) → Prop
  | [], [] => True
  | (i, x) :: ps, (j, v) :: vs => i = j ∧ Has S w0 a0 Γ x (Is v) ∧ PartsAre S w0 a0 Γ ps vs
  | _, _ => False
theorem PartsAre.vals {o : Oper} {a : Act} {g : Gh} {W : World} (hk : Keeps S w0 W) (hg : GOk w0 W g) (he : Env Γ a0 a g W (o.looksAt ops)) : ∀ (ps : List (Nat × Operand)) (vs : List (Nat × Value)), PartsAre S w0 a0 Γ ps vs → (∀ p ∈ ps, p.2 ∈ o.op.operands) →
    ps.map (fun p => (p.1, a.eval p.2)) = vs
  | [], [], _, _ => rfl
  | [], _ :: _, h, _ => h.elim
  | _ :: _, [], h, _ => h.elim
  | (i, x) :: ps, (j, v) :: vs, ⟨h1, h2, h3⟩, hm => by
    have e : a.eval x = v := h2.of_env hk hg he (hm (i, x) List.mem_cons_self)
    simp [h1, e, PartsAre.vals hk hg he ps vs h3 fun p hp => hm p (List.mem_cons_of_mem _ hp)]
theorem run_build {T : TypeId} {fs : Array Field} {zs : Array Value} {vs : Array (Nat × Value)} {cells : Array Value} (hT : P.underlying T = some (.struct fs)) (hz : zeroOf P T = some (.agg zs)) (hok : (fs.toList.all fun f => (szOf P f.type).isSome) = true)
    (hf : Instr.fill (fun i => (placesOf P fs.toList).toArray[i]?) zs vs.toList = some cells) (w : World) : (Instr.build T vs).run P w = .ok (.agg cells) w := by
  have hp := run_places (P := P) fs.toList w hok
  simp only [Instr.build, Sem.run_bind, run_zeroOf hz, Result.andThen_ok, run_und hT]
  have : (fs.mapM fun f => (do pure (f.offset, ← sizeOf f.type) : Sem (Nat × Nat))).run P w = .ok (placesOf P fs.toList).toArray w := by
    rw [Array.mapM_eq_mapM_toList]
    simp only [Sem.run_map, hp, Result.andThen_ok]
  rw [this]
  simp only [Result.andThen_ok, Value.cells, hf, Sem.run_pure]
theorem sp_build {T : TypeId} {parts : Array (Nat × Operand)} {vs : List (Nat × Value)} {fs : Array Field} {zs cells : Array Value} (hT : P.underlying T = some (.struct fs)) (hz : zeroOf P T = some (.agg zs)) {pls : List (Nat × Nat)} (hpl : (fs.toList.all fun f => (szOf P f.type).isSome) = true ∧ placesOf P fs.toList = pls)
    (hp : PartsAre S w0 a0 Γ parts.toList vs) (hf : Instr.fill (fun i => pls.toArray[i]?) zs vs = some cells) :
    Spec P ops S w0 a0 Γ ⟨d, .build T parts, ty, pos, af, gd⟩ (Is (.agg cells)) := sp_val fun a g W hk hg he => by
  have hm := hp.vals hk hg he _ _ (fun p hp => by simp [Op.operands]; exact ⟨p.1, by simpa using hp⟩)
  have e : parts.map (fun p => (p.1, a.eval p.2)) = vs.toArray := by
    rw [← hm]; apply Array.ext'; simp
  obtain ⟨hok, rfl⟩ := hpl
  have hr := run_build (P := P) (vs := vs.toArray) hT hz hok hf W
  have e' : (parts.map fun x => (x.1, a.eval x.2)) = vs.toArray := e
  simp only [execOp, Sem.run_bind]
  rw [show (parts.map fun x => match x with | (i, x) => (i, a.eval x)) = vs.toArray from e', hr]
  rfl
end
end Go.Eng
