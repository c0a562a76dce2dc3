/-
  The law RecordHashes of package legatelaw21 returns true for every input, and leaves its arguments as they were. No condition beyond the row's own.
-/
import Derived.Test.YtnobijngkpflcaaGreatRs4
import Derived.Lib.DecodeN
import Derived.ProofKit
namespace Go.Proofs.YtnobijngkpflcaaGreat
open Go.Eng
theorem hshO_may {l : List Hs} (h : mayH l = true) : hshO l = hshP l := by
  have ha : ascH l = true := by
    unfold mayH at h
    simp only [Bool.and_eq_true] at h
    exact h.2.2.2
  have hb : ∀ i (hi : i + 1 < l.length), badH l[i + 1] l[i] = false := fun i hi => by
    cases hq : badH l[i + 1] l[i] with
    | false => rfl
    | true => rw [ascH_false l i hi hq] at ha; cases ha
  have h1 : sortMb (l.map hsM) = l.map hsM := sortMb_id _ fun j hj => by
    simp only [List.length_map] at hj
    rw [cfM_neg, List.getElem_map, List.getElem_map]
    have := hb j hj
    unfold badH at this
    rw [Bool.or_eq_false_iff] at this
    exact this.1
  have h2 : adj (l.map hsM) = false := adj_false _ fun i hi e => by
    simp only [List.length_map] at hi
    have := hb i hi
    unfold badH at this
    rw [Bool.or_eq_false_iff, decide_eq_false_iff_not] at this
    rw [List.getElem_map, List.getElem_map] at e
    exact this.2 e.symm
  unfold hshO objM
  rw [h1, h2, List.map_map, List.map_map]
  rfl
def hvE (l : List Hs) : Int := if mayH l then 0 else 3
def hvV (l : List Hs) : V := if mayH l then hshO l else V.zero
theorem mayH_len {l : List Hs} (h : mayH l = true) : l.length ≤ 4 := by
  unfold mayH at h
  simp only [Bool.and_eq_true, decide_eq_true_eq] at h
  exact h.2.1
set_option maxRecDepth 100000 in
theorem HashesValue21_ok (l : List Hs) (w : World) (S : BSet) (v : Value) (hv : Rd w S (hssD l) v) : Calls Tryz.prog 8 #[v] w (Ret w fun r W => ∃ r1, r = .tuple #[r1, .int .i64 (hvE l)] ∧ Rd W (Fr w) (V.d (hvV l)) r1) := by
 obtain ⟨va, vc, ev, D_v⟩ := rdHss_out (rd_arg hv)
 subst ev
 refine enter Tryz.func8 rfl Tryz.ntmps8 (lbr rfl) fun a0 y0 zz0 harg => ?_
 have e0 : sl a0 0 = (.slice va (l.length) vc) := harg 0 (lbr rfl)
 have kw := Keeps.refl All w
 clear harg
 refine zq fun K1 hK1 => ?_
 refine rg mixed y0 zz0 ?_
 refine .alloc z26 ?_
 refine .ac ?_
 refine .dn fun a2 g W2 y2 zz2 hk hg hV hR hP => ?_
 obtain ⟨-, ⟨b2_2, e2, hb2, own_b2_2⟩, -⟩ := hV
 have lo_b2_2 : w.heap.size ≤ b2_2 := Nat.le_trans kw.size (hg.lo _ _ hb2)
 have own_b2_2 : Own W2 b2_2 [(.int .u8 (0)), (.int .i64 (0)), (.string (⟨#[]⟩)), (.slice none 0 0), (.slice none 0 0)] 26 := own_b2_2
 replace e0 := ft hR e0
 replace D_v := sa_more D_v hk [b2_2] (in_cons (hg.lo _ _ hb2) in_nil)
 replace kw := kw.x hk
 clear hR hk hg hP hb2
 refine zn (hK1 _ _ ?_)
 refine zq fun K3 hK3 => ?_
 refine zq fun K4 hK4 => ?_
 refine rg mixed y2 zz2 ?_
 refine .mb rfl e0 ?_
 refine .i (v := (.bool (mayH l))) (sp_call1 (φ1 := IsD (SA w S [b2_2]) (hssD (l))) ent18 ((hlc rfl).dat D_v sub_all) (fun g u1 W hk hgk h1 => MayHashes21_ok (l) W _ _ h1)) ?_
 refine .i (sp_not (hlc rfl)) ?_
 refine .dn fun a5 g W5 y5 zz5 hk hg hV hR hP => ?_
 obtain ⟨e6, -, -, -⟩ := hV
 replace e0 := ft hR e0
 replace e2 := ft hR e2
 replace D_v := D_v.ext hk
 replace e6 := e6.q
 replace own_b2_2 := own_b2_2.ext hk
 replace kw := kw.x hk
 clear hR hk hg hP
 refine zn (hK4 _ _ ?_)
 refine zc e6 (fun hc => ?_) (fun hc => ?_)
 ·
  have hm : mayH l = false := by simpa using hc
  have hoe : hvE l = 3 := by rw [hvE, hm]; rfl
  have hov : hvV l = V.zero := by rw [hvV, hm]; rfl
  refine zq fun K6 hK6 => ?_
  refine rg mixed y5 zz5 ?_
  refine .i (v := (.agg #[(.int .u8 (0)), (.int .i64 (0)), (.string (⟨#[]⟩)), (.slice none 0 0), (.slice none 0 0)])) (sp_build (vs := []) Tryz.underlying26 z26 (pl26 Tryz.underlying26) trivial rfl) ?_
  refine .dn fun a7 g W7 y7 zz7 hk hg hV hR hP => ?_
  obtain ⟨e7, -⟩ := hV
  replace e2 := ft hR e2
  replace D_v := D_v.ext hk
  replace e7 := e7.q
  replace own_b2_2 := own_b2_2.ext hk
  replace kw := kw.x hk
  clear hR hk hg hP
  refine tail_store e2 e7 sz26 rfl own_b2_2 (lbr rfl) (all_cons rfl (all_cons rfl (all_cons rfl (all_cons rfl (all_cons rfl all_nil))))) (fun W8 hs own_b2_2 => ?_)
  have own_b2_2 : Own W8 b2_2 [(.int .u8 (0)), (.int .i64 (0)), (.string (⟨#[]⟩)), (.slice none 0 0), (.slice none 0 0)] 26 := own_b2_2
  replace D_v := sa_store D_v hs (by simp)
  replace kw := keeps_store kw hs lo_b2_2
  clear hs
  refine tail_assign (v := (.int .i64 (3))) rfl (by rw [y7]; exact Nat.le_of_ble_eq_true rfl) (fun a9 y9 zz9 e3 hr => ?_)
  replace y9 := y9.trans y7; replace zz9 := zz9.trans zz7
  replace e2 := (hr 2 (by decide)).trans e2
  replace e7 := (hr 7 (by decide)).trans e7
  clear hr
  refine zn (hK6 _ _ ?_)
  refine wp_ret ?_
  refine retCT (v := (.agg #[(.int .u8 (0)), (.int .i64 (0)), (.string (⟨#[]⟩)), (.slice none 0 0), (.slice none 0 0)])) rfl zz9 e2 own_b2_2 agg26 sz26 rfl (fun h => by cases h) rfl e3 ⟨_, rfl, kw, ?_⟩
  refine ⟨_, by rw [hoe], ?_⟩
  rw [hov]
  exact sf_fr (rdV_mk (lbr rfl) (rd_nil _) (rd_nil _) : Rd W8 (SF w [b2_2]) (V.d (V.mk (0) (0) (⟨#[]⟩) ([]) ([]))) _)
 have hmh : mayH l = true := by simpa using hc
 have hl4 := mayH_len hmh
 have hoe : hvE l = 0 := by rw [hvE, hmh]; rfl
 have hov : hvV l = hshP l := by rw [hvV, hmh]; exact hshO_may hmh
 refine wp_skip (hK3 _ _ ?_)
 refine zq fun K10 hK10 => ?_
 refine rg mixed y5 zz5 ?_
 refine .mb rfl e0 ?_
 refine .da (X := Fr W5) (e := V.d (hshP l)) (sp_call1 (φ1 := IsD (SA w S [b2_2]) (hssD (l))) ent28 ((hlc rfl).dat D_v sub_all) (fun g u1 W hk hgk h1 => (object21r_ok (l) (by omega) W _ _ h1).mono (ret_fr hk hgk))) ?_
 refine .dn fun a11 g W11 y11 zz11 hk hg hV hR hP => ?_
 obtain ⟨e9, -, -⟩ := hV
 replace e2 := ft hR e2
 replace D_v := D_v.ext hk
 obtain ⟨v9_11, ev⟩ : ∃ v, sl a11 9 = v := ⟨_, rfl⟩
 rw [ev] at e9
 have D_v9_11 : Rd W11 (SF w [b2_2]) (V.d (hshP l)) v9_11 := fr_end (M := [b2_2]) e9 kw [] in_nil (in_cons own_b2_2.lt in_nil)
 replace e9 := ev; clear ev
 obtain ⟨cn9_11a, cn9_11c, ci9_11a, ci9_11c, ev, ht_v9_11, D_cn9_11, D_ci9_11⟩ := rdV_out D_v9_11
 subst ev; clear D_v9_11
 replace own_b2_2 := own_b2_2.ext hk
 replace kw := kw.x hk
 clear hR hk hg hP
 refine tail_store e2 e9 sz26 rfl own_b2_2 (lbr rfl) (all_cons rfl (all_cons rfl (all_cons rfl (all_cons rfl (all_cons rfl all_nil))))) (fun W12 hs own_b2_2 => ?_)
 have own_b2_2 : Own W12 b2_2 [(.int .u8 ((hshP l).k)), (.int .i64 ((hshP l).n)), (.string ((hshP l).t)), (.slice cn9_11a (((hshP l).ns).length) cn9_11c), (.slice ci9_11a (((hshP l).xs).length) ci9_11c)] 26 := own_b2_2
 replace D_v := sa_store D_v hs (by simp)
 replace D_cn9_11 := sf_store D_cn9_11 hs (by simp)
 replace D_ci9_11 := sf_store D_ci9_11 hs (by simp)
 replace kw := keeps_store kw hs lo_b2_2
 clear hs
 refine tail_assign (v := (.int .i64 (0))) rfl (by rw [y11]; exact Nat.le_of_ble_eq_true rfl) (fun a13 y13 zz13 e3 hr => ?_)
 replace y13 := y13.trans y11; replace zz13 := zz13.trans zz11
 replace e2 := (hr 2 (by decide)).trans e2
 replace e9 := (hr 9 (by decide)).trans e9
 clear hr
 refine zn (hK10 _ _ ?_)
 refine wp_ret ?_
 refine retCT (v := (.agg #[(.int .u8 ((hshP l).k)), (.int .i64 ((hshP l).n)), (.string ((hshP l).t)), (.slice cn9_11a (((hshP l).ns).length) cn9_11c), (.slice ci9_11a (((hshP l).xs).length) ci9_11c)])) rfl zz13 e2 own_b2_2 agg26 sz26 rfl (fun h => by cases h) rfl e3 ⟨_, rfl, kw, ?_⟩
 refine ⟨_, by rw [hoe], ?_⟩
 rw [hov]
 exact sf_fr (rdV_in (x := (hshP l)) ht_v9_11 D_cn9_11 D_ci9_11 : Rd W12 (SF w [b2_2]) (V.d ((hshP l))) _)
end Go.Proofs.YtnobijngkpflcaaGreat
namespace Go.Eng
def intsD (ns : List Int) : D := .lst 1 (ns.map (D.int .i64))
theorem ret3 {P : Program} {fn : Func} {R : Ending → World → Prop} {a : Act} {W : World} {t u u2 : Nat} {v1 v2 v3 : Value} (hr : fn.results = #[.tmp t, .tmp u, .tmp u2]) (hd : a.defers = []) (h1 : sl a t = v1) (h2 : sl a u = v2) (h3 : sl a u2 = v3) (hR : R (.returned (.tuple #[v1, v2, v3])) W) : bodyPost P fn R .ret a W :=
  ⟨hd, .tuple #[v1, v2, v3], by
    have e1 : a.tmps.getD t undef = v1 := h1
    have e2 : a.tmps.getD u undef = v2 := h2
    have e3 : a.tmps.getD u2 undef = v3 := h3
    simp only [results, hr]; simp [Array.getD_eq_getD_getElem?] at e1 e2 e3 ⊢; simp [e1, e2, e3], hR⟩
section
variable {P : Program} {ops : Array Oper} {S : Nat → Prop} {w0 : World} {a0 : Act} {Γ : Ctx}
variable {d : Option Tmp} {ty : TypeId} {pos : String} {af : Array Edge} {gd : Option (Nat × Bool)}
theorem sp_sliceLH {x y z : Operand} {T : TypeId} {s : ByteArray} {j k : Int} {i n : Nat} (hT : P.underlying T = some .string) (hx : Has S w0 a0 Γ x (Is (.string s))) (hy : Has S w0 a0 Γ y (Is (.int .i64 j))) (hz : Has S w0 a0 Γ z (Is (.int .i64 k))) (hj : j = i) (hk : k = n) (hi : i ≤ n) (hn : n ≤ s.size) :
    Spec P ops S w0 a0 Γ ⟨d, .slice T x (some y) (some z) none, ty, pos, af, gd⟩ (Is (.string (s.extract i n))) := sp_val fun a g W hkk hg he => by
  have e1 : a.eval x = .string s := hx.of_env hkk hg he (by simp [Op.operands])
  have e2 : a.eval y = .int .i64 j := hy.of_env hkk hg he (by simp [Op.operands])
  have e3 : a.eval z = .int .i64 k := hz.of_env hkk hg he (by simp [Op.operands])
  subst hj; subst hk
  simp [execOp, Instr.sliceAt, Instr.slice, Instr.sliceBounds, Instr.sliceBound, asIntOf, e1, e2, e3, run_und hT, hi, hn]
end
end Go.Eng
namespace Go.Eng
abbrev okR (lo hi mn : Int) : Prop := ¬ (55296 ≤ max lo mn ∧ min hi 1114111 ≤ 57343) ∧ max lo mn ≤ min hi 1114111
abbrev ctB (c : Nat) : Prop := 128 ≤ c ∧ c ≤ 191
abbrev begP2 (z b0 b1 : Nat) : Prop := (1 < z ∧ ctB b1 ∧ okR (64 * ((b0 : Int) - 192) + (b1 - 128)) (64 * ((b0 : Int) - 192) + (b1 - 128)) 128) ∨ (z ≤ 1 ∧ okR (64 * ((b0 : Int) - 192)) (64 * ((b0 : Int) - 192) + 63) 128)
abbrev begP3 (z b0 b1 b2 : Nat) : Prop := (2 < z ∧ ctB b1 ∧ ctB b2 ∧ okR (64 * (64 * ((b0 : Int) - 224) + (b1 - 128)) + (b2 - 128)) (64 * (64 * ((b0 : Int) - 224) + (b1 - 128)) + (b2 - 128)) 2048) ∨
  (z = 2 ∧ ctB b1 ∧ okR (64 * (64 * ((b0 : Int) - 224) + (b1 - 128))) (64 * (64 * ((b0 : Int) - 224) + (b1 - 128)) + 63) 2048) ∨ (z ≤ 1 ∧ okR (64 * (64 * ((b0 : Int) - 224))) (64 * (64 * ((b0 : Int) - 224) + 63) + 63) 2048)
abbrev begP4 (z b0 b1 b2 b3 : Nat) : Prop := (3 < z ∧ ctB b1 ∧ ctB b2 ∧ ctB b3 ∧ okR (64 * (64 * (64 * ((b0 : Int) - 240) + (b1 - 128)) + (b2 - 128)) + (b3 - 128)) (64 * (64 * (64 * ((b0 : Int) - 240) + (b1 - 128)) + (b2 - 128)) + (b3 - 128)) 65536) ∨
  (z = 3 ∧ ctB b1 ∧ ctB b2 ∧ okR (64 * (64 * (64 * ((b0 : Int) - 240) + (b1 - 128)) + (b2 - 128))) (64 * (64 * (64 * ((b0 : Int) - 240) + (b1 - 128)) + (b2 - 128)) + 63) 65536) ∨
  (z = 2 ∧ ctB b1 ∧ okR (64 * (64 * (64 * ((b0 : Int) - 240) + (b1 - 128)))) (64 * (64 * (64 * ((b0 : Int) - 240) + (b1 - 128)) + 63) + 63) 65536) ∨ (z ≤ 1 ∧ okR (64 * (64 * (64 * ((b0 : Int) - 240)))) (64 * (64 * (64 * ((b0 : Int) - 240) + 63) + 63) + 63) 65536)
theorem byteAt_lt (s : ByteArray) (i : Nat) : byteAt s i < 256 := by
  unfold byteAt
  split
  · exact UInt8.toNat_lt _
  · omega
theorem get_byteAt (s : ByteArray) (i : Nat) : (s.get! i).toNat = byteAt s i := by
  unfold byteAt
  split
  · rename_i h
    congr 1
    show s.data[i]! = s.data[i]
    rw [getElem!_pos s.data i h]
  · rename_i h
    show (s.data[i]!).toNat = 0
    rw [getElem!_neg s.data i h]
    rfl
theorem okR_pre {r lo hi mn : Int} (h : okR r r mn) (h1 : lo ≤ r) (h2 : r ≤ hi) : okR lo hi mn := by
  unfold okR at h ⊢
  omega
def okB2 (z b0 b1 : Nat) : Bool := decide (begP2 z b0 b1)
def okB3 (z b0 b1 b2 : Nat) : Bool := decide (begP3 z b0 b1 b2)
def okB4 (z b0 b1 b2 b3 : Nat) : Bool := decide (begP4 z b0 b1 b2 b3)
abbrev whole2 (b0 b1 : Nat) : Prop := ctB b1 ∧ okR (64 * ((b0 : Int) - 192) + (b1 - 128)) (64 * ((b0 : Int) - 192) + (b1 - 128)) 128
abbrev whole3 (b0 b1 b2 : Nat) : Prop := ctB b1 ∧ ctB b2 ∧ okR (64 * (64 * ((b0 : Int) - 224) + (b1 - 128)) + (b2 - 128)) (64 * (64 * ((b0 : Int) - 224) + (b1 - 128)) + (b2 - 128)) 2048
abbrev whole4 (b0 b1 b2 b3 : Nat) : Prop := ctB b1 ∧ ctB b2 ∧ ctB b3 ∧ okR (64 * (64 * (64 * ((b0 : Int) - 240) + (b1 - 128)) + (b2 - 128)) + (b3 - 128)) (64 * (64 * (64 * ((b0 : Int) - 240) + (b1 - 128)) + (b2 - 128)) + (b3 - 128)) 65536
theorem okB2_iff {b0 b1 : Nat} : okB2 2 b0 b1 = true ↔ whole2 b0 b1 := by
  unfold okB2
  rw [decide_eq_true_eq]
  exact ⟨fun h => by rcases h with ⟨_, h⟩ | ⟨h, _⟩; exact h; exact absurd h (by decide), fun h => .inl ⟨by decide, h⟩⟩
theorem okB3_iff {b0 b1 b2 : Nat} : okB3 3 b0 b1 b2 = true ↔ whole3 b0 b1 b2 := by
  unfold okB3
  rw [decide_eq_true_eq]
  exact ⟨fun h => by rcases h with ⟨_, h⟩ | ⟨h, _⟩ | ⟨h, _⟩; exact h; exact absurd h (by decide); exact absurd h (by decide), fun h => .inl ⟨by decide, h⟩⟩
theorem okB4_iff {b0 b1 b2 b3 : Nat} : okB4 4 b0 b1 b2 b3 = true ↔ whole4 b0 b1 b2 b3 := by
  unfold okB4
  rw [decide_eq_true_eq]
  exact ⟨fun h => by rcases h with ⟨_, h⟩ | ⟨h, _⟩ | ⟨h, _⟩ | ⟨h, _⟩; exact h; exact absurd h (by decide); exact absurd h (by decide); exact absurd h (by decide), fun h => .inl ⟨by decide, h⟩⟩
theorem okB2_1 {b0 b1 : Nat} (h : okB2 2 b0 b1 = true) (c1 : Nat) : okB2 1 b0 c1 = true := by
  obtain ⟨h1, h2⟩ := okB2_iff.1 h
  exact decide_eq_true (.inr ⟨by decide, okR_pre h2 (by clear h2; omega) (by clear h2; omega)⟩)
theorem okB3_1 {b0 b1 b2 : Nat} (h : okB3 3 b0 b1 b2 = true) (c1 c2 : Nat) : okB3 1 b0 c1 c2 = true := by
  obtain ⟨h1, h2, h3⟩ := okB3_iff.1 h
  exact decide_eq_true (.inr (.inr ⟨by decide, okR_pre h3 (by clear h3; omega) (by clear h3; omega)⟩))
theorem okB3_2 {b0 b1 b2 : Nat} (h : okB3 3 b0 b1 b2 = true) (c2 : Nat) : okB3 2 b0 b1 c2 = true := by
  obtain ⟨h1, h2, h3⟩ := okB3_iff.1 h
  exact decide_eq_true (.inr (.inl ⟨by decide, h1, okR_pre h3 (by clear h3; omega) (by clear h3; omega)⟩))
theorem okB4_1 {b0 b1 b2 b3 : Nat} (h : okB4 4 b0 b1 b2 b3 = true) (c1 c2 c3 : Nat) : okB4 1 b0 c1 c2 c3 = true := by
  obtain ⟨h1, h2, h3, h4⟩ := okB4_iff.1 h
  exact decide_eq_true (.inr (.inr (.inr ⟨by decide, okR_pre h4 (by clear h4; omega) (by clear h4; omega)⟩)))
theorem okB4_2 {b0 b1 b2 b3 : Nat} (h : okB4 4 b0 b1 b2 b3 = true) (c2 c3 : Nat) : okB4 2 b0 b1 c2 c3 = true := by
  obtain ⟨h1, h2, h3, h4⟩ := okB4_iff.1 h
  exact decide_eq_true (.inr (.inr (.inl ⟨by decide, h1, okR_pre h4 (by clear h4; omega) (by clear h4; omega)⟩)))
theorem okB4_3 {b0 b1 b2 b3 : Nat} (h : okB4 4 b0 b1 b2 b3 = true) (c3 : Nat) : okB4 3 b0 b1 b2 c3 = true := by
  obtain ⟨h1, h2, h3, h4⟩ := okB4_iff.1 h
  exact decide_eq_true (.inr (.inl ⟨by decide, h1, h2, okR_pre h4 (by clear h4; omega) (by clear h4; omega)⟩))
def okN (z b0 b1 b2 b3 : Nat) : Prop := b0 < 128 ∨ (192 ≤ b0 ∧ b0 < 224 ∧ 1 < z ∧ okB2 2 b0 b1 = true) ∨ (224 ≤ b0 ∧ b0 < 240 ∧ 2 < z ∧ okB3 3 b0 b1 b2 = true) ∨ (240 ≤ b0 ∧ b0 ≤ 247 ∧ 3 < z ∧ okB4 4 b0 b1 b2 b3 = true)
def wdN (b0 : Nat) : Int := if b0 < 128 then 1 else if b0 < 224 then 2 else if b0 < 240 then 3 else 4
def nxt (z b0 b1 b2 b3 : Nat) (e wd : Int) : Prop := (e = 0 ↔ okN z b0 b1 b2 b3) ∧ (e = 0 → wd = wdN b0)
section
variable {z b0 b1 b2 b3 : Nat} {e wd : Int}
theorem nx_no (he : e ≠ 0) (h : ¬ okN z b0 b1 b2 b3) : nxt z b0 b1 b2 b3 e wd := ⟨⟨fun h0 => absurd h0 he, fun h0 => absurd h0 h⟩, fun h0 => absurd h0 he⟩
theorem nx_lo (h : b0 < 128) : nxt z b0 b1 b2 b3 0 1 := ⟨⟨fun _ => .inl h, fun _ => rfl⟩, fun _ => by rw [wdN, if_pos h]⟩
theorem nx_bad (he : e ≠ 0) (h : 128 ≤ b0 ∧ (b0 < 192 ∨ 247 < b0)) : nxt z b0 b1 b2 b3 e wd := nx_no he fun h0 => by
  rcases h0 with h0 | ⟨h1, h2, _⟩ | ⟨h1, h2, _⟩ | ⟨h1, h2, _⟩ <;> omega
theorem ok_c2 (h : 192 ≤ b0 ∧ b0 < 224) : okN z b0 b1 b2 b3 ↔ 1 < z ∧ okB2 2 b0 b1 = true :=
  ⟨fun h0 => by rcases h0 with h0 | ⟨_, _, h1⟩ | ⟨h1, h2, _⟩ | ⟨h1, h2, _⟩; omega; exact h1; omega; omega, fun h1 => .inr (.inl ⟨h.1, h.2, h1⟩)⟩
theorem ok_c3 (h : 224 ≤ b0 ∧ b0 < 240) : okN z b0 b1 b2 b3 ↔ 2 < z ∧ okB3 3 b0 b1 b2 = true :=
  ⟨fun h0 => by rcases h0 with h0 | ⟨h1, h2, _⟩ | ⟨_, _, h1⟩ | ⟨h1, h2, _⟩; omega; omega; exact h1; omega, fun h1 => .inr (.inr (.inl ⟨h.1, h.2, h1⟩))⟩
theorem ok_c4 (h : 240 ≤ b0 ∧ b0 ≤ 247) : okN z b0 b1 b2 b3 ↔ 3 < z ∧ okB4 4 b0 b1 b2 b3 = true :=
  ⟨fun h0 => by rcases h0 with h0 | ⟨h1, h2, _⟩ | ⟨h1, h2, _⟩ | ⟨_, _, h1⟩; omega; omega; omega; exact h1, fun h1 => .inr (.inr (.inr ⟨h.1, h.2, h1⟩))⟩
end
open Lib (decodeN)
abbrev isBad (n b0 b1 b2 : Nat) : Prop := 2 < n ∧ b0 = 239 ∧ b1 = 191 ∧ b2 = 189
theorem dec_ok (n b0 b1 b2 b3 : Nat) (h0 : b0 < 256) (h1 : b1 < 256) (h2 : b2 < 256) (h3 : b3 < 256) :
    (((decodeN n b0 b1 b2 b3).1 = 65533 ∧ ¬ isBad n b0 b1 b2) ↔ ¬ okN n b0 b1 b2 b3) ∧ (okN n b0 b1 b2 b3 → (((decodeN n b0 b1 b2 b3).2 : Nat) : Int) = wdN b0) := by
  unfold decodeN isBad
  by_cases c1 : b0 < 128
  · rw [if_pos c1]
    have hk : okN n b0 b1 b2 b3 := .inl c1
    refine ⟨⟨fun h => by have := h.1; simp only at this; omega, fun h => absurd hk h⟩, fun _ => by rw [wdN, if_pos c1]; rfl⟩
  · rw [if_neg c1]
    by_cases c2 : b0 < 192 ∨ 247 < b0
    · have hk : ¬ okN n b0 b1 b2 b3 := fun h0 => by
        rcases h0 with h0 | ⟨h1, h2, _⟩ | ⟨h1, h2, _⟩ | ⟨h1, h2, _⟩ <;> omega
      rw [if_neg (by omega), if_neg (by omega), if_neg (by omega)]
      exact ⟨⟨fun _ => hk, fun _ => ⟨rfl, by omega⟩⟩, fun h => absurd h hk⟩
    · by_cases c3 : b0 < 224
      · have hc : 192 ≤ b0 ∧ b0 < 224 := by omega
        rw [ok_c2 hc, okB2_iff, wdN, if_neg c1, if_pos c3]
        unfold whole2 okR ctB
        by_cases d1 : 1 < n ∧ b1 / 64 = 2
        · rw [if_pos (by omega)]
          by_cases d2 : b0 % 32 * 64 + b1 % 64 ≥ 128
          · rw [if_pos d2]
            refine ⟨⟨fun h => by have := h.1; simp only at this; omega, fun h => by omega⟩, fun _ => rfl⟩
          · rw [if_neg d2]
            refine ⟨⟨fun h => by omega, fun h => ⟨rfl, by omega⟩⟩, fun h => by omega⟩
        · rw [if_neg (by omega), if_neg (by omega), if_neg (by omega)]
          refine ⟨⟨fun h => by omega, fun h => ⟨rfl, by omega⟩⟩, fun h => by omega⟩
      · by_cases c4 : b0 < 240
        · have hc : 224 ≤ b0 ∧ b0 < 240 := by omega
          rw [ok_c3 hc, okB3_iff, wdN, if_neg c1, if_neg c3, if_pos c4]
          unfold whole3 okR ctB
          rw [if_neg (by omega)]
          by_cases d1 : (1 < n ∧ b1 / 64 = 2) ∧ (2 < n ∧ b2 / 64 = 2)
          · rw [if_pos (by omega)]
            have e1 : b0 % 16 = b0 - 224 := by omega
            have e2 : b1 % 64 = b1 - 128 := by omega
            have e3 : b2 % 64 = b2 - 128 := by omega
            rw [e1, e2, e3]
            split
            · refine ⟨⟨fun h => by have h4 := h.1; have h5 := h.2; simp only at h4; omega, fun h => by omega⟩, fun _ => rfl⟩
            · refine ⟨⟨fun h => by omega, fun h => ⟨rfl, by omega⟩⟩, fun h => by omega⟩
          · rw [if_neg (by omega), if_neg (by omega)]
            refine ⟨⟨fun h => by omega, fun h => ⟨rfl, by omega⟩⟩, fun h => by omega⟩
        · have hc : 240 ≤ b0 ∧ b0 ≤ 247 := by omega
          rw [ok_c4 hc, okB4_iff, wdN, if_neg c1, if_neg c3, if_neg c4]
          unfold whole4 okR ctB
          rw [if_neg (by omega), if_neg (by omega)]
          by_cases d1 : (1 < n ∧ b1 / 64 = 2) ∧ (2 < n ∧ b2 / 64 = 2) ∧ (3 < n ∧ b3 / 64 = 2)
          · rw [if_pos (by omega)]
            have e1 : b0 % 8 = b0 - 240 := by omega
            have e2 : b1 % 64 = b1 - 128 := by omega
            have e3 : b2 % 64 = b2 - 128 := by omega
            have e4 : b3 % 64 = b3 - 128 := by omega
            rw [e1, e2, e3, e4]
            split
            · refine ⟨⟨fun h => by have h4 := h.1; have h5 := h.2; simp only at h4; omega, fun h => by omega⟩, fun _ => rfl⟩
            · refine ⟨⟨fun h => by omega, fun h => ⟨rfl, by omega⟩⟩, fun h => by omega⟩
          · rw [if_neg (by omega)]
            refine ⟨⟨fun h => by omega, fun h => ⟨rfl, by omega⟩⟩, fun h => by omega⟩
theorem byte_ext (s : ByteArray) (a b j : Nat) (h1 : a + j < b) (h2 : b ≤ s.size) : byteAt (s.extract a b) j = byteAt s (a + j) := by
  unfold byteAt
  rw [dif_pos (by rw [ByteArray.size_extract]; omega), dif_pos (by omega), ByteArray.getElem_extract]
theorem hasBad (s : ByteArray) (p : Nat) (hp : p < s.size) : hasPre (s.extract p s.size) badRune = decide (isBad (s.size - p) (byteAt s p) (byteAt s (p + 1)) (byteAt s (p + 2))) := by
  unfold hasPre
  rw [Bool.eq_iff_iff, Bool.and_eq_true, decide_eq_true_eq, decide_eq_true_eq, decide_eq_true_eq]
  have hz : badRune.size = 3 := rfl
  have he : (s.extract p s.size).size = s.size - p := by rw [ByteArray.size_extract]; omega
  rw [hz, he]
  have hb : ∀ j, j < 3 → 3 ≤ s.size - p → byteAt ((s.extract p s.size).extract 0 3) j = byteAt s (p + j) := by
    intro j hj h3
    rw [byte_ext _ 0 3 j (by omega) (by rw [he]; exact h3), byte_ext s p s.size (0 + j) (by omega) (Nat.le_refl _), Nat.zero_add]
  constructor
  · rintro ⟨h1, h2⟩
    have q0 := hb 0 (by omega) h1
    have q1 := hb 1 (by omega) h1
    have q2 := hb 2 (by omega) h1
    rw [h2] at q0 q1 q2
    exact ⟨by omega, q0.symm.trans rfl, q1.symm.trans rfl, q2.symm.trans rfl⟩
  · rintro ⟨h1, h2, h3, h4⟩
    refine ⟨by omega, ?_⟩
    have hl : ((s.extract p s.size).extract 0 3).size = 3 := by rw [ByteArray.size_extract, he]; omega
    have q0 := (hb 0 (by omega) (by omega)).trans h2
    have q1 := (hb 1 (by omega) (by omega)).trans h3
    have q2 := (hb 2 (by omega) (by omega)).trans h4
    generalize (s.extract p s.size).extract 0 3 = u at hl q0 q1 q2
    unfold byteAt at q0 q1 q2
    rw [dif_pos (by omega)] at q0 q1 q2
    apply ByteArray.ext_getElem
    · rw [hl, hz]
    · intro i hi1 hi2
      have hc : i = 0 ∨ i = 1 ∨ i = 2 := by omega
      rcases hc with rfl | rfl | rfl
      · exact UInt8.toNat_inj.1 q0
      · exact UInt8.toNat_inj.1 q1
      · exact UInt8.toNat_inj.1 q2
theorem utfFrom_no {s : ByteArray} {f p : Nat} (hp : p < s.size) (h : ¬ okN (s.size - p) (byteAt s p) (byteAt s (p + 1)) (byteAt s (p + 2)) (byteAt s (p + 3))) : utfFrom s (f + 1) p = false := by
  have hd := dec_ok (s.size - p) (byteAt s p) (byteAt s (p + 1)) (byteAt s (p + 2)) (byteAt s (p + 3)) (byteAt_lt _ _) (byteAt_lt _ _) (byteAt_lt _ _) (byteAt_lt _ _)
  have hq := hd.1.2 h
  rw [utfFrom, if_pos hp, if_pos]
  rw [hasBad s p hp, decide_eq_false_iff_not, Lib.decode_at]
  simp only [get_byteAt]
  exact hq
theorem utfFrom_ok {s : ByteArray} {f p : Nat} {wd : Int} (hp : p < s.size) (h : okN (s.size - p) (byteAt s p) (byteAt s (p + 1)) (byteAt s (p + 2)) (byteAt s (p + 3))) (hw : wd = wdN (byteAt s p)) : utfFrom s (f + 1) p = utfFrom s f (p + wd.toNat) := by
  have hd := dec_ok (s.size - p) (byteAt s p) (byteAt s (p + 1)) (byteAt s (p + 2)) (byteAt s (p + 3)) (byteAt_lt _ _) (byteAt_lt _ _) (byteAt_lt _ _) (byteAt_lt _ _)
  have hq := hd.2 h
  rw [utfFrom, if_pos hp, if_neg]
  · congr 2
    rw [hw, ← hq, Lib.decode_at]
    simp only [get_byteAt]
    rfl
  · intro hn
    rw [hasBad s p hp, decide_eq_false_iff_not, Lib.decode_at] at hn
    simp only [get_byteAt] at hn
    exact hd.1.1 hn h
theorem wdN_b (b : Nat) : 1 ≤ wdN b ∧ wdN b ≤ 4 := by unfold wdN; split; omega; split; omega; split <;> omega
def bgL (s : ByteArray) (b : Int) : Nat → Int
  | 0 => b
  | k + 1 => if k + 1 < s.size then 64 * bgL s b k + ((byteAt s (k + 1) : Int) - 128) else 64 * bgL s b k
def bgH (s : ByteArray) (b : Int) : Nat → Int
  | 0 => b
  | k + 1 => if k + 1 < s.size then 64 * bgH s b k + ((byteAt s (k + 1) : Int) - 128) else 64 * bgH s b k + 63
theorem bg_bd1 (s : ByteArray) (b : Int) (B : Int) (k : Nat) (h : -B ≤ bgL s b k ∧ bgL s b k ≤ B ∧ -B ≤ bgH s b k ∧ bgH s b k ≤ B) : -(64 * B + 200) ≤ bgL s b (k + 1) ∧ bgL s b (k + 1) ≤ 64 * B + 200 ∧ -(64 * B + 200) ≤ bgH s b (k + 1) ∧ bgH s b (k + 1) ≤ 64 * B + 200 := by
  have := byteAt_lt s (k + 1)
  rw [bgL, bgH]
  split <;> omega
theorem bg_bd (s : ByteArray) (b : Int) (hb : -300 ≤ b ∧ b ≤ 300) : ∀ k, k ≤ 3 → -100000000 ≤ bgL s b k ∧ bgL s b k ≤ 100000000 ∧ -100000000 ≤ bgH s b k ∧ bgH s b k ≤ 100000000 := fun k hk => by
  have h0 : -300 ≤ bgL s b 0 ∧ bgL s b 0 ≤ 300 ∧ -300 ≤ bgH s b 0 ∧ bgH s b 0 ≤ 300 := ⟨hb.1, hb.2, hb.1, hb.2⟩
  have h1 := bg_bd1 s b _ 0 h0
  have h2 := bg_bd1 s b _ 1 h1
  have h3 := bg_bd1 s b _ 2 h2
  simp only [Nat.reduceAdd] at h1 h2 h3
  have hc : k = 0 ∨ k = 1 ∨ k = 2 ∨ k = 3 := by omega
  rcases hc with rfl | rfl | rfl | rfl
  · omega
  · omega
  · omega
  · omega
def ctS (s : ByteArray) (n : Nat) : Prop := ∀ j, 1 ≤ j → j < n → j < s.size → ctB (byteAt s j)
def begT (s : ByteArray) (n : Nat) (b ls : Int) : Prop := ctS s n ∧ okR (bgL s b (n - 1)) (bgH s b (n - 1)) ls
theorem begT2 {s : ByteArray} (h1 : 1 ≤ s.size) : okB2 s.size (byteAt s 0) (byteAt s 1) = true ↔ begT s 2 ((byteAt s 0 : Int) - 192) 128 := by
  unfold okB2 begP2 begT
  rw [decide_eq_true_eq]
  have e1 : bgL s ((byteAt s 0 : Int) - 192) 1 = if 1 < s.size then 64 * ((byteAt s 0 : Int) - 192) + ((byteAt s 1 : Int) - 128) else 64 * ((byteAt s 0 : Int) - 192) := rfl
  have f1 : bgH s ((byteAt s 0 : Int) - 192) 1 = if 1 < s.size then 64 * ((byteAt s 0 : Int) - 192) + ((byteAt s 1 : Int) - 128) else 64 * ((byteAt s 0 : Int) - 192) + 63 := rfl
  rw [show 2 - 1 = 1 from rfl, e1, f1]
  by_cases hz : 1 < s.size
  · rw [if_pos hz, if_pos hz]
    constructor
    · rintro (⟨_, h2, h3⟩ | h)
      · exact ⟨fun j a b _ => by obtain rfl : j = 1 := (by omega); exact h2, h3⟩
      · exact absurd h.1 (by omega)
    · exact fun h => .inl ⟨hz, h.1 1 (by omega) (by omega) hz, h.2⟩
  · rw [if_neg hz, if_neg hz]
    constructor
    · rintro (h | ⟨_, h3⟩)
      · exact absurd h.1 hz
      · exact ⟨fun j a b c => by omega, h3⟩
    · exact fun h => .inr ⟨by omega, h.2⟩
theorem begT3 {s : ByteArray} (h1 : 1 ≤ s.size) : okB3 s.size (byteAt s 0) (byteAt s 1) (byteAt s 2) = true ↔ begT s 3 ((byteAt s 0 : Int) - 224) 2048 := by
  unfold okB3 begP3 begT
  rw [decide_eq_true_eq, show 3 - 1 = 2 from rfl]
  simp only [bgL, bgH]
  by_cases hz : 2 < s.size
  · rw [if_pos (show 1 + 1 < s.size by omega), if_pos (show 0 + 1 < s.size by omega), if_pos (show 1 + 1 < s.size by omega), if_pos (show 0 + 1 < s.size by omega)]
    constructor
    · rintro (⟨_, h2, h3, h4⟩ | h | h)
      · exact ⟨fun j a b _ => by
          have hj : j = 1 ∨ j = 2 := by omega
          rcases hj with rfl | rfl
          · exact h2
          · exact h3, h4⟩
      · exact absurd h.1 (by omega)
      · exact absurd h.1 (by omega)
    · exact fun h => .inl ⟨hz, h.1 1 (by omega) (by omega) (by omega), h.1 2 (by omega) (by omega) (by omega), h.2⟩
  · by_cases hy : s.size = 2
    · rw [if_neg (show ¬ 1 + 1 < s.size by omega), if_pos (show 0 + 1 < s.size by omega), if_neg (show ¬ 1 + 1 < s.size by omega), if_pos (show 0 + 1 < s.size by omega)]
      constructor
      · rintro (h | ⟨_, h2, h4⟩ | h)
        · exact absurd h.1 hz
        · exact ⟨fun j a b c => by obtain rfl : j = 1 := (by omega); exact h2, h4⟩
        · exact absurd h.1 (by omega)
      · exact fun h => .inr (.inl ⟨hy, h.1 1 (by omega) (by omega) (by omega), h.2⟩)
    · rw [if_neg (show ¬ 1 + 1 < s.size by omega), if_neg (show ¬ 0 + 1 < s.size by omega), if_neg (show ¬ 1 + 1 < s.size by omega), if_neg (show ¬ 0 + 1 < s.size by omega)]
      constructor
      · rintro (h | h | ⟨_, h4⟩)
        · exact absurd h.1 hz
        · exact absurd h.1 hy
        · exact ⟨fun j a b c => by omega, h4⟩
      · exact fun h => .inr (.inr ⟨by omega, h.2⟩)
theorem begT4 {s : ByteArray} (h1 : 1 ≤ s.size) : okB4 s.size (byteAt s 0) (byteAt s 1) (byteAt s 2) (byteAt s 3) = true ↔ begT s 4 ((byteAt s 0 : Int) - 240) 65536 := by
  unfold okB4 begP4 begT
  rw [decide_eq_true_eq, show 4 - 1 = 3 from rfl]
  simp only [bgL, bgH]
  by_cases hz : 3 < s.size
  · rw [if_pos (show 2 + 1 < s.size by omega), if_pos (show 1 + 1 < s.size by omega), if_pos (show 0 + 1 < s.size by omega), if_pos (show 2 + 1 < s.size by omega), if_pos (show 1 + 1 < s.size by omega), if_pos (show 0 + 1 < s.size by omega)]
    constructor
    · rintro (⟨_, h2, h3, h4, h5⟩ | h | h | h)
      · exact ⟨fun j a b _ => by
          have hj : j = 1 ∨ j = 2 ∨ j = 3 := by omega
          rcases hj with rfl | rfl | rfl
          · exact h2
          · exact h3
          · exact h4, h5⟩
      · exact absurd h.1 (by omega)
      · exact absurd h.1 (by omega)
      · exact absurd h.1 (by omega)
    · exact fun h => .inl ⟨hz, h.1 1 (by omega) (by omega) (by omega), h.1 2 (by omega) (by omega) (by omega), h.1 3 (by omega) (by omega) (by omega), h.2⟩
  · by_cases hy : s.size = 3
    · rw [if_neg (show ¬ 2 + 1 < s.size by omega), if_pos (show 1 + 1 < s.size by omega), if_pos (show 0 + 1 < s.size by omega), if_neg (show ¬ 2 + 1 < s.size by omega), if_pos (show 1 + 1 < s.size by omega), if_pos (show 0 + 1 < s.size by omega)]
      constructor
      · rintro (h | ⟨_, h2, h3, h4⟩ | h | h)
        · exact absurd h.1 hz
        · exact ⟨fun j a b c => by
            have hj : j = 1 ∨ j = 2 := by omega
            rcases hj with rfl | rfl
            · exact h2
            · exact h3, h4⟩
        · exact absurd h.1 (by omega)
        · exact absurd h.1 (by omega)
      · exact fun h => .inr (.inl ⟨hy, h.1 1 (by omega) (by omega) (by omega), h.1 2 (by omega) (by omega) (by omega), h.2⟩)
    · by_cases hx : s.size = 2
      · rw [if_neg (show ¬ 2 + 1 < s.size by omega), if_neg (show ¬ 1 + 1 < s.size by omega), if_pos (show 0 + 1 < s.size by omega), if_neg (show ¬ 2 + 1 < s.size by omega), if_neg (show ¬ 1 + 1 < s.size by omega), if_pos (show 0 + 1 < s.size by omega)]
        constructor
        · rintro (h | h | ⟨_, h2, h4⟩ | h)
          · exact absurd h.1 hz
          · exact absurd h.1 hy
          · exact ⟨fun j a b c => by obtain rfl : j = 1 := (by omega); exact h2, h4⟩
          · exact absurd h.1 (by omega)
        · exact fun h => .inr (.inr (.inl ⟨hx, h.1 1 (by omega) (by omega) (by omega), h.2⟩))
      · rw [if_neg (show ¬ 2 + 1 < s.size by omega), if_neg (show ¬ 1 + 1 < s.size by omega), if_neg (show ¬ 0 + 1 < s.size by omega), if_neg (show ¬ 2 + 1 < s.size by omega), if_neg (show ¬ 1 + 1 < s.size by omega), if_neg (show ¬ 0 + 1 < s.size by omega)]
        constructor
        · rintro (h | h | h | ⟨_, h4⟩)
          · exact absurd h.1 hz
          · exact absurd h.1 hy
          · exact absurd h.1 hx
          · exact ⟨fun j a b c => by omega, h4⟩
        · exact fun h => .inr (.inr (.inr ⟨by omega, h.2⟩))
def begS (n : Nat) (u : ByteArray) : Bool := if n = 2 then okB2 u.size (byteAt u 0) (byteAt u 1) else if n = 3 then okB3 u.size (byteAt u 0) (byteAt u 1) (byteAt u 2) else okB4 u.size (byteAt u 0) (byteAt u 1) (byteAt u 2) (byteAt u 3)
def offN (n : Nat) : Int := if n = 2 then 192 else if n = 3 then 224 else 240
def lstN (n : Nat) : Int := if n = 2 then 128 else if n = 3 then 2048 else 65536
theorem offN_b (n : Nat) : 192 ≤ offN n ∧ offN n ≤ 240 := by unfold offN; split; omega; split <;> omega
theorem begS_iff {s : ByteArray} {n : Nat} (hn : n = 2 ∨ n = 3 ∨ n = 4) (h1 : 1 ≤ s.size) : begS n s = true ↔ begT s n ((byteAt s 0 : Int) - offN n) (lstN n) := by
  rcases hn with rfl | rfl | rfl
  · exact begT2 h1
  · exact begT3 h1
  · exact begT4 h1
theorem begS_ct {s : ByteArray} {n k : Nat} (hn : n = 2 ∨ n = 3 ∨ n = 4) (h1 : 1 ≤ s.size) (hk : k + 1 < n) (hz : k + 1 < s.size) (hc : ¬ ctB (byteAt s (k + 1))) : begS n s = false := by
  cases h : begS n s with
  | false => rfl
  | true => exact absurd (((begS_iff hn h1).1 h).1 (k + 1) (by omega) hk hz) hc
theorem begS_end {s : ByteArray} {n : Nat} (hn : n = 2 ∨ n = 3 ∨ n = 4) (h1 : 1 ≤ s.size) (hc : ctS s n) (hs : ¬ (55296 ≤ max (bgL s ((byteAt s 0 : Int) - offN n) (n - 1)) (lstN n) ∧ min (bgH s ((byteAt s 0 : Int) - offN n) (n - 1)) 1114111 ≤ 57343)) : begS n s = decide (max (bgL s ((byteAt s 0 : Int) - offN n) (n - 1)) (lstN n) ≤ min (bgH s ((byteAt s 0 : Int) - offN n) (n - 1)) 1114111) := by
  rw [Bool.eq_iff_iff, begS_iff hn h1, decide_eq_true_eq]
  exact ⟨fun h => h.2.2, fun h => ⟨hc, hs, h⟩⟩
theorem begS_sur {s : ByteArray} {n : Nat} (hn : n = 2 ∨ n = 3 ∨ n = 4) (h1 : 1 ≤ s.size) (hs : 55296 ≤ max (bgL s ((byteAt s 0 : Int) - offN n) (n - 1)) (lstN n) ∧ min (bgH s ((byteAt s 0 : Int) - offN n) (n - 1)) 1114111 ≤ 57343) : begS n s = false := by
  cases h : begS n s with
  | false => rfl
  | true => exact absurd hs ((begS_iff hn h1).1 h).2.1
theorem ext_size {s : ByteArray} {p i : Nat} (h : p + i ≤ s.size) : (s.extract p (p + i)).size = i := by rw [ByteArray.size_extract]; omega
theorem ext_byte {s : ByteArray} {p i j : Nat} (h : p + i ≤ s.size) (hj : j < i) : byteAt (s.extract p (p + i)) j = byteAt s (p + j) := byte_ext s p (p + i) j (by omega) h
theorem begS_whole {s : ByteArray} {p n : Nat} (hn : n = 2 ∨ n = 3 ∨ n = 4) (h : p + n ≤ s.size) : begS n (s.extract p (p + n)) = if n = 2 then okB2 2 (byteAt s p) (byteAt s (p + 1)) else if n = 3 then okB3 3 (byteAt s p) (byteAt s (p + 1)) (byteAt s (p + 2)) else okB4 4 (byteAt s p) (byteAt s (p + 1)) (byteAt s (p + 2)) (byteAt s (p + 3)) := by
  unfold begS
  rcases hn with rfl | rfl | rfl
  · rw [ext_size h, ext_byte h (by omega), ext_byte h (by omega)]; rfl
  · rw [ext_size h, ext_byte h (by omega), ext_byte h (by omega), ext_byte h (by omega)]; rfl
  · rw [ext_size h, ext_byte h (by omega), ext_byte h (by omega), ext_byte h (by omega), ext_byte h (by omega)]; rfl
theorem begS_pre {s : ByteArray} {p n k : Nat} (hn : n = 2 ∨ n = 3 ∨ n = 4) (h : p + n ≤ s.size) (hk : k < n) (hw : begS n (s.extract p (p + n)) = true) : begS n (s.extract p (p + (k + 1))) = true := by
  by_cases he : k + 1 = n
  · rw [he]; exact hw
  rw [begS_whole hn h] at hw
  unfold begS
  rcases hn with rfl | rfl | rfl
  · obtain rfl : k = 0 := by omega
    rw [ext_size (by omega), ext_byte (by omega) (by omega)]
    exact okB2_1 hw _
  · have hc : k = 0 ∨ k = 1 := by omega
    rcases hc with rfl | rfl
    · rw [ext_size (by omega), ext_byte (by omega) (by omega)]
      exact okB3_1 hw _ _
    · rw [ext_size (by omega), ext_byte (by omega) (by omega), ext_byte (by omega) (by omega)]
      exact okB3_2 hw _
  · have hc : k = 0 ∨ k = 1 ∨ k = 2 := by omega
    rcases hc with rfl | rfl | rfl
    · rw [ext_size (by omega), ext_byte (by omega) (by omega)]
      exact okB4_1 hw _ _ _
    · rw [ext_size (by omega), ext_byte (by omega) (by omega), ext_byte (by omega) (by omega)]
      exact okB4_2 hw _ _
    · rw [ext_size (by omega), ext_byte (by omega) (by omega), ext_byte (by omega) (by omega), ext_byte (by omega) (by omega)]
      exact okB4_3 hw _
def clsN (n b0 : Nat) : Prop := (n = 2 ∧ 192 ≤ b0 ∧ b0 < 224) ∨ (n = 3 ∧ 224 ≤ b0 ∧ b0 < 240) ∨ (n = 4 ∧ 240 ≤ b0 ∧ b0 ≤ 247)
theorem clsN_n {n b0 : Nat} (h : clsN n b0) : n = 2 ∨ n = 3 ∨ n = 4 := by
  rcases h with ⟨h, _⟩ | ⟨h, _⟩ | ⟨h, _⟩
  · exact .inl h
  · exact .inr (.inl h)
  · exact .inr (.inr h)
theorem okN_cls {s : ByteArray} {p n : Nat} (hc : clsN n (byteAt s p)) : okN (s.size - p) (byteAt s p) (byteAt s (p + 1)) (byteAt s (p + 2)) (byteAt s (p + 3)) ↔ p + n ≤ s.size ∧ begS n (s.extract p (p + n)) = true := by
  rcases hc with ⟨rfl, h⟩ | ⟨rfl, h⟩ | ⟨rfl, h⟩
  · rw [ok_c2 h]
    exact ⟨fun a => ⟨by omega, by rw [begS_whole (.inl rfl) (by omega)]; exact a.2⟩, fun a => ⟨by omega, by have := a.2; rw [begS_whole (.inl rfl) a.1] at this; exact this⟩⟩
  · rw [ok_c3 h]
    exact ⟨fun a => ⟨by omega, by rw [begS_whole (.inr (.inl rfl)) (by omega)]; exact a.2⟩, fun a => ⟨by omega, by have := a.2; rw [begS_whole (.inr (.inl rfl)) a.1] at this; exact this⟩⟩
  · rw [ok_c4 h]
    exact ⟨fun a => ⟨by omega, by rw [begS_whole (.inr (.inr rfl)) (by omega)]; exact a.2⟩, fun a => ⟨by omega, by have := a.2; rw [begS_whole (.inr (.inr rfl)) a.1] at this; exact this⟩⟩
abbrev nxS (s : ByteArray) (p : Nat) (e wd : Int) : Prop := nxt (s.size - p) (byteAt s p) (byteAt s (p + 1)) (byteAt s (p + 2)) (byteAt s (p + 3)) e wd
theorem nxs_short {s : ByteArray} {p n : Nat} {e wd : Int} (he : e ≠ 0) (hc : clsN n (byteAt s p)) (hz : ¬ p + n ≤ s.size) : nxS s p e wd := nx_no he fun h => hz ((okN_cls hc).1 h).1
theorem nxs_no {s : ByteArray} {p n k : Nat} {e wd : Int} (he : e ≠ 0) (hc : clsN n (byteAt s p)) (hk : k < n) (hb : begS n (s.extract p (p + (k + 1))) = false) : nxS s p e wd := nx_no he fun h => by
  have h2 := (okN_cls hc).1 h
  have := begS_pre (clsN_n hc) h2.1 hk h2.2
  rw [hb] at this; cases this
theorem nxs_ok {s : ByteArray} {p n : Nat} (hc : clsN n (byteAt s p)) (hz : p + n ≤ s.size) (hb : begS n (s.extract p (p + n)) = true) : nxS s p 0 n := by
  have hk := (okN_cls hc).2 ⟨hz, hb⟩
  refine ⟨⟨fun _ => hk, fun _ => rfl⟩, fun _ => ?_⟩
  unfold wdN
  rcases hc with ⟨rfl, h1, h2⟩ | ⟨rfl, h1, h2⟩ | ⟨rfl, h1, h2⟩
  · rw [if_neg (by omega), if_pos h2]; rfl
  · rw [if_neg (by omega), if_neg (by omega), if_pos h2]; rfl
  · rw [if_neg (by omega), if_neg (by omega), if_neg (by omega)]; rfl
theorem begS_cts {s : ByteArray} {p n : Nat} (hn : n = 2 ∨ n = 3 ∨ n = 4) (hz : p + n ≤ s.size) (hb : begS n (s.extract p (p + n)) = true) : ∀ k, k + 1 < n → 128 ≤ byteAt s (p + (k + 1)) ∧ byteAt s (p + (k + 1)) ≤ 191 := fun k hk => by
  have h := ((begS_iff hn (by rw [ext_size hz]; omega)).1 hb).1 (k + 1) (by omega) hk (by rw [ext_size hz]; exact hk)
  rw [ext_byte hz hk] at h
  exact h
def rnN (s : ByteArray) (p : Nat) (c : Int) : Nat → Int
  | 0 => c
  | k + 1 => 64 * rnN s p c k + ((byteAt s (p + (k + 1)) : Int) - 128)
theorem rn_bd (s : ByteArray) (p : Nat) (c : Int) (hc : -300 ≤ c ∧ c ≤ 300) (k : Nat) (hk : k ≤ 3) : -100000000 ≤ rnN s p c k ∧ rnN s p c k ≤ 100000000 := by
  have b1 := byteAt_lt s (p + 1)
  have b2 := byteAt_lt s (p + 2)
  have b3 := byteAt_lt s (p + 3)
  have e1 : rnN s p c 1 = 64 * c + ((byteAt s (p + 1) : Int) - 128) := rfl
  have e2 : rnN s p c 2 = 64 * rnN s p c 1 + ((byteAt s (p + 2) : Int) - 128) := rfl
  have e3 : rnN s p c 3 = 64 * rnN s p c 2 + ((byteAt s (p + 3) : Int) - 128) := rfl
  have h : k = 0 ∨ k = 1 ∨ k = 2 ∨ k = 3 := by omega
  rcases h with rfl | rfl | rfl | rfl
  · show -100000000 ≤ c ∧ c ≤ 100000000
    omega
  · omega
  · omega
  · omega
end Go.Eng
namespace Go.Proofs.YtnobijngkpflcaaGreat
open Go.Eng
set_option maxRecDepth 100000 in
theorem begins_ok (n : Nat) (hn : n = 2 ∨ n = 3 ∨ n = 4) (s : ByteArray) (h1 : 1 ≤ s.size) (hm : s.size ≤ maxLen) (w : World) : Calls Tryz.prog 110 #[.string s, .int .i64 n] w (Ret w fun u _ => u = .bool (begS n s)) := by
 simp only [maxLen] at hm
 have hn5 : n < 5 := by omega
 have hb0 := byteAt_lt s 0
 have hof := offN_b n
 have hbd := bg_bd s (((byteAt s 0 : Nat) : Int) - offN n) (by omega)
 have hl5 : ((([0, 0, 128, 2048, 65536] : List Nat)[n]'(show n < ([0, 0, 128, 2048, 65536] : List Int).length from hn5) : Nat) : Int) = lstN n := by rcases hn with rfl | rfl | rfl <;> rfl
 have hl6 : ([0, 0, 128, 2048, 65536] : List Int)[n]'(show n < ([0, 0, 128, 2048, 65536] : List Int).length from hn5) = lstN n := by rcases hn with rfl | rfl | rfl <;> rfl
 refine enter Tryz.func110 rfl Tryz.ntmps110 (lbr rfl) fun a0 y0 zz0 harg => ?_
 have e0 : sl a0 0 = (.string (s)) := harg 0 (lbr rfl)
 have e1 : sl a0 1 = (.int .i64 ((n : Nat))) := harg 1 (lbr rfl)
 have kw := Keeps.refl All w
 clear harg
 refine zq fun K1 hK1 => ?_
 refine rg mixed y0 zz0 ?_
 refine .ac ?_
 refine .dn fun a2 g W2 y2 zz2 hk hg hV hR hP => ?_
 obtain ⟨-, -⟩ := hV
 replace e0 := ft hR e0
 replace e1 := ft hR e1
 replace kw := kw.x hk
 clear hR hk hg hP
 refine zn (hK1 _ _ ?_)
 try clear hK1 K1
 refine zq fun K3 hK3 => ?_
 refine rg mixed y2 zz2 ?_
 refine .mb rfl e0 ?_
 refine .i (v := (.int .u8 ((byteAt s 0 : Nat)))) (sp_indexStrB (i := 0) Tryz.underlying9 (hlc rfl) Has.cst rfl (by omega)) ?_
 refine .i (v := (.int .i64 ((byteAt s 0 : Nat)))) (sp_conv Tryz.underlying5 Tryz.underlying3 (hlc rfl) (i64_in (by omega))) ?_
 refine .mb rfl e0 ?_
 refine .i (v := (.int .u8 ((byteAt s 0 : Nat)))) (sp_indexStrB (i := 0) Tryz.underlying9 (hlc rfl) Has.cst rfl (by omega)) ?_
 refine .i (v := (.int .i64 ((byteAt s 0 : Nat)))) (sp_conv Tryz.underlying5 Tryz.underlying3 (hlc rfl) (i64_in (by omega))) ?_
 refine .al rfl ?_
 refine .al rfl ?_
 refine .dn fun a4 g W4 y4 zz4 hk hg hV hR hP => ?_
 obtain ⟨e6, e5, -, -, -, -, -, -, -⟩ := hV
 replace e0 := ft hR e0
 replace e1 := ft hR e1
 replace e5 := e5.q
 replace e6 := e6.q
 replace kw := kw.x hk
 clear hR hk hg hP
 refine zn (hK3 _ _ ?_)
 try clear hK3 K3
 refine zq fun K5 hK5 => ?_
 have J5 : ∀ a W, (a.tmps.size = 92 ∧ a.defers = [] ∧ Keeps All w W ∧ sl a 0 = (.string (s)) ∧ sl a 1 = (.int .i64 ((n : Nat))) ∧ sl a 5 = (.int .i64 ((((byteAt s 0 : Nat) : Int) - offN n))) ∧ sl a 6 = (.int .i64 ((((byteAt s 0 : Nat) : Int) - offN n)))) → K5 a W := by
  clear kw e0 e1 e5 e6
  rintro a6 W6 ⟨y6, zz6, kw, e0, e1, e5, e6⟩
  refine hK5 _ _ ?_
  refine zq fun K7 hK7 => ?_
  refine zq fun K8 hK8 => ?_
  refine rg mixed y6 zz6 ?_
  refine .ac ?_
  refine .dn fun a9 g W9 y9 zz9 hk hg hV hR hP => ?_
  obtain ⟨e7, -⟩ := hV
  replace e0 := ft hR e0
  replace e1 := ft hR e1
  replace e5 := ft hR e5
  replace e6 := ft hR e6
  replace e7 := e7.q
  replace kw := kw.x hk
  clear hR hk hg hP
  refine zn (hK8 _ _ ?_)
  try clear hK8 K8
  refine wp_block ?_
  refine wp_for ((n - 1)) (fun k a W => a.tmps.size = 92 ∧ a.defers = [] ∧ Keeps All w W ∧ sl a 0 = (.string (s)) ∧ sl a 1 = (.int .i64 ((n : Nat))) ∧ sl a 5 = (.int .i64 (bgL s (((byteAt s 0 : Nat) : Int) - offN n) k)) ∧ sl a 6 = (.int .i64 (bgH s (((byteAt s 0 : Nat) : Int) - offN n) k)) ∧ sl a 7 = (.int .i64 (((k + 1 : Nat) : Int))) ∧ (∀ j, 1 ≤ j → j < k + 1 → j < s.size → ctB (byteAt s j))) ⟨y9, zz9, kw, e0, e1, (e5.trans (congrArg (Value.int .i64) (rfl))), (e6.trans (congrArg (Value.int .i64) (rfl))), (e7.trans (congrArg (Value.int .i64) (rfl))), fun j a b c => absurd b (by omega)⟩ ?_
  clear kw e0 e1 e5 e6 e7
  rintro k a10 W10 hkk ⟨y10, zz10, kw, e0, e1, e5, e6, e7, hinv⟩
  refine zq fun K11 hK11 => ?_
  refine zq fun K12 hK12 => ?_
  refine rg mixed y10 zz10 ?_
  refine .mb rfl e7 ?_
  refine .mb rfl e1 ?_
  refine .i (sp_lss (hlc rfl) (hlc rfl)) ?_
  refine .dn fun a13 g W13 y13 zz13 hk hg hV hR hP => ?_
  obtain ⟨e36, -, -, -⟩ := hV
  replace e0 := ft hR e0
  replace e1 := ft hR e1
  replace e5 := ft hR e5
  replace e6 := ft hR e6
  replace e7 := ft hR e7
  replace e36 := e36.q
  replace kw := kw.x hk
  clear hR hk hg hP
  refine zn (hK12 _ _ ?_)
  try clear hK12 K12
  refine zc e36 (fun hc => ?_) (fun hc => ?_)
  ·
   have hlt : k < n - 1 := by have := of_decide_eq_true hc; omega
   have hbk := hbd k (by omega)
   have hb1 := byteAt_lt s (k + 1)
   refine wp_skip (hK11 _ _ ?_)
   try clear hK11 K11
   refine zq fun K14 hK14 => ?_
   refine wp_block ?_
   refine zq fun K15 hK15 => ?_
   refine rg mixed y13 zz13 ?_
   refine .mb rfl e7 ?_
   refine .mb rfl e0 ?_
   refine .i (sp_lenS Tryz.underlying9 (hlc rfl)) ?_
   refine .i (sp_lss (hlc rfl) (hlc rfl)) ?_
   refine .dn fun a16 g W16 y16 zz16 hk hg hV hR hP => ?_
   obtain ⟨e42, -, -, -, -⟩ := hV
   replace e0 := ft hR e0
   replace e1 := ft hR e1
   replace e5 := ft hR e5
   replace e6 := ft hR e6
   replace e7 := ft hR e7
   replace e42 := e42.q
   replace kw := kw.x hk
   clear hR hk hg hP
   refine zn (hK15 _ _ ?_)
   try clear hK15 K15
   refine zc e42 (fun hc => ?_) (fun hc => ?_)
   ·
    have hz : k + 1 < s.size := by have := of_decide_eq_true hc; omega
    refine zq fun K17 hK17 => ?_
    refine zq fun K18 hK18 => ?_
    refine rg mixed y16 zz16 ?_
    refine .mb rfl e0 ?_
    refine .mb rfl e7 ?_
    refine .i (v := (.int .u8 ((byteAt s (k + 1) : Nat)))) (sp_indexStrB (i := (k + 1)) Tryz.underlying9 (hlc rfl) (hlc rfl) rfl (by omega)) ?_
    refine .i (sp_lss (hlc rfl) Has.cst) ?_
    refine .i (sp_move (hlc rfl)) ?_
    refine .em rfl (hlc rfl) rfl e0 ?_
    refine .em rfl (hlc rfl) rfl e7 ?_
    refine .e (v := (.int .u8 ((byteAt s (k + 1) : Nat)))) rfl (hlc rfl) (fun hg => sp_indexStrB (i := (k + 1)) Tryz.underlying9 ((hlc rfl).undE hg) ((hlc rfl).undE hg) rfl (by omega)) ?_
    refine .e rfl (hlc rfl) (fun hg => sp_gtr ((hlc rfl).undE hg) Has.cst) ?_
    refine .i (sp_or (hlc rfl) ((hlc rfl).weak fun hq => hq)) ?_
    refine .dn fun a19 g W19 y19 zz19 hk hg hV hR hP => ?_
    obtain ⟨e52, -, -, -, -, -, -, -, -, -, -⟩ := hV
    replace e0 := ft hR e0
    replace e1 := ft hR e1
    replace e5 := ft hR e5
    replace e6 := ft hR e6
    replace e7 := ft hR e7
    replace e52 := e52.q
    replace kw := kw.x hk
    clear hR hk hg hP
    refine zn (hK18 _ _ ?_)
    try clear hK18 K18
    refine zc e52 (fun hc => ?_) (fun hc => ?_)
    ·
     have hfin := begS_ct hn h1 (by omega) hz (by simp at hc; unfold ctB; omega)
     refine zq fun K20 hK20 => ?_
     refine rg mixed y19 zz19 ?_
     refine .ac ?_
     refine .dn fun a21 g W21 y21 zz21 hk hg hV hR hP => ?_
     obtain ⟨e4, -⟩ := hV
     replace e4 := e4.q
     replace kw := kw.x hk
     clear hR hk hg hP
     refine zn (hK20 _ _ ?_)
     try clear hK20 K20
     refine wp_ret ?_
     refine ret1 rfl zz21 e4 ⟨_, rfl, kw, ?_⟩
     exact congrArg Value.bool hfin.symm
    have hct : 128 ≤ byteAt s (k + 1) ∧ byteAt s (k + 1) ≤ 191 := by simp at hc; omega
    have hinv2 : ∀ j, 1 ≤ j → j < k + 1 + 1 → j < s.size → ctB (byteAt s j) := fun j a b c => by rcases Nat.lt_succ_iff_lt_or_eq.1 b with h | h; exact hinv j a h c; subst h; exact hct
    refine wp_skip (hK17 _ _ ?_)
    try clear hK17 K17
    refine rg mixed y19 zz19 ?_
    refine .mb rfl e5 ?_
    refine .i (sp_mul Has.cst (hlc rfl) (i64_in (by omega))) ?_
    refine .mb rfl e0 ?_
    refine .mb rfl e7 ?_
    refine .i (v := (.int .u8 ((byteAt s (k + 1) : Nat)))) (sp_indexStrB (i := (k + 1)) Tryz.underlying9 (hlc rfl) (hlc rfl) rfl (by omega)) ?_
    refine .i (sp_sub (hlc rfl) Has.cst (u8_in (by omega))) ?_
    refine .i (v := (.int .i64 (((byteAt s (k + 1) : Nat) : Int) - (128 : Int)))) (sp_conv Tryz.underlying5 Tryz.underlying3 (hlc rfl) (i64_in (by omega))) ?_
    refine .i (sp_add (hlc rfl) (hlc rfl) (i64_in (by omega))) ?_
    refine .mb rfl e6 ?_
    refine .i (sp_mul Has.cst (hlc rfl) (i64_in (by omega))) ?_
    refine .mb rfl e0 ?_
    refine .mb rfl e7 ?_
    refine .i (v := (.int .u8 ((byteAt s (k + 1) : Nat)))) (sp_indexStrB (i := (k + 1)) Tryz.underlying9 (hlc rfl) (hlc rfl) rfl (by omega)) ?_
    refine .i (sp_sub (hlc rfl) Has.cst (u8_in (by omega))) ?_
    refine .i (v := (.int .i64 (((byteAt s (k + 1) : Nat) : Int) - (128 : Int)))) (sp_conv Tryz.underlying5 Tryz.underlying3 (hlc rfl) (i64_in (by omega))) ?_
    refine .i (sp_add (hlc rfl) (hlc rfl) (i64_in (by omega))) ?_
    refine .al rfl ?_
    refine .al rfl ?_
    refine .dn fun a22 g W22 y22 zz22 hk hg hV hR hP => ?_
    obtain ⟨e6, e5, -, -, -, -, -, -, -, -, -, -, -, -, -, -, -, -, -⟩ := hV
    replace e0 := ft hR e0
    replace e1 := ft hR e1
    replace e7 := ft hR e7
    replace e5 := e5.q
    replace e6 := e6.q
    replace kw := kw.x hk
    clear hR hk hg hP
    refine zn (hK14 _ _ ?_)
    try clear hK14 K14
    refine rg mixed y22 zz22 ?_
    refine .mb rfl e7 ?_
    refine .i (sp_add (hlc rfl) Has.cst (i64_in (by omega))) ?_
    refine .al rfl ?_
    refine .dn fun a23 g W23 y23 zz23 hk hg hV hR hP => ?_
    obtain ⟨e7, -, -, -⟩ := hV
    replace e0 := ft hR e0
    replace e1 := ft hR e1
    replace e5 := ft hR e5
    replace e6 := ft hR e6
    replace e7 := e7.q
    replace kw := kw.x hk
    clear hR hk hg hP
    exact tail_nil ⟨hlt, y23, zz23, kw, e0, e1, (e5.trans (congrArg (Value.int .i64) (by rw [bgL]; split <;> omega))), (e6.trans (congrArg (Value.int .i64) (by rw [bgH]; split <;> omega))), (e7.trans (congrArg (Value.int .i64) (by omega))), hinv2⟩
   have hz : ¬ k + 1 < s.size := by have := of_decide_eq_false hc; omega
   have hinv2 : ∀ j, 1 ≤ j → j < k + 1 + 1 → j < s.size → ctB (byteAt s j) := fun j a b c => hinv j a (by omega) c
   refine rg mixed y16 zz16 ?_
   refine .mb rfl e5 ?_
   refine .i (sp_mul Has.cst (hlc rfl) (i64_in (by omega))) ?_
   refine .mb rfl e6 ?_
   refine .i (sp_mul Has.cst (hlc rfl) (i64_in (by omega))) ?_
   refine .i (sp_add (hlc rfl) Has.cst (i64_in (by omega))) ?_
   refine .al rfl ?_
   refine .al rfl ?_
   refine .dn fun a24 g W24 y24 zz24 hk hg hV hR hP => ?_
   obtain ⟨e6, e5, -, -, -, -, -, -⟩ := hV
   replace e0 := ft hR e0
   replace e1 := ft hR e1
   replace e7 := ft hR e7
   replace e5 := e5.q
   replace e6 := e6.q
   replace kw := kw.x hk
   clear hR hk hg hP
   refine zn (hK14 _ _ ?_)
   try clear hK14 K14
   refine rg mixed y24 zz24 ?_
   refine .mb rfl e7 ?_
   refine .i (sp_add (hlc rfl) Has.cst (i64_in (by omega))) ?_
   refine .al rfl ?_
   refine .dn fun a25 g W25 y25 zz25 hk hg hV hR hP => ?_
   obtain ⟨e7, -, -, -⟩ := hV
   replace e0 := ft hR e0
   replace e1 := ft hR e1
   replace e5 := ft hR e5
   replace e6 := ft hR e6
   replace e7 := e7.q
   replace kw := kw.x hk
   clear hR hk hg hP
   exact tail_nil ⟨hlt, y25, zz25, kw, e0, e1, (e5.trans (congrArg (Value.int .i64) (by rw [bgL]; split <;> omega))), (e6.trans (congrArg (Value.int .i64) (by rw [bgH]; split <;> omega))), (e7.trans (congrArg (Value.int .i64) (by omega))), hinv2⟩
  have hge : k = n - 1 := by have := of_decide_eq_false hc; omega
  have hcs : ctS s n := fun j a b c => hinv j a (by omega) c
  refine wp_exit (hK7 _ _ ?_)
  try clear hK7 K7
  refine zq fun K26 hK26 => ?_
  refine rg mixed y13 zz13 ?_
  refine .da (X := SF w []) (e := intsD ([0, 0, 128, 2048, 65536])) (sp_bsl (ds := [D.int .i64 (0), D.int .i64 (0), D.int .i64 (128), D.int .i64 (2048), D.int .i64 (65536)]) Tryz.underlying130 sz3 z3 (lbr rfl) (lbr rfl) ⟨rfl, Has.cst.int, ⟨rfl, Has.cst.int, ⟨rfl, Has.cst.int, ⟨rfl, Has.cst.int, ⟨rfl, Has.cst.int, trivial⟩⟩⟩⟩⟩ rfl (by simp [width]) (fr_sf kw in_nil)) ?_
  refine .mb rfl e1 ?_
  refine .rf (X := SF w []) (e := D.int .i64 (([0, 0, 128, 2048, 65536])[n]'(show n < ([0, 0, 128, 2048, 65536] : List Int).length from hn5))) (sp_indexL (i := n) (hlc rfl) (hlc rfl) Tryz.underlying130 sz3 rfl (show n < ([0, 0, 128, 2048, 65536] : List Int).length from hn5)) ?_
  refine .i (sp_loadInt (hlc rfl) agg3 sz3) ?_
  refine .al rfl ?_
  refine .dn fun a27 g W27 y27 zz27 hk hg hV hR hP => ?_
  obtain ⟨e8, -, -, -, -, -⟩ := hV
  replace e5 := ft hR e5
  replace e6 := ft hR e6
  replace e8 := e8.q
  replace kw := kw.x hk
  clear hR hk hg hP
  refine zn (hK26 _ _ ?_)
  try clear hK26 K26
  refine zq fun K28 hK28 => ?_
  refine rg mixed y27 zz27 ?_
  refine .mb rfl e5 ?_
  refine .mb rfl e8 ?_
  refine .i (sp_max (hlc rfl) (hlc rfl)) ?_
  refine .al rfl ?_
  refine .dn fun a29 g W29 y29 zz29 hk hg hV hR hP => ?_
  obtain ⟨e5, -, -, -, -⟩ := hV
  replace e6 := ft hR e6
  replace e5 := e5.q
  replace kw := kw.x hk
  clear hR hk hg hP
  refine zn (hK28 _ _ ?_)
  try clear hK28 K28
  refine zq fun K30 hK30 => ?_
  refine rg mixed y29 zz29 ?_
  refine .mb rfl e6 ?_
  refine .i (sp_min (hlc rfl) Has.cst) ?_
  refine .al rfl ?_
  refine .dn fun a31 g W31 y31 zz31 hk hg hV hR hP => ?_
  obtain ⟨e6, -, -, -⟩ := hV
  replace e5 := ft hR e5
  replace e6 := e6.q
  replace kw := kw.x hk
  clear hR hk hg hP
  refine zn (hK30 _ _ ?_)
  try clear hK30 K30
  refine zq fun K32 hK32 => ?_
  refine zq fun K33 hK33 => ?_
  refine rg mixed y31 zz31 ?_
  refine .mb rfl e5 ?_
  refine .i (sp_geq (hlc rfl) Has.cst) ?_
  refine .i (sp_move (hlc rfl)) ?_
  refine .em rfl (hlc rfl) rfl e6 ?_
  refine .e rfl (hlc rfl) (fun hg => sp_leq ((hlc rfl).undE hg) Has.cst) ?_
  refine .i (sp_and (hlc rfl) ((hlc rfl).weak fun hq => hq)) ?_
  refine .dn fun a34 g W34 y34 zz34 hk hg hV hR hP => ?_
  obtain ⟨e88, -, -, -, -, -, -⟩ := hV
  replace e5 := ft hR e5
  replace e6 := ft hR e6
  replace e88 := e88.q
  replace kw := kw.x hk
  clear hR hk hg hP
  refine zn (hK33 _ _ ?_)
  try clear hK33 K33
  refine zc e88 (fun hc => ?_) (fun hc => ?_)
  ·
   have hfin := begS_sur hn h1 (by have h := hc; (first | rw [hl6, hge] at h | rw [hl5, hge] at h); simp only [Bool.and_eq_true, decide_eq_true_eq] at h; exact h)
   refine zq fun K35 hK35 => ?_
   refine rg mixed y34 zz34 ?_
   refine .ac ?_
   refine .dn fun a36 g W36 y36 zz36 hk hg hV hR hP => ?_
   obtain ⟨e4, -⟩ := hV
   replace e4 := e4.q
   replace kw := kw.x hk
   clear hR hk hg hP
   refine zn (hK35 _ _ ?_)
   try clear hK35 K35
   refine wp_ret ?_
   refine ret1 rfl zz36 e4 ⟨_, rfl, kw, ?_⟩
   exact congrArg Value.bool hfin.symm
  first | rw [hl6, hge] at hc | rw [hl5, hge] at hc
  have hfin := begS_end hn h1 hcs (by intro h; simp only [Bool.and_eq_false_iff, decide_eq_false_iff_not] at hc; exact hc.elim (fun q => q h.1) (fun q => q h.2))
  refine wp_skip (hK32 _ _ ?_)
  try clear hK32 K32
  refine zq fun K37 hK37 => ?_
  refine rg mixed y34 zz34 ?_
  refine .mb rfl e5 ?_
  refine .mb rfl e6 ?_
  refine .i (sp_leq (hlc rfl) (hlc rfl)) ?_
  refine .al rfl ?_
  refine .dn fun a38 g W38 y38 zz38 hk hg hV hR hP => ?_
  obtain ⟨e4, -, -, -, -⟩ := hV
  replace e4 := e4.q
  replace kw := kw.x hk
  clear hR hk hg hP
  refine zn (hK37 _ _ ?_)
  try clear hK37 K37
  refine wp_ret ?_
  refine ret1 rfl zz38 e4 ⟨_, rfl, kw, ?_⟩
  rw [hfin]
  first | rw [hl6, hge] | rw [hl5, hge]
 refine zq fun K39 hK39 => ?_
 refine rg mixed y4 zz4 ?_
 refine .mb rfl e1 ?_
 refine .dn fun a40 g W40 y40 zz40 hk hg hV hR hP => ?_
 obtain ⟨e15, -⟩ := hV
 replace e0 := ft hR e0
 replace e1 := ft hR e1
 replace e5 := ft hR e5
 replace e6 := ft hR e6
 replace e15 := e15.q
 replace kw := kw.x hk
 clear hR hk hg hP
 refine zn (hK39 _ _ ?_)
 try clear hK39 K39
 refine wp_block ?_
 refine zq fun K41 hK41 => ?_
 refine rg mixed y40 zz40 ?_
 refine .i (sp_eql (hbs rfl e15) Has.cst) ?_
 refine .al rfl ?_
 refine .dn fun a42 g W42 y42 zz42 hk hg hV hR hP => ?_
 obtain ⟨e16, -, -⟩ := hV
 replace e0 := ft hR e0
 replace e1 := ft hR e1
 replace e5 := ft hR e5
 replace e6 := ft hR e6
 replace e15 := ft hR e15
 replace e16 := e16.q
 replace kw := kw.x hk
 clear hR hk hg hP
 refine zn (hK41 _ _ ?_)
 try clear hK41 K41
 refine zc e16 (fun hc => ?_) (fun hc => ?_)
 ·
  have hnn : n = 2 := by simp at hc; omega
  refine rg mixed y42 zz42 ?_
  refine .mb rfl e5 ?_
  refine .i (sp_sub (hlc rfl) Has.cst (i64_in (by omega))) ?_
  refine .mb rfl e6 ?_
  refine .i (sp_sub (hlc rfl) Has.cst (i64_in (by omega))) ?_
  refine .al rfl ?_
  refine .al rfl ?_
  refine .dn fun a43 g W43 y43 zz43 hk hg hV hR hP => ?_
  obtain ⟨e6, e5, -, -, -, -, -⟩ := hV
  replace e0 := ft hR e0
  replace e1 := ft hR e1
  replace e5 := e5.q
  replace e6 := e6.q
  replace kw := kw.x hk
  clear hR hk hg hP
  exact tail_nil (J5 _ _ ⟨y43, zz43, kw, e0, e1, (e5.trans (congrArg (Value.int .i64) (by rw [hnn]; rfl))), (e6.trans (congrArg (Value.int .i64) (by rw [hnn]; rfl)))⟩)
 have hn2 : n ≠ 2 := by simp at hc; omega
 refine zq fun K44 hK44 => ?_
 refine rg mixed y42 zz42 ?_
 refine .i (sp_eql (hbs rfl e15) Has.cst) ?_
 refine .al rfl ?_
 refine .dn fun a45 g W45 y45 zz45 hk hg hV hR hP => ?_
 obtain ⟨e22, -, -⟩ := hV
 replace e0 := ft hR e0
 replace e1 := ft hR e1
 replace e5 := ft hR e5
 replace e6 := ft hR e6
 replace e15 := ft hR e15
 replace e22 := e22.q
 replace kw := kw.x hk
 clear hR hk hg hP
 refine zn (hK44 _ _ ?_)
 try clear hK44 K44
 refine zc e22 (fun hc => ?_) (fun hc => ?_)
 ·
  have hnn : n = 3 := by simp at hc; omega
  refine rg mixed y45 zz45 ?_
  refine .mb rfl e5 ?_
  refine .i (sp_sub (hlc rfl) Has.cst (i64_in (by omega))) ?_
  refine .mb rfl e6 ?_
  refine .i (sp_sub (hlc rfl) Has.cst (i64_in (by omega))) ?_
  refine .al rfl ?_
  refine .al rfl ?_
  refine .dn fun a46 g W46 y46 zz46 hk hg hV hR hP => ?_
  obtain ⟨e6, e5, -, -, -, -, -⟩ := hV
  replace e0 := ft hR e0
  replace e1 := ft hR e1
  replace e5 := e5.q
  replace e6 := e6.q
  replace kw := kw.x hk
  clear hR hk hg hP
  exact tail_nil (J5 _ _ ⟨y46, zz46, kw, e0, e1, (e5.trans (congrArg (Value.int .i64) (by rw [hnn]; rfl))), (e6.trans (congrArg (Value.int .i64) (by rw [hnn]; rfl)))⟩)
 have hn3 : n ≠ 3 := by simp at hc; omega
 refine zq fun K47 hK47 => ?_
 refine rg mixed y45 zz45 ?_
 refine .i (sp_eql (hbs rfl e15) Has.cst) ?_
 refine .al rfl ?_
 refine .dn fun a48 g W48 y48 zz48 hk hg hV hR hP => ?_
 obtain ⟨e28, -, -⟩ := hV
 replace e0 := ft hR e0
 replace e1 := ft hR e1
 replace e5 := ft hR e5
 replace e6 := ft hR e6
 replace e28 := e28.q
 replace kw := kw.x hk
 clear hR hk hg hP
 refine zn (hK47 _ _ ?_)
 try clear hK47 K47
 refine zc e28 (fun hc => ?_) (fun hc => ?_)
 ·
  have hnn : n = 4 := by simp at hc; omega
  refine rg mixed y48 zz48 ?_
  refine .mb rfl e5 ?_
  refine .i (sp_sub (hlc rfl) Has.cst (i64_in (by omega))) ?_
  refine .mb rfl e6 ?_
  refine .i (sp_sub (hlc rfl) Has.cst (i64_in (by omega))) ?_
  refine .al rfl ?_
  refine .al rfl ?_
  refine .dn fun a49 g W49 y49 zz49 hk hg hV hR hP => ?_
  obtain ⟨e6, e5, -, -, -, -, -⟩ := hV
  replace e0 := ft hR e0
  replace e1 := ft hR e1
  replace e5 := e5.q
  replace e6 := e6.q
  replace kw := kw.x hk
  clear hR hk hg hP
  exact tail_nil (J5 _ _ ⟨y49, zz49, kw, e0, e1, (e5.trans (congrArg (Value.int .i64) (by rw [hnn]; rfl))), (e6.trans (congrArg (Value.int .i64) (by rw [hnn]; rfl)))⟩)
 exfalso
 simp at hc
 omega
end Go.Proofs.YtnobijngkpflcaaGreat
namespace Go.Eng
def IsP (p : Value → Prop) : Fact := fun _ u _ => p u
theorem st_p {S : Nat → Prop} {p : Value → Prop} : Stable S (IsP p) := ⟨fun _ _ _ _ _ h => h, fun _ _ _ _ _ _ h => h⟩
end Go.Eng
namespace Go.Proofs.YtnobijngkpflcaaGreat
open Go.Eng
theorem not_tt {b : Bool} (h : (!b) = true) : b = false := by cases b <;> simp_all
theorem not_ff {b : Bool} (h : (!b) = false) : b = true := by cases b <;> simp_all
set_option maxRecDepth 100000 in
set_option maxHeartbeats 2000000 in
theorem Next_ok (s : ByteArray) (p : Nat) (hp : p < s.size) (hm : s.size ≤ 1073741824) (w : World) : Calls Tryz.prog 103 #[.string s, .int .i64 p] w (Ret w fun u _ => ∃ c e wd, u = .tuple #[.int .i64 c, .int .i64 wd, .int .i64 e] ∧ nxS s p e wd) := by
 have hb0 := byteAt_lt s p
 refine enter Tryz.func103 rfl Tryz.ntmps103 (lbr rfl) fun a0 y0 zz0 harg => ?_
 have e0 : sl a0 0 = (.string (s)) := harg 0 (lbr rfl)
 have e1 : sl a0 1 = (.int .i64 ((p : Nat))) := harg 1 (lbr rfl)
 have kw := Keeps.refl All w
 clear harg
 refine zq fun K1 hK1 => ?_
 refine rg mixed y0 zz0 ?_
 refine .ac ?_
 refine .ac ?_
 refine .ac ?_
 refine .dn fun a2 g W2 y2 zz2 hk hg hV hR hP => ?_
 obtain ⟨-, -, -, -⟩ := hV
 replace e0 := ft hR e0
 replace e1 := ft hR e1
 replace kw := kw.x hk
 clear hR hk hg hP
 refine zn (hK1 _ _ ?_)
 try clear hK1 K1
 refine zq fun K3 hK3 => ?_
 refine zq fun K4 hK4 => ?_
 refine rg mixed y2 zz2 ?_
 refine .mb rfl e1 ?_
 refine .i (sp_lss (hlc rfl) Has.cst) ?_
 refine .i (sp_move (hlc rfl)) ?_
 refine .em rfl (hlc rfl) rfl e1 ?_
 refine .em rfl (hlc rfl) rfl e0 ?_
 refine .e rfl (hlc rfl) (fun hg => sp_lenS Tryz.underlying9 ((hlc rfl).undE hg)) ?_
 refine .e rfl (hlc rfl) (fun hg => sp_gtr ((hlc rfl).undE hg) ((hlc rfl).undE hg)) ?_
 refine .i (sp_or (hlc rfl) ((hlc rfl).weak fun hq => hq)) ?_
 refine .dn fun a5 g W5 y5 zz5 hk hg hV hR hP => ?_
 obtain ⟨e19, -, -, -, -, -, -, -, -⟩ := hV
 replace e0 := ft hR e0
 replace e1 := ft hR e1
 replace e19 := e19.q
 replace kw := kw.x hk
 clear hR hk hg hP
 refine zn (hK4 _ _ ?_)
 try clear hK4 K4
 refine zc e19 (fun hc => ?_) (fun hc => ?_)
 ·
  exfalso
  simp at hc
  omega
 refine wp_skip (hK3 _ _ ?_)
 try clear hK3 K3
 refine zq fun K6 hK6 => ?_
 refine zq fun K7 hK7 => ?_
 refine rg mixed y5 zz5 ?_
 refine .mb rfl e1 ?_
 refine .mb rfl e0 ?_
 refine .i (sp_lenS Tryz.underlying9 (hlc rfl)) ?_
 refine .i (sp_eql (hlc rfl) (hlc rfl)) ?_
 refine .dn fun a8 g W8 y8 zz8 hk hg hV hR hP => ?_
 obtain ⟨e23, -, -, -, -⟩ := hV
 replace e0 := ft hR e0
 replace e1 := ft hR e1
 replace e23 := e23.q
 replace kw := kw.x hk
 clear hR hk hg hP
 refine zn (hK7 _ _ ?_)
 try clear hK7 K7
 refine zc e23 (fun hc => ?_) (fun hc => ?_)
 ·
  exfalso
  simp at hc
  omega
 refine wp_skip (hK6 _ _ ?_)
 try clear hK6 K6
 refine zq fun K9 hK9 => ?_
 refine rg mixed y8 zz8 ?_
 refine .mb rfl e0 ?_
 refine .mb rfl e1 ?_
 refine .i (v := (.int .u8 ((byteAt s p : Nat)))) (sp_indexStrB (i := p) Tryz.underlying9 (hlc rfl) (hlc rfl) rfl (by omega)) ?_
 refine .al rfl ?_
 refine .dn fun a10 g W10 y10 zz10 hk hg hV hR hP => ?_
 obtain ⟨e7, -, -, -, -⟩ := hV
 replace e0 := ft hR e0
 replace e1 := ft hR e1
 replace e7 := e7.q
 replace kw := kw.x hk
 clear hR hk hg hP
 refine zn (hK9 _ _ ?_)
 try clear hK9 K9
 refine zq fun K11 hK11 => ?_
 refine rg mixed y10 zz10 ?_
 refine .ac ?_
 refine .dn fun a12 g W12 y12 zz12 hk hg hV hR hP => ?_
 obtain ⟨-, -⟩ := hV
 replace e0 := ft hR e0
 replace e1 := ft hR e1
 replace e7 := ft hR e7
 replace kw := kw.x hk
 clear hR hk hg hP
 refine zn (hK11 _ _ ?_)
 try clear hK11 K11
 refine zq fun K13 hK13 => ?_
 have J13 : ∀ a W, (∃ (n : Nat), a.tmps.size = 89 ∧ a.defers = [] ∧ Keeps All w W ∧ sl a 0 = (.string (s)) ∧ sl a 1 = (.int .i64 ((p : Nat))) ∧ sl a 7 = (.int .u8 ((byteAt s p : Nat))) ∧ sl a 8 = (.int .i64 ((n : Nat))) ∧ (clsN n (byteAt s p))) → K13 a W := by
  clear kw e0 e1 e7
  rintro a14 W14 ⟨n, y14, zz14, kw, e0, e1, e7, e8, hcl⟩
  have hn := clsN_n hcl
  have hn5 : n < 5 := by omega
  refine hK13 _ _ ?_
  refine zq fun K15 hK15 => ?_
  refine zq fun K16 hK16 => ?_
  refine rg mixed y14 zz14 ?_
  refine .ac ?_
  refine .dn fun a17 g W17 y17 zz17 hk hg hV hR hP => ?_
  obtain ⟨e9, -⟩ := hV
  replace e0 := ft hR e0
  replace e1 := ft hR e1
  replace e7 := ft hR e7
  replace e8 := ft hR e8
  replace e9 := e9.q
  replace kw := kw.x hk
  clear hR hk hg hP
  refine zn (hK16 _ _ ?_)
  try clear hK16 K16
  refine wp_block ?_
  refine wp_for (n) (fun k a W => a.tmps.size = 89 ∧ a.defers = [] ∧ Keeps All w W ∧ sl a 0 = (.string (s)) ∧ sl a 1 = (.int .i64 ((p : Nat))) ∧ sl a 7 = (.int .u8 ((byteAt s p : Nat))) ∧ sl a 8 = (.int .i64 ((n : Nat))) ∧ sl a 9 = (.int .i64 (((k + 1 : Nat) : Int))) ∧ (0 < k → p + k ≤ s.size ∧ begS n (s.extract p (p + k)) = true)) ⟨y17, zz17, kw, e0, e1, e7, e8, (e9.trans (congrArg (Value.int .i64) (rfl))), fun h => absurd h (by decide)⟩ ?_
  clear kw e0 e1 e7 e8 e9
  rintro k a18 W18 hkk ⟨y18, zz18, kw, e0, e1, e7, e8, e9, hinv⟩
  refine zq fun K19 hK19 => ?_
  refine zq fun K20 hK20 => ?_
  refine rg mixed y18 zz18 ?_
  refine .mb rfl e9 ?_
  refine .mb rfl e8 ?_
  refine .i (sp_leq (hlc rfl) (hlc rfl)) ?_
  refine .dn fun a21 g W21 y21 zz21 hk hg hV hR hP => ?_
  obtain ⟨e47, -, -, -⟩ := hV
  replace e0 := ft hR e0
  replace e1 := ft hR e1
  replace e7 := ft hR e7
  replace e8 := ft hR e8
  replace e9 := ft hR e9
  replace e47 := e47.q
  replace kw := kw.x hk
  clear hR hk hg hP
  refine zn (hK20 _ _ ?_)
  try clear hK20 K20
  refine zc e47 (fun hc => ?_) (fun hc => ?_)
  ·
   have hlt : k < n := by have := of_decide_eq_true hc; omega
   refine wp_skip (hK19 _ _ ?_)
   try clear hK19 K19
   refine zq fun K22 hK22 => ?_
   refine wp_block ?_
   refine zq fun K23 hK23 => ?_
   refine zq fun K24 hK24 => ?_
   refine rg mixed y21 zz21 ?_
   refine .mb rfl e1 ?_
   refine .mb rfl e9 ?_
   refine .i (sp_add (hlc rfl) (hlc rfl) (i64_in (by omega))) ?_
   refine .mb rfl e0 ?_
   refine .i (sp_lenS Tryz.underlying9 (hlc rfl)) ?_
   refine .i (sp_gtr (hlc rfl) (hlc rfl)) ?_
   refine .dn fun a25 g W25 y25 zz25 hk hg hV hR hP => ?_
   obtain ⟨e55, -, -, -, -, -, -⟩ := hV
   replace e0 := ft hR e0
   replace e1 := ft hR e1
   replace e7 := ft hR e7
   replace e8 := ft hR e8
   replace e9 := ft hR e9
   replace e55 := e55.q
   replace kw := kw.x hk
   clear hR hk hg hP
   refine zn (hK24 _ _ ?_)
   try clear hK24 K24
   refine zc e55 (fun hc => ?_) (fun hc => ?_)
   ·
    have hz := of_decide_eq_true hc
    have hfin : nxS s p 4 0 := nxs_short (by decide) hcl (by omega)
    refine zq fun K26 hK26 => ?_
    refine rg mixed y25 zz25 ?_
    refine .ac ?_
    refine .ac ?_
    refine .ac ?_
    refine .dn fun a27 g W27 y27 zz27 hk hg hV hR hP => ?_
    obtain ⟨e6, e5, e4, -⟩ := hV
    replace e4 := e4.q
    replace e5 := e5.q
    replace e6 := e6.q
    replace kw := kw.x hk
    clear hR hk hg hP
    refine zn (hK26 _ _ ?_)
    try clear hK26 K26
    refine wp_ret ?_
    refine ret3 rfl zz27 e4 e5 e6 ⟨_, rfl, kw, ?_⟩
    exact ⟨_, _, _, rfl, hfin⟩
   have hz : p + (k + 1) ≤ s.size := by have := of_decide_eq_false hc; omega
   refine wp_skip (hK23 _ _ ?_)
   try clear hK23 K23
   refine zq fun K28 hK28 => ?_
   refine rg mixed y25 zz25 ?_
   refine .mb rfl e0 ?_
   refine .mb rfl e1 ?_
   refine .mb rfl e1 ?_
   refine .mb rfl e9 ?_
   refine .i (sp_add (hlc rfl) (hlc rfl) (i64_in (by omega))) ?_
   refine .i (v := (.string (s.extract p (p + (k + 1))))) (sp_sliceLH (i := p) (n := p + (k + 1)) Tryz.underlying9 (hlc rfl) (hlc rfl) (hlc rfl) rfl (by push_cast; rfl) (by omega) (by omega)) ?_
   refine .mb rfl e8 ?_
   refine .i (v := (.bool (begS n (s.extract p (p + (k + 1)))))) (sp_call2 (φ1 := Is (.string (s.extract p (p + (k + 1))))) (φ2 := Is (.int .i64 ((n : Nat)))) ent110 (hlc rfl) (hlc rfl) (fun g u1 u2 W hk hgk h1 h2 => by have h1 : u1 = _ := h1; subst u1; have h2 : u2 = _ := h2; subst u2; exact (begins_ok n hn (s.extract p (p + (k + 1))) (by rw [ext_size (by omega)]; omega) (by rw [ext_size (by omega)]; simp only [maxLen]; omega) W))) ?_
   refine .i (sp_not (hlc rfl)) ?_
   refine .dn fun a29 g W29 y29 zz29 hk hg hV hR hP => ?_
   obtain ⟨e64, -, -, -, -, -, -, -, -, -⟩ := hV
   replace e0 := ft hR e0
   replace e1 := ft hR e1
   replace e7 := ft hR e7
   replace e8 := ft hR e8
   replace e9 := ft hR e9
   replace e64 := e64.q
   replace kw := kw.x hk
   clear hR hk hg hP
   refine zn (hK28 _ _ ?_)
   try clear hK28 K28
   refine zc e64 (fun hc => ?_) (fun hc => ?_)
   ·
    have hfin : nxS s p 12 0 := nxs_no (by decide) hcl hlt (not_tt hc)
    refine zq fun K30 hK30 => ?_
    refine rg mixed y29 zz29 ?_
    refine .ac ?_
    refine .ac ?_
    refine .ac ?_
    refine .dn fun a31 g W31 y31 zz31 hk hg hV hR hP => ?_
    obtain ⟨e6, e5, e4, -⟩ := hV
    replace e4 := e4.q
    replace e5 := e5.q
    replace e6 := e6.q
    replace kw := kw.x hk
    clear hR hk hg hP
    refine zn (hK30 _ _ ?_)
    try clear hK30 K30
    refine wp_ret ?_
    refine ret3 rfl zz31 e4 e5 e6 ⟨_, rfl, kw, ?_⟩
    exact ⟨_, _, _, rfl, hfin⟩
   have hk := not_ff hc
   refine wp_skip (hK22 _ _ ?_)
   try clear hK22 K22
   refine rg mixed y29 zz29 ?_
   refine .mb rfl e9 ?_
   refine .i (sp_add (hlc rfl) Has.cst (i64_in (by omega))) ?_
   refine .al rfl ?_
   refine .dn fun a32 g W32 y32 zz32 hk hg hV hR hP => ?_
   obtain ⟨e9, -, -, -⟩ := hV
   replace e0 := ft hR e0
   replace e1 := ft hR e1
   replace e7 := ft hR e7
   replace e8 := ft hR e8
   replace e9 := e9.q
   replace kw := kw.x hk
   clear hR hk hg hP
   exact tail_nil ⟨hlt, y32, zz32, kw, e0, e1, e7, e8, (e9.trans (congrArg (Value.int .i64) (by omega))), fun _ => ⟨hz, hk⟩⟩
  have hge : k = n := by have := of_decide_eq_false hc; omega
  rw [hge] at hinv
  have hzn := hinv (by omega)
  have hcs := begS_cts hn hzn.1 hzn.2
  have hof := offN_b n
  have hrd := rn_bd s p (((byteAt s p : Nat) : Int) - offN n) (by omega)
  have hfin : nxS s p 0 n := nxs_ok hcl hzn.1 hzn.2
  have hv : ([0, 0, 192, 224, 240] : List Int)[n]'(show n < ([0, 0, 192, 224, 240] : List Int).length from hn5) = offN n := by clear hrd hcs hinv hfin hzn hge; rcases hn with rfl | rfl | rfl <;> rfl
  refine wp_exit (hK15 _ _ ?_)
  try clear hK15 K15
  refine zq fun K33 hK33 => ?_
  refine rg mixed y21 zz21 ?_
  refine .mb rfl e7 ?_
  refine .i (v := (.int .i64 ((byteAt s p : Nat)))) (sp_conv Tryz.underlying5 Tryz.underlying3 (hlc rfl) (i64_in (by omega))) ?_
  refine .da (X := SF w []) (e := intsD ([0, 0, 192, 224, 240])) (sp_bsl (ds := [D.int .i64 (0), D.int .i64 (0), D.int .i64 (192), D.int .i64 (224), D.int .i64 (240)]) Tryz.underlying130 sz3 z3 (lbr rfl) (lbr rfl) ⟨rfl, Has.cst.int, ⟨rfl, Has.cst.int, ⟨rfl, Has.cst.int, ⟨rfl, Has.cst.int, ⟨rfl, Has.cst.int, trivial⟩⟩⟩⟩⟩ rfl (by simp [width]) (fr_sf kw in_nil)) ?_
  refine .mb rfl e8 ?_
  refine .rf (X := SF w []) (e := D.int .i64 (([0, 0, 192, 224, 240])[n]'(show n < ([0, 0, 192, 224, 240] : List Int).length from hn5))) (sp_indexL (i := n) (hlc rfl) (hlc rfl) Tryz.underlying130 sz3 rfl (show n < ([0, 0, 192, 224, 240] : List Int).length from hn5)) ?_
  refine .i (sp_loadInt (hlc rfl) agg3 sz3) ?_
  refine .i (sp_sub (hlc rfl) (hlc rfl) (i64_in (by omega))) ?_
  refine .al rfl ?_
  refine .dn fun a34 g W34 y34 zz34 hk hg hV hR hP => ?_
  obtain ⟨e10, -, -, -, -, -, -, -, -⟩ := hV
  replace e0 := ft hR e0
  replace e1 := ft hR e1
  replace e8 := ft hR e8
  replace e10 := e10.q
  replace kw := kw.x hk
  clear hR hk hg hP
  refine zn (hK33 _ _ ?_)
  try clear hK33 K33
  refine zq fun K35 hK35 => ?_
  refine zq fun K36 hK36 => ?_
  refine rg mixed y34 zz34 ?_
  refine .ac ?_
  refine .dn fun a37 g W37 y37 zz37 hk hg hV hR hP => ?_
  obtain ⟨e11, -⟩ := hV
  replace e0 := ft hR e0
  replace e1 := ft hR e1
  replace e8 := ft hR e8
  replace e10 := ft hR e10
  replace e11 := e11.q
  replace kw := kw.x hk
  clear hR hk hg hP
  refine zn (hK36 _ _ ?_)
  try clear hK36 K36
  refine wp_block ?_
  refine wp_for ((n - 1)) (fun j a W => a.tmps.size = 89 ∧ a.defers = [] ∧ Keeps All w W ∧ sl a 0 = (.string (s)) ∧ sl a 1 = (.int .i64 ((p : Nat))) ∧ sl a 8 = (.int .i64 ((n : Nat))) ∧ sl a 10 = (.int .i64 (rnN s p (((byteAt s p : Nat) : Int) - offN n) j)) ∧ sl a 11 = (.int .i64 (((j + 1 : Nat) : Int)))) ⟨y37, zz37, kw, e0, e1, e8, (e10.trans (congrArg (Value.int .i64) (by rw [rnN, hv]))), (e11.trans (congrArg (Value.int .i64) (rfl)))⟩ ?_
  clear kw e0 e1 e8 e10 e11
  rintro j a38 W38 hkj ⟨y38, zz38, kw, e0, e1, e8, e10, e11⟩
  refine zq fun K39 hK39 => ?_
  refine zq fun K40 hK40 => ?_
  refine rg mixed y38 zz38 ?_
  refine .mb rfl e11 ?_
  refine .mb rfl e8 ?_
  refine .i (sp_lss (hlc rfl) (hlc rfl)) ?_
  refine .dn fun a41 g W41 y41 zz41 hk hg hV hR hP => ?_
  obtain ⟨e74, -, -, -⟩ := hV
  replace e0 := ft hR e0
  replace e1 := ft hR e1
  replace e8 := ft hR e8
  replace e10 := ft hR e10
  replace e11 := ft hR e11
  replace e74 := e74.q
  replace kw := kw.x hk
  clear hR hk hg hP
  refine zn (hK40 _ _ ?_)
  try clear hK40 K40
  refine zc e74 (fun hc => ?_) (fun hc => ?_)
  ·
   have hlt2 : j < n - 1 := by have := of_decide_eq_true hc; omega
   have hct := hcs j (by omega)
   have hrk := hrd j (by omega)
   refine wp_skip (hK39 _ _ ?_)
   try clear hK39 K39
   refine zq fun K42 hK42 => ?_
   refine wp_block ?_
   refine rg mixed y41 zz41 ?_
   refine .mb rfl e10 ?_
   refine .i (sp_mul Has.cst (hlc rfl) (i64_in (by omega))) ?_
   refine .mb rfl e0 ?_
   refine .mb rfl e1 ?_
   refine .mb rfl e11 ?_
   refine .i (sp_add (hlc rfl) (hlc rfl) (i64_in (by omega))) ?_
   refine .i (v := (.int .u8 ((byteAt s (p + (j + 1)) : Nat)))) (sp_indexStrB (i := (p + (j + 1))) Tryz.underlying9 (hlc rfl) (hlc rfl) (by push_cast; rfl) (by omega)) ?_
   refine .i (sp_sub (hlc rfl) Has.cst (u8_in (by omega))) ?_
   refine .i (v := (.int .i64 (((byteAt s (p + (j + 1)) : Nat) : Int) - (128 : Int)))) (sp_conv Tryz.underlying5 Tryz.underlying3 (hlc rfl) (i64_in (by omega))) ?_
   refine .i (sp_add (hlc rfl) (hlc rfl) (i64_in (by omega))) ?_
   refine .al rfl ?_
   refine .dn fun a43 g W43 y43 zz43 hk hg hV hR hP => ?_
   obtain ⟨e10, -, -, -, -, -, -, -, -, -, -, -⟩ := hV
   replace e0 := ft hR e0
   replace e1 := ft hR e1
   replace e8 := ft hR e8
   replace e11 := ft hR e11
   replace e10 := e10.q
   replace kw := kw.x hk
   clear hR hk hg hP
   refine zn (hK42 _ _ ?_)
   try clear hK42 K42
   refine rg mixed y43 zz43 ?_
   refine .mb rfl e11 ?_
   refine .i (sp_add (hlc rfl) Has.cst (i64_in (by omega))) ?_
   refine .al rfl ?_
   refine .dn fun a44 g W44 y44 zz44 hk hg hV hR hP => ?_
   obtain ⟨e11, -, -, -⟩ := hV
   replace e0 := ft hR e0
   replace e1 := ft hR e1
   replace e8 := ft hR e8
   replace e10 := ft hR e10
   replace e11 := e11.q
   replace kw := kw.x hk
   clear hR hk hg hP
   exact tail_nil ⟨hlt2, y44, zz44, kw, e0, e1, e8, (e10.trans (congrArg (Value.int .i64) (by rw [rnN]))), (e11.trans (congrArg (Value.int .i64) (by omega)))⟩
  refine wp_exit (hK35 _ _ ?_)
  try clear hK35 K35
  refine zq fun K45 hK45 => ?_
  refine rg mixed y41 zz41 ?_
  refine .mb rfl e10 ?_
  refine .mb rfl e8 ?_
  refine .al rfl ?_
  refine .al rfl ?_
  refine .ac ?_
  refine .dn fun a46 g W46 y46 zz46 hk hg hV hR hP => ?_
  obtain ⟨e6, e5, e4, -, -, -⟩ := hV
  replace e4 := e4.q
  replace e5 := e5.q
  replace e6 := e6.q
  replace kw := kw.x hk
  clear hR hk hg hP
  refine zn (hK45 _ _ ?_)
  try clear hK45 K45
  refine wp_ret ?_
  refine ret3 rfl zz46 e4 e5 e6 ⟨_, rfl, kw, ?_⟩
  exact ⟨_, _, _, rfl, hfin⟩
 refine wp_block ?_
 refine zq fun K47 hK47 => ?_
 refine rg mixed y12 zz12 ?_
 refine .mb rfl e7 ?_
 refine .i (sp_lss (hlc rfl) Has.cst) ?_
 refine .al rfl ?_
 refine .dn fun a48 g W48 y48 zz48 hk hg hV hR hP => ?_
 obtain ⟨e27, -, -, -⟩ := hV
 replace e0 := ft hR e0
 replace e1 := ft hR e1
 replace e7 := ft hR e7
 replace e27 := e27.q
 replace kw := kw.x hk
 clear hR hk hg hP
 refine zn (hK47 _ _ ?_)
 try clear hK47 K47
 refine zc e27 (fun hc => ?_) (fun hc => ?_)
 ·
  have hl := of_decide_eq_true hc
  have hfin : nxS s p 0 1 := nx_lo (by omega)
  refine zq fun K49 hK49 => ?_
  refine rg mixed y48 zz48 ?_
  refine .mb rfl e7 ?_
  refine .i (v := (.int .i64 ((byteAt s p : Nat)))) (sp_conv Tryz.underlying5 Tryz.underlying3 (hlc rfl) (i64_in (by omega))) ?_
  refine .al rfl ?_
  refine .ac ?_
  refine .ac ?_
  refine .dn fun a50 g W50 y50 zz50 hk hg hV hR hP => ?_
  obtain ⟨e6, e5, e4, -, -, -⟩ := hV
  replace e4 := e4.q
  replace e5 := e5.q
  replace e6 := e6.q
  replace kw := kw.x hk
  clear hR hk hg hP
  refine zn (hK49 _ _ ?_)
  try clear hK49 K49
  refine wp_ret ?_
  refine ret3 rfl zz50 e4 e5 e6 ⟨_, rfl, kw, ?_⟩
  exact ⟨_, _, _, rfl, hfin⟩
 have hl := of_decide_eq_false hc
 refine zq fun K51 hK51 => ?_
 refine rg mixed y48 zz48 ?_
 refine .mb rfl e7 ?_
 refine .i (sp_lss (hlc rfl) Has.cst) ?_
 refine .i (sp_move (hlc rfl)) ?_
 refine .em rfl (hlc rfl) rfl e7 ?_
 refine .e rfl (hlc rfl) (fun hg => sp_gtr ((hlc rfl).undE hg) Has.cst) ?_
 refine .i (sp_or (hlc rfl) ((hlc rfl).weak fun hq => hq)) ?_
 refine .al rfl ?_
 refine .dn fun a52 g W52 y52 zz52 hk hg hV hR hP => ?_
 obtain ⟨e32, -, -, -, -, -, -, -⟩ := hV
 replace e0 := ft hR e0
 replace e1 := ft hR e1
 replace e7 := ft hR e7
 replace e32 := e32.q
 replace kw := kw.x hk
 clear hR hk hg hP
 refine zn (hK51 _ _ ?_)
 try clear hK51 K51
 refine zc e32 (fun hc => ?_) (fun hc => ?_)
 ·
  have hfin : nxS s p 12 0 := nx_bad (by decide) (by simp at hc; omega)
  refine zq fun K53 hK53 => ?_
  refine rg mixed y52 zz52 ?_
  refine .ac ?_
  refine .ac ?_
  refine .ac ?_
  refine .dn fun a54 g W54 y54 zz54 hk hg hV hR hP => ?_
  obtain ⟨e6, e5, e4, -⟩ := hV
  replace e4 := e4.q
  replace e5 := e5.q
  replace e6 := e6.q
  replace kw := kw.x hk
  clear hR hk hg hP
  refine zn (hK53 _ _ ?_)
  try clear hK53 K53
  refine wp_ret ?_
  refine ret3 rfl zz54 e4 e5 e6 ⟨_, rfl, kw, ?_⟩
  exact ⟨_, _, _, rfl, hfin⟩
 have hrg : 192 ≤ byteAt s p ∧ byteAt s p ≤ 247 := by simp at hc; omega
 refine zq fun K55 hK55 => ?_
 refine rg mixed y52 zz52 ?_
 refine .mb rfl e7 ?_
 refine .i (sp_lss (hlc rfl) Has.cst) ?_
 refine .al rfl ?_
 refine .dn fun a56 g W56 y56 zz56 hk hg hV hR hP => ?_
 obtain ⟨e39, -, -, -⟩ := hV
 replace e0 := ft hR e0
 replace e1 := ft hR e1
 replace e7 := ft hR e7
 replace e39 := e39.q
 replace kw := kw.x hk
 clear hR hk hg hP
 refine zn (hK55 _ _ ?_)
 try clear hK55 K55
 refine zc e39 (fun hc => ?_) (fun hc => ?_)
 ·
  have hcl : clsN 2 (byteAt s p) := .inl ⟨rfl, by have := of_decide_eq_true hc; omega⟩
  refine rg mixed y56 zz56 ?_
  refine .ac ?_
  refine .dn fun a57 g W57 y57 zz57 hk hg hV hR hP => ?_
  obtain ⟨e8, -⟩ := hV
  replace e0 := ft hR e0
  replace e1 := ft hR e1
  replace e7 := ft hR e7
  replace e8 := e8.q
  replace kw := kw.x hk
  clear hR hk hg hP
  exact tail_nil (J13 _ _ ⟨_, y57, zz57, kw, e0, e1, e7, (e8.trans (congrArg (Value.int .i64) (rfl))), hcl⟩)
 have h224 := of_decide_eq_false hc
 refine zq fun K58 hK58 => ?_
 refine rg mixed y56 zz56 ?_
 refine .mb rfl e7 ?_
 refine .i (sp_lss (hlc rfl) Has.cst) ?_
 refine .al rfl ?_
 refine .dn fun a59 g W59 y59 zz59 hk hg hV hR hP => ?_
 obtain ⟨e42, -, -, -⟩ := hV
 replace e0 := ft hR e0
 replace e1 := ft hR e1
 replace e7 := ft hR e7
 replace e42 := e42.q
 replace kw := kw.x hk
 clear hR hk hg hP
 refine zn (hK58 _ _ ?_)
 try clear hK58 K58
 refine zc e42 (fun hc => ?_) (fun hc => ?_)
 ·
  have hcl : clsN 3 (byteAt s p) := .inr (.inl ⟨rfl, by have := of_decide_eq_true hc; omega⟩)
  refine rg mixed y59 zz59 ?_
  refine .ac ?_
  refine .dn fun a60 g W60 y60 zz60 hk hg hV hR hP => ?_
  obtain ⟨e8, -⟩ := hV
  replace e0 := ft hR e0
  replace e1 := ft hR e1
  replace e7 := ft hR e7
  replace e8 := e8.q
  replace kw := kw.x hk
  clear hR hk hg hP
  exact tail_nil (J13 _ _ ⟨_, y60, zz60, kw, e0, e1, e7, (e8.trans (congrArg (Value.int .i64) (rfl))), hcl⟩)
 have hcl : clsN 4 (byteAt s p) := .inr (.inr ⟨rfl, by have := of_decide_eq_false hc; omega⟩)
 refine rg mixed y59 zz59 ?_
 refine .ac ?_
 refine .dn fun a61 g W61 y61 zz61 hk hg hV hR hP => ?_
 obtain ⟨e8, -⟩ := hV
 replace e0 := ft hR e0
 replace e1 := ft hR e1
 replace e7 := ft hR e7
 replace e8 := e8.q
 replace kw := kw.x hk
 clear hR hk hg hP
 exact tail_nil (J13 _ _ ⟨_, y61, zz61, kw, e0, e1, e7, (e8.trans (congrArg (Value.int .i64) (rfl))), hcl⟩)
set_option maxRecDepth 100000 in
theorem Len04_ok (s : ByteArray) (hm : s.size ≤ 1073741824) (w : World) : Calls Tryz.prog 86 #[.string s] w (Ret w fun u _ => ∃ n : Int, u = .tuple #[.int .i64 n, .bool (utfOk s)]) := by
 refine enter Tryz.func86 rfl Tryz.ntmps86 (lbr rfl) fun a0 y0 zz0 harg => ?_
 have e0 : sl a0 0 = (.string (s)) := harg 0 (lbr rfl)
 have kw := Keeps.refl All w
 clear harg
 refine zq fun K1 hK1 => ?_
 refine rg mixed y0 zz0 ?_
 refine .ac ?_
 refine .ac ?_
 refine .dn fun a2 g W2 y2 zz2 hk hg hV hR hP => ?_
 obtain ⟨-, -, -⟩ := hV
 replace e0 := ft hR e0
 replace kw := kw.x hk
 clear hR hk hg hP
 refine zn (hK1 _ _ ?_)
 refine zq fun K3 hK3 => ?_
 refine rg mixed y2 zz2 ?_
 refine .ac ?_
 refine .dn fun a4 g W4 y4 zz4 hk hg hV hR hP => ?_
 obtain ⟨e4, -⟩ := hV
 replace e0 := ft hR e0
 replace e4 := e4.q
 replace kw := kw.x hk
 clear hR hk hg hP
 refine zn (hK3 _ _ ?_)
 refine zq fun K5 hK5 => ?_
 refine zq fun K6 hK6 => ?_
 refine rg mixed y4 zz4 ?_
 refine .ac ?_
 refine .dn fun a7 g W7 y7 zz7 hk hg hV hR hP => ?_
 obtain ⟨e5, -⟩ := hV
 replace e0 := ft hR e0
 replace e4 := ft hR e4
 replace e5 := e5.q
 replace kw := kw.x hk
 clear hR hk hg hP
 refine zn (hK6 _ _ ?_)
 refine wp_block ?_
 refine wp_for (s.size) (fun k a W => ∃ (p : Nat), ∃ (f : Nat), a.tmps.size = 28 ∧ a.defers = [] ∧ Keeps All w W ∧ sl a 0 = (.string (s)) ∧ sl a 4 = (.int .i64 ((k : Nat))) ∧ sl a 5 = (.int .i64 ((p : Nat))) ∧ (k ≤ p) ∧ (utfOk s = utfFrom s f p) ∧ (s.size ≤ p + f)) ⟨0, s.size, y7, zz7, kw, e0, (e4.trans (congrArg (Value.int .i64) (rfl))), (e5.trans (congrArg (Value.int .i64) (rfl))), Nat.le_refl _, rfl, by omega⟩ ?_
 clear kw e0 e4 e5
 rintro k a8 W8 hkk ⟨p, f, y8, zz8, kw, e0, e4, e5, hkp, hfu, hfp⟩
 refine zq fun K9 hK9 => ?_
 refine zq fun K10 hK10 => ?_
 refine rg mixed y8 zz8 ?_
 refine .mb rfl e5 ?_
 refine .mb rfl e0 ?_
 refine .i (sp_lenS Tryz.underlying9 (hlc rfl)) ?_
 refine .i (sp_lss (hlc rfl) (hlc rfl)) ?_
 refine .dn fun a11 g W11 y11 zz11 hk hg hV hR hP => ?_
 obtain ⟨e12, -, -, -, -⟩ := hV
 replace e0 := ft hR e0
 replace e4 := ft hR e4
 replace e5 := ft hR e5
 replace e12 := e12.q
 replace kw := kw.x hk
 clear hR hk hg hP
 refine zn (hK10 _ _ ?_)
 refine zc e12 (fun hc => ?_) (fun hc => ?_)
 ·
  have hlt : p < s.size := by have := of_decide_eq_true hc; omega
  obtain ⟨f, rfl⟩ : ∃ f', f = f' + 1 := ⟨f - 1, by omega⟩
  refine wp_skip (hK9 _ _ ?_)
  refine zq fun K12 hK12 => ?_
  refine wp_block ?_
  refine zq fun K13 hK13 => ?_
  refine rg mixed y11 zz11 ?_
  refine .mb rfl e0 ?_
  refine .mb rfl e5 ?_
  refine .op (φ := IsP (fun u => ∃ c e wd, u = .tuple #[.int .i64 c, .int .i64 wd, .int .i64 e] ∧ nxS s p e wd)) st_p (sp_call2 (φ1 := Is (.string (s))) (φ2 := Is (.int .i64 ((p : Nat)))) ent103 (hlc rfl) (hlc rfl) (fun g u1 u2 W hk hgk h1 h2 => by have h1 : u1 = _ := h1; subst u1; have h2 : u2 = _ := h2; subst u2; exact (Next_ok s p hlt hm W).mono (fun _ _ ⟨v, h1, h2, h3⟩ => ⟨v, h1, h2, h3⟩))) ?_
  refine .op (φ := IsP (fun u => ∃ c e wd, u = .tuple #[.int .i64 c, .int .i64 wd, .int .i64 e] ∧ nxS s p e wd)) st_p (sp_move (hlc rfl)) ?_
  refine .dn fun a14 g W14 y14 zz14 hk hg hV hR hP => ?_
  obtain ⟨e15, -, -, -, -⟩ := hV
  replace e0 := ft hR e0
  replace e4 := ft hR e4
  replace e5 := ft hR e5
  obtain ⟨nc, ne, nw, e15, hnx⟩ := e15
  replace kw := kw.x hk
  clear hR hk hg hP
  refine tail_reg 6 All y14 zz14 st_tr trivial rfl ?_
  refine .i (v := (.int .i64 (nc))) (sp_extT (hbs rfl e15) rfl) ?_
  refine .i (v := (.int .i64 (nw))) (sp_extT (hbs rfl e15) rfl) ?_
  refine .i (v := (.int .i64 (ne))) (sp_extT (hbs rfl e15) rfl) ?_
  refine .al rfl ?_
  refine .al rfl ?_
  refine .al rfl ?_
  refine .dn fun a15 g W15 y15 zz15 hk hg hV hR hP => ?_
  refine tail_nil ?_
  show runTail _ _ _ _ _ _
  obtain ⟨e8, e7, -, -, -, -, -⟩ := hV
  replace e0 := ft hR e0
  replace e4 := ft hR e4
  replace e5 := ft hR e5
  replace e7 := e7.q
  replace e8 := e8.q
  replace kw := kw.x hk
  clear hR hk hg hP
  refine zn (hK13 _ _ ?_)
  refine zq fun K16 hK16 => ?_
  refine zq fun K17 hK17 => ?_
  refine rg mixed y15 zz15 ?_
  refine .mb rfl e8 ?_
  refine .i (sp_neq (hlc rfl) Has.cst) ?_
  refine .dn fun a18 g W18 y18 zz18 hk hg hV hR hP => ?_
  obtain ⟨e23, -, -⟩ := hV
  replace e0 := ft hR e0
  replace e4 := ft hR e4
  replace e5 := ft hR e5
  replace e7 := ft hR e7
  replace e23 := e23.q
  replace kw := kw.x hk
  clear hR hk hg hP
  refine zn (hK17 _ _ ?_)
  refine zc e23 (fun hc => ?_) (fun hc => ?_)
  ·
   have hne : ne ≠ 0 := by simpa using hc
   have hfin : utfOk s = false := hfu.trans (utfFrom_no hlt fun h => hne (hnx.1.2 h))
   refine zq fun K19 hK19 => ?_
   refine rg mixed y18 zz18 ?_
   refine .ac ?_
   refine .ac ?_
   refine .dn fun a20 g W20 y20 zz20 hk hg hV hR hP => ?_
   obtain ⟨e3, e2, -⟩ := hV
   replace e2 := e2.q
   replace e3 := e3.q
   replace kw := kw.x hk
   clear hR hk hg hP
   refine zn (hK19 _ _ ?_)
   refine wp_ret ?_
   refine ret2 rfl zz20 e2 e3 ⟨_, rfl, kw, ?_⟩
   rw [hfin]
   exact ⟨_, rfl⟩
  have hne : ne = 0 := by simpa using hc
  have hok : okN (s.size - p) (byteAt s p) (byteAt s (p + 1)) (byteAt s (p + 2)) (byteAt s (p + 3)) := hnx.1.1 hne
  have hwd := hnx.2 hne
  have hwb := wdN_b (byteAt s p)
  rw [utfFrom_ok hlt hok hwd] at hfu
  refine wp_skip (hK16 _ _ ?_)
  refine rg mixed y18 zz18 ?_
  refine .mb rfl e5 ?_
  refine .mb rfl e7 ?_
  refine .i (sp_add (hlc rfl) (hlc rfl) (i64_in (by omega))) ?_
  refine .al rfl ?_
  refine .dn fun a21 g W21 y21 zz21 hk hg hV hR hP => ?_
  obtain ⟨e5, -, -, -, -⟩ := hV
  replace e0 := ft hR e0
  replace e4 := ft hR e4
  replace e5 := e5.q
  replace kw := kw.x hk
  clear hR hk hg hP
  refine zn (hK12 _ _ ?_)
  refine rg mixed y21 zz21 ?_
  refine .mb rfl e4 ?_
  refine .i (sp_add (hlc rfl) Has.cst (i64_in (by omega))) ?_
  refine .al rfl ?_
  refine .dn fun a22 g W22 y22 zz22 hk hg hV hR hP => ?_
  obtain ⟨e4, -, -, -⟩ := hV
  replace e0 := ft hR e0
  replace e5 := ft hR e5
  replace e4 := e4.q
  replace kw := kw.x hk
  clear hR hk hg hP
  exact tail_nil ⟨by omega, _, f, y22, zz22, kw, e0, (e4.trans (congrArg (Value.int .i64) (by simp))), (e5.trans (congrArg (Value.int .i64) (by omega))), by omega, hfu, by omega⟩
 have hge : ¬ p < s.size := by have := of_decide_eq_false hc; omega
 have hfin : utfOk s = true := hfu.trans (utfFrom_end hge)
 refine wp_exit (hK5 _ _ ?_)
 refine zq fun K23 hK23 => ?_
 refine rg mixed y11 zz11 ?_
 refine .mb rfl e4 ?_
 refine .al rfl ?_
 refine .ac ?_
 refine .dn fun a24 g W24 y24 zz24 hk hg hV hR hP => ?_
 obtain ⟨e3, e2, -, -⟩ := hV
 replace e2 := e2.q
 replace e3 := e3.q
 replace kw := kw.x hk
 clear hR hk hg hP
 refine zn (hK23 _ _ ?_)
 refine wp_ret ?_
 refine ret2 rfl zz24 e2 e3 ⟨_, rfl, kw, ?_⟩
 rw [hfin]
 exact ⟨_, rfl⟩
end Go.Proofs.YtnobijngkpflcaaGreat
namespace Go.Eng
mutual
def partB : V → Bool
  | .mk k n t ns xs => properB (.mk k n t ns xs) && partL xs
def partL : List V → Bool
  | [] => true
  | x :: xs => partB x && partL xs
end
theorem partB_eq (x : V) : partB x = (properB x && partL x.xs) := by cases x; rfl
theorem proper_leaf {x : V} (h : properB x = true) (hk : x.k ≠ 4 ∧ x.k ≠ 5) : x.xs = [] := by
  unfold properB at h
  split at h
  · cases h
  · split at h
    · cases h
    · rename_i h2
      have h3 : ¬ 0 < x.xs.length := fun h4 => h2 (.inr ⟨hk.2, hk.1, h4⟩)
      exact List.length_eq_zero_iff.1 (by omega)
mutual
theorem mayV_iff : ∀ (x : V) (nested : Nat) (left : Int), 0 ≤ left → ((mayV x nested left).1 = true ↔ partB x = true ∧ (x.cnt : Int) ≤ left ∧ x.dep ≤ nested) ∧ ((mayV x nested left).1 = true → (mayV x nested left).2 = left - x.cnt)
  | .mk k n t ns xs, nested, left, h0 => by
    have hc : (V.mk k n t ns xs).cnt = V.cnts xs + 1 := cnt_eq _
    have hd : (V.mk k n t ns xs).dep = if k = 4 ∨ k = 5 then V.deps xs + 1 else 0 := dep_eq _
    have hp : partB (.mk k n t ns xs) = (properB (.mk k n t ns xs) && partL xs) := partB_eq _
    have hm := mayV_eq (.mk k n t ns xs) nested left
    rw [hm, hp, hc]
    by_cases h1 : left - 1 < 0 ∨ properB (.mk k n t ns xs) = false
    · rw [if_pos h1]
      refine ⟨⟨fun h => (by cases h), fun ⟨h2, h3, _⟩ => ?_⟩, fun h => (by cases h)⟩
      rcases h1 with h1 | h1
      · push_cast at h3; omega
      · rw [h1] at h2; cases h2
    · rw [if_neg h1]
      have hpt : properB (.mk k n t ns xs) = true := by
        cases hq : properB (.mk k n t ns xs) with
        | true => rfl
        | false => exact absurd (.inr hq) h1
      rw [hpt, Bool.true_and]
      have hl : 0 ≤ left - 1 := by
        rcases Int.lt_or_le (left - 1) 0 with h | h
        · exact absurd (.inl h) h1
        · exact h
      by_cases h2 : k ≠ 4 ∧ k ≠ 5
      · have hx : xs = [] := proper_leaf hpt h2
        subst hx
        rw [if_pos (show (V.mk k n t ns []).k ≠ 4 ∧ (V.mk k n t ns []).k ≠ 5 from h2), show (V.mk k n t ns []).dep = 0 by rw [hd, if_neg (by omega)]]
        simp [partL, V.cnts]; omega
      · rw [if_neg (show ¬ ((V.mk k n t ns xs).k ≠ 4 ∧ (V.mk k n t ns xs).k ≠ 5) from h2), show (V.mk k n t ns xs).dep = V.deps xs + 1 by rw [hd, if_pos (by omega)]]
        by_cases h3 : nested = 0
        · rw [if_pos h3]
          refine ⟨⟨fun h => (by cases h), fun ⟨_, _, h⟩ => by omega⟩, fun h => (by cases h)⟩
        · rw [if_neg h3]
          have hL := mayL_iff xs (nested - 1) (left - 1) hl
          refine ⟨hL.1.trans ⟨fun ⟨a, b, c⟩ => ⟨a, by push_cast; omega, by omega⟩, fun ⟨a, b, c⟩ => ⟨a, by push_cast at b; omega, by omega⟩⟩, fun h => ?_⟩
          have := hL.2 h
          push_cast
          show (mayL xs (nested - 1) (left - 1)).2 = _
          omega
theorem mayL_iff : ∀ (xs : List V) (nested : Nat) (left : Int), 0 ≤ left → ((mayL xs nested left).1 = true ↔ partL xs = true ∧ (V.cnts xs : Int) ≤ left ∧ V.deps xs ≤ nested) ∧ ((mayL xs nested left).1 = true → (mayL xs nested left).2 = left - V.cnts xs)
  | [], nested, left, h0 => by simp [mayL, partL, V.cnts, V.deps, h0]
  | x :: xs, nested, left, h0 => by
    have hV := mayV_iff x nested left h0
    have hc : V.cnts (x :: xs) = x.cnt + V.cnts xs := rfl
    have hd : V.deps (x :: xs) = max x.dep (V.deps xs) := rfl
    have hp : partL (x :: xs) = (partB x && partL xs) := rfl
    rw [mayL, hc, hd, hp]
    by_cases h1 : (mayV x nested left).1 = false
    · rw [if_pos h1]
      refine ⟨⟨fun h => (by cases h), fun ⟨a, b, c⟩ => ?_⟩, fun h => (by cases h)⟩
      rw [Bool.and_eq_true] at a
      have := hV.1.2 ⟨a.1, by push_cast at b; omega, by omega⟩
      exact absurd this (by rw [h1]; decide)
    · rw [if_neg h1]
      have ht : (mayV x nested left).1 = true := by simpa using h1
      have h2 := hV.1.1 ht
      have h3 := hV.2 ht
      have hL := mayL_iff xs nested (mayV x nested left).2 (by rw [h3]; omega)
      refine ⟨hL.1.trans ⟨fun ⟨a, b, c⟩ => ⟨by rw [h2.1, a]; rfl, by push_cast; omega, by omega⟩, fun ⟨a, b, c⟩ => ⟨by rw [Bool.and_eq_true] at a; exact a.2, by push_cast at b; omega, by omega⟩⟩, fun h => ?_⟩
      have := hL.2 h
      push_cast; omega
end
theorem partL_iff : ∀ (xs : List V), partL xs = true ↔ ∀ i (h : i < xs.length), partB xs[i] = true
  | [] => by simp [partL]
  | x :: xs => by
    rw [show partL (x :: xs) = (partB x && partL xs) from rfl, Bool.and_eq_true, partL_iff xs]
    exact ⟨fun ⟨a, b⟩ i h => by
      cases i with
      | zero => exact a
      | succ i => exact b i (by simpa using h), fun h => ⟨h 0 (by simp), fun i hi => h (i + 1) (by simpa using hi)⟩⟩
theorem len_nil {α : Type} {l : List α} (h : l.length = 0) : l = [] := List.length_eq_zero_iff.1 h
theorem part1 {x : V} (h : x.k = 1) : partB x = ((((((x.n : Int) == (0 : Int)) || ((x.n : Int) == (1 : Int))) && (decide (x.t = (⟨#[]⟩ : ByteArray)))) && ((x.ns.length : Int) == (0 : Int))) && ((x.xs.length : Int) == (0 : Int))) := by
  rw [partB_eq, Bool.eq_iff_iff]
  unfold properB
  simp only [h]
  by_cases h1 : x.t = ⟨#[]⟩
  · by_cases h2 : x.ns.length = 0
    · by_cases h3 : x.xs.length = 0
      · simp [h1, len_nil h2, len_nil h3, partL]
      · simp [h1, h2, h3]
    · simp [h1, h2]
  · simp [h1]
theorem part2 {x : V} (h : x.k = 2) : partB x = (((decide (x.t = (⟨#[]⟩ : ByteArray))) && ((x.ns.length : Int) == (0 : Int))) && ((x.xs.length : Int) == (0 : Int))) := by
  rw [partB_eq, Bool.eq_iff_iff]
  unfold properB
  simp only [h]
  by_cases h1 : x.t = ⟨#[]⟩
  · by_cases h2 : x.ns.length = 0
    · by_cases h3 : x.xs.length = 0
      · simp [h1, len_nil h2, len_nil h3, partL]
      · simp [h1, h2, h3]
    · simp [h1, h2]
  · simp [h1]
theorem part3 {x : V} (h : x.k = 3) : partB x = (((((x.n : Int) == (0 : Int)) && (wr x.t)) && ((x.ns.length : Int) == (0 : Int))) && ((x.xs.length : Int) == (0 : Int))) := by
  rw [partB_eq, Bool.eq_iff_iff]
  unfold properB
  simp only [h]
  by_cases h1 : x.n = 0
  · by_cases h2 : x.ns.length = 0
    · by_cases h3 : x.xs.length = 0
      · simp [h1, len_nil h2, len_nil h3, partL]
      · simp [h1, h2, h3]
    · simp [h1, h2]
  · simp [h1]
theorem partNo {x : V} (h1 : x.k ≠ 1) (h2 : x.k ≠ 2) (h3 : x.k ≠ 3) (h4 : x.k ≠ 4) (h5 : x.k ≠ 5) : partB x = false := by
  rw [partB_eq]
  unfold properB
  simp [h1, h2, h3, h4, h5]
theorem part45 {x : V} (hk : x.k = 4 ∨ x.k = 5) : partB x = true ↔ (x.n = 0 ∧ x.t = ⟨#[]⟩ ∧ (x.k = 4 → x.ns.length = 0) ∧ (x.k = 5 → x.ns.length = x.xs.length) ∧ asc x.ns = true) ∧ (∀ i (h : i < x.ns.length), wr x.ns[i] = true) ∧ (∀ i (h : i < x.xs.length), partB x.xs[i] = true) := by
  rw [partB_eq, Bool.and_eq_true, partL_iff]
  have hall : x.ns.all wr = true ↔ ∀ i (h : i < x.ns.length), wr x.ns[i] = true := by
    rw [List.all_eq_true]
    exact ⟨fun h i hi => h _ (List.getElem_mem hi), fun h y hy => by obtain ⟨i, hi, rfl⟩ := List.getElem_of_mem hy; exact h i hi⟩
  rw [← hall]
  unfold properB
  rcases hk with hk | hk
  · simp only [hk]
    by_cases h1 : x.n = 0
    · by_cases h2 : x.t = ⟨#[]⟩
      · by_cases h3 : x.ns.length = 0
        · simp [h1, h2, len_nil h3, asc]
        · simp [h1, h2, h3]
      · simp [h1, h2]
    · simp [h1]
  · simp only [hk]
    by_cases h1 : x.n = 0
    · by_cases h2 : x.t = ⟨#[]⟩
      · simp [h1, h2, and_assoc]
      · simp [h1, h2]
    · simp [h1]
theorem no_part {x : V} (h : ¬ partB x = true) : partB x = false := by simpa using h
theorem part45_no {x : V} (hk : x.k = 4 ∨ x.k = 5) (hc : (((((((x.n : Int) != (0 : Int)) || (!decide (x.t = (⟨#[]⟩ : ByteArray)))) || (((x.k : Int) == (4 : Int)) && (decide ((0 : Int) < (x.ns.length : Int))))) || (((x.k : Int) == (5 : Int)) && ((x.ns.length : Int) != (x.xs.length : Int)))) || (!(asc x.ns)))) = true) : partB x = false := no_part fun h => by
  obtain ⟨⟨h1, h2, h3, h4, h5⟩, -⟩ := (part45 hk).1 h
  rcases hk with hk | hk
  · simp [h1, h2, h5, hk, h3 hk] at hc
  · simp [h1, h2, h5, hk, h4 hk] at hc
theorem part45_yes {x : V} (hk : x.k = 4 ∨ x.k = 5) (hc : (((((((x.n : Int) != (0 : Int)) || (!decide (x.t = (⟨#[]⟩ : ByteArray)))) || (((x.k : Int) == (4 : Int)) && (decide ((0 : Int) < (x.ns.length : Int))))) || (((x.k : Int) == (5 : Int)) && ((x.ns.length : Int) != (x.xs.length : Int)))) || (!(asc x.ns)))) = false) (hn : ∀ i (h : i < x.ns.length), wr x.ns[i] = true) (hx : ∀ i (h : i < x.xs.length), partB x.xs[i] = true) : partB x = true := by
  refine (part45 hk).2 ⟨?_, hn, hx⟩
  simp only [Bool.or_eq_false_iff, Bool.not_eq_false', Bool.and_eq_false_iff, bne_eq_false_iff_eq, decide_eq_true_eq, decide_eq_false_iff_not] at hc
  obtain ⟨⟨⟨⟨h1, h2⟩, h3⟩, h4⟩, h5⟩ := hc
  refine ⟨h1, h2, fun e => ?_, fun e => ?_, h5⟩
  · rcases h3 with h3 | h3
    · simp [e] at h3
    · omega
  · rcases h4 with h4 | h4
    · simp [e] at h4
    · omega
theorem part_ns {x : V} (hk : x.k = 4 ∨ x.k = 5) {k : Nat} (hlt : k < x.ns.length) (h : wr x.ns[k] = false) : partB x = false := no_part fun hp => by
  have := ((part45 hk).1 hp).2.1 k hlt
  rw [h] at this; cases this
theorem part_xs {x : V} (hk : x.k = 4 ∨ x.k = 5) {k : Nat} (hlt : k < x.xs.length) (h : partB x.xs[k] = false) : partB x = false := no_part fun hp => by
  have := ((part45 hk).1 hp).2.2 k hlt
  rw [h] at this; cases this
theorem may_part (x : V) : mayB x = (partB x && (decide (x.cnt ≤ 8192) && decide (x.dep ≤ 12))) := by
  rw [Bool.eq_iff_iff, Bool.and_eq_true, Bool.and_eq_true, decide_eq_true_eq, decide_eq_true_eq]
  unfold mayB
  rw [(mayV_iff x 12 8192 (by omega)).1]
  constructor
  · rintro ⟨a, b, c⟩; exact ⟨a, by omega, c⟩
  · rintro ⟨a, b, c⟩; exact ⟨a, by omega, c⟩
end Go.Eng
namespace Go.Proofs.YtnobijngkpflcaaGreat
open Go.Eng
set_option maxRecDepth 100000 in
theorem Text08_ok (s : ByteArray) (hm : s.size ≤ 1073741824) (w : World) : Calls Tryz.prog 73 #[.string s] w (Ret w fun u _ => u = .bool (wr s)) := by
 refine enter Tryz.func73 rfl Tryz.ntmps73 (lbr rfl) fun a0 y0 zz0 harg => ?_
 have e0 : sl a0 0 = (.string (s)) := harg 0 (lbr rfl)
 have kw := Keeps.refl All w
 clear harg
 refine zq fun K1 hK1 => ?_
 refine rg mixed y0 zz0 ?_
 refine .ac ?_
 refine .dn fun a2 g W2 y2 zz2 hk hg hV hR hP => ?_
 obtain ⟨-, -⟩ := hV
 replace e0 := ft hR e0
 replace kw := kw.x hk
 clear hR hk hg hP
 refine zn (hK1 _ _ ?_)
 refine zq fun K3 hK3 => ?_
 refine rg mixed y2 zz2 ?_
 refine .mb rfl e0 ?_
 refine .op (φ := IsT (Any) (Is (.bool (utfOk s)))) (st_t st_any (st_is _)) (sp_call1 (φ1 := Is (.string (s))) ent86 (hlc rfl) (fun g u1 W hk hgk h1 => by have h1 : u1 = _ := h1; subst u1; exact (Len04_ok (s) hm W).mono (fun _ _ ⟨v, h1, h2, n, h3⟩ => ⟨v, h1, h2, _, _, h3, trivial, rfl⟩))) ?_
 refine .op (φ := IsT (Any) (Is (.bool (utfOk s)))) (st_t st_any (st_is _)) (sp_move (hlc rfl)) ?_
 refine .op (φ := Any) st_any (sp_ext2 (hlc rfl) rfl) ?_
 refine .i (v := (.bool (utfOk s))) (sp_ext2' (hlc rfl) rfl) ?_
 refine .op (φ := Any) st_any (sp_assign (hlc rfl)) ?_
 refine .al rfl ?_
 refine .dn fun a4 g W4 y4 zz4 hk hg hV hR hP => ?_
 obtain ⟨e4, -, -, -, -, -, -, -⟩ := hV
 replace e0 := ft hR e0
 replace e4 := e4.q
 replace kw := kw.x hk
 clear hR hk hg hP
 refine zn (hK3 _ _ ?_)
 refine zq fun K5 hK5 => ?_
 refine rg mixed y4 zz4 ?_
 refine .mb rfl e4 ?_
 refine .i (sp_move (hlc rfl)) ?_
 refine .em rfl (hlc rfl) rfl e0 ?_
 refine .e rfl (hlc rfl) (fun hg => sp_lenS Tryz.underlying9 ((hlc rfl).undE hg)) ?_
 refine .e rfl (hlc rfl) (fun hg => sp_leq ((hlc rfl).undE hg) Has.cst) ?_
 refine .i (sp_and (hlc rfl) ((hlc rfl).weak fun hq => hq)) ?_
 refine .al rfl ?_
 refine .dn fun a6 g W6 y6 zz6 hk hg hV hR hP => ?_
 obtain ⟨e2, -, -, -, -, -, -, -⟩ := hV
 replace e2 := e2.q
 replace kw := kw.x hk
 clear hR hk hg hP
 refine zn (hK5 _ _ ?_)
 refine wp_ret ?_
 refine ret1 rfl zz6 e2 ⟨_, rfl, kw, ?_⟩
 refine congrArg Value.bool ?_
 rw [wr, Bool.and_comm]
 congr 1
 exact decide_eq_decide.2 (by omega)
set_option maxRecDepth 100000 in
theorem part08_all : ∀ (m : Nat) (x : V), x.cnt ≤ m → x.wt ≤ 1073741824 → ∀ (w : World) (S : BSet) (v : Value), Rd w S x.d v → Calls Tryz.prog 51 #[v] w (Ret w fun u _ => u = .bool (partB x)) := by
 intro m
 induction m with
 | zero => intro x hx; cases x; simp [V.cnt] at hx
 | succ m ih =>
 intro x hx hw w S v hv
 have hcx := cnt_eq x
 have hwx := wt_eq x
 have hmt : x.t.size ≤ 1073741824 := by omega
 have hl1 := wtN_len x.ns
 have hl2 := wts_len x.xs
 obtain ⟨cn0a, cn0c, ci0a, ci0c, ev, ht0, D_cn0, D_ci0⟩ := rdV_out (rd_arg hv)
 subst ev
 refine enter Tryz.func51 rfl Tryz.ntmps51 (lbr rfl) fun a0 y0 zz0 harg => ?_
 have e0 : sl a0 0 = (.agg #[(.int .u8 (x.k)), (.int .i64 (x.n)), (.string (x.t)), (.slice cn0a (x.ns.length) cn0c), (.slice ci0a (x.xs.length) ci0c)]) := harg 0 (lbr rfl)
 have kw := Keeps.refl All w
 clear harg
 refine zq fun K1 hK1 => ?_
 refine rg mixed y0 zz0 ?_
 refine .boxOp (v := (.agg #[(.int .u8 (x.k)), (.int .i64 (x.n)), (.string (x.t)), (.slice cn0a (x.ns.length) cn0c), (.slice ci0a (x.xs.length) ci0c)])) (hbs rfl e0) ?_
 refine .ac ?_
 refine .dn fun a2 g W2 y2 zz2 hk hg hV hR hP => ?_
 obtain ⟨-, ⟨b1_2, e1, hb1, own_b1_2⟩, -⟩ := hV
 have lo_b1_2 : w.heap.size ≤ b1_2 := Nat.le_trans kw.size (hg.lo _ _ hb1)
 have own_b1_2 : Own W2 b1_2 [(.int .u8 (x.k)), (.int .i64 (x.n)), (.string (x.t)), (.slice cn0a (x.ns.length) cn0c), (.slice ci0a (x.xs.length) ci0c)] 26 := own_b1_2
 replace D_cn0 := sa_more D_cn0 hk [b1_2] (in_cons (hg.lo _ _ hb1) in_nil)
 replace D_ci0 := sa_more D_ci0 hk [b1_2] (in_cons (hg.lo _ _ hb1) in_nil)
 replace kw := kw.x hk
 clear hR hk hg hP hb1
 refine zn (hK1 _ _ ?_)
 refine zq fun K3 hK3 => ?_
 refine zq fun K4 hK4 => ?_
 refine rg mixed y2 zz2 ?_
 refine .i (fo 0 (hbs rfl e1) Tryz.underlying26 rfl sz5 rfl) ?_
 refine .i (lo1 (hlc rfl) own_b1_2 trivial agg5 sz5 rfl) ?_
 refine .dn fun a5 g W5 y5 zz5 hk hg hV hR hP => ?_
 obtain ⟨e6, -, -⟩ := hV
 replace e1 := ft hR e1
 replace D_cn0 := D_cn0.ext hk
 replace D_ci0 := D_ci0.ext hk
 replace e6 := e6.q
 replace own_b1_2 := own_b1_2.ext hk
 replace kw := kw.x hk
 clear hR hk hg hP
 refine zn (hK4 _ _ ?_)
 refine wp_block ?_
 refine zq fun K6 hK6 => ?_
 refine rg mixed y5 zz5 ?_
 refine .i (sp_eql (hbs rfl e6) Has.cst) ?_
 refine .al rfl ?_
 refine .dn fun a7 g W7 y7 zz7 hk hg hV hR hP => ?_
 obtain ⟨e7, -, -⟩ := hV
 replace e1 := ft hR e1
 replace e6 := ft hR e6
 replace D_cn0 := D_cn0.ext hk
 replace D_ci0 := D_ci0.ext hk
 replace e7 := e7.q
 replace own_b1_2 := own_b1_2.ext hk
 replace kw := kw.x hk
 clear hR hk hg hP
 refine zn (hK6 _ _ ?_)
 refine zc e7 (fun hc => ?_) (fun hc => ?_)
 ·
  have hk : x.k = 1 := by simp at hc; omega
  have hfin := part1 hk
  refine zq fun K8 hK8 => ?_
  refine rg mixed y7 zz7 ?_
  refine .i (fo 1 (hbs rfl e1) Tryz.underlying26 rfl sz2 rfl) ?_
  refine .i (lo1 (hlc rfl) own_b1_2 trivial agg2 sz2 rfl) ?_
  refine .i (sp_eql (hlc rfl) Has.cst) ?_
  refine .i (sp_move (hlc rfl)) ?_
  refine .e rfl (hlc rfl) (fun hg => fo 1 (hbs rfl e1) Tryz.underlying26 rfl sz2 rfl) ?_
  refine .e rfl (hlc rfl) (fun hg => lo1 ((hlc rfl).undE hg) own_b1_2 trivial agg2 sz2 rfl) ?_
  refine .e rfl (hlc rfl) (fun hg => sp_eql ((hlc rfl).undE hg) Has.cst) ?_
  refine .i (sp_or (hlc rfl) ((hlc rfl).weak fun hq => hq)) ?_
  refine .i (sp_move (hlc rfl)) ?_
  refine .e rfl (hlc rfl) (fun hg => fo 2 (hbs rfl e1) Tryz.underlying26 rfl sz9 rfl) ?_
  refine .e rfl (hlc rfl) (fun hg => lo1 ((hlc rfl).undE hg) own_b1_2 trivial agg9 sz9 rfl) ?_
  refine .e rfl (hlc rfl) (fun hg => sp_sEql ((hlc rfl).undE hg) Has.cst) ?_
  refine .i (sp_and (hlc rfl) ((hlc rfl).weak fun hq => hq)) ?_
  refine .i (sp_move (hlc rfl)) ?_
  refine .e rfl (hlc rfl) (fun hg => fo 3 (hbs rfl e1) Tryz.underlying26 rfl sz23 rfl) ?_
  refine .e rfl (hlc rfl) (fun hg => lo1 ((hlc rfl).undE hg) own_b1_2 trivial agg23 sz23 rfl) ?_
  refine .e rfl (hlc rfl) (fun hg => sp_lenSs Tryz.underlying23 (((hlc rfl).undE hg).dat D_cn0 sub_all)) ?_
  refine .e rfl (hlc rfl) (fun hg => sp_eql ((hlc rfl).undE hg) Has.cst) ?_
  refine .i (sp_and (hlc rfl) ((hlc rfl).weak fun hq => hq)) ?_
  refine .i (sp_move (hlc rfl)) ?_
  refine .e rfl (hlc rfl) (fun hg => fo 4 (hbs rfl e1) Tryz.underlying26 rfl sz24 rfl) ?_
  refine .e rfl (hlc rfl) (fun hg => lo1 ((hlc rfl).undE hg) own_b1_2 trivial agg24 sz24 rfl) ?_
  refine .e rfl (hlc rfl) (fun hg => sp_lenVs Tryz.underlying24 (((hlc rfl).undE hg).dat D_ci0 sub_all)) ?_
  refine .e rfl (hlc rfl) (fun hg => sp_eql ((hlc rfl).undE hg) Has.cst) ?_
  refine .i (sp_and (hlc rfl) ((hlc rfl).weak fun hq => hq)) ?_
  refine .al rfl ?_
  refine .dn fun a9 g W9 y9 zz9 hk hg hV hR hP => ?_
  obtain ⟨e2, -, -, -, -, -, -, -, -, -, -, -, -, -, -, -, -, -, -, -, -, -, -, -, -, -, -⟩ := hV
  replace D_cn0 := D_cn0.ext hk
  replace D_ci0 := D_ci0.ext hk
  replace e2 := e2.q
  replace own_b1_2 := own_b1_2.ext hk
  replace kw := kw.x hk
  clear hR hk hg hP
  refine zn (hK8 _ _ ?_)
  refine wp_ret ?_
  refine ret1 rfl zz9 e2 ⟨_, rfl, kw, ?_⟩
  refine congrArg Value.bool ?_
  rw [hfin]
 have h1 : x.k ≠ 1 := by simp at hc; omega
 refine zq fun K10 hK10 => ?_
 refine rg mixed y7 zz7 ?_
 refine .i (sp_eql (hbs rfl e6) Has.cst) ?_
 refine .al rfl ?_
 refine .dn fun a11 g W11 y11 zz11 hk hg hV hR hP => ?_
 obtain ⟨e34, -, -⟩ := hV
 replace e1 := ft hR e1
 replace e6 := ft hR e6
 replace D_cn0 := D_cn0.ext hk
 replace D_ci0 := D_ci0.ext hk
 replace e34 := e34.q
 replace own_b1_2 := own_b1_2.ext hk
 replace kw := kw.x hk
 clear hR hk hg hP
 refine zn (hK10 _ _ ?_)
 refine zc e34 (fun hc => ?_) (fun hc => ?_)
 ·
  have hk : x.k = 2 := by simp at hc; omega
  have hfin := part2 hk
  refine zq fun K12 hK12 => ?_
  refine rg mixed y11 zz11 ?_
  refine .i (fo 2 (hbs rfl e1) Tryz.underlying26 rfl sz9 rfl) ?_
  refine .i (lo1 (hlc rfl) own_b1_2 trivial agg9 sz9 rfl) ?_
  refine .i (sp_sEql (hlc rfl) Has.cst) ?_
  refine .i (sp_move (hlc rfl)) ?_
  refine .e rfl (hlc rfl) (fun hg => fo 3 (hbs rfl e1) Tryz.underlying26 rfl sz23 rfl) ?_
  refine .e rfl (hlc rfl) (fun hg => lo1 ((hlc rfl).undE hg) own_b1_2 trivial agg23 sz23 rfl) ?_
  refine .e rfl (hlc rfl) (fun hg => sp_lenSs Tryz.underlying23 (((hlc rfl).undE hg).dat D_cn0 sub_all)) ?_
  refine .e rfl (hlc rfl) (fun hg => sp_eql ((hlc rfl).undE hg) Has.cst) ?_
  refine .i (sp_and (hlc rfl) ((hlc rfl).weak fun hq => hq)) ?_
  refine .i (sp_move (hlc rfl)) ?_
  refine .e rfl (hlc rfl) (fun hg => fo 4 (hbs rfl e1) Tryz.underlying26 rfl sz24 rfl) ?_
  refine .e rfl (hlc rfl) (fun hg => lo1 ((hlc rfl).undE hg) own_b1_2 trivial agg24 sz24 rfl) ?_
  refine .e rfl (hlc rfl) (fun hg => sp_lenVs Tryz.underlying24 (((hlc rfl).undE hg).dat D_ci0 sub_all)) ?_
  refine .e rfl (hlc rfl) (fun hg => sp_eql ((hlc rfl).undE hg) Has.cst) ?_
  refine .i (sp_and (hlc rfl) ((hlc rfl).weak fun hq => hq)) ?_
  refine .al rfl ?_
  refine .dn fun a13 g W13 y13 zz13 hk hg hV hR hP => ?_
  obtain ⟨e2, -, -, -, -, -, -, -, -, -, -, -, -, -, -, -, -⟩ := hV
  replace D_cn0 := D_cn0.ext hk
  replace D_ci0 := D_ci0.ext hk
  replace e2 := e2.q
  replace own_b1_2 := own_b1_2.ext hk
  replace kw := kw.x hk
  clear hR hk hg hP
  refine zn (hK12 _ _ ?_)
  refine wp_ret ?_
  refine ret1 rfl zz13 e2 ⟨_, rfl, kw, ?_⟩
  refine congrArg Value.bool ?_
  rw [hfin]
 have h2 : x.k ≠ 2 := by simp at hc; omega
 refine zq fun K14 hK14 => ?_
 refine rg mixed y11 zz11 ?_
 refine .i (sp_eql (hbs rfl e6) Has.cst) ?_
 refine .al rfl ?_
 refine .dn fun a15 g W15 y15 zz15 hk hg hV hR hP => ?_
 obtain ⟨e51, -, -⟩ := hV
 replace e1 := ft hR e1
 replace e6 := ft hR e6
 replace D_cn0 := D_cn0.ext hk
 replace D_ci0 := D_ci0.ext hk
 replace e51 := e51.q
 replace own_b1_2 := own_b1_2.ext hk
 replace kw := kw.x hk
 clear hR hk hg hP
 refine zn (hK14 _ _ ?_)
 refine zc e51 (fun hc => ?_) (fun hc => ?_)
 ·
  have hk : x.k = 3 := by simp at hc; omega
  have hfin := part3 hk
  refine zq fun K16 hK16 => ?_
  refine rg mixed y15 zz15 ?_
  refine .i (fo 1 (hbs rfl e1) Tryz.underlying26 rfl sz2 rfl) ?_
  refine .i (lo1 (hlc rfl) own_b1_2 trivial agg2 sz2 rfl) ?_
  refine .i (sp_eql (hlc rfl) Has.cst) ?_
  refine .i (sp_move (hlc rfl)) ?_
  refine .e rfl (hlc rfl) (fun hg => fo 2 (hbs rfl e1) Tryz.underlying26 rfl sz9 rfl) ?_
  refine .e rfl (hlc rfl) (fun hg => lo1 ((hlc rfl).undE hg) own_b1_2 trivial agg9 sz9 rfl) ?_
  refine .e (v := (.bool (wr x.t))) rfl (hlc rfl) (fun hg => sp_call1 (φ1 := Is (.string (x.t))) ent73 ((hlc rfl).undE hg) (fun g u1 W hk hgk h1 => by have h1 : u1 = _ := h1; subst u1; exact Text08_ok (x.t) hmt W)) ?_
  refine .i (sp_and (hlc rfl) ((hlc rfl).weak fun hq => hq)) ?_
  refine .i (sp_move (hlc rfl)) ?_
  refine .e rfl (hlc rfl) (fun hg => fo 3 (hbs rfl e1) Tryz.underlying26 rfl sz23 rfl) ?_
  refine .e rfl (hlc rfl) (fun hg => lo1 ((hlc rfl).undE hg) own_b1_2 trivial agg23 sz23 rfl) ?_
  refine .e rfl (hlc rfl) (fun hg => sp_lenSs Tryz.underlying23 (((hlc rfl).undE hg).dat D_cn0 sub_all)) ?_
  refine .e rfl (hlc rfl) (fun hg => sp_eql ((hlc rfl).undE hg) Has.cst) ?_
  refine .i (sp_and (hlc rfl) ((hlc rfl).weak fun hq => hq)) ?_
  refine .i (sp_move (hlc rfl)) ?_
  refine .e rfl (hlc rfl) (fun hg => fo 4 (hbs rfl e1) Tryz.underlying26 rfl sz24 rfl) ?_
  refine .e rfl (hlc rfl) (fun hg => lo1 ((hlc rfl).undE hg) own_b1_2 trivial agg24 sz24 rfl) ?_
  refine .e rfl (hlc rfl) (fun hg => sp_lenVs Tryz.underlying24 (((hlc rfl).undE hg).dat D_ci0 sub_all)) ?_
  refine .e rfl (hlc rfl) (fun hg => sp_eql ((hlc rfl).undE hg) Has.cst) ?_
  refine .i (sp_and (hlc rfl) ((hlc rfl).weak fun hq => hq)) ?_
  refine .al rfl ?_
  refine .dn fun a17 g W17 y17 zz17 hk hg hV hR hP => ?_
  obtain ⟨e2, -, -, -, -, -, -, -, -, -, -, -, -, -, -, -, -, -, -, -, -, -⟩ := hV
  replace D_cn0 := D_cn0.ext hk
  replace D_ci0 := D_ci0.ext hk
  replace e2 := e2.q
  replace own_b1_2 := own_b1_2.ext hk
  replace kw := kw.x hk
  clear hR hk hg hP
  refine zn (hK16 _ _ ?_)
  refine wp_ret ?_
  refine ret1 rfl zz17 e2 ⟨_, rfl, kw, ?_⟩
  refine congrArg Value.bool ?_
  rw [hfin]
 have h3 : x.k ≠ 3 := by simp at hc; omega
 refine zq fun K18 hK18 => ?_
 have J18 : ∀ a W, (a.tmps.size = 143 ∧ a.defers = [] ∧ Keeps All w W ∧ sl a 1 = (.pointer (some ⟨b1_2, 0, none⟩)) ∧ sl a 73 = (.bool (decide (x.k = 4 ∨ x.k = 5))) ∧ Own W b1_2 [(.int .u8 (x.k)), (.int .i64 (x.n)), (.string (x.t)), (.slice cn0a (x.ns.length) cn0c), (.slice ci0a (x.xs.length) ci0c)] 26 ∧ Rd W (SA w S [b1_2]) (strsD (x.ns)) (.slice cn0a (x.ns.length) cn0c) ∧ Rd W (SA w S [b1_2]) (valsD (x.xs)) (.slice ci0a (x.xs.length) ci0c)) → K18 a W := by
  clear kw e1 own_b1_2 D_cn0 D_ci0
  rintro a19 W19 ⟨y19, zz19, kw, e1, e73, own_b1_2, D_cn0, D_ci0⟩
  refine hK18 _ _ ?_
  refine zc e73 (fun hc => ?_) (fun hc => ?_)
  ·
   have hk : x.k = 4 ∨ x.k = 5 := of_decide_eq_true hc
   refine zq fun K20 hK20 => ?_
   refine zq fun K21 hK21 => ?_
   refine rg mixed y19 zz19 ?_
   refine .i (fo 1 (hbs rfl e1) Tryz.underlying26 rfl sz2 rfl) ?_
   refine .i (lo1 (hlc rfl) own_b1_2 trivial agg2 sz2 rfl) ?_
   refine .i (sp_neq (hlc rfl) Has.cst) ?_
   refine .i (sp_move (hlc rfl)) ?_
   refine .e rfl (hlc rfl) (fun hg => fo 2 (hbs rfl e1) Tryz.underlying26 rfl sz9 rfl) ?_
   refine .e rfl (hlc rfl) (fun hg => lo1 ((hlc rfl).undE hg) own_b1_2 trivial agg9 sz9 rfl) ?_
   refine .e rfl (hlc rfl) (fun hg => sp_sNeq ((hlc rfl).undE hg) Has.cst) ?_
   refine .i (sp_or (hlc rfl) ((hlc rfl).weak fun hq => hq)) ?_
   refine .i (sp_move (hlc rfl)) ?_
   refine .e rfl (hlc rfl) (fun hg => fo 0 (hbs rfl e1) Tryz.underlying26 rfl sz5 rfl) ?_
   refine .e rfl (hlc rfl) (fun hg => lo1 ((hlc rfl).undE hg) own_b1_2 trivial agg5 sz5 rfl) ?_
   refine .e rfl (hlc rfl) (fun hg => sp_eql ((hlc rfl).undE hg) Has.cst) ?_
   refine .e rfl (hlc rfl) (fun hg => sp_move ((hlc rfl).undE hg)) ?_
   refine .opEE (t := 88) (x := (x.k : Int) == (4 : Int)) (p := (((x.n : Int) != (0 : Int)) || (!decide (x.t = (⟨#[]⟩ : ByteArray)))) = false) (φ := Is (.pointer (some ⟨b1_2, 3, none⟩))) rfl (hlc rfl) (st_is _) (fun hg => sp_fieldO (hbs rfl e1) Tryz.underlying26 rfl sz23 rfl) ?_
   refine .opEE (t := 88) (x := (x.k : Int) == (4 : Int)) (p := (((x.n : Int) != (0 : Int)) || (!decide (x.t = (⟨#[]⟩ : ByteArray)))) = false) (φ := Is (.slice cn0a (x.ns.length) cn0c)) rfl (hlc rfl) (st_is _) (fun hg => sp_loadO (v := (.slice cn0a (x.ns.length) cn0c)) ((hlc rfl).undE hg) own_b1_2 trivial agg23 sz23 (lbr rfl) (fun h => by first | rfl | cases h) rfl) ?_
   refine .opEE (t := 88) (x := (x.k : Int) == (4 : Int)) (p := (((x.n : Int) != (0 : Int)) || (!decide (x.t = (⟨#[]⟩ : ByteArray)))) = false) (φ := Is (.int .i64 (x.ns.length))) rfl (hlc rfl) (st_is _) (fun hg => sp_lenSs Tryz.underlying23 (((hlc rfl).undE hg).dat D_cn0 sub_all)) ?_
   refine .opEE (t := 88) (x := (x.k : Int) == (4 : Int)) (p := (((x.n : Int) != (0 : Int)) || (!decide (x.t = (⟨#[]⟩ : ByteArray)))) = false) (φ := Is (.bool (decide ((0 : Int) < (x.ns.length : Int))))) rfl (hlc rfl) (st_is _) (fun hg => sp_gtr ((hlc rfl).undE hg) Has.cst) ?_
   refine .e rfl (hlc rfl) (fun hg => sp_and ((hlc rfl).undE hg) ((hlc rfl).weak fun hq => ⟨hg, hq⟩)) ?_
   refine .i (sp_or (hlc rfl) ((hlc rfl).weak fun hq => hq)) ?_
   refine .i (sp_move (hlc rfl)) ?_
   refine .e rfl (hlc rfl) (fun hg => fo 0 (hbs rfl e1) Tryz.underlying26 rfl sz5 rfl) ?_
   refine .e rfl (hlc rfl) (fun hg => lo1 ((hlc rfl).undE hg) own_b1_2 trivial agg5 sz5 rfl) ?_
   refine .e rfl (hlc rfl) (fun hg => sp_eql ((hlc rfl).undE hg) Has.cst) ?_
   refine .e rfl (hlc rfl) (fun hg => sp_move ((hlc rfl).undE hg)) ?_
   refine .opEE (t := 99) (x := (x.k : Int) == (5 : Int)) (p := ((((x.n : Int) != (0 : Int)) || (!decide (x.t = (⟨#[]⟩ : ByteArray)))) || (((x.k : Int) == (4 : Int)) && (decide ((0 : Int) < (x.ns.length : Int))))) = false) (φ := Is (.pointer (some ⟨b1_2, 3, none⟩))) rfl (hlc rfl) (st_is _) (fun hg => sp_fieldO (hbs rfl e1) Tryz.underlying26 rfl sz23 rfl) ?_
   refine .opEE (t := 99) (x := (x.k : Int) == (5 : Int)) (p := ((((x.n : Int) != (0 : Int)) || (!decide (x.t = (⟨#[]⟩ : ByteArray)))) || (((x.k : Int) == (4 : Int)) && (decide ((0 : Int) < (x.ns.length : Int))))) = false) (φ := Is (.slice cn0a (x.ns.length) cn0c)) rfl (hlc rfl) (st_is _) (fun hg => sp_loadO (v := (.slice cn0a (x.ns.length) cn0c)) ((hlc rfl).undE hg) own_b1_2 trivial agg23 sz23 (lbr rfl) (fun h => by first | rfl | cases h) rfl) ?_
   refine .opEE (t := 99) (x := (x.k : Int) == (5 : Int)) (p := ((((x.n : Int) != (0 : Int)) || (!decide (x.t = (⟨#[]⟩ : ByteArray)))) || (((x.k : Int) == (4 : Int)) && (decide ((0 : Int) < (x.ns.length : Int))))) = false) (φ := Is (.int .i64 (x.ns.length))) rfl (hlc rfl) (st_is _) (fun hg => sp_lenSs Tryz.underlying23 (((hlc rfl).undE hg).dat D_cn0 sub_all)) ?_
   refine .opEE (t := 99) (x := (x.k : Int) == (5 : Int)) (p := ((((x.n : Int) != (0 : Int)) || (!decide (x.t = (⟨#[]⟩ : ByteArray)))) || (((x.k : Int) == (4 : Int)) && (decide ((0 : Int) < (x.ns.length : Int))))) = false) (φ := Is (.pointer (some ⟨b1_2, 4, none⟩))) rfl (hlc rfl) (st_is _) (fun hg => sp_fieldO (hbs rfl e1) Tryz.underlying26 rfl sz24 rfl) ?_
   refine .opEE (t := 99) (x := (x.k : Int) == (5 : Int)) (p := ((((x.n : Int) != (0 : Int)) || (!decide (x.t = (⟨#[]⟩ : ByteArray)))) || (((x.k : Int) == (4 : Int)) && (decide ((0 : Int) < (x.ns.length : Int))))) = false) (φ := Is (.slice ci0a (x.xs.length) ci0c)) rfl (hlc rfl) (st_is _) (fun hg => sp_loadO (v := (.slice ci0a (x.xs.length) ci0c)) ((hlc rfl).undE hg) own_b1_2 trivial agg24 sz24 (lbr rfl) (fun h => by first | rfl | cases h) rfl) ?_
   refine .opEE (t := 99) (x := (x.k : Int) == (5 : Int)) (p := ((((x.n : Int) != (0 : Int)) || (!decide (x.t = (⟨#[]⟩ : ByteArray)))) || (((x.k : Int) == (4 : Int)) && (decide ((0 : Int) < (x.ns.length : Int))))) = false) (φ := Is (.int .i64 (x.xs.length))) rfl (hlc rfl) (st_is _) (fun hg => sp_lenVs Tryz.underlying24 (((hlc rfl).undE hg).dat D_ci0 sub_all)) ?_
   refine .opEE (t := 99) (x := (x.k : Int) == (5 : Int)) (p := ((((x.n : Int) != (0 : Int)) || (!decide (x.t = (⟨#[]⟩ : ByteArray)))) || (((x.k : Int) == (4 : Int)) && (decide ((0 : Int) < (x.ns.length : Int))))) = false) (φ := Is (.bool ((x.ns.length : Int) != (x.xs.length : Int)))) rfl (hlc rfl) (st_is _) (fun hg => sp_neq ((hlc rfl).undE hg) ((hlc rfl).undE hg)) ?_
   refine .e rfl (hlc rfl) (fun hg => sp_and ((hlc rfl).undE hg) ((hlc rfl).weak fun hq => ⟨hg, hq⟩)) ?_
   refine .i (sp_or (hlc rfl) ((hlc rfl).weak fun hq => hq)) ?_
   refine .i (sp_move (hlc rfl)) ?_
   refine .e rfl (hlc rfl) (fun hg => fo 3 (hbs rfl e1) Tryz.underlying26 rfl sz23 rfl) ?_
   refine .e rfl (hlc rfl) (fun hg => lo1 ((hlc rfl).undE hg) own_b1_2 trivial agg23 sz23 rfl) ?_
   refine .e (v := (.bool (asc x.ns))) rfl (hlc rfl) (fun hg => sp_call1 (φ1 := IsD (SA w S [b1_2]) (strsD (x.ns))) ent74 (((hlc rfl).undE hg).dat D_cn0 sub_all) (fun g u1 W hk hgk h1 => rise_ok (x.ns) W _ _ h1)) ?_
   refine .e rfl (hlc rfl) (fun hg => sp_not ((hlc rfl).undE hg)) ?_
   refine .i (sp_or (hlc rfl) ((hlc rfl).weak fun hq => hq)) ?_
   refine .dn fun a22 g W22 y22 zz22 hk hg hV hR hP => ?_
   obtain ⟨e114, -, -, -, -, -, -, -, -, -, -, -, -, -, -, -, -, -, -, -, -, -, -, -, -, -, -, -, -, -, -, -, -, -, -, -, -, -, -, -⟩ := hV
   replace e1 := ft hR e1
   replace D_cn0 := D_cn0.ext hk
   replace D_ci0 := D_ci0.ext hk
   replace e114 := e114.q
   replace own_b1_2 := own_b1_2.ext hk
   replace kw := kw.x hk
   clear hR hk hg hP
   refine zn (hK21 _ _ ?_)
   refine zc e114 (fun hc => ?_) (fun hc => ?_)
   ·
    have hfin := part45_no hk hc
    refine zq fun K23 hK23 => ?_
    refine rg mixed y22 zz22 ?_
    refine .ac ?_
    refine .dn fun a24 g W24 y24 zz24 hk hg hV hR hP => ?_
    obtain ⟨e2, -⟩ := hV
    replace D_cn0 := D_cn0.ext hk
    replace D_ci0 := D_ci0.ext hk
    replace e2 := e2.q
    replace own_b1_2 := own_b1_2.ext hk
    replace kw := kw.x hk
    clear hR hk hg hP
    refine zn (hK23 _ _ ?_)
    refine wp_ret ?_
    refine ret1 rfl zz24 e2 ⟨_, rfl, kw, ?_⟩
    refine congrArg Value.bool ?_
    rw [hfin]
   have hpy := part45_yes hk hc
   refine wp_skip (hK20 _ _ ?_)
   refine zq fun K25 hK25 => ?_
   refine zq fun K26 hK26 => ?_
   refine rg mixed y22 zz22 ?_
   refine .ac ?_
   refine .dn fun a27 g W27 y27 zz27 hk hg hV hR hP => ?_
   obtain ⟨e3, -⟩ := hV
   replace e1 := ft hR e1
   replace D_cn0 := D_cn0.ext hk
   replace D_ci0 := D_ci0.ext hk
   replace e3 := e3.q
   replace own_b1_2 := own_b1_2.ext hk
   replace kw := kw.x hk
   clear hR hk hg hP
   refine zn (hK26 _ _ ?_)
   refine wp_block ?_
   refine wp_for (x.ns.length) (fun k a W => a.tmps.size = 143 ∧ a.defers = [] ∧ Keeps All w W ∧ sl a 1 = (.pointer (some ⟨b1_2, 0, none⟩)) ∧ sl a 3 = (.int .i64 ((k : Nat))) ∧ Own W b1_2 [(.int .u8 (x.k)), (.int .i64 (x.n)), (.string (x.t)), (.slice cn0a (x.ns.length) cn0c), (.slice ci0a (x.xs.length) ci0c)] 26 ∧ Rd W (SA w S [b1_2]) (strsD (x.ns)) (.slice cn0a (x.ns.length) cn0c) ∧ Rd W (SA w S [b1_2]) (valsD (x.xs)) (.slice ci0a (x.xs.length) ci0c) ∧ (∀ i (h : i < x.ns.length), i < k → wr (x.ns[i]'h) = true)) ⟨y27, zz27, kw, e1, (e3.trans (congrArg (Value.int .i64) (rfl))), own_b1_2, D_cn0, D_ci0, fun i h hi => absurd hi (by omega)⟩ ?_
   clear kw e1 e3 own_b1_2 D_cn0 D_ci0
   rintro k a28 W28 hkk ⟨y28, zz28, kw, e1, e3, own_b1_2, D_cn0, D_ci0, hinv⟩
   refine zq fun K29 hK29 => ?_
   refine zq fun K30 hK30 => ?_
   refine rg mixed y28 zz28 ?_
   refine .mb rfl e3 ?_
   refine .i (fo 3 (hbs rfl e1) Tryz.underlying26 rfl sz23 rfl) ?_
   refine .i (lo1 (hlc rfl) own_b1_2 trivial agg23 sz23 rfl) ?_
   refine .i (sp_lenSs Tryz.underlying23 ((hlc rfl).dat D_cn0 sub_all)) ?_
   refine .i (sp_lss (hlc rfl) (hlc rfl)) ?_
   refine .dn fun a31 g W31 y31 zz31 hk hg hV hR hP => ?_
   obtain ⟨e119, -, -, -, -, -⟩ := hV
   replace e1 := ft hR e1
   replace e3 := ft hR e3
   replace D_cn0 := D_cn0.ext hk
   replace D_ci0 := D_ci0.ext hk
   replace e119 := e119.q
   replace own_b1_2 := own_b1_2.ext hk
   replace kw := kw.x hk
   clear hR hk hg hP
   refine zn (hK30 _ _ ?_)
   refine zc e119 (fun hc => ?_) (fun hc => ?_)
   ·
    have hlt : k < x.ns.length := by simpa using hc
    refine wp_skip (hK29 _ _ ?_)
    refine zq fun K32 hK32 => ?_
    refine wp_block ?_
    refine zq fun K33 hK33 => ?_
    refine rg mixed y31 zz31 ?_
    refine .i (fo 3 (hbs rfl e1) Tryz.underlying26 rfl sz23 rfl) ?_
    refine .i (lo1 (hlc rfl) own_b1_2 trivial agg23 sz23 rfl) ?_
    refine .mb rfl e3 ?_
    refine .rf (sp_indexS (i := k) ((hlc rfl).dat D_cn0 sub_all) (hlc rfl) Tryz.underlying23 sz9 rfl hlt) ?_
    refine .i (sp_loadStr (hlc rfl) agg9 sz9) ?_
    refine .i (v := (.bool (wr (x.ns[k]'hlt)))) (sp_call1 (φ1 := Is (.string (x.ns[k]'hlt))) ent73 (hlc rfl) (fun g u1 W hk hgk h1 => by have h1 : u1 = _ := h1; subst u1; exact Text08_ok (x.ns[k]'hlt) (by have := wtN_mem hlt; omega) W)) ?_
    refine .i (sp_not (hlc rfl)) ?_
    refine .dn fun a34 g W34 y34 zz34 hk hg hV hR hP => ?_
    obtain ⟨e128, -, -, -, -, -, -, -⟩ := hV
    replace e1 := ft hR e1
    replace e3 := ft hR e3
    replace D_cn0 := D_cn0.ext hk
    replace D_ci0 := D_ci0.ext hk
    replace e128 := e128.q
    replace own_b1_2 := own_b1_2.ext hk
    replace kw := kw.x hk
    clear hR hk hg hP
    refine zn (hK33 _ _ ?_)
    refine zc e128 (fun hc => ?_) (fun hc => ?_)
    ·
     have hfin := part_ns hk hlt (by simpa using hc)
     refine zq fun K35 hK35 => ?_
     refine rg mixed y34 zz34 ?_
     refine .ac ?_
     refine .dn fun a36 g W36 y36 zz36 hk hg hV hR hP => ?_
     obtain ⟨e2, -⟩ := hV
     replace D_cn0 := D_cn0.ext hk
     replace D_ci0 := D_ci0.ext hk
     replace e2 := e2.q
     replace own_b1_2 := own_b1_2.ext hk
     replace kw := kw.x hk
     clear hR hk hg hP
     refine zn (hK35 _ _ ?_)
     refine wp_ret ?_
     refine ret1 rfl zz36 e2 ⟨_, rfl, kw, ?_⟩
     refine congrArg Value.bool ?_
     rw [hfin]
    have hk1 : wr (x.ns[k]'hlt) = true := by simpa using hc
    refine wp_skip (hK32 _ _ ?_)
    refine rg mixed y34 zz34 ?_
    refine .mb rfl e3 ?_
    refine .i (sp_add (hlc rfl) Has.cst (i64_in (by omega))) ?_
    refine .al rfl ?_
    refine .dn fun a37 g W37 y37 zz37 hk hg hV hR hP => ?_
    obtain ⟨e3, -, -, -⟩ := hV
    replace e1 := ft hR e1
    replace D_cn0 := D_cn0.ext hk
    replace D_ci0 := D_ci0.ext hk
    replace e3 := e3.q
    replace own_b1_2 := own_b1_2.ext hk
    replace kw := kw.x hk
    clear hR hk hg hP
    exact tail_nil ⟨hlt, y37, zz37, kw, e1, (e3.trans (congrArg (Value.int .i64) (by simp))), own_b1_2, D_cn0, D_ci0, fun i h hi => by rcases Nat.lt_succ_iff_lt_or_eq.1 hi with h1 | h1; exact hinv i h h1; subst h1; exact hk1⟩
   have hge0 : ¬ k < x.ns.length := by simpa using hc
   have hge : k = x.ns.length := by omega
   have hinv2 : ∀ i (h : i < x.ns.length), wr x.ns[i] = true := fun i h => hinv i h (by omega)
   refine wp_exit (hK25 _ _ ?_)
   refine zq fun K38 hK38 => ?_
   refine zq fun K39 hK39 => ?_
   refine rg mixed y31 zz31 ?_
   refine .ac ?_
   refine .dn fun a40 g W40 y40 zz40 hk hg hV hR hP => ?_
   obtain ⟨e4, -⟩ := hV
   replace e1 := ft hR e1
   replace D_cn0 := D_cn0.ext hk
   replace D_ci0 := D_ci0.ext hk
   replace e4 := e4.q
   replace own_b1_2 := own_b1_2.ext hk
   replace kw := kw.x hk
   clear hR hk hg hP
   refine zn (hK39 _ _ ?_)
   refine wp_block ?_
   refine wp_for (x.xs.length) (fun k a W => a.tmps.size = 143 ∧ a.defers = [] ∧ Keeps All w W ∧ sl a 1 = (.pointer (some ⟨b1_2, 0, none⟩)) ∧ sl a 4 = (.int .i64 ((k : Nat))) ∧ Own W b1_2 [(.int .u8 (x.k)), (.int .i64 (x.n)), (.string (x.t)), (.slice cn0a (x.ns.length) cn0c), (.slice ci0a (x.xs.length) ci0c)] 26 ∧ Rd W (SA w S [b1_2]) (strsD (x.ns)) (.slice cn0a (x.ns.length) cn0c) ∧ Rd W (SA w S [b1_2]) (valsD (x.xs)) (.slice ci0a (x.xs.length) ci0c) ∧ (∀ i (h : i < x.xs.length), i < k → partB (x.xs[i]'h) = true)) ⟨y40, zz40, kw, e1, (e4.trans (congrArg (Value.int .i64) (rfl))), own_b1_2, D_cn0, D_ci0, fun i h hi => absurd hi (by omega)⟩ ?_
   clear kw e1 e4 own_b1_2 D_cn0 D_ci0
   rintro k a41 W41 hkk ⟨y41, zz41, kw, e1, e4, own_b1_2, D_cn0, D_ci0, hinx⟩
   refine zq fun K42 hK42 => ?_
   refine zq fun K43 hK43 => ?_
   refine rg mixed y41 zz41 ?_
   refine .mb rfl e4 ?_
   refine .i (fo 4 (hbs rfl e1) Tryz.underlying26 rfl sz24 rfl) ?_
   refine .i (lo1 (hlc rfl) own_b1_2 trivial agg24 sz24 rfl) ?_
   refine .i (sp_lenVs Tryz.underlying24 ((hlc rfl).dat D_ci0 sub_all)) ?_
   refine .i (sp_lss (hlc rfl) (hlc rfl)) ?_
   refine .dn fun a44 g W44 y44 zz44 hk hg hV hR hP => ?_
   obtain ⟨e133, -, -, -, -, -⟩ := hV
   replace e1 := ft hR e1
   replace e4 := ft hR e4
   replace D_cn0 := D_cn0.ext hk
   replace D_ci0 := D_ci0.ext hk
   replace e133 := e133.q
   replace own_b1_2 := own_b1_2.ext hk
   replace kw := kw.x hk
   clear hR hk hg hP
   refine zn (hK43 _ _ ?_)
   refine zc e133 (fun hc => ?_) (fun hc => ?_)
   ·
    have hlt : k < x.xs.length := by simpa using hc
    refine wp_skip (hK42 _ _ ?_)
    refine zq fun K45 hK45 => ?_
    refine wp_block ?_
    refine zq fun K46 hK46 => ?_
    refine rg mixed y44 zz44 ?_
    refine .i (fo 4 (hbs rfl e1) Tryz.underlying26 rfl sz24 rfl) ?_
    refine .i (lo1 (hlc rfl) own_b1_2 trivial agg24 sz24 rfl) ?_
    refine .mb rfl e4 ?_
    refine .rf (sp_indexV (i := k) ((hlc rfl).dat D_ci0 sub_all) (hlc rfl) Tryz.underlying24 sz26 rfl hlt) ?_
    refine .da (sp_loadV (hlc rfl) agg26 sz26) ?_
    refine .i (v := (.bool (partB (x.xs[k]'hlt)))) (sp_call1 (φ1 := IsD (SA w S [b1_2]) (V.d (x.xs[k]'hlt))) ent51 (hlc rfl) (fun g u1 W hk hgk h1 => ih (x.xs[k]'hlt) (by have := cnt_elem hlt; omega) (by have := wts_mem hlt; omega) W _ _ h1)) ?_
    refine .i (sp_not (hlc rfl)) ?_
    refine .dn fun a47 g W47 y47 zz47 hk hg hV hR hP => ?_
    obtain ⟨e142, -, -, -, -, -, -, -⟩ := hV
    replace e1 := ft hR e1
    replace e4 := ft hR e4
    replace D_cn0 := D_cn0.ext hk
    replace D_ci0 := D_ci0.ext hk
    replace e142 := e142.q
    replace own_b1_2 := own_b1_2.ext hk
    replace kw := kw.x hk
    clear hR hk hg hP
    refine zn (hK46 _ _ ?_)
    refine zc e142 (fun hc => ?_) (fun hc => ?_)
    ·
     have hfin := part_xs hk hlt (by simpa using hc)
     refine zq fun K48 hK48 => ?_
     refine rg mixed y47 zz47 ?_
     refine .ac ?_
     refine .dn fun a49 g W49 y49 zz49 hk hg hV hR hP => ?_
     obtain ⟨e2, -⟩ := hV
     replace D_cn0 := D_cn0.ext hk
     replace D_ci0 := D_ci0.ext hk
     replace e2 := e2.q
     replace own_b1_2 := own_b1_2.ext hk
     replace kw := kw.x hk
     clear hR hk hg hP
     refine zn (hK48 _ _ ?_)
     refine wp_ret ?_
     refine ret1 rfl zz49 e2 ⟨_, rfl, kw, ?_⟩
     refine congrArg Value.bool ?_
     rw [hfin]
    have hk2 : partB (x.xs[k]'hlt) = true := by simpa using hc
    refine wp_skip (hK45 _ _ ?_)
    refine rg mixed y47 zz47 ?_
    refine .mb rfl e4 ?_
    refine .i (sp_add (hlc rfl) Has.cst (i64_in (by omega))) ?_
    refine .al rfl ?_
    refine .dn fun a50 g W50 y50 zz50 hk hg hV hR hP => ?_
    obtain ⟨e4, -, -, -⟩ := hV
    replace e1 := ft hR e1
    replace D_cn0 := D_cn0.ext hk
    replace D_ci0 := D_ci0.ext hk
    replace e4 := e4.q
    replace own_b1_2 := own_b1_2.ext hk
    replace kw := kw.x hk
    clear hR hk hg hP
    exact tail_nil ⟨hlt, y50, zz50, kw, e1, (e4.trans (congrArg (Value.int .i64) (by simp))), own_b1_2, D_cn0, D_ci0, fun i h hi => by rcases Nat.lt_succ_iff_lt_or_eq.1 hi with h1 | h1; exact hinx i h h1; subst h1; exact hk2⟩
   have hge0 : ¬ k < x.xs.length := by simpa using hc
   have hge : k = x.xs.length := by omega
   have hfin : partB x = true := hpy hinv2 fun i h => hinx i h (by omega)
   refine wp_exit (hK38 _ _ ?_)
   refine zq fun K51 hK51 => ?_
   refine rg mixed y44 zz44 ?_
   refine .ac ?_
   refine .dn fun a52 g W52 y52 zz52 hk hg hV hR hP => ?_
   obtain ⟨e2, -⟩ := hV
   replace D_cn0 := D_cn0.ext hk
   replace D_ci0 := D_ci0.ext hk
   replace e2 := e2.q
   replace own_b1_2 := own_b1_2.ext hk
   replace kw := kw.x hk
   clear hR hk hg hP
   refine zn (hK51 _ _ ?_)
   refine wp_ret ?_
   refine ret1 rfl zz52 e2 ⟨_, rfl, kw, ?_⟩
   refine congrArg Value.bool ?_
   rw [hfin]
  have h45 := of_decide_eq_false hc
  have hfin : partB x = false := partNo h1 h2 h3 (fun h => h45 (.inl h)) (fun h => h45 (.inr h))
  refine wp_skip (hK3 _ _ ?_)
  refine zq fun K53 hK53 => ?_
  refine rg mixed y19 zz19 ?_
  refine .ac ?_
  refine .dn fun a54 g W54 y54 zz54 hk hg hV hR hP => ?_
  obtain ⟨e2, -⟩ := hV
  replace D_cn0 := D_cn0.ext hk
  replace D_ci0 := D_ci0.ext hk
  replace e2 := e2.q
  replace own_b1_2 := own_b1_2.ext hk
  replace kw := kw.x hk
  clear hR hk hg hP
  refine zn (hK53 _ _ ?_)
  refine wp_ret ?_
  refine ret1 rfl zz54 e2 ⟨_, rfl, kw, ?_⟩
  refine congrArg Value.bool ?_
  rw [hfin]
 refine zq fun K55 hK55 => ?_
 refine rg mixed y15 zz15 ?_
 refine .i (sp_eql (hbs rfl e6) Has.cst) ?_
 refine .al rfl ?_
 refine .dn fun a56 g W56 y56 zz56 hk hg hV hR hP => ?_
 obtain ⟨e73, -, -⟩ := hV
 replace e1 := ft hR e1
 replace e6 := ft hR e6
 replace D_cn0 := D_cn0.ext hk
 replace D_ci0 := D_ci0.ext hk
 replace e73 := e73.q
 replace own_b1_2 := own_b1_2.ext hk
 replace kw := kw.x hk
 clear hR hk hg hP
 refine zn (hK55 _ _ ?_)
 refine zc e73 (fun hc => ?_) (fun hc => ?_)
 ·
  have hk4 : x.k = 4 := by simp at hc; omega
  exact wp_skip (J18 _ _ ⟨y56, zz56, kw, e1, (e73.trans (congrArg Value.bool (by rw [Bool.eq_iff_iff]; simp; omega))), own_b1_2, D_cn0, D_ci0⟩)
 have h4 : x.k ≠ 4 := by simp at hc; omega
 refine rg mixed y56 zz56 ?_
 refine .i (sp_eql (hbs rfl e6) Has.cst) ?_
 refine .al rfl ?_
 refine .dn fun a57 g W57 y57 zz57 hk hg hV hR hP => ?_
 obtain ⟨e73, -, -⟩ := hV
 replace e1 := ft hR e1
 replace D_cn0 := D_cn0.ext hk
 replace D_ci0 := D_ci0.ext hk
 replace e73 := e73.q
 replace own_b1_2 := own_b1_2.ext hk
 replace kw := kw.x hk
 clear hR hk hg hP
 exact tail_nil (J18 _ _ ⟨y57, zz57, kw, e1, (e73.trans (congrArg Value.bool (by rw [Bool.eq_iff_iff]; simp; omega))), own_b1_2, D_cn0, D_ci0⟩)
set_option maxRecDepth 100000 in
theorem May08_ok (x : V) (hx : x.wt ≤ 1073741824) (w : World) (S : BSet) (v : Value) (hv : Rd w S x.d v) : Calls Tryz.prog 32 #[v] w (Ret w fun u _ => u = .bool (mayB x)) := by
 obtain ⟨cn0a, cn0c, ci0a, ci0c, ev, ht0, D_cn0, D_ci0⟩ := rdV_out (rd_arg hv)
 subst ev
 refine enter Tryz.func32 rfl Tryz.ntmps32 (lbr rfl) fun a0 y0 zz0 harg => ?_
 have e0 : sl a0 0 = (.agg #[(.int .u8 (x.k)), (.int .i64 (x.n)), (.string (x.t)), (.slice cn0a (x.ns.length) cn0c), (.slice ci0a (x.xs.length) ci0c)]) := harg 0 (lbr rfl)
 have kw := Keeps.refl All w
 clear harg
 refine zq fun K1 hK1 => ?_
 refine rg mixed y0 zz0 ?_
 refine .boxOp (v := (.agg #[(.int .u8 (x.k)), (.int .i64 (x.n)), (.string (x.t)), (.slice cn0a (x.ns.length) cn0c), (.slice ci0a (x.xs.length) ci0c)])) (hbs rfl e0) ?_
 refine .ac ?_
 refine .dn fun a2 g W2 y2 zz2 hk hg hV hR hP => ?_
 obtain ⟨-, ⟨b1_2, e1, hb1, own_b1_2⟩, -⟩ := hV
 have lo_b1_2 : w.heap.size ≤ b1_2 := Nat.le_trans kw.size (hg.lo _ _ hb1)
 have own_b1_2 : Own W2 b1_2 [(.int .u8 (x.k)), (.int .i64 (x.n)), (.string (x.t)), (.slice cn0a (x.ns.length) cn0c), (.slice ci0a (x.xs.length) ci0c)] 26 := own_b1_2
 replace D_cn0 := sa_more D_cn0 hk [b1_2] (in_cons (hg.lo _ _ hb1) in_nil)
 replace D_ci0 := sa_more D_ci0 hk [b1_2] (in_cons (hg.lo _ _ hb1) in_nil)
 replace kw := kw.x hk
 clear hR hk hg hP hb1
 refine zn (hK1 _ _ ?_)
 refine zq fun K3 hK3 => ?_
 refine rg mixed y2 zz2 ?_
 refine .i (v := (.agg #[(.int .u8 (x.k)), (.int .i64 (x.n)), (.string (x.t)), (.slice cn0a (x.ns.length) cn0c), (.slice ci0a (x.xs.length) ci0c)])) (loA (hbs rfl e1) own_b1_2 trivial agg26 sz26 rfl rfl) ?_
 refine .i (v := (.bool (partB (x)))) (sp_call1 (φ1 := IsD (SA w S [b1_2]) (V.d (x))) ent51 ((hlc rfl).dat (rdV_in (x := x) ht0 D_cn0 D_ci0 : Rd W2 (SA w S [b1_2]) (V.d (x)) _) sub_all) (fun g u1 W hk hgk h1 => part08_all _ (x) (Nat.le_refl _) hx W _ _ h1)) ?_
 refine .i (sp_move (hlc rfl)) ?_
 refine .e (v := (.agg #[(.int .u8 (x.k)), (.int .i64 (x.n)), (.string (x.t)), (.slice cn0a (x.ns.length) cn0c), (.slice ci0a (x.xs.length) ci0c)])) rfl (hlc rfl) (fun hg => loA (hbs rfl e1) own_b1_2 trivial agg26 sz26 rfl rfl) ?_
 refine .e (v := (.int .i64 (((V.cnt (x) : Nat) : Int)))) rfl (hlc rfl) (fun hg => sp_call1 (φ1 := IsD (SA w S [b1_2]) (V.d (x))) ent52 (((hlc rfl).undE hg).dat (rdV_in (x := x) ht0 D_cn0 D_ci0 : Rd W2 (SA w S [b1_2]) (V.d (x)) _) sub_all) (fun g u1 W hk hgk h1 => Count08_all _ (x) (Nat.le_refl _) (Nat.le_trans (cnt_wt _) hx) W _ _ h1)) ?_
 refine .e rfl (hlc rfl) (fun hg => sp_leq ((hlc rfl).undE hg) Has.cst) ?_
 refine .i (sp_and (hlc rfl) ((hlc rfl).weak fun hq => hq)) ?_
 refine .i (sp_move (hlc rfl)) ?_
 refine .e (v := (.agg #[(.int .u8 (x.k)), (.int .i64 (x.n)), (.string (x.t)), (.slice cn0a (x.ns.length) cn0c), (.slice ci0a (x.xs.length) ci0c)])) rfl (hlc rfl) (fun hg => loA (hbs rfl e1) own_b1_2 trivial agg26 sz26 rfl rfl) ?_
 refine .e (v := (.int .i64 (((V.dep (x) : Nat) : Int)))) rfl (hlc rfl) (fun hg => sp_call1 (φ1 := IsD (SA w S [b1_2]) (V.d (x))) ent53 (((hlc rfl).undE hg).dat (rdV_in (x := x) ht0 D_cn0 D_ci0 : Rd W2 (SA w S [b1_2]) (V.d (x)) _) sub_all) (fun g u1 W hk hgk h1 => Depth08_all _ (x) (Nat.le_refl _) (Nat.le_trans (cnt_wt _) hx) W _ _ h1)) ?_
 refine .e rfl (hlc rfl) (fun hg => sp_leq ((hlc rfl).undE hg) Has.cst) ?_
 refine .i (sp_and (hlc rfl) ((hlc rfl).weak fun hq => hq)) ?_
 refine .al rfl ?_
 refine .dn fun a4 g W4 y4 zz4 hk hg hV hR hP => ?_
 obtain ⟨e2, -, -, -, -, -, -, -, -, -, -, -, -, -⟩ := hV
 replace D_cn0 := D_cn0.ext hk
 replace D_ci0 := D_ci0.ext hk
 replace e2 := e2.q
 replace own_b1_2 := own_b1_2.ext hk
 replace kw := kw.x hk
 clear hR hk hg hP
 refine zn (hK3 _ _ ?_)
 refine wp_ret ?_
 refine ret1 rfl zz4 e2 ⟨_, rfl, kw, ?_⟩
 refine congrArg Value.bool ?_
 rw [may_part, ← Bool.and_assoc]
 congr 1
 · congr 1; exact decide_eq_decide.2 (by omega)
 · exact decide_eq_decide.2 (by omega)
end Go.Proofs.YtnobijngkpflcaaGreat
namespace Go.Proofs.YtnobijngkpflcaaGreat
open Go.Eng
set_option maxRecDepth 100000 in
theorem HashesOf21_ok (x : V) (hx : x.wt ≤ 1073741824) (w : World) (S : BSet) (v : Value) (hv : Rd w S x.d v) : Calls Tryz.prog 10 #[v] w (Ret w fun r W => ∃ r1, r = .tuple #[r1, .int .i64 (hsOE x)] ∧ Rd W (Fr w) (hssD (hsOV x)) r1) := by
 obtain ⟨cn0a, cn0c, ci0a, ci0c, ev, ht0, D_cn0, D_ci0⟩ := rdV_out (rd_arg hv)
 subst ev
 refine enter Tryz.func10 rfl Tryz.ntmps10 (lbr rfl) fun a0 y0 zz0 harg => ?_
 have e0 : sl a0 0 = (.agg #[(.int .u8 (x.k)), (.int .i64 (x.n)), (.string (x.t)), (.slice cn0a (x.ns.length) cn0c), (.slice ci0a (x.xs.length) ci0c)]) := harg 0 (lbr rfl)
 have kw := Keeps.refl All w
 clear harg
 refine zq fun K1 hK1 => ?_
 refine rg mixed y0 zz0 ?_
 refine .boxOp (v := (.agg #[(.int .u8 (x.k)), (.int .i64 (x.n)), (.string (x.t)), (.slice cn0a (x.ns.length) cn0c), (.slice ci0a (x.xs.length) ci0c)])) (hbs rfl e0) ?_
 refine .ac ?_
 refine .ac ?_
 refine .dn fun a2 g W2 y2 zz2 hk hg hV hR hP => ?_
 obtain ⟨-, -, ⟨b1_2, e1, hb1, own_b1_2⟩, -⟩ := hV
 have lo_b1_2 : w.heap.size ≤ b1_2 := Nat.le_trans kw.size (hg.lo _ _ hb1)
 have own_b1_2 : Own W2 b1_2 [(.int .u8 (x.k)), (.int .i64 (x.n)), (.string (x.t)), (.slice cn0a (x.ns.length) cn0c), (.slice ci0a (x.xs.length) ci0c)] 26 := own_b1_2
 replace D_cn0 := sa_more D_cn0 hk [b1_2] (in_cons (hg.lo _ _ hb1) in_nil)
 replace D_ci0 := sa_more D_ci0 hk [b1_2] (in_cons (hg.lo _ _ hb1) in_nil)
 replace kw := kw.x hk
 clear hR hk hg hP hb1
 refine zn (hK1 _ _ ?_)
 refine zq fun K3 hK3 => ?_
 refine zq fun K4 hK4 => ?_
 refine rg mixed y2 zz2 ?_
 refine .i (v := (.agg #[(.int .u8 (x.k)), (.int .i64 (x.n)), (.string (x.t)), (.slice cn0a (x.ns.length) cn0c), (.slice ci0a (x.xs.length) ci0c)])) (loA (hbs rfl e1) own_b1_2 trivial agg26 sz26 rfl rfl) ?_
 refine .i (v := (.bool (mayB (x)))) (sp_call1 (φ1 := IsD (SA w S [b1_2]) (V.d (x))) ent32 ((hlc rfl).dat (rdV_in (x := x) ht0 D_cn0 D_ci0 : Rd W2 (SA w S [b1_2]) (V.d (x)) _) sub_all) (fun g u1 W hk hgk h1 => May08_ok (x) hx W _ _ h1)) ?_
 refine .i (sp_not (hlc rfl)) ?_
 refine .dn fun a5 g W5 y5 zz5 hk hg hV hR hP => ?_
 obtain ⟨e8, -, -, -⟩ := hV
 replace e1 := ft hR e1
 replace D_cn0 := D_cn0.ext hk
 replace D_ci0 := D_ci0.ext hk
 replace e8 := e8.q
 replace own_b1_2 := own_b1_2.ext hk
 replace kw := kw.x hk
 clear hR hk hg hP
 refine zn (hK4 _ _ ?_)
 refine zc e8 (fun hc => ?_) (fun hc => ?_)
 ·
  have hm : mayB x = false := by simpa using hc
  have hoe : hsOE x = 3 := by rw [hsOE, if_pos hm]
  have hov : hsOV x = [] := by rw [hsOV, if_neg (by rw [hoe]; decide)]
  refine zq fun K6 hK6 => ?_
  refine rg mixed y5 zz5 ?_
  refine .ac ?_
  refine .ac ?_
  refine .dn fun a7 g W7 y7 zz7 hk hg hV hR hP => ?_
  obtain ⟨e3, e2, -⟩ := hV
  replace D_cn0 := D_cn0.ext hk
  replace D_ci0 := D_ci0.ext hk
  replace e2 := e2.q
  replace e3 := e3.q
  replace own_b1_2 := own_b1_2.ext hk
  replace kw := kw.x hk
  clear hR hk hg hP
  refine zn (hK6 _ _ ?_)
  refine wp_ret ?_
  refine ret2 rfl zz7 e2 e3 ⟨_, rfl, kw, ?_⟩
  refine ⟨_, by rw [hoe], ?_⟩
  rw [hov]
  exact rd_nil _
 have hm : mayB x = true := by simpa using hc
 refine wp_skip (hK3 _ _ ?_)
 refine zq fun K8 hK8 => ?_
 refine zq fun K9 hK9 => ?_
 refine rg mixed y5 zz5 ?_
 refine .i (fo 0 (hbs rfl e1) Tryz.underlying26 rfl sz5 rfl) ?_
 refine .i (lo1 (hlc rfl) own_b1_2 trivial agg5 sz5 rfl) ?_
 refine .i (sp_neq (hlc rfl) Has.cst) ?_
 refine .dn fun a10 g W10 y10 zz10 hk hg hV hR hP => ?_
 obtain ⟨e11, -, -, -⟩ := hV
 replace e1 := ft hR e1
 replace D_cn0 := D_cn0.ext hk
 replace D_ci0 := D_ci0.ext hk
 replace e11 := e11.q
 replace own_b1_2 := own_b1_2.ext hk
 replace kw := kw.x hk
 clear hR hk hg hP
 refine zn (hK9 _ _ ?_)
 refine zc e11 (fun hc => ?_) (fun hc => ?_)
 ·
  have hk : x.k ≠ 5 := by simp at hc; omega
  have hoe : hsOE x = 10 := by rw [hsOE, if_neg (by simp [hm]), if_pos hk]
  have hov : hsOV x = [] := by rw [hsOV, if_neg (by rw [hoe]; decide)]
  refine zq fun K11 hK11 => ?_
  refine rg mixed y10 zz10 ?_
  refine .ac ?_
  refine .ac ?_
  refine .dn fun a12 g W12 y12 zz12 hk hg hV hR hP => ?_
  obtain ⟨e3, e2, -⟩ := hV
  replace D_cn0 := D_cn0.ext hk
  replace D_ci0 := D_ci0.ext hk
  replace e2 := e2.q
  replace e3 := e3.q
  replace own_b1_2 := own_b1_2.ext hk
  replace kw := kw.x hk
  clear hR hk hg hP
  refine zn (hK11 _ _ ?_)
  refine wp_ret ?_
  refine ret2 rfl zz12 e2 e3 ⟨_, rfl, kw, ?_⟩
  refine ⟨_, by rw [hoe], ?_⟩
  rw [hov]
  exact rd_nil _
 have hk : x.k = 5 := by simp at hc; omega
 have hlen := mayB_len hm hk
 refine wp_skip (hK8 _ _ ?_)
 refine zq fun K13 hK13 => ?_
 refine zq fun K14 hK14 => ?_
 refine rg mixed y10 zz10 ?_
 refine .i (fo 4 (hbs rfl e1) Tryz.underlying26 rfl sz24 rfl) ?_
 refine .i (lo1 (hlc rfl) own_b1_2 trivial agg24 sz24 rfl) ?_
 refine .i (sp_lenVs Tryz.underlying24 ((hlc rfl).dat D_ci0 sub_all)) ?_
 refine .i (sp_gtr (hlc rfl) Has.cst) ?_
 refine .dn fun a15 g W15 y15 zz15 hk hg hV hR hP => ?_
 obtain ⟨e15, -, -, -, -⟩ := hV
 replace e1 := ft hR e1
 replace D_cn0 := D_cn0.ext hk
 replace D_ci0 := D_ci0.ext hk
 replace e15 := e15.q
 replace own_b1_2 := own_b1_2.ext hk
 replace kw := kw.x hk
 clear hR hk hg hP
 refine zn (hK14 _ _ ?_)
 refine zc e15 (fun hc => ?_) (fun hc => ?_)
 ·
  have h4 : 4 < x.ns.length := by simp at hc; omega
  have hoe : hsOE x = 5 := by rw [hsOE, if_neg (by simp [hm]), if_neg (by simp [hk]), if_pos h4]
  have hov : hsOV x = [] := by rw [hsOV, if_neg (by rw [hoe]; decide)]
  refine zq fun K16 hK16 => ?_
  refine rg mixed y15 zz15 ?_
  refine .ac ?_
  refine .ac ?_
  refine .dn fun a17 g W17 y17 zz17 hk hg hV hR hP => ?_
  obtain ⟨e3, e2, -⟩ := hV
  replace D_cn0 := D_cn0.ext hk
  replace D_ci0 := D_ci0.ext hk
  replace e2 := e2.q
  replace e3 := e3.q
  replace own_b1_2 := own_b1_2.ext hk
  replace kw := kw.x hk
  clear hR hk hg hP
  refine zn (hK16 _ _ ?_)
  refine wp_ret ?_
  refine ret2 rfl zz17 e2 e3 ⟨_, rfl, kw, ?_⟩
  refine ⟨_, by rw [hoe], ?_⟩
  rw [hov]
  exact rd_nil _
 have h4 : ¬ 4 < x.ns.length := by simp at hc; omega
 refine wp_skip (hK13 _ _ ?_)
 refine zq fun K18 hK18 => ?_
 refine zq fun K19 hK19 => ?_
 refine rg mixed y15 zz15 ?_
 refine .i (fo 4 (hbs rfl e1) Tryz.underlying26 rfl sz24 rfl) ?_
 refine .i (lo1 (hlc rfl) own_b1_2 trivial agg24 sz24 rfl) ?_
 refine .i (sp_lenVs Tryz.underlying24 ((hlc rfl).dat D_ci0 sub_all)) ?_
 refine .i (sp_eql (hlc rfl) Has.cst) ?_
 refine .dn fun a20 g W20 y20 zz20 hk hg hV hR hP => ?_
 obtain ⟨e19, -, -, -, -⟩ := hV
 replace e1 := ft hR e1
 replace D_cn0 := D_cn0.ext hk
 replace D_ci0 := D_ci0.ext hk
 replace e19 := e19.q
 replace own_b1_2 := own_b1_2.ext hk
 replace kw := kw.x hk
 clear hR hk hg hP
 refine zn (hK19 _ _ ?_)
 refine zc e19 (fun hc => ?_) (fun hc => ?_)
 ·
  have h0 : x.ns.length = 0 := by simp at hc; simp [hlen, hc]
  have hoe : hsOE x = 4 := by rw [hsOE, if_neg (by simp [hm]), if_neg (by simp [hk]), if_neg h4, if_pos h0]
  have hov : hsOV x = [] := by rw [hsOV, if_neg (by rw [hoe]; decide)]
  refine zq fun K21 hK21 => ?_
  refine rg mixed y20 zz20 ?_
  refine .ac ?_
  refine .ac ?_
  refine .dn fun a22 g W22 y22 zz22 hk hg hV hR hP => ?_
  obtain ⟨e3, e2, -⟩ := hV
  replace D_cn0 := D_cn0.ext hk
  replace D_ci0 := D_ci0.ext hk
  replace e2 := e2.q
  replace e3 := e3.q
  replace own_b1_2 := own_b1_2.ext hk
  replace kw := kw.x hk
  clear hR hk hg hP
  refine zn (hK21 _ _ ?_)
  refine wp_ret ?_
  refine ret2 rfl zz22 e2 e3 ⟨_, rfl, kw, ?_⟩
  refine ⟨_, by rw [hoe], ?_⟩
  rw [hov]
  exact rd_nil _
 have h0 : ¬ x.ns.length = 0 := by simp at hc; simpa [hlen] using hc
 refine wp_skip (hK18 _ _ ?_)
 refine zq fun K23 hK23 => ?_
 refine rg mixed y20 zz20 ?_
 refine .ac ?_
 refine .dn fun a24 g W24 y24 zz24 hk hg hV hR hP => ?_
 obtain ⟨e4, -⟩ := hV
 replace e1 := ft hR e1
 replace D_cn0 := D_cn0.ext hk
 replace D_ci0 := D_ci0.ext hk
 replace e4 := e4.q
 replace own_b1_2 := own_b1_2.ext hk
 replace kw := kw.x hk
 clear hR hk hg hP
 refine zn (hK23 _ _ ?_)
 refine zq fun K25 hK25 => ?_
 refine zq fun K26 hK26 => ?_
 refine rg mixed y24 zz24 ?_
 refine .ac ?_
 refine .dn fun a27 g W27 y27 zz27 hk hg hV hR hP => ?_
 obtain ⟨e5, -⟩ := hV
 replace e1 := ft hR e1
 replace e4 := ft hR e4
 replace D_cn0 := D_cn0.ext hk
 replace D_ci0 := D_ci0.ext hk
 replace e5 := e5.q
 replace own_b1_2 := own_b1_2.ext hk
 replace kw := kw.x hk
 clear hR hk hg hP
 refine zn (hK26 _ _ ?_)
 refine wp_block ?_
 have A_ar28 : Arr W27 w.heap.size 43 2 (SF w (blks none ++ (b1_2 :: []))) (List.map Hs.d ([])) (.slice none 0 0) none := arr_nil _ _ _ _ _
 replace D_cn0 : Rd W27 (SA w S (blks none ++ (b1_2 :: []))) (strsD (x.ns)) (.slice cn0a (x.ns.length) cn0c) := D_cn0
 replace D_ci0 : Rd W27 (SA w S (blks none ++ (b1_2 :: []))) (valsD (x.xs)) (.slice ci0a (x.xs.length) ci0c) := D_ci0
 refine wp_for (x.xs.length) (fun k a W => ∃ (vs4_29 : Value), ∃ (hds4_29 : Option Nat), a.tmps.size = 65 ∧ a.defers = [] ∧ Keeps All w W ∧ sl a 1 = (.pointer (some ⟨b1_2, 0, none⟩)) ∧ sl a 4 = vs4_29 ∧ sl a 5 = (.int .i64 ((k : Nat))) ∧ Own W b1_2 [(.int .u8 (x.k)), (.int .i64 (x.n)), (.string (x.t)), (.slice cn0a (x.ns.length) cn0c), (.slice ci0a (x.xs.length) ci0c)] 26 ∧ Rd W (SA w S (blks hds4_29 ++ (b1_2 :: []))) (strsD (x.ns)) (.slice cn0a (x.ns.length) cn0c) ∧ Rd W (SA w S (blks hds4_29 ++ (b1_2 :: []))) (valsD (x.xs)) (.slice ci0a (x.xs.length) ci0c) ∧ Arr W w.heap.size 43 2 (SF w (blks hds4_29 ++ (b1_2 :: []))) (List.map Hs.d (hsZ (x.ns.take k) (x.xs.take k))) vs4_29 hds4_29 ∧ b1_2 ∉ blks hds4_29 ∧ (hsF x.ns x.xs = hsF (x.ns.drop k) (x.xs.drop k))) ⟨(.slice none 0 0), none, y27, zz27, kw, e1, e4, (e5.trans (congrArg (Value.int .i64) (rfl))), own_b1_2, D_cn0, D_ci0, A_ar28, nb_none, rfl⟩ ?_
 clear kw e1 e4 e5 own_b1_2 D_cn0 D_ci0 A_ar28
 rintro k a29 W29 hkk ⟨vs4_29, hds4_29, y29, zz29, kw, e1, e4, e5, own_b1_2, D_cn0, D_ci0, As4_29, nb_b1_2_ar28_29, hin⟩
 refine zq fun K30 hK30 => ?_
 refine zq fun K31 hK31 => ?_
 refine rg mixed y29 zz29 ?_
 refine .mb rfl e5 ?_
 refine .i (fo 4 (hbs rfl e1) Tryz.underlying26 rfl sz24 rfl) ?_
 refine .i (lo1 (hlc rfl) own_b1_2 trivial agg24 sz24 rfl) ?_
 refine .i (sp_lenVs Tryz.underlying24 ((hlc rfl).dat D_ci0 sub_all)) ?_
 refine .i (sp_lss (hlc rfl) (hlc rfl)) ?_
 refine .dn fun a32 g W32 y32 zz32 hk hg hV hR hP => ?_
 obtain ⟨e24, -, -, -, -, -⟩ := hV
 replace e1 := ft hR e1
 replace e4 := ft hR e4
 replace e5 := ft hR e5
 replace As4_29 := As4_29.ext hk
 replace D_cn0 := D_cn0.ext hk
 replace D_ci0 := D_ci0.ext hk
 replace e24 := e24.q
 replace own_b1_2 := own_b1_2.ext hk
 replace kw := kw.x hk
 clear hR hk hg hP
 refine zn (hK31 _ _ ?_)
 refine zc e24 (fun hc => ?_) (fun hc => ?_)
 ·
  have hlt : k < x.xs.length := by simpa using hc
  have hln : k < x.ns.length := by omega
  rw [hsF_step hln hlt] at hin
  have hzl : (hsZ (x.ns.take k) (x.xs.take k)).length = k := hsZ_len (by omega) (by omega)
  refine wp_skip (hK30 _ _ ?_)
  refine zq fun K33 hK33 => ?_
  refine wp_block ?_
  refine zq fun K34 hK34 => ?_
  refine zq fun K35 hK35 => ?_
  refine rg mixed y32 zz32 ?_
  refine .i (fo 3 (hbs rfl e1) Tryz.underlying26 rfl sz23 rfl) ?_
  refine .i (lo1 (hlc rfl) own_b1_2 trivial agg23 sz23 rfl) ?_
  refine .mb rfl e5 ?_
  refine .rf (sp_indexS (i := k) ((hlc rfl).dat D_cn0 sub_all) (hlc rfl) Tryz.underlying23 sz9 rfl hln) ?_
  refine .i (sp_loadStr (hlc rfl) agg9 sz9) ?_
  refine .i (v := (.bool (roleB (x.ns[k]'hln)))) (sp_call1 (φ1 := Is (.string (x.ns[k]'hln))) ent33 (hlc rfl) (fun g u1 W hk hgk h1 => by have h1 : u1 = _ := h1; subst u1; exact role13_ok (x.ns[k]'hln) (rd_strAt D_cn0 k hln) W)) ?_
  refine .i (sp_not (hlc rfl)) ?_
  refine .dn fun a36 g W36 y36 zz36 hk hg hV hR hP => ?_
  obtain ⟨e33, -, -, -, -, -, -, -⟩ := hV
  replace e1 := ft hR e1
  replace e4 := ft hR e4
  replace e5 := ft hR e5
  replace As4_29 := As4_29.ext hk
  replace D_cn0 := D_cn0.ext hk
  replace D_ci0 := D_ci0.ext hk
  replace e33 := e33.q
  replace own_b1_2 := own_b1_2.ext hk
  replace kw := kw.x hk
  clear hR hk hg hP
  refine zn (hK35 _ _ ?_)
  refine zc e33 (fun hc => ?_) (fun hc => ?_)
  ·
   have hr : roleB (x.ns[k]'hln) = false := by simpa using hc
   have hoe : hsOE x = 3 := by rw [hsOE, if_neg (by simp [hm]), if_neg (by simp [hk]), if_neg h4, if_neg h0, hin, if_pos hr]
   have hov : hsOV x = [] := by rw [hsOV, if_neg (by rw [hoe]; decide)]
   refine zq fun K37 hK37 => ?_
   refine rg mixed y36 zz36 ?_
   refine .ac ?_
   refine .ac ?_
   refine .dn fun a38 g W38 y38 zz38 hk hg hV hR hP => ?_
   obtain ⟨e3, e2, -⟩ := hV
   replace As4_29 := As4_29.ext hk
   replace D_cn0 := D_cn0.ext hk
   replace D_ci0 := D_ci0.ext hk
   replace e2 := e2.q
   replace e3 := e3.q
   replace own_b1_2 := own_b1_2.ext hk
   replace kw := kw.x hk
   clear hR hk hg hP
   refine zn (hK37 _ _ ?_)
   refine wp_ret ?_
   refine ret2 rfl zz38 e2 e3 ⟨_, rfl, kw, ?_⟩
   refine ⟨_, by rw [hoe], ?_⟩
   rw [hov]
   exact rd_nil _
  have hr : roleB (x.ns[k]'hln) = true := by simpa using hc
  rw [if_neg (by simp [hr])] at hin
  refine wp_skip (hK34 _ _ ?_)
  refine zq fun K39 hK39 => ?_
  refine zq fun K40 hK40 => ?_
  refine rg mixed y36 zz36 ?_
  refine .i (fo 4 (hbs rfl e1) Tryz.underlying26 rfl sz24 rfl) ?_
  refine .i (lo1 (hlc rfl) own_b1_2 trivial agg24 sz24 rfl) ?_
  refine .mb rfl e5 ?_
  refine .rf (sp_indexV (i := k) ((hlc rfl).dat D_ci0 sub_all) (hlc rfl) Tryz.underlying24 sz26 rfl hlt) ?_
  refine .rf (X := SA w S (blks hds4_29 ++ (b1_2 :: []))) (e := D.int .u8 ((x.xs[k]'hlt).k)) (sp_fieldV (hlc rfl) Tryz.underlying26 rfl sz5 rfl rfl) ?_
  refine .i (sp_loadInt (hlc rfl) agg5 sz5) ?_
  refine .i (sp_neq (hlc rfl) Has.cst) ?_
  refine .dn fun a41 g W41 y41 zz41 hk hg hV hR hP => ?_
  obtain ⟨e40, -, -, -, -, -, -, -⟩ := hV
  replace e1 := ft hR e1
  replace e4 := ft hR e4
  replace e5 := ft hR e5
  replace As4_29 := As4_29.ext hk
  replace D_cn0 := D_cn0.ext hk
  replace D_ci0 := D_ci0.ext hk
  replace e40 := e40.q
  replace own_b1_2 := own_b1_2.ext hk
  replace kw := kw.x hk
  clear hR hk hg hP
  refine zn (hK40 _ _ ?_)
  refine zc e40 (fun hc => ?_) (fun hc => ?_)
  ·
   have h3 : (x.xs[k]'hlt).k ≠ 3 := by simp at hc; omega
   have hoe : hsOE x = 10 := by rw [hsOE, if_neg (by simp [hm]), if_neg (by simp [hk]), if_neg h4, if_neg h0, hin, if_pos h3]
   have hov : hsOV x = [] := by rw [hsOV, if_neg (by rw [hoe]; decide)]
   refine zq fun K42 hK42 => ?_
   refine rg mixed y41 zz41 ?_
   refine .ac ?_
   refine .ac ?_
   refine .dn fun a43 g W43 y43 zz43 hk hg hV hR hP => ?_
   obtain ⟨e3, e2, -⟩ := hV
   replace As4_29 := As4_29.ext hk
   replace D_cn0 := D_cn0.ext hk
   replace D_ci0 := D_ci0.ext hk
   replace e2 := e2.q
   replace e3 := e3.q
   replace own_b1_2 := own_b1_2.ext hk
   replace kw := kw.x hk
   clear hR hk hg hP
   refine zn (hK42 _ _ ?_)
   refine wp_ret ?_
   refine ret2 rfl zz43 e2 e3 ⟨_, rfl, kw, ?_⟩
   refine ⟨_, by rw [hoe], ?_⟩
   rw [hov]
   exact rd_nil _
  have h3 : (x.xs[k]'hlt).k = 3 := by simp at hc; omega
  rw [if_neg (by simp [h3])] at hin
  refine wp_skip (hK39 _ _ ?_)
  refine zq fun K44 hK44 => ?_
  refine zq fun K45 hK45 => ?_
  refine rg mixed y41 zz41 ?_
  refine .i (fo 4 (hbs rfl e1) Tryz.underlying26 rfl sz24 rfl) ?_
  refine .i (lo1 (hlc rfl) own_b1_2 trivial agg24 sz24 rfl) ?_
  refine .mb rfl e5 ?_
  refine .rf (sp_indexV (i := k) ((hlc rfl).dat D_ci0 sub_all) (hlc rfl) Tryz.underlying24 sz26 rfl hlt) ?_
  refine .rf (X := SA w S (blks hds4_29 ++ (b1_2 :: []))) (e := D.str ((x.xs[k]'hlt).t)) (sp_fieldV (hlc rfl) Tryz.underlying26 rfl sz9 rfl rfl) ?_
  refine .i (sp_loadStr (hlc rfl) agg9 sz9) ?_
  refine .i (v := (.bool (digR ((x.xs[k]'hlt).t)))) (sp_call1 (φ1 := Is (.string ((x.xs[k]'hlt).t))) ent34 (hlc rfl) (fun g u1 W hk hgk h1 => by have h1 : u1 = _ := h1; subst u1; exact digits21_ok ((x.xs[k]'hlt).t) (rd_tAt D_ci0 hlt) W)) ?_
  refine .i (sp_not (hlc rfl)) ?_
  refine .dn fun a46 g W46 y46 zz46 hk hg hV hR hP => ?_
  obtain ⟨e48, -, -, -, -, -, -, -, -⟩ := hV
  replace e1 := ft hR e1
  replace e4 := ft hR e4
  replace e5 := ft hR e5
  replace As4_29 := As4_29.ext hk
  replace D_cn0 := D_cn0.ext hk
  replace D_ci0 := D_ci0.ext hk
  replace e48 := e48.q
  replace own_b1_2 := own_b1_2.ext hk
  replace kw := kw.x hk
  clear hR hk hg hP
  refine zn (hK45 _ _ ?_)
  refine zc e48 (fun hc => ?_) (fun hc => ?_)
  ·
   have hd : digR (x.xs[k]'hlt).t = false := by simpa using hc
   have hoe : hsOE x = 3 := by rw [hsOE, if_neg (by simp [hm]), if_neg (by simp [hk]), if_neg h4, if_neg h0, hin, if_pos hd]
   have hov : hsOV x = [] := by rw [hsOV, if_neg (by rw [hoe]; decide)]
   refine zq fun K47 hK47 => ?_
   refine rg mixed y46 zz46 ?_
   refine .ac ?_
   refine .ac ?_
   refine .dn fun a48 g W48 y48 zz48 hk hg hV hR hP => ?_
   obtain ⟨e3, e2, -⟩ := hV
   replace As4_29 := As4_29.ext hk
   replace D_cn0 := D_cn0.ext hk
   replace D_ci0 := D_ci0.ext hk
   replace e2 := e2.q
   replace e3 := e3.q
   replace own_b1_2 := own_b1_2.ext hk
   replace kw := kw.x hk
   clear hR hk hg hP
   refine zn (hK47 _ _ ?_)
   refine wp_ret ?_
   refine ret2 rfl zz48 e2 e3 ⟨_, rfl, kw, ?_⟩
   refine ⟨_, by rw [hoe], ?_⟩
   rw [hov]
   exact rd_nil _
  have hd : digR (x.xs[k]'hlt).t = true := by simpa using hc
  rw [if_neg (by simp [hd])] at hin
  refine wp_skip (hK44 _ _ ?_)
  refine wp_reg (fun k => k ∉ blks hds4_29) (Ψ := fun W => Arr W w.heap.size 43 2 (SF w (blks hds4_29 ++ (b1_2 :: []))) (List.map Hs.d (hsZ (x.ns.take k) (x.xs.take k))) vs4_29 hds4_29) mixed y46 zz46 (fun W W' k h => h.ext k) As4_29 ?_
  refine .mb rfl e4 ?_
  refine .i (fo 3 (hbs rfl e1) Tryz.underlying26 rfl sz23 rfl) ?_
  refine .i (lo1 (hlc rfl) own_b1_2 nb_b1_2_ar28_29 agg23 sz23 rfl) ?_
  refine .mb rfl e5 ?_
  refine .op (φ := IsR (SA w S (blks hds4_29 ++ (b1_2 :: []))) (D.str (x.ns[k]'hln))) (st_r (sub_nb (fun b hb => List.mem_append_left _ hb))) (sp_indexS (i := k) ((hlc rfl).dat D_cn0 (sub_nb (fun b hb => List.mem_append_left _ hb))) (hlc rfl) Tryz.underlying23 sz9 rfl hln) ?_
  refine .i (sp_loadStr (hlc rfl) agg9 sz9) ?_
  refine .i (fo 4 (hbs rfl e1) Tryz.underlying26 rfl sz24 rfl) ?_
  refine .i (lo1 (hlc rfl) own_b1_2 nb_b1_2_ar28_29 agg24 sz24 rfl) ?_
  refine .mb rfl e5 ?_
  refine .op (φ := IsR (SA w S (blks hds4_29 ++ (b1_2 :: []))) (V.d (x.xs[k]'hlt))) (st_r (sub_nb (fun b hb => List.mem_append_left _ hb))) (sp_indexV (i := k) ((hlc rfl).dat D_ci0 (sub_nb (fun b hb => List.mem_append_left _ hb))) (hlc rfl) Tryz.underlying24 sz26 rfl hlt) ?_
  refine .op (φ := IsR (SA w S (blks hds4_29 ++ (b1_2 :: []))) (D.str ((x.xs[k]'hlt).t))) (st_r (sub_nb (fun b hb => List.mem_append_left _ hb))) (sp_fieldV (hlc rfl) Tryz.underlying26 rfl sz9 rfl rfl) ?_
  refine .i (sp_loadStr (hlc rfl) agg9 sz9) ?_
  refine .i (v := (.agg #[(.string (x.ns[k]'hln)), (.string ((x.xs[k]'hlt).t))])) (sp_build (vs := [(0, (.string (x.ns[k]'hln))), (1, (.string ((x.xs[k]'hlt).t)))]) Tryz.underlying43 z43 (pl43 Tryz.underlying43) ⟨rfl, (hlc rfl), rfl, (hlc rfl), trivial⟩ rfl) ?_
  refine .op (φ := IsD (SF w (blks hds4_29 ++ (b1_2 :: []))) (hssD ([Hs.mk (x.ns[k]'hln) ((x.xs[k]'hlt).t)]))) (st_d (sub_nbF (fun b hb => List.mem_append_left _ hb))) (sp_bsl (ds := [Hs.d (Hs.mk (x.ns[k]'hln) ((x.xs[k]'hlt).t))]) Tryz.underlying22 sz43 z43 (lbr rfl) (lbr rfl) ⟨rfl, ((hlc rfl).dat (rdHs_mk (rd_strAt D_cn0 k hln) (rd_tAt D_ci0 hlt) : Rd W46 (SF w (blks hds4_29 ++ (b1_2 :: []))) (Hs.d (Hs.mk (x.ns[k]'hln) ((x.xs[k]'hlt).t))) _) (sub_nbF (fun b hb => List.mem_append_left _ hb))), trivial⟩ rfl (by intro e he; simp at he; rcases he with rfl <;> exact width_Hs _) (fr_sf kw (in_app As4_29.lt (in_cons own_b1_2.lt in_nil)))) ?_
  refine .appB (ds := List.map Hs.d (hsZ (x.ns.take k) (x.xs.take k))) (es := [Hs.d (Hs.mk (x.ns[k]'hln) ((x.xs[k]'hlt).t))]) (X := SF w (blks hds4_29 ++ (b1_2 :: []))) Tryz.underlying22 inf43 (lbr rfl) (hlc rfl) (hlc rfl) (sub_nbF (fun b hb => List.mem_append_left _ hb)) (by rw [List.length_map, hzl, List.length_singleton, maxLen]; omega) (by rw [List.length_map, hzl, List.length_singleton]; omega) kw.size ?_
  refine .dn fun a49 g W49 y49 zz49 hk hg hV hR hP => ?_
  obtain ⟨e63, -, -, -, -, -, -, -, -, -, -, -, -, -, -, -⟩ := hV
  replace e1 := ft hR e1
  replace e4 := ft hR e4
  replace e5 := ft hR e5
  obtain ⟨v63_49, ev⟩ : ∃ v, sl a49 63 = v := ⟨_, rfl⟩
  rw [ev] at e63
  obtain ⟨hd63_49, A_63_49, hf63_49⟩ := e63
  have e63 := ev; clear ev
  obtain ⟨v63_49a, v63_49n, v63_49c, ev⟩ := arr_sl A_63_49; subst ev
  replace A_63_49 := arrF_new (M' := (blks hd63_49 ++ (b1_2 :: []))) A_63_49 (rep_app (rep_q fun _ h => h) (rep_cons rep_nil))
  replace A_63_49 : Arr W49 w.heap.size 43 2 (SF w (blks hd63_49 ++ (b1_2 :: []))) (List.map Hs.d ((hsZ (x.ns.take k) (x.xs.take k)) ++ [Hs.mk (x.ns[k]'hln) ((x.xs[k]'hlt).t)])) (.slice v63_49a v63_49n v63_49c) hd63_49 := by first | exact A_63_49 | (rw [List.map_append]; exact A_63_49)
  have nb_b1_2_49 : b1_2 ∉ blks hd63_49 := nb_new nb_b1_2_ar28_29 own_b1_2.lt hf63_49
  replace D_cn0 := sa_app (M' := (blks hd63_49 ++ (b1_2 :: []))) D_cn0 hk (fun b hb => List.mem_append_left _ hb) (rep_app hf63_49 (rep_cons rep_nil))
  replace D_ci0 := sa_app (M' := (blks hd63_49 ++ (b1_2 :: []))) D_ci0 hk (fun b hb => List.mem_append_left _ hb) (rep_app hf63_49 (rep_cons rep_nil))
  replace own_b1_2 := own_app own_b1_2 hk nb_b1_2_ar28_29
  replace kw := keeps_app kw hk As4_29.ge
  clear hR hk hg hP hf63_49 As4_29
  refine tail_assign (v := (.slice v63_49a v63_49n v63_49c)) e63 (by rw [y49]; exact Nat.le_of_ble_eq_true rfl) (fun a50 y50 zz50 e4 hr => ?_)
  replace y50 := y50.trans y49; replace zz50 := zz50.trans zz49
  replace e1 := (hr 1 (by decide)).trans e1
  replace e5 := (hr 5 (by decide)).trans e5
  replace e63 := (hr 63 (by decide)).trans e63
  clear hr
  refine zn (hK33 _ _ ?_)
  refine rg mixed y50 zz50 ?_
  refine .mb rfl e5 ?_
  refine .i (sp_add (hlc rfl) Has.cst (i64_in (by omega))) ?_
  refine .al rfl ?_
  refine .dn fun a51 g W51 y51 zz51 hk hg hV hR hP => ?_
  obtain ⟨e5, -, -, -⟩ := hV
  replace e1 := ft hR e1
  replace e4 := ft hR e4
  replace A_63_49 := A_63_49.ext hk
  replace D_cn0 := D_cn0.ext hk
  replace D_ci0 := D_ci0.ext hk
  replace e5 := e5.q
  replace own_b1_2 := own_b1_2.ext hk
  replace kw := kw.x hk
  clear hR hk hg hP
  rw [show (hsZ (x.ns.take k) (x.xs.take k)) ++ [Hs.mk (x.ns[k]'hln) ((x.xs[k]'hlt).t)] = hsZ (x.ns.take (k + 1)) (x.xs.take (k + 1)) by exact hsZ_step hln hlt] at A_63_49
  exact tail_nil ⟨hlt, (.slice v63_49a v63_49n v63_49c), hd63_49, y51, zz51, kw, e1, e4, (e5.trans (congrArg (Value.int .i64) (by simp))), own_b1_2, D_cn0, D_ci0, A_63_49, nb_b1_2_49, hin⟩
 have hge0 : ¬ k < x.xs.length := by simpa using hc
 have hge : k = x.xs.length := by omega
 have hoe : hsOE x = 0 := by rw [hsOE, if_neg (by simp [hm]), if_neg (by simp [hk]), if_neg h4, if_neg h0, hin, hge, ← hlen, List.drop_length]; rfl
 have hov : hsOV x = hsZ x.ns x.xs := by rw [hsOV, if_pos hoe]
 rw [show hsZ (x.ns.take k) (x.xs.take k) = hsZ x.ns x.xs by rw [hge, ← hlen, List.take_length, hlen, List.take_length]] at As4_29
 have D_vs4_29 : Rd W32 (SF w [b1_2]) (hssD (hsZ x.ns x.xs)) vs4_29 := arrF_rd As4_29 (ls_skipA (ls_keep ls_nil)) (nin_cons nb_b1_2_ar28_29 nin_nil)
 obtain ⟨vs4_29a, vs4_29c, ev, D2⟩ := rdHss_out D_vs4_29
 subst ev; replace D_vs4_29 := D2; clear D2
 replace D_cn0 := sa_less (M' := [b1_2]) D_cn0 (ls_skipA (ls_keep ls_nil))
 replace D_ci0 := sa_less (M' := [b1_2]) D_ci0 (ls_skipA (ls_keep ls_nil))
 refine wp_exit (hK25 _ _ ?_)
 refine zq fun K52 hK52 => ?_
 refine rg mixed y32 zz32 ?_
 refine .mb rfl e4 ?_
 refine .al rfl ?_
 refine .ac ?_
 refine .dn fun a53 g W53 y53 zz53 hk hg hV hR hP => ?_
 obtain ⟨e3, e2, -, -⟩ := hV
 replace D_cn0 := D_cn0.ext hk
 replace D_ci0 := D_ci0.ext hk
 replace D_vs4_29 := D_vs4_29.ext hk
 replace e2 := e2.q
 replace e3 := e3.q
 replace own_b1_2 := own_b1_2.ext hk
 replace kw := kw.x hk
 clear hR hk hg hP
 refine zn (hK52 _ _ ?_)
 refine wp_ret ?_
 refine ret2 rfl zz53 e2 e3 ⟨_, rfl, kw, ?_⟩
 refine ⟨_, by rw [hoe], ?_⟩
 rw [hov]
 exact sf_fr D_vs4_29
end Go.Proofs.YtnobijngkpflcaaGreat
namespace Go.Proofs.YtnobijngkpflcaaGreat
open Go.Eng
set_option maxRecDepth 100000 in
theorem HashesValueJ_ok (l : List Hs) (w : World) (S : BSet) (v : Value) (hv : Rd w S (hssD l) v) : Calls Tryz.prog 7 #[v] w (Ret w fun r W => ∃ r1, r = .tuple #[r1, .int .i64 (hvE l)] ∧ Rd W (Fr w) (V.d (hvV l)) r1 ∧ DjV r1) := by
 obtain ⟨va, vc, ev, D_v⟩ := rdHss_out (rd_arg hv)
 subst ev
 refine enter Tryz.func7 rfl Tryz.ntmps7 (lbr rfl) fun a0 y0 zz0 harg => ?_
 have e0 : sl a0 0 = (.slice va (l.length) vc) := harg 0 (lbr rfl)
 have kw := Keeps.refl All w
 clear harg
 refine zq fun K1 hK1 => ?_
 refine rg mixed y0 zz0 ?_
 refine .alloc z26 ?_
 refine .ac ?_
 refine .dn fun a2 g W2 y2 zz2 hk hg hV hR hP => ?_
 obtain ⟨-, ⟨b2_2, e2, hb2, own_b2_2⟩, -⟩ := hV
 have lo_b2_2 : w.heap.size ≤ b2_2 := Nat.le_trans kw.size (hg.lo _ _ hb2)
 have own_b2_2 : Own W2 b2_2 [(.int .u8 (0)), (.int .i64 (0)), (.string (⟨#[]⟩)), (.slice none 0 0), (.slice none 0 0)] 26 := own_b2_2
 replace e0 := ft hR e0
 replace D_v := sa_more D_v hk [b2_2] (in_cons (hg.lo _ _ hb2) in_nil)
 replace kw := kw.x hk
 clear hR hk hg hP hb2
 refine zn (hK1 _ _ ?_)
 refine zq fun K3 hK3 => ?_
 refine zq fun K4 hK4 => ?_
 refine rg mixed y2 zz2 ?_
 refine .mb rfl e0 ?_
 refine .i (v := (.bool (mayH l))) (sp_call1 (φ1 := IsD (SA w S [b2_2]) (hssD (l))) ent17 ((hlc rfl).dat D_v sub_all) (fun g u1 W hk hgk h1 => MayHashes_ok (l) W _ _ h1)) ?_
 refine .i (sp_not (hlc rfl)) ?_
 refine .dn fun a5 g W5 y5 zz5 hk hg hV hR hP => ?_
 obtain ⟨e6, -, -, -⟩ := hV
 replace e0 := ft hR e0
 replace e2 := ft hR e2
 replace D_v := D_v.ext hk
 replace e6 := e6.q
 replace own_b2_2 := own_b2_2.ext hk
 replace kw := kw.x hk
 clear hR hk hg hP
 refine zn (hK4 _ _ ?_)
 refine zc e6 (fun hc => ?_) (fun hc => ?_)
 ·
  have hm : mayH l = false := by simpa using hc
  have hoe : hvE l = 3 := by rw [hvE, hm]; rfl
  have hov : hvV l = V.zero := by rw [hvV, hm]; rfl
  refine zq fun K6 hK6 => ?_
  refine rg mixed y5 zz5 ?_
  refine .i (v := (.agg #[(.int .u8 (0)), (.int .i64 (0)), (.string (⟨#[]⟩)), (.slice none 0 0), (.slice none 0 0)])) (sp_build (vs := []) Tryz.underlying26 z26 (pl26 Tryz.underlying26) trivial rfl) ?_
  refine .dn fun a7 g W7 y7 zz7 hk hg hV hR hP => ?_
  obtain ⟨e7, -⟩ := hV
  replace e2 := ft hR e2
  replace D_v := D_v.ext hk
  replace e7 := e7.q
  replace own_b2_2 := own_b2_2.ext hk
  replace kw := kw.x hk
  clear hR hk hg hP
  refine tail_store e2 e7 sz26 rfl own_b2_2 (lbr rfl) (all_cons rfl (all_cons rfl (all_cons rfl (all_cons rfl (all_cons rfl all_nil))))) (fun W8 hs own_b2_2 => ?_)
  have own_b2_2 : Own W8 b2_2 [(.int .u8 (0)), (.int .i64 (0)), (.string (⟨#[]⟩)), (.slice none 0 0), (.slice none 0 0)] 26 := own_b2_2
  replace D_v := sa_store D_v hs (by simp)
  replace kw := keeps_store kw hs lo_b2_2
  clear hs
  refine tail_assign (v := (.int .i64 (3))) rfl (by rw [y7]; exact Nat.le_of_ble_eq_true rfl) (fun a9 y9 zz9 e3 hr => ?_)
  replace y9 := y9.trans y7; replace zz9 := zz9.trans zz7
  replace e2 := (hr 2 (by decide)).trans e2
  replace e7 := (hr 7 (by decide)).trans e7
  clear hr
  refine zn (hK6 _ _ ?_)
  refine wp_ret ?_
  refine retCT (v := (.agg #[(.int .u8 (0)), (.int .i64 (0)), (.string (⟨#[]⟩)), (.slice none 0 0), (.slice none 0 0)])) rfl zz9 e2 own_b2_2 agg26 sz26 rfl (fun h => by cases h) rfl e3 ⟨_, rfl, kw, ?_⟩
  refine ⟨_, by rw [hoe], ?_, by first | assumption | exact djV_mk (fun b h => by cases h)⟩
  rw [hov]
  exact sf_fr (rdV_mk (lbr rfl) (rd_nil _) (rd_nil _) : Rd W8 (SF w [b2_2]) (V.d (V.mk (0) (0) (⟨#[]⟩) ([]) ([]))) _)
 have hmh : mayH l = true := by simpa using hc
 have hl4 := mayH_len hmh
 have hoe : hvE l = 0 := by rw [hvE, hmh]; rfl
 have hov : hvV l = hshO l := by rw [hvV, hmh]; rfl
 refine wp_skip (hK3 _ _ ?_)
 refine zq fun K10 hK10 => ?_
 refine rg mixed y5 zz5 ?_
 refine .mb rfl e0 ?_
 refine .op (φ := IsJ (IsD (Fr W5) (V.d (hshO l)))) (st_j (st_d sub_all)) (sp_call1 (φ1 := IsD (SA w S [b2_2]) (hssD (l))) ent27 ((hlc rfl).dat D_v sub_all) (fun g u1 W hk hgk h1 => (hashesObjectJ_ok (l) hmh W _ _ h1).mono (fun _ _ ⟨v, h1, h2, h3, h4⟩ => ⟨v, h1, h2, fresh_d hk hgk h3, h4⟩))) ?_
 refine .dn fun a11 g W11 y11 zz11 hk hg hV hR hP => ?_
 obtain ⟨e9, -, -⟩ := hV
 replace e2 := ft hR e2
 replace D_v := D_v.ext hk
 obtain ⟨v9_11, ev⟩ : ∃ v, sl a11 9 = v := ⟨_, rfl⟩
 rw [ev] at e9
 have hdj_v9_11 := e9.2; replace e9 := e9.1
 have D_v9_11 : Rd W11 (SF w [b2_2]) (V.d (hshO l)) v9_11 := fr_end (M := [b2_2]) e9 kw [] in_nil (in_cons own_b2_2.lt in_nil)
 replace e9 := ev; clear ev
 obtain ⟨cn9_11a, cn9_11c, ci9_11a, ci9_11c, ev, ht_v9_11, D_cn9_11, D_ci9_11⟩ := rdV_out D_v9_11
 subst ev; clear D_v9_11
 replace own_b2_2 := own_b2_2.ext hk
 replace kw := kw.x hk
 clear hR hk hg hP
 refine tail_store e2 e9 sz26 rfl own_b2_2 (lbr rfl) (all_cons rfl (all_cons rfl (all_cons rfl (all_cons rfl (all_cons rfl all_nil))))) (fun W12 hs own_b2_2 => ?_)
 have own_b2_2 : Own W12 b2_2 [(.int .u8 ((hshO l).k)), (.int .i64 ((hshO l).n)), (.string ((hshO l).t)), (.slice cn9_11a (((hshO l).ns).length) cn9_11c), (.slice ci9_11a (((hshO l).xs).length) ci9_11c)] 26 := own_b2_2
 replace D_v := sa_store D_v hs (by simp)
 replace D_cn9_11 := sf_store D_cn9_11 hs (by simp)
 replace D_ci9_11 := sf_store D_ci9_11 hs (by simp)
 replace kw := keeps_store kw hs lo_b2_2
 clear hs
 refine tail_assign (v := (.int .i64 (0))) rfl (by rw [y11]; exact Nat.le_of_ble_eq_true rfl) (fun a13 y13 zz13 e3 hr => ?_)
 replace y13 := y13.trans y11; replace zz13 := zz13.trans zz11
 replace e2 := (hr 2 (by decide)).trans e2
 replace e9 := (hr 9 (by decide)).trans e9
 clear hr
 refine zn (hK10 _ _ ?_)
 refine wp_ret ?_
 refine retCT (v := (.agg #[(.int .u8 ((hshO l).k)), (.int .i64 ((hshO l).n)), (.string ((hshO l).t)), (.slice cn9_11a (((hshO l).ns).length) cn9_11c), (.slice ci9_11a (((hshO l).xs).length) ci9_11c)])) rfl zz13 e2 own_b2_2 agg26 sz26 rfl (fun h => by cases h) rfl e3 ⟨_, rfl, kw, ?_⟩
 refine ⟨_, by rw [hoe], ?_, by first | assumption | exact djV_mk (fun b h => by cases h)⟩
 rw [hov]
 exact sf_fr (rdV_in (x := (hshO l)) ht_v9_11 D_cn9_11 D_ci9_11 : Rd W12 (SF w [b2_2]) (V.d ((hshO l))) _)
end Go.Proofs.YtnobijngkpflcaaGreat
namespace Go.Eng
def RetN (W : World) (n : Nat) (φ : Value → World → Prop) : Ending → World → Prop := fun e W' => ∃ v, e = .returned v ∧ Keeps (fun k => k < n) W W' ∧ φ v W'
def WRow (W : World) (n sz m : Nat) (v : Value) : Prop := ∃ a c, v = .slice a m c ∧ (m = 0 ∨ ∃ b o cs T, a = some ⟨b, o, none⟩ ∧ n ≤ b ∧ Own W b cs T ∧ o + m * sz ≤ cs.length)
def LeafAt (cs : List Value) (o : Nat) : Prop := ∃ k n t a c a2 c2, cs[o]? = some (.int .u8 k) ∧ cs[o + 1]? = some (.int .i64 n) ∧ cs[o + 2]? = some (.string t) ∧ cs[o + 3]? = some (.slice a 0 c) ∧ cs[o + 4]? = some (.slice a2 0 c2)
def LeafV (v : Value) : Prop := ∃ k n t a c a2 c2, v = .agg #[.int .u8 k, .int .i64 n, .string t, .slice a 0 c, .slice a2 0 c2]
def LRow (W : World) (n m : Nat) (v : Value) : Prop := ∃ a c, v = .slice a m c ∧ (m = 0 ∨ ∃ b o cs T, a = some ⟨b, o, none⟩ ∧ n ≤ b ∧ Own W b cs T ∧ o + m * 5 ≤ cs.length ∧ ∀ i, i < m → LeafAt cs (o + i * 5))
theorem WRow.ext {W W' : World} {n sz m : Nat} {v : Value} (h : WRow W n sz m v) (k : Ext W W') : WRow W' n sz m v := by
  obtain ⟨a, c, e, h⟩ := h
  refine ⟨a, c, e, h.imp id ?_⟩
  rintro ⟨b, o, cs, T, h1, h2, h3, h4⟩
  exact ⟨b, o, cs, T, h1, h2, h3.ext k, h4⟩
theorem LRow.ext {W W' : World} {n m : Nat} {v : Value} (h : LRow W n m v) (k : Ext W W') : LRow W' n m v := by
  obtain ⟨a, c, e, h⟩ := h
  refine ⟨a, c, e, h.imp id ?_⟩
  rintro ⟨b, o, cs, T, h1, h2, h3, h4⟩
  exact ⟨b, o, cs, T, h1, h2, h3.ext k, h4⟩
theorem WRow.beside {W W' : World} {n sz m g : Nat} {v : Value} (h : WRow W n sz m v) (k : Keeps (fun x => x ≠ g) W W') (hg : v.ownBlock ≠ some g) : WRow W' n sz m v := by
  obtain ⟨a, c, rfl, h⟩ := h
  refine ⟨a, c, rfl, h.imp id ?_⟩
  rintro ⟨b, o, cs, T, rfl, h2, h3, h4⟩
  exact ⟨b, o, cs, T, rfl, h2, h3.keeps k (fun e => hg (by rw [← e]; rfl)), h4⟩
theorem LRow.beside {W W' : World} {n m g : Nat} {v : Value} (h : LRow W n m v) (k : Keeps (fun x => x ≠ g) W W') (hg : v.ownBlock ≠ some g) : LRow W' n m v := by
  obtain ⟨a, c, rfl, h⟩ := h
  refine ⟨a, c, rfl, h.imp id ?_⟩
  rintro ⟨b, o, cs, T, rfl, h2, h3, h4⟩
  exact ⟨b, o, cs, T, rfl, h2, h3.keeps k (fun e => hg (by rw [← e]; rfl)), h4⟩
theorem wrow_some {W : World} {n sz m c i : Nat} {a : Option Addr} (h : WRow W n sz m (.slice a m c)) (hi : i < m) : ∃ b o, a = some ⟨b, o, none⟩ := by
  obtain ⟨a', c', e, h⟩ := h
  injection e with e1 _ _
  subst e1
  rcases h with h | ⟨b, o, cs, T, h1, _⟩
  · omega
  · exact ⟨b, o, h1⟩
theorem lrow_some {W : World} {n m c i : Nat} {a : Option Addr} (h : LRow W n m (.slice a m c)) (hi : i < m) : ∃ b o, a = some ⟨b, o, none⟩ := by
  obtain ⟨a', c', e, h⟩ := h
  injection e with e1 _ _
  subst e1
  rcases h with h | ⟨b, o, cs, T, h1, _⟩
  · omega
  · exact ⟨b, o, h1⟩
theorem wrow_at {W : World} {n sz m c b o : Nat} {a : Option Addr} (h : WRow W n sz m (.slice a m c)) (hm : 0 < m) (ha : a = some ⟨b, o, none⟩) : ∃ cs T, n ≤ b ∧ Own W b cs T ∧ o + m * sz ≤ cs.length := by
  obtain ⟨a', c', e, h⟩ := h
  injection e with e1 _ _
  subst e1
  rcases h with h | ⟨b', o', cs, T, h1, h2⟩
  · omega
  · rw [ha] at h1
    injection h1 with h1
    injection h1 with h3 h4 _
    subst h3; subst h4
    exact ⟨cs, T, h2⟩
theorem lrow_at {W : World} {n m c b o : Nat} {a : Option Addr} (h : LRow W n m (.slice a m c)) (hm : 0 < m) (ha : a = some ⟨b, o, none⟩) : ∃ cs T, n ≤ b ∧ Own W b cs T ∧ o + m * 5 ≤ cs.length ∧ ∀ i, i < m → LeafAt cs (o + i * 5) := by
  obtain ⟨a', c', e, h⟩ := h
  injection e with e1 _ _
  subst e1
  rcases h with h | ⟨b', o', cs, T, h1, h2⟩
  · omega
  · rw [ha] at h1
    injection h1 with h1
    injection h1 with h3 h4 _
    subst h3; subst h4
    exact ⟨cs, T, h2⟩
theorem wrow_lt {W : World} {n sz m c b o : Nat} {a : Option Addr} (h : WRow W n sz m (.slice a m c)) (hm : 0 < m) (ha : a = some ⟨b, o, none⟩) : b < W.heap.size := by
  obtain ⟨cs, T, _, h2, _⟩ := wrow_at h hm ha
  exact h2.lt
theorem lrow_lt {W : World} {n m c b o : Nat} {a : Option Addr} (h : LRow W n m (.slice a m c)) (hm : 0 < m) (ha : a = some ⟨b, o, none⟩) : b < W.heap.size := by
  obtain ⟨cs, T, _, h2, _⟩ := lrow_at h hm ha
  exact h2.lt
theorem LRow.w {W : World} {n m : Nat} {v : Value} (h : LRow W n m v) : WRow W n 5 m v := by
  obtain ⟨a, c, e, h⟩ := h
  refine ⟨a, c, e, h.imp id ?_⟩
  rintro ⟨b, o, cs, T, h1, h2, h3, h4, _⟩
  exact ⟨b, o, cs, T, h1, h2, h3, h4⟩
section
variable {P : Program} {ops : Array Oper} {S : Nat → Prop} {w0 : World} {a0 : Act} {Γ : Ctx}
variable {d : Option Tmp} {ty : TypeId} {pos : String} {af : Array Edge} {gd : Option (Nat × Bool)}
theorem sp_indexRowO {x y : Operand} {T E : TypeId} {va : Option Addr} {g0 o0 n cap i sz : Nat} {j : Int} (hx : Has S w0 a0 Γ x (Is (.slice va n cap))) (hy : Has S w0 a0 Γ y (Is (.int .i64 j))) (hT : P.underlying T = some (.slice E)) (hz : szOf P E = some sz) (hva : va = some ⟨g0, o0, none⟩) (hj : j = i) (hi : i < n) :
    Spec P ops S w0 a0 Γ ⟨d, .indexAddr T x y, ty, pos, af, gd⟩ (Is (.pointer (some ⟨g0, o0 + i * sz, none⟩))) := sp_val fun a g W hk hg he => by
  have e1 : a.eval x = .slice va n cap := hx.of_env hk hg he (by simp [Op.operands])
  have e2 : a.eval y = .int .i64 j := hy.of_env hk hg he (by simp [Op.operands])
  subst hj; subst hva
  have hi2 : (0 : Int) ≤ (i : Int) ∧ (i : Int) < (n : Int) := by omega
  simp [execOp, e1, e2, Instr.indexAt, asIntOf, run_und hT, run_szOf hz, hi, add_none]
theorem sp_loadLeaf {x : Operand} {T : TypeId} {va : Option Addr} {n m c g0 o0 i : Nat} (hx : Has All w0 a0 Γ x (Is (.pointer (some ⟨g0, o0 + i * 5, none⟩)))) (hT : aggB P T = some true) (hz : szOf P T = some 5) (A : LRow w0 n m (.slice va m c)) (hva : va = some ⟨g0, o0, none⟩) (hi : i < m) :
    Spec P ops All w0 a0 Γ ⟨d, .load T x, ty, pos, af, gd⟩ (IsP LeafV) := fun a g W hk hg he => by
  have e1 := hx.of_env hk hg he (by simp [Op.operands])
  obtain ⟨cs, T0, -, h2, -, h4⟩ := lrow_at A (by omega) hva
  obtain ⟨k, n1, t, a1, c1, a2, c2, q0, q1, q2, q3, q4⟩ := h4 i hi
  have ho := h2.ext hk
  have hc : CellsAt W g0 (o0 + i * 5) [.int .u8 k, .int .i64 n1, .string t, .slice a1 0 c1, .slice a2 0 c2] := fun j hj => by
    rw [ho.cell]
    have hj5 : j = 0 ∨ j = 1 ∨ j = 2 ∨ j = 3 ∨ j = 4 := by simp at hj; omega
    rcases hj5 with rfl | rfl | rfl | rfl | rfl
    · exact q0
    · exact q1
    · exact q2
    · exact q3
    · exact q4
  have hr := run_loadVar (P := P) hc hT hz rfl (fun h => by cases h)
  unfold OpRuns
  have : (execOp a.eval ⟨d, .load T x, ty, pos, af, gd⟩).run P W = .ok (.value (.agg #[.int .u8 k, .int .i64 n1, .string t, .slice a1 0 c1, .slice a2 0 c2])) W := by
    simp only [execOp, show a.eval x = _ from e1, Instr.loadAt, Instr.sureAddr, Sem.run_bind, Sem.run_pure, Result.andThen_ok, hr]
    rfl
  rw [this]
  exact ⟨.refl _ _, k, n1, t, a1, c1, a2, c2, rfl⟩
end
theorem splice_len {cs vs : List Value} {o : Nat} (h : o + vs.length ≤ cs.length) : (splice cs o vs).length = cs.length := by
  unfold splice
  simp
  omega
theorem splice_out {cs vs : List Value} {o q : Nat} (h : o + vs.length ≤ cs.length) (hq : q < o ∨ o + vs.length ≤ q) : (splice cs o vs)[q]? = cs[q]? := by
  unfold splice
  rcases hq with hq | hq
  · rw [List.append_assoc, List.getElem?_append_left (by simp; omega), List.getElem?_take_of_lt hq]
  · rw [List.getElem?_append_right (by simp; omega), List.getElem?_drop]
    congr 1
    simp
    omega
theorem splice_in {cs vs : List Value} {o j : Nat} (h : o + vs.length ≤ cs.length) (hj : j < vs.length) : (splice cs o vs)[o + j]? = vs[j]? := by
  unfold splice
  rw [List.append_assoc, List.getElem?_append_right (by simp; omega), List.getElem?_append_left (by simp; omega)]
  congr 1
  simp
  omega
section
variable {P : Program} {ops : Array Oper} {Q : Exit → Act → World → Prop} {r : List Oper} {a : Act} {W : World} {T : TypeId} {x y : Operand} {ty : TypeId} {pos : String} {af : Array Edge}
theorem tail_storeW {va : Option Addr} {g0 o0 i n sz m c : Nat} {v : Value} (hx : a.eval x = .pointer (some ⟨g0, o0 + i * sz, none⟩)) (hy : a.eval y = v) (hz : szOf P T = some sz) (hv : v.cells.size = sz) (h1 : ∀ c ∈ v.cells.toList, oneC c = true)
    (A : WRow W n sz m (.slice va m c)) (hva : va = some ⟨g0, o0, none⟩) (hi : i < m) (h : ∀ W', Keeps (fun k => k ≠ g0) W W' → n ≤ g0 → WRow W' n sz m (.slice va m c) → runTail P ops Q r a W') :
    runTail P ops Q (⟨none, .store T x y, ty, pos, af, none⟩ :: r) a W := by
  obtain ⟨cs, T0, h2, h3, h4⟩ := wrow_at A (by omega) hva
  have hfit : i * sz + sz ≤ m * sz := by rw [← Nat.succ_mul]; exact Nat.mul_le_mul_right _ hi
  have hvl : v.cells.toList.length = sz := by simpa using hv
  refine tail_store hx hy hz hv h3 (by omega) h1 fun W' hk ho => h W' hk h2 ?_
  exact ⟨va, c, rfl, .inr ⟨g0, o0, _, T0, hva, h2, ho, by rw [splice_len (by omega)]; exact h4⟩⟩
theorem tail_storeL {va : Option Addr} {g0 o0 i n m c : Nat} {v : Value} (hx : a.eval x = .pointer (some ⟨g0, o0 + i * 5, none⟩)) (hy : a.eval y = v) (hz : szOf P T = some 5) (hv : LeafV v)
    (A : LRow W n m (.slice va m c)) (hva : va = some ⟨g0, o0, none⟩) (hi : i < m) (h : ∀ W', Keeps (fun k => k ≠ g0) W W' → n ≤ g0 → LRow W' n m (.slice va m c) → runTail P ops Q r a W') :
    runTail P ops Q (⟨none, .store T x y, ty, pos, af, none⟩ :: r) a W := by
  obtain ⟨cs, T0, h2, h3, h4, h5⟩ := lrow_at A (by omega) hva
  obtain ⟨k, n1, t, a1, c1, a2, c2, rfl⟩ := hv
  have hfit : o0 + i * 5 + [Value.int .u8 k, .int .i64 n1, .string t, .slice a1 0 c1, .slice a2 0 c2].length ≤ cs.length := by simp; omega
  refine tail_store hx hy hz rfl h3 (by simpa using hfit) (by intro q hq; simp [Value.cells] at hq; rcases hq with rfl | rfl | rfl | rfl | rfl <;> rfl) fun W' hk ho => h W' hk h2 ?_
  have ho' : Own W' g0 (splice cs (o0 + i * 5) [.int .u8 k, .int .i64 n1, .string t, .slice a1 0 c1, .slice a2 0 c2]) T0 := ho
  refine ⟨va, c, rfl, .inr ⟨g0, o0, _, T0, hva, h2, ho', by rw [splice_len hfit]; exact h4, fun j hj => ?_⟩⟩
  by_cases hji : j = i
  · subst hji
    exact ⟨k, n1, t, a1, c1, a2, c2, splice_in (j := 0) hfit (by simp), splice_in (j := 1) hfit (by simp), splice_in (j := 2) hfit (by simp), splice_in (j := 3) hfit (by simp), splice_in (j := 4) hfit (by simp)⟩
  · have hl : [Value.int .u8 k, .int .i64 n1, .string t, .slice a1 0 c1, .slice a2 0 c2].length = 5 := rfl
    have hs : ∀ q, q < 5 → (splice cs (o0 + i * 5) [.int .u8 k, .int .i64 n1, .string t, .slice a1 0 c1, .slice a2 0 c2])[o0 + j * 5 + q]? = cs[o0 + j * 5 + q]? := fun q hq => splice_out hfit (by rw [hl]; omega)
    obtain ⟨k', n', t', a', c', a2', c2', q0, q1, q2, q3, q4⟩ := h5 j hj
    exact ⟨k', n', t', a', c', a2', c2', (hs 0 (by omega)).trans q0, (hs 1 (by omega)).trans q1, (hs 2 (by omega)).trans q2, (hs 3 (by omega)).trans q3, (hs 4 (by omega)).trans q4⟩
end
theorem wrow_of {W : World} {n sz : Nat} {S : BSet} {ds : List D} {v : Value} (h : Rd W S (.lst sz ds) v) (hS : ∀ b o, S b o → n ≤ b ∧ Cln o) (hw : ∀ d ∈ ds, width d = sz) (hsz : 0 < sz) : WRow W n sz ds.length v := by
  obtain ⟨cs, hr, rfl⟩ := h
  simp only [RdC] at hr
  obtain ⟨a, cap, rfl, -, -, h4⟩ := hr
  refine ⟨a, cap, rfl, ?_⟩
  rcases h4 with h4 | ⟨b, o, rfl, hb, hlt, hl⟩
  · left; rw [h4]; rfl
  · by_cases h0 : ds.length = 0
    · exact .inl h0
    · right
      obtain ⟨hn, c, T, hc⟩ := hS b _ hb
      refine ⟨b, o, c.toList, T, rfl, hn, by unfold Own; simpa using hc, ?_⟩
      obtain ⟨cs, h1, h2, h3⟩ := hl.get (ds.length - 1) (by omega)
      have hq := h2 (sz - 1) (by omega)
      unfold World.cell? at hq
      rw [hc] at hq
      simp at hq
      obtain ⟨hq, -⟩ := Array.getElem?_eq_some_iff.1 hq
      have : ds.length * sz = (ds.length - 1) * sz + sz := by rw [← Nat.succ_mul]; congr 1; omega
      simp
      omega
theorem leaf_cells {W : World} {S : BSet} {x : V} {cs : List Value} (h : RdC W S (V.d x) cs) (hn : x.ns = []) (hx : x.xs = []) : ∃ k n t a c a2 c2, cs = [.int .u8 k, .int .i64 n, .string t, .slice a 0 c, .slice a2 0 c2] := by
  obtain ⟨k, n, t, ns, xs⟩ := x
  simp only [V.ns, V.xs] at hn hx
  subst hn; subst hx
  obtain ⟨a1, c1, a2, c2, ev, -, -, -⟩ := rdV_out (v := .agg cs.toArray) ⟨cs, h, rfl⟩
  injection ev with ev
  have := congrArg Array.toList ev
  exact ⟨k, n, t, a1, c1, a2, c2, this⟩
theorem lrow_of {W : World} {n : Nat} {S : BSet} {xs : List V} {v : Value} (h : Rd W S (valsD xs) v) (hS : ∀ b o, S b o → n ≤ b ∧ Cln o) (hx : ∀ x ∈ xs, x.ns = [] ∧ x.xs = []) : LRow W n xs.length v := by
  have hw := wrow_of (ds := xs.map V.d) h hS (fun d hd => by obtain ⟨x, -, rfl⟩ := List.mem_map.1 hd; exact width_V x) (by decide)
  obtain ⟨a', c', e', hw⟩ := hw
  obtain ⟨cs, hr, e⟩ := h
  simp only [valsD, RdC] at hr
  obtain ⟨a, cap, rfl, -, -, h4⟩ := hr
  have e2 : v = .slice a xs.length cap := by rw [e]; simp [valsD, asm]
  refine ⟨a, cap, e2, ?_⟩
  rw [e2] at e'
  injection e' with e1 _ _
  subst e1
  rcases h4 with h4 | ⟨b, o, rfl, hb, hlt, hl⟩
  · left; simpa using h4
  · rcases hw with h0 | ⟨b', o', cs', T, h1, h2, h3, h5⟩
    · left; simpa using h0
    · right
      injection h1 with h1
      injection h1 with h6 h7 _
      subst h6; subst h7
      refine ⟨b, o, cs', T, rfl, h2, h3, by simpa using h5, fun i hi => ?_⟩
      obtain ⟨cs, h8, h9, h10⟩ := hl.get i (by simpa using hi)
      have hxx := hx xs[i] (List.getElem_mem hi)
      simp only [List.getElem_map] at h10
      obtain ⟨k, n1, t, a1, c1, a2, c2, rfl⟩ := leaf_cells h10 hxx.1 hxx.2
      have hq : ∀ j (hj : j < 5), cs'[o + i * 5 + j]? = some ([Value.int .u8 k, .int .i64 n1, .string t, .slice a1 0 c1, .slice a2 0 c2][j]'hj) := fun j hj => by rw [← h3.cell]; exact h9 j hj
      exact ⟨k, n1, t, a1, c1, a2, c2, hq 0 (by decide), hq 1 (by decide), hq 2 (by decide), hq 3 (by decide), hq 4 (by decide)⟩
theorem keeps_below {S0 : Nat → Prop} {w W W' : World} {n : Nat} (h : Keeps S0 w W) (k : Keeps (fun x => x < n) W W') (hn : w.heap.size ≤ n) : Keeps S0 w W' :=
  ⟨k.os.trans h.os, k.tape.trans h.tape, k.output.trans h.output, Nat.le_trans h.size k.size, fun i hi hs => by
    rw [k.block i (Nat.lt_of_lt_of_le hi h.size) (Nat.lt_of_lt_of_le hi hn)]; exact h.block i hi hs⟩
end Go.Eng
namespace Go.Proofs.YtnobijngkpflcaaGreat
open Go.Eng
set_option maxRecDepth 100000 in
theorem spoil_ok (n m : Nat) (hm : m ≤ maxLen) (va : Option Addr) (vc : Nat) (w : World) (A_v : WRow w n 2 m (.slice va m vc)) : Calls Tryz.prog 15 #[.slice va m vc] w (RetN w n fun _ _ => True) := by
 simp only [maxLen] at hm
 refine enter Tryz.func15 rfl Tryz.ntmps15 (lbr rfl) fun a0 y0 zz0 harg => ?_
 have e0 : sl a0 0 = (.slice va m vc) := harg 0 (lbr rfl)
 have kw := Keeps.refl (fun k => k < n) w
 clear harg
 refine zq fun K1 hK1 => ?_
 refine rg mixed y0 zz0 ?_
 refine .ac ?_
 refine .dn fun a2 g W2 y2 zz2 hk hg hV hR hP => ?_
 obtain ⟨e2, -⟩ := hV
 replace e0 := ft hR e0
 replace e2 := e2.q
 replace A_v := A_v.ext hk
 replace kw := kw.x hk
 clear hR hk hg hP
 refine zn (hK1 _ _ ?_)
 refine wp_block ?_
 refine wp_for (m) (fun k a W => a.tmps.size = 13 ∧ a.defers = [] ∧ Keeps (fun k => k < n) w W ∧ sl a 0 = (.slice va m vc) ∧ sl a 2 = (.int .i64 ((k : Nat))) ∧ (WRow W n 2 m (.slice va m vc))) ⟨y2, zz2, kw, e0, (e2.trans (congrArg (Value.int .i64) (rfl))), A_v⟩ ?_
 clear kw e0 e2 A_v
 rintro k a3 W3 hkk ⟨y3, zz3, kw, e0, e2, A_v⟩
 refine zq fun K4 hK4 => ?_
 refine zq fun K5 hK5 => ?_
 refine rg mixed y3 zz3 ?_
 refine .mb rfl e2 ?_
 refine .mb rfl e0 ?_
 refine .i (sp_lenV Tryz.underlying22 (hlc rfl)) ?_
 refine .i (sp_lss (hlc rfl) (hlc rfl)) ?_
 refine .dn fun a6 g W6 y6 zz6 hk hg hV hR hP => ?_
 obtain ⟨e6, -, -, -, -⟩ := hV
 replace e0 := ft hR e0
 replace e2 := ft hR e2
 replace e6 := e6.q
 replace A_v := A_v.ext hk
 replace kw := kw.x hk
 clear hR hk hg hP
 refine zn (hK5 _ _ ?_)
 refine zc e6 (fun hc => ?_) (fun hc => ?_)
 ·
  have hlt : k < m := by simpa using hc
  obtain ⟨g0, o0, hva⟩ := wrow_some A_v hlt
  refine wp_skip (hK4 _ _ ?_)
  refine zq fun K7 hK7 => ?_
  refine wp_block ?_
  refine rg mixed y6 zz6 ?_
  refine .mb rfl e0 ?_
  refine .mb rfl e2 ?_
  refine .i (v := (.agg #[(.string (⟨#[115, 112, 111, 105, 108, 116]⟩)), (.string (⟨#[]⟩))])) (sp_build (vs := [(0, (.string (⟨#[115, 112, 111, 105, 108, 116]⟩)))]) Tryz.underlying43 z43 (pl43 Tryz.underlying43) ⟨rfl, Has.cst, trivial⟩ rfl) ?_
  refine .i (v := (.pointer (some ⟨g0, o0 + k * 2, none⟩))) (sp_indexRowO (i := k) (hlc rfl) (hlc rfl) Tryz.underlying22 sz43 hva rfl hlt) ?_
  refine .dn fun a8 g W8 y8 zz8 hk hg hV hR hP => ?_
  obtain ⟨e12, e11, -, -, -⟩ := hV
  replace e0 := ft hR e0
  replace e2 := ft hR e2
  replace e11 := e11.q
  have e12 : sl a8 12 = (.pointer (some ⟨g0, o0 + k * 2, none⟩)) := e12
  replace A_v := A_v.ext hk
  replace kw := kw.x hk
  clear hR hk hg hP
  refine tail_storeW (i := k) e12 e11 sz43 rfl (all_cons rfl (all_cons rfl all_nil)) A_v hva hlt (fun W9 hs hng A_new => ?_)
  replace A_v := A_new; clear A_new
  replace kw := keeps_storeN kw hs (Nat.not_lt.2 hng)
  clear hs hng
  refine zn (hK7 _ _ ?_)
  refine rg mixed y8 zz8 ?_
  refine .mb rfl e2 ?_
  refine .i (sp_add (hlc rfl) Has.cst (i64_in (by omega))) ?_
  refine .al rfl ?_
  refine .dn fun a10 g W10 y10 zz10 hk hg hV hR hP => ?_
  obtain ⟨e2, -, -, -⟩ := hV
  replace e0 := ft hR e0
  replace e2 := e2.q
  replace A_v := A_v.ext hk
  replace kw := kw.x hk
  clear hR hk hg hP
  exact tail_nil ⟨hlt, y10, zz10, kw, e0, (e2.trans (congrArg (Value.int .i64) (by simp))), A_v⟩
 have hge0 : ¬ k < m := by simpa using hc
 have hge : k = m := by omega
 refine wp_exit ?_
 refine ret0 rfl zz6 ⟨_, rfl, kw, ?_⟩
 trivial
set_option maxRecDepth 100000 in
theorem spoilLeaf_ok (v : Value) (hl : LeafV v) (w : World) : Calls Tryz.prog 16 #[v] w (Ret w fun _ _ => True) := by
 obtain ⟨vk, vn, vt, na, nc, ia, ic, rfl⟩ := hl
 refine enter Tryz.func16 rfl Tryz.ntmps16 (lbr rfl) fun a0 y0 zz0 harg => ?_
 have e0 : sl a0 0 = (.agg #[(.int .u8 (vk)), (.int .i64 (vn)), (.string (vt)), (.slice na 0 nc), (.slice ia 0 ic)]) := harg 0 (lbr rfl)
 have kw := Keeps.refl All w
 clear harg
 refine zq fun K1 hK1 => ?_
 refine rg mixed y0 zz0 ?_
 refine .boxOp (v := (.agg #[(.int .u8 (vk)), (.int .i64 (vn)), (.string (vt)), (.slice na 0 nc), (.slice ia 0 ic)])) (hbs rfl e0) ?_
 refine .dn fun a2 g W2 y2 zz2 hk hg hV hR hP => ?_
 obtain ⟨⟨b1_2, e1, hb1, own_b1_2⟩, -⟩ := hV
 have lo_b1_2 : w.heap.size ≤ b1_2 := Nat.le_trans kw.size (hg.lo _ _ hb1)
 have own_b1_2 : Own W2 b1_2 [(.int .u8 (vk)), (.int .i64 (vn)), (.string (vt)), (.slice na 0 nc), (.slice ia 0 ic)] 26 := own_b1_2
 replace kw := kw.x hk
 clear hR hk hg hP hb1
 refine zn (hK1 _ _ ?_)
 refine zq fun K3 hK3 => ?_
 refine zq fun K4 hK4 => ?_
 refine rg mixed y2 zz2 ?_
 refine .ac ?_
 refine .dn fun a5 g W5 y5 zz5 hk hg hV hR hP => ?_
 obtain ⟨e2, -⟩ := hV
 replace e1 := ft hR e1
 replace e2 := e2.q
 replace own_b1_2 := own_b1_2.ext hk
 replace kw := kw.x hk
 clear hR hk hg hP
 refine zn (hK4 _ _ ?_)
 refine wp_block ?_
 refine wp_loopAt (loopAt ?_)
 refine zq fun K6 hK6 => ?_
 refine zq fun K7 hK7 => ?_
 refine rg mixed y5 zz5 ?_
 refine .mb rfl e2 ?_
 refine .i (fo 3 (hbs rfl e1) Tryz.underlying26 rfl sz23 rfl) ?_
 refine .i (lo1 (hlc rfl) own_b1_2 trivial agg23 sz23 rfl) ?_
 refine .i (sp_lenV Tryz.underlying23 (hlc rfl)) ?_
 refine .i (sp_lss (hlc rfl) (hlc rfl)) ?_
 refine .dn fun a8 g W8 y8 zz8 hk hg hV hR hP => ?_
 obtain ⟨e8, -, -, -, -, -⟩ := hV
 replace e1 := ft hR e1
 replace e2 := ft hR e2
 replace e8 := e8.q
 replace own_b1_2 := own_b1_2.ext hk
 replace kw := kw.x hk
 clear hR hk hg hP
 refine zn (hK7 _ _ ?_)
 refine wp_cond_false (e8.trans (congrArg Value.bool (by decide))) ?_
 refine wp_exit (hK3 _ _ ?_)
 refine zq fun K9 hK9 => ?_
 refine rg mixed y8 zz8 ?_
 refine .ac ?_
 refine .dn fun a10 g W10 y10 zz10 hk hg hV hR hP => ?_
 obtain ⟨e3, -⟩ := hV
 replace e1 := ft hR e1
 replace e3 := e3.q
 replace own_b1_2 := own_b1_2.ext hk
 replace kw := kw.x hk
 clear hR hk hg hP
 refine zn (hK9 _ _ ?_)
 refine wp_block ?_
 refine wp_loopAt (loopAt ?_)
 refine zq fun K11 hK11 => ?_
 refine zq fun K12 hK12 => ?_
 refine rg mixed y10 zz10 ?_
 refine .mb rfl e3 ?_
 refine .i (fo 4 (hbs rfl e1) Tryz.underlying26 rfl sz24 rfl) ?_
 refine .i (lo1 (hlc rfl) own_b1_2 trivial agg24 sz24 rfl) ?_
 refine .i (sp_lenV Tryz.underlying24 (hlc rfl)) ?_
 refine .i (sp_lss (hlc rfl) (hlc rfl)) ?_
 refine .dn fun a13 g W13 y13 zz13 hk hg hV hR hP => ?_
 obtain ⟨e19, -, -, -, -, -⟩ := hV
 replace e1 := ft hR e1
 replace e3 := ft hR e3
 replace e19 := e19.q
 replace own_b1_2 := own_b1_2.ext hk
 replace kw := kw.x hk
 clear hR hk hg hP
 refine zn (hK12 _ _ ?_)
 refine wp_cond_false (e19.trans (congrArg Value.bool (by decide))) ?_
 refine wp_exit ?_
 refine ret0 rfl zz13 ⟨_, rfl, kw, ?_⟩
 trivial
set_option maxRecDepth 100000 in
theorem spoilV_ok (n m1 m2 : Nat) (hm1 : m1 ≤ maxLen) (hm2 : m2 ≤ maxLen) (vk vn : Int) (vt : ByteArray) (na ia : Option Addr) (nc ic : Nat) (w : World) (A_n : WRow w n 1 m1 (.slice na m1 nc)) (A_i : LRow w n m2 (.slice ia m2 ic)) (hdj : ∀ b, (Value.slice na m1 nc).ownBlock = some b → (Value.slice ia m2 ic).ownBlock ≠ some b) : Calls Tryz.prog 16 #[.agg #[.int .u8 vk, .int .i64 vn, .string vt, .slice na m1 nc, .slice ia m2 ic]] w (RetN w n fun _ _ => True) := by
 simp only [maxLen] at hm1 hm2
 have hn0 : ∀ b o, na = some ⟨b, o, none⟩ → 0 < m1 → b < w.heap.size := fun b o h h0 => wrow_lt A_n h0 h
 have hi0 : ∀ b o, ia = some ⟨b, o, none⟩ → 0 < m2 → b < w.heap.size := fun b o h h0 => lrow_lt A_i h0 h
 refine enter Tryz.func16 rfl Tryz.ntmps16 (lbr rfl) fun a0 y0 zz0 harg => ?_
 have e0 : sl a0 0 = (.agg #[(.int .u8 (vk)), (.int .i64 (vn)), (.string (vt)), (.slice na m1 nc), (.slice ia m2 ic)]) := harg 0 (lbr rfl)
 have kw := Keeps.refl (fun k => k < n) w
 clear harg
 refine zq fun K1 hK1 => ?_
 refine rg mixed y0 zz0 ?_
 refine .boxOp (v := (.agg #[(.int .u8 (vk)), (.int .i64 (vn)), (.string (vt)), (.slice na m1 nc), (.slice ia m2 ic)])) (hbs rfl e0) ?_
 refine .dn fun a2 g W2 y2 zz2 hk hg hV hR hP => ?_
 obtain ⟨⟨b1_2, e1, hb1, own_b1_2⟩, -⟩ := hV
 have lo_b1_2 : w.heap.size ≤ b1_2 := Nat.le_trans kw.size (hg.lo _ _ hb1)
 have own_b1_2 : Own W2 b1_2 [(.int .u8 (vk)), (.int .i64 (vn)), (.string (vt)), (.slice na m1 nc), (.slice ia m2 ic)] 26 := own_b1_2
 replace A_n := A_n.ext hk
 replace A_i := A_i.ext hk
 replace kw := kw.x hk
 clear hR hk hg hP hb1
 refine zn (hK1 _ _ ?_)
 refine zq fun K3 hK3 => ?_
 refine zq fun K4 hK4 => ?_
 refine rg mixed y2 zz2 ?_
 refine .ac ?_
 refine .dn fun a5 g W5 y5 zz5 hk hg hV hR hP => ?_
 obtain ⟨e2, -⟩ := hV
 replace e1 := ft hR e1
 replace e2 := e2.q
 replace own_b1_2 := own_b1_2.ext hk
 replace A_n := A_n.ext hk
 replace A_i := A_i.ext hk
 replace kw := kw.x hk
 clear hR hk hg hP
 refine zn (hK4 _ _ ?_)
 refine wp_block ?_
 refine wp_for (m1) (fun k a W => a.tmps.size = 33 ∧ a.defers = [] ∧ Keeps (fun k => k < n) w W ∧ sl a 1 = (.pointer (some ⟨b1_2, 0, none⟩)) ∧ sl a 2 = (.int .i64 ((k : Nat))) ∧ Own W b1_2 [(.int .u8 (vk)), (.int .i64 (vn)), (.string (vt)), (.slice na m1 nc), (.slice ia m2 ic)] 26 ∧ (WRow W n 1 m1 (.slice na m1 nc)) ∧ (LRow W n m2 (.slice ia m2 ic))) ⟨y5, zz5, kw, e1, (e2.trans (congrArg (Value.int .i64) (rfl))), own_b1_2, A_n, A_i⟩ ?_
 clear kw e1 e2 own_b1_2 A_n A_i
 rintro k a6 W6 hkk ⟨y6, zz6, kw, e1, e2, own_b1_2, A_n, A_i⟩
 refine zq fun K7 hK7 => ?_
 refine zq fun K8 hK8 => ?_
 refine rg mixed y6 zz6 ?_
 refine .mb rfl e2 ?_
 refine .i (fo 3 (hbs rfl e1) Tryz.underlying26 rfl sz23 rfl) ?_
 refine .i (lo1 (hlc rfl) own_b1_2 trivial agg23 sz23 rfl) ?_
 refine .i (sp_lenV Tryz.underlying23 (hlc rfl)) ?_
 refine .i (sp_lss (hlc rfl) (hlc rfl)) ?_
 refine .dn fun a9 g W9 y9 zz9 hk hg hV hR hP => ?_
 obtain ⟨e8, -, -, -, -, -⟩ := hV
 replace e1 := ft hR e1
 replace e2 := ft hR e2
 replace e8 := e8.q
 replace own_b1_2 := own_b1_2.ext hk
 replace A_n := A_n.ext hk
 replace A_i := A_i.ext hk
 replace kw := kw.x hk
 clear hR hk hg hP
 refine zn (hK8 _ _ ?_)
 refine zc e8 (fun hc => ?_) (fun hc => ?_)
 ·
  have hlt : k < m1 := by simpa using hc
  obtain ⟨g0, o0, hva⟩ := wrow_some A_n hlt
  have hg0 := hn0 _ _ hva (by omega)
  refine wp_skip (hK7 _ _ ?_)
  refine zq fun K10 hK10 => ?_
  refine wp_block ?_
  refine rg mixed y9 zz9 ?_
  refine .i (fo 3 (hbs rfl e1) Tryz.underlying26 rfl sz23 rfl) ?_
  refine .i (lo1 (hlc rfl) own_b1_2 trivial agg23 sz23 rfl) ?_
  refine .mb rfl e2 ?_
  refine .i (v := (.pointer (some ⟨g0, o0 + k * 1, none⟩))) (sp_indexRowO (i := k) (hlc rfl) (hlc rfl) Tryz.underlying23 sz9 hva rfl hlt) ?_
  refine .dn fun a11 g W11 y11 zz11 hk hg hV hR hP => ?_
  obtain ⟨e14, -, -, -, -⟩ := hV
  replace e1 := ft hR e1
  replace e2 := ft hR e2
  have e14 : sl a11 14 = (.pointer (some ⟨g0, o0 + k * 1, none⟩)) := e14
  replace own_b1_2 := own_b1_2.ext hk
  replace A_n := A_n.ext hk
  replace A_i := A_i.ext hk
  replace kw := kw.x hk
  clear hR hk hg hP
  refine tail_storeW (i := k) e14 rfl sz9 rfl (all_cons rfl all_nil) A_n hva hlt (fun W12 hs hng A_new => ?_)
  replace A_n := A_new; clear A_new
  replace A_i := A_i.beside hs (hdj _ (by rw [hva]; rfl))
  replace own_b1_2 := own_store own_b1_2 hs (fun e => Nat.lt_irrefl _ (Nat.lt_of_lt_of_le hg0 (e ▸ lo_b1_2)))
  replace kw := keeps_storeN kw hs (Nat.not_lt.2 hng)
  clear hs hng
  refine zn (hK10 _ _ ?_)
  refine rg mixed y11 zz11 ?_
  refine .mb rfl e2 ?_
  refine .i (sp_add (hlc rfl) Has.cst (i64_in (by omega))) ?_
  refine .al rfl ?_
  refine .dn fun a13 g W13 y13 zz13 hk hg hV hR hP => ?_
  obtain ⟨e2, -, -, -⟩ := hV
  replace e1 := ft hR e1
  replace e2 := e2.q
  replace own_b1_2 := own_b1_2.ext hk
  replace A_n := A_n.ext hk
  replace A_i := A_i.ext hk
  replace kw := kw.x hk
  clear hR hk hg hP
  exact tail_nil ⟨hlt, y13, zz13, kw, e1, (e2.trans (congrArg (Value.int .i64) (by simp))), own_b1_2, A_n, A_i⟩
 have hge0 : ¬ k < m1 := by simpa using hc
 have hge : k = m1 := by omega
 refine wp_exit (hK3 _ _ ?_)
 refine zq fun K14 hK14 => ?_
 refine rg mixed y9 zz9 ?_
 refine .ac ?_
 refine .dn fun a15 g W15 y15 zz15 hk hg hV hR hP => ?_
 obtain ⟨e3, -⟩ := hV
 replace e1 := ft hR e1
 replace e3 := e3.q
 replace own_b1_2 := own_b1_2.ext hk
 replace A_n := A_n.ext hk
 replace A_i := A_i.ext hk
 replace kw := kw.x hk
 clear hR hk hg hP
 refine zn (hK14 _ _ ?_)
 refine wp_block ?_
 refine wp_for (m2) (fun k a W => a.tmps.size = 33 ∧ a.defers = [] ∧ Keeps (fun k => k < n) w W ∧ sl a 1 = (.pointer (some ⟨b1_2, 0, none⟩)) ∧ sl a 3 = (.int .i64 ((k : Nat))) ∧ Own W b1_2 [(.int .u8 (vk)), (.int .i64 (vn)), (.string (vt)), (.slice na m1 nc), (.slice ia m2 ic)] 26 ∧ (WRow W n 1 m1 (.slice na m1 nc)) ∧ (LRow W n m2 (.slice ia m2 ic))) ⟨y15, zz15, kw, e1, (e3.trans (congrArg (Value.int .i64) (rfl))), own_b1_2, A_n, A_i⟩ ?_
 clear kw e1 e3 own_b1_2 A_n A_i
 rintro k a16 W16 hkk ⟨y16, zz16, kw, e1, e3, own_b1_2, A_n, A_i⟩
 refine zq fun K17 hK17 => ?_
 refine zq fun K18 hK18 => ?_
 refine rg mixed y16 zz16 ?_
 refine .mb rfl e3 ?_
 refine .i (fo 4 (hbs rfl e1) Tryz.underlying26 rfl sz24 rfl) ?_
 refine .i (lo1 (hlc rfl) own_b1_2 trivial agg24 sz24 rfl) ?_
 refine .i (sp_lenV Tryz.underlying24 (hlc rfl)) ?_
 refine .i (sp_lss (hlc rfl) (hlc rfl)) ?_
 refine .dn fun a19 g W19 y19 zz19 hk hg hV hR hP => ?_
 obtain ⟨e19, -, -, -, -, -⟩ := hV
 replace e1 := ft hR e1
 replace e3 := ft hR e3
 replace e19 := e19.q
 replace own_b1_2 := own_b1_2.ext hk
 replace A_n := A_n.ext hk
 replace A_i := A_i.ext hk
 replace kw := kw.x hk
 clear hR hk hg hP
 refine zn (hK18 _ _ ?_)
 refine zc e19 (fun hc => ?_) (fun hc => ?_)
 ·
  have hlt : k < m2 := by simpa using hc
  obtain ⟨g0, o0, hva⟩ := lrow_some A_i hlt
  have hg0 := hi0 _ _ hva (by omega)
  refine wp_skip (hK17 _ _ ?_)
  refine zq fun K20 hK20 => ?_
  refine wp_block ?_
  refine zq fun K21 hK21 => ?_
  refine rg mixed y19 zz19 ?_
  refine .i (fo 4 (hbs rfl e1) Tryz.underlying26 rfl sz24 rfl) ?_
  refine .i (lo1 (hlc rfl) own_b1_2 trivial agg24 sz24 rfl) ?_
  refine .mb rfl e3 ?_
  refine .i (v := (.pointer (some ⟨g0, o0 + k * 5, none⟩))) (sp_indexRowO (i := k) (hlc rfl) (hlc rfl) Tryz.underlying24 sz26 hva rfl hlt) ?_
  refine .op (φ := IsP (fun u => LeafV u)) st_p (sp_loadLeaf (hlc rfl) agg26 sz26 A_i hva hlt) ?_
  refine .op (φ := Any) st_any (sp_call1 (φ1 := IsP (fun u => LeafV u)) ent16 (hlc rfl) (fun g u1 W hk hgk h1 => (spoilLeaf_ok _ h1 W).mono (fun _ _ ⟨v, h1, h2, h3⟩ => ⟨v, h1, h2, trivial⟩))) ?_
  refine .dn fun a22 g W22 y22 zz22 hk hg hV hR hP => ?_
  obtain ⟨-, -, -, -, -, -, -⟩ := hV
  replace e1 := ft hR e1
  replace e3 := ft hR e3
  replace own_b1_2 := own_b1_2.ext hk
  replace A_n := A_n.ext hk
  replace A_i := A_i.ext hk
  replace kw := kw.x hk
  clear hR hk hg hP
  refine zn (hK21 _ _ ?_)
  refine rg mixed y22 zz22 ?_
  refine .i (fo 4 (hbs rfl e1) Tryz.underlying26 rfl sz24 rfl) ?_
  refine .i (lo1 (hlc rfl) own_b1_2 trivial agg24 sz24 rfl) ?_
  refine .mb rfl e3 ?_
  refine .i (v := (.agg #[(.int .u8 (99)), (.int .i64 (0)), (.string (⟨#[]⟩)), (.slice none 0 0), (.slice none 0 0)])) (sp_build (vs := [(0, (.int .u8 (99)))]) Tryz.underlying26 z26 (pl26 Tryz.underlying26) ⟨rfl, Has.cst, trivial⟩ rfl) ?_
  refine .i (v := (.pointer (some ⟨g0, o0 + k * 5, none⟩))) (sp_indexRowO (i := k) (hlc rfl) (hlc rfl) Tryz.underlying24 sz26 hva rfl hlt) ?_
  refine .dn fun a23 g W23 y23 zz23 hk hg hV hR hP => ?_
  obtain ⟨e32, e31, -, -, -, -⟩ := hV
  replace e1 := ft hR e1
  replace e3 := ft hR e3
  replace e31 := e31.q
  have e32 : sl a23 32 = (.pointer (some ⟨g0, o0 + k * 5, none⟩)) := e32
  replace own_b1_2 := own_b1_2.ext hk
  replace A_n := A_n.ext hk
  replace A_i := A_i.ext hk
  replace kw := kw.x hk
  clear hR hk hg hP
  refine tail_storeL (i := k) e32 e31 sz26 ⟨_, _, _, _, _, _, _, rfl⟩ A_i hva hlt (fun W24 hs hng A_new => ?_)
  replace A_i := A_new; clear A_new
  replace A_n := A_n.beside hs (fun e => hdj _ e (by rw [hva]; rfl))
  replace own_b1_2 := own_store own_b1_2 hs (fun e => Nat.lt_irrefl _ (Nat.lt_of_lt_of_le hg0 (e ▸ lo_b1_2)))
  replace kw := keeps_storeN kw hs (Nat.not_lt.2 hng)
  clear hs hng
  refine zn (hK20 _ _ ?_)
  refine rg mixed y23 zz23 ?_
  refine .mb rfl e3 ?_
  refine .i (sp_add (hlc rfl) Has.cst (i64_in (by omega))) ?_
  refine .al rfl ?_
  refine .dn fun a25 g W25 y25 zz25 hk hg hV hR hP => ?_
  obtain ⟨e3, -, -, -⟩ := hV
  replace e1 := ft hR e1
  replace e3 := e3.q
  replace own_b1_2 := own_b1_2.ext hk
  replace A_n := A_n.ext hk
  replace A_i := A_i.ext hk
  replace kw := kw.x hk
  clear hR hk hg hP
  exact tail_nil ⟨hlt, y25, zz25, kw, e1, (e3.trans (congrArg (Value.int .i64) (by simp))), own_b1_2, A_n, A_i⟩
 have hge0 : ¬ k < m2 := by simpa using hc
 have hge : k = m2 := by omega
 refine wp_exit ?_
 refine ret0 rfl zz19 ⟨_, rfl, kw, ?_⟩
 trivial
end Go.Proofs.YtnobijngkpflcaaGreat
namespace Go.Eng
open Go.ChangeShapes Go.WideShapes Go.ChangeAt Go.RowKit
def Univ : BSet := fun _ _ => True
mutual
def HasT (P : Program) : D → TypeId → Prop
  | .bool _, t => P.underlying t = some .bool
  | .int k n, t => P.underlying t = some (.int k) ∧ (Lit.int k n).wf = true
  | .str s, t => P.underlying t = some .string ∧ s.size ≤ maxLen
  | .lst sz xs, t => ∃ e, P.underlying t = some (.slice e) ∧ sz = P.cellsOf e ∧ HasTL P xs e
  | .agg xs, t => ∃ fs, P.underlying t = some (.struct fs) ∧ HasTF P xs (fs.toList.map (·.type))
def HasTL (P : Program) : List D → TypeId → Prop
  | [], _ => True
  | x :: xs, e => HasT P x e ∧ HasTL P xs e
def HasTF (P : Program) : List D → List TypeId → Prop
  | [], [] => True
  | x :: xs, t :: ts => HasT P x t ∧ HasTF P xs ts
  | _, _ => False
end
theorem hasTL_of {P : Program} {e : TypeId} : ∀ (xs : List D), (∀ i (h : i < xs.length), HasT P xs[i] e) → HasTL P xs e
  | [], _ => by simp [HasTL]
  | x :: xs, h => by
    simp only [HasTL]
    exact ⟨h 0 (by simp), hasTL_of xs fun i hi => h (i + 1) (by simpa using hi)⟩
def offs (P : Program) : List Field → Nat → Option Nat
  | [], o => some o
  | f :: r, o => if f.offset = o then offs P r (o + P.cellsOf f.type) else none
def plain1 (P : Program) (ts : List TypeId) (t : TypeId) : Bool := match P.underlying t with
  | some .bool => true
  | some (.int _) => true
  | some .string => true
  | some (.slice e) => ts.contains e && decide (0 < P.cellsOf e)
  | some (.struct fs) => (fs.toList.all fun f => ts.contains f.type) && decide (offs P fs.toList 0 = some (P.cellsOf t))
  | _ => false
theorem exists_list {α : Type} {p : Nat → α → Prop} : ∀ n : Nat, (∀ i, i < n → ∃ x, p i x) → ∃ xs : List α, xs.length = n ∧ ∀ i (h : i < xs.length), p i xs[i]
  | 0, _ => ⟨[], rfl, fun i h => by simp at h⟩
  | n + 1, h => by
    obtain ⟨xs, hl, hx⟩ := exists_list n fun i hi => h i (by omega)
    obtain ⟨x, hp⟩ := h n (by omega)
    refine ⟨xs ++ [x], by simp [hl], fun i hi => ?_⟩
    by_cases hin : i < n
    · rw [List.getElem_append_left (by omega)]; exact hx i (by omega)
    · have : i = n := by simp at hi; omega
      subst this
      rw [List.getElem_append_right (by omega)]; simpa [hl] using hp
section
variable {H : Type} {enc : TypeId × Value → H} {P : Program} {W : World}
theorem fields_rd {n : Nat} {cs : List Value} {ts : List TypeId} (ih : ∀ t c y, t ∈ ts → DataW.trod enc P W 0 (fun _ => true) true n t c = some y → ∃ d, RdC W Univ d c ∧ HasT P d t) :
    ∀ (fs : List Field) (o : Nat), offs P fs o = some cs.length → (∀ f ∈ fs, f.type ∈ ts) → (∀ f ∈ fs, ∃ y, DataW.trod enc P W 0 (fun _ => true) true n f.type ((cs.drop f.offset).take (P.cellsOf f.type)) = some y) →
      ∃ ds, RdF W Univ ds (cs.drop o) ∧ HasTF P ds (fs.map (·.type))
  | [], o, ho, _, _ => by
    simp only [offs, Option.some.injEq] at ho
    subst ho
    exact ⟨[], by simp [RdF], by simp [HasTF]⟩
  | f :: fs, o, ho, hm, hr => by
    simp only [offs] at ho
    split at ho
    · rename_i hoff
      subst hoff
      obtain ⟨ds, h1, h2⟩ := fields_rd ih fs _ ho (fun g hg => hm g (List.mem_cons_of_mem _ hg)) (fun g hg => hr g (List.mem_cons_of_mem _ hg))
      obtain ⟨y, hy⟩ := hr f List.mem_cons_self
      obtain ⟨d, h3, h4⟩ := ih _ _ _ (hm f List.mem_cons_self) hy
      refine ⟨d :: ds, ?_, by simp only [List.map_cons, HasTF]; exact ⟨h4, h2⟩⟩
      simp only [RdF]
      exact ⟨_, _, by rw [← List.drop_drop]; exact (List.take_append_drop _ _).symm, h3, h1⟩
    · cases ho
theorem trod_rd {ts : List TypeId} (hp : (ts.all (plain1 P ts)) = true) : ∀ (n : Nat) (t : TypeId) (cs : List Value) (y : DataW H × List MemPlace), t ∈ ts → DataW.trod enc P W 0 (fun _ => true) true n t cs = some y → ∃ d, RdC W Univ d cs ∧ HasT P d t := by
  intro n
  induction n with
  | zero => intro t cs y _ h; simp [DataW.trod] at h
  | succ n ih =>
    intro t cs y ht h
    have hpt := List.all_eq_true.1 hp t ht
    unfold plain1 at hpt
    split at hpt
    · rename_i hu
      obtain ⟨b, rfl, _⟩ := DataW.trod_bool hu h
      exact ⟨.bool b, by simp [RdC], by simp [HasT, hu]⟩
    · rename_i k hu
      obtain ⟨b, rfl, _, hw⟩ := DataW.trod_int hu h
      exact ⟨.int k b, by simp [RdC], by simp [HasT, hu, hw]⟩
    · rename_i hu
      obtain ⟨s, rfl, _, hw⟩ := DataW.trod_string hu h
      exact ⟨.str s, by simp [RdC, hw], by simp [HasT, hu, hw]⟩
    · rename_i e hu
      simp only [Bool.and_eq_true, decide_eq_true_eq] at hpt
      have het : e ∈ ts := by simpa using hpt.1
      rcases DataW.trod_slice hu h with ⟨rfl, _⟩ | ⟨a, len, cap, elems, rest, n', hn', rfl, _, _, hlc, hcm, hle, hel, _⟩
      · exact ⟨.lst (P.cellsOf e) [], by simp only [RdC]; exact ⟨none, 0, rfl, by simp, by simp, .inl trivial⟩, by simp only [HasT]; exact ⟨e, hu, rfl, by simp [HasTL]⟩⟩
      · have hnn : n' = n := by omega
        subst hnn
        have each : ∀ i, i < len → ∃ d, (∃ c, c.length = P.cellsOf e ∧ CellsAt W a.block (a.off + i * P.cellsOf e) c ∧ RdC W Univ d c) ∧ HasT P d e := by
          intro i hi
          have h1 := hel i hi
          rw [List.getElem?_eq_getElem (by omega), Option.bind_eq_some_iff] at h1
          obtain ⟨c, hc, hy⟩ := h1
          obtain ⟨d, h2, h3⟩ := ih e c _ het hy
          obtain ⟨_, hlen, hcell⟩ := World.cells?_some hc
          have hoff : ∀ j, W.cell? ((a.add (i * P.cellsOf e)).add j) = none ∨ (a.add (i * P.cellsOf e)).add j = ⟨a.block, a.off + i * P.cellsOf e + j, none⟩ := by
            intro j
            by_cases hsp : (a.add (i * P.cellsOf e)).spot.isSome = true ∧ j = 0
            · left
              obtain ⟨h4, rfl⟩ := hsp
              have : ((a.add (i * P.cellsOf e)).add 0) = a.add (i * P.cellsOf e) := by simp [Addr.add]
              rw [this]
              unfold World.cell?
              split <;> simp [h4]
            · right
              unfold Addr.add at hsp ⊢
              by_cases h0 : i * P.cellsOf e = 0
              · simp only [h0, if_true] at hsp ⊢
                by_cases hj : j = 0
                · subst hj
                  simp at hsp
                  cases a; simp_all
                · simp [hj]
              · simp only [h0, if_false] at hsp ⊢
                by_cases hj : j = 0 <;> simp [hj]
          refine ⟨d, ⟨c, hlen, fun j hj => ?_, h2⟩, h3⟩
          have h5 := hcell j (by omega)
          rw [List.getElem?_eq_getElem hj] at h5
          rcases hoff j with h6 | h6
          · rw [h6] at h5; cases h5
          · rw [h6] at h5; exact h5
        obtain ⟨ds, hdl, hd⟩ := exists_list len each
        refine ⟨.lst (P.cellsOf e) ds, ?_, by simp only [HasT]; exact ⟨e, hu, rfl, hasTL_of ds fun i hi => (hd i hi).2⟩⟩
        simp only [RdC]
        refine ⟨some a, cap, by rw [hdl], by omega, hcm, ?_⟩
        by_cases h0 : len = 0
        · left; exact List.length_eq_zero_iff.1 (by omega)
        · right
          obtain ⟨c, hcl, hc, _⟩ := (hd 0 (by omega)).1
          have hc0 := hc 0 (by omega)
          have hsp : a.spot = none := by
            have h1 := hel 0 (by omega)
            rw [List.getElem?_eq_getElem (by omega), Option.bind_eq_some_iff] at h1
            obtain ⟨c', hc', _⟩ := h1
            have h2 := (World.cells?_some hc').2.2 0 hpt.2
            have h3 := (World.cells?_some hc').2.1
            rw [List.getElem?_eq_getElem (by omega)] at h2
            simp only [Nat.zero_mul, Addr.add, if_true] at h2
            unfold World.cell? at h2
            split at h2
            · split at h2
              · cases h2
              · rename_i hs; simpa using hs
            · cases h2
          have hblk : a.block < W.heap.size := by
            simp only [Nat.zero_mul, Nat.add_zero] at hc0
            unfold World.cell? at hc0
            split at hc0
            · rename_i hq; exact (Array.getElem?_eq_some_iff.1 hq).1
            · cases hc0
          exact ⟨a.block, a.off, by cases a; simp_all, trivial, hblk, RdL.of fun i hi => (hd i hi).1⟩
    · rename_i fs hu
      simp only [Bool.and_eq_true, decide_eq_true_eq, List.all_eq_true] at hpt
      obtain ⟨xs, n', hn', _, hlen, hxl, hfs⟩ := DataW.trod_struct hu h
      have hnn : n' = n := by omega
      subst hnn
      obtain ⟨ds, h1, h2⟩ := fields_rd (cs := cs) ih fs.toList 0 (by rw [hlen]; exact hpt.2) (fun f hf => by simpa using hpt.1 f hf) (fun f hf => by
        obtain ⟨i, hi⟩ := List.getElem?_of_mem hf
        have hi' : fs[i]? = some f := by simpa using hi
        have hil : i < fs.size := (Array.getElem?_eq_some_iff.1 hi').1
        exact ⟨xs[i], by rw [hfs i f hi']; exact List.getElem?_eq_getElem (by omega)⟩)
      exact ⟨.agg ds, by simpa [RdC] using h1, by simp only [HasT]; exact ⟨fs, hu, h2⟩⟩
    · cases hpt
theorem arg_struct {ts : List TypeId} {t : TypeId} {fs : Array Field} {v : Value} {d : DataW H} {ps : List MemPlace} {base : Nat} (hp : (ts.all (plain1 P ts)) = true) (ht : t ∈ ts) (hu : P.underlying t = some (.struct fs)) (hval : Value.okWide P W .any base t v)
    (h : DataW.Trod enc P W 0 (fun _ => true) true t v d ps) : ∃ dd, Rd W Univ dd v ∧ HasT P dd t := by
  obtain ⟨n, h⟩ := h
  obtain ⟨dd, h1, h2⟩ := trod_rd hp n t _ _ ht h
  refine ⟨dd, ⟨_, h1, ?_⟩, h2⟩
  unfold Value.okWide at hval
  rw [hu] at hval
  obtain ⟨cs, rfl, _⟩ := hval
  cases dd with
  | agg xs => simp [asm, Value.cells]
  | bool b => simp [HasT, hu] at h2
  | int k m => simp [HasT, hu] at h2
  | str s => simp [HasT, hu] at h2
  | lst sz xs => simp [HasT, hu] at h2
theorem hasT_strs {t : TypeId} (hs : P.underlying t = some .string) : ∀ xs : List D, HasTL P xs t → ∃ ns : List ByteArray, xs = ns.map D.str
  | [], _ => ⟨[], rfl⟩
  | x :: xs, h => by
    simp only [HasTL] at h
    obtain ⟨ns, rfl⟩ := hasT_strs hs xs h.2
    cases x with
    | str s => exact ⟨s :: ns, rfl⟩
    | bool b => simp [HasT, hs] at h
    | int k m => simp [HasT, hs] at h
    | lst sz xs => simp [HasT, hs] at h
    | agg xs => simp [HasT, hs] at h
structure VT (P : Program) (tV tK tN tS tNs tXs : TypeId) : Prop where
  v : ((P.underlying tV).bind fun | .struct fs => some (fs.toList.map (·.type)) | _ => none) = some [tK, tN, tS, tNs, tXs]
  k : P.underlying tK = some (.int .u8)
  n : P.underlying tN = some (.int .i64)
  s : P.underlying tS = some .string
  ns : P.underlying tNs = some (.slice tS)
  xs : P.underlying tXs = some (.slice tV)
  c1 : P.cellsOf tS = 1
  c5 : P.cellsOf tV = 5
theorem hasT_int {t : TypeId} {k : IntKind} (hu : P.underlying t = some (.int k)) : ∀ d : D, HasT P d t → ∃ n, d = .int k n ∧ (Lit.int k n).wf = true
  | .int k' n, h => by simp only [HasT, hu, Option.some.injEq, TypeDesc.int.injEq] at h; obtain ⟨rfl, h⟩ := h; exact ⟨n, rfl, h⟩
  | .bool b, h => by simp [HasT, hu] at h
  | .str s, h => by simp [HasT, hu] at h
  | .lst sz xs, h => by simp [HasT, hu] at h
  | .agg xs, h => by simp [HasT, hu] at h
theorem hasT_str {t : TypeId} (hu : P.underlying t = some .string) : ∀ d : D, HasT P d t → ∃ s, d = .str s ∧ s.size ≤ maxLen
  | .str s, h => by simp only [HasT] at h; exact ⟨s, rfl, h.2⟩
  | .bool b, h => by simp [HasT, hu] at h
  | .int k n, h => by simp [HasT, hu] at h
  | .lst sz xs, h => by simp [HasT, hu] at h
  | .agg xs, h => by simp [HasT, hu] at h
theorem hasT_lst {t e : TypeId} (hu : P.underlying t = some (.slice e)) : ∀ d : D, HasT P d t → ∃ xs, d = .lst (P.cellsOf e) xs ∧ HasTL P xs e
  | .lst sz xs, h => by
    simp only [HasT, hu, Option.some.injEq, TypeDesc.slice.injEq] at h
    obtain ⟨e', rfl, rfl, h⟩ := h
    exact ⟨xs, rfl, h⟩
  | .bool b, h => by simp [HasT, hu] at h
  | .int k n, h => by simp [HasT, hu] at h
  | .str s, h => by simp [HasT, hu] at h
  | .agg xs, h => by simp [HasT, hu] at h
theorem hasT_agg {t : TypeId} {ts : List TypeId} (hu : ((P.underlying t).bind fun | .struct fs => some (fs.toList.map (·.type)) | _ => none) = some ts) : ∀ d : D, HasT P d t → ∃ xs, d = .agg xs ∧ HasTF P xs ts
  | .agg xs, h => by
    simp only [HasT] at h
    obtain ⟨fs, h1, h2⟩ := h
    rw [h1] at hu
    simp only [Option.bind_some, Option.some.injEq] at hu
    subst hu
    exact ⟨xs, rfl, h2⟩
  | .bool b, h => by simp only [HasT] at h; rw [h] at hu; simp at hu
  | .int k n, h => by simp only [HasT] at h; rw [h.1] at hu; simp at hu
  | .str s, h => by simp only [HasT] at h; rw [h.1] at hu; simp at hu
  | .lst sz xs, h => by simp only [HasT] at h; obtain ⟨e, h1, _⟩ := h; rw [h1] at hu; simp at hu
theorem hasV {tV tK tN tS tNs tXs : TypeId} (q : VT P tV tK tN tS tNs tXs) : ∀ (n : Nat) (d : D), SizeOf.sizeOf d < n → HasT P d tV → ∃ x : V, d = x.d := by
  intro n
  induction n with
  | zero => intro d h; omega
  | succ n ih =>
    intro d hn h
    obtain ⟨xs, rfl, hf⟩ := hasT_agg q.v d h
    match xs, hf with
    | [a, b, c, e, f], hf =>
      simp only [HasTF] at hf
      obtain ⟨ha, hb, hc, he, hf, -⟩ := hf
      obtain ⟨k, rfl, hk⟩ := hasT_int q.k _ ha
      obtain ⟨m, rfl, hm⟩ := hasT_int q.n _ hb
      obtain ⟨t, rfl, _⟩ := hasT_str q.s _ hc
      obtain ⟨l1, rfl, h1⟩ := hasT_lst q.ns _ he
      obtain ⟨l2, rfl, h2⟩ := hasT_lst q.xs _ hf
      obtain ⟨ns, rfl⟩ := hasT_strs q.s l1 h1
      have key : ∀ l : List D, SizeOf.sizeOf l < n → HasTL P l tV → ∃ ys : List V, l = ys.map V.d := by
        intro l
        induction l with
        | nil => intro _ _; exact ⟨[], rfl⟩
        | cons x l ihl =>
          intro hl hx
          simp only [HasTL] at hx
          simp only [List.cons.sizeOf_spec] at hl
          obtain ⟨y, rfl⟩ := ih x (by omega) hx.1
          obtain ⟨ys, rfl⟩ := ihl (by omega) hx.2
          exact ⟨y :: ys, rfl⟩
      obtain ⟨ys, rfl⟩ := key l2 (by
        simp only [D.agg.sizeOf_spec, List.cons.sizeOf_spec, D.lst.sizeOf_spec] at hn
        omega) h2
      refine ⟨V.mk k.toNat m t ns ys, ?_⟩
      have hk0 : (k.toNat : Int) = k := by
        simp only [Lit.wf, Bool.and_eq_true, decide_eq_true_eq] at hk
        have h0 : IntKind.min .u8 = 0 := by decide
        have : (0 : Int) ≤ k := by have := hk.1; rw [h0] at this; exact this
        omega
      rw [V.d_eq]
      simp only [V.k, V.n, V.t, V.ns, V.xs, hk0, q.c1, q.c5, strsD, valsD]
    | [], hf => simp [HasTF] at hf
    | [_], hf => simp [HasTF] at hf
    | [_, _], hf => simp [HasTF] at hf
    | [_, _, _], hf => simp [HasTF] at hf
    | [_, _, _, _], hf => simp [HasTF] at hf
    | _ :: _ :: _ :: _ :: _ :: _ :: _, hf => simp [HasTF] at hf
theorem arg_V {tV tK tN tS tNs tXs : TypeId} (q : VT P tV tK tN tS tNs tXs) {ts : List TypeId} {fs : Array Field} {v : Value} {d : DataW H} {ps : List MemPlace} {base : Nat} (hp : (ts.all (plain1 P ts)) = true) (ht : tV ∈ ts) (hu : P.underlying tV = some (.struct fs)) (hval : Value.okWide P W .any base tV v)
    (h : DataW.Trod enc P W 0 (fun _ => true) true tV v d ps) : ∃ x : V, Rd W Univ x.d v := by
  obtain ⟨dd, h1, h2⟩ := arg_struct hp ht hu hval h
  obtain ⟨x, rfl⟩ := hasV q _ dd (Nat.lt_succ_self _) h2
  exact ⟨x, h1⟩
theorem trodAll_stays (hl : laidOutB P = true) {W' : World} (hb : Below W.heap.size W W') : ∀ (ts : List TypeId) (vs : List Value) (ds : List (DataW H)) (ps : List MemPlace), (∀ t ∈ ts, P.readableRec t = true ∧ t < P.types.size) → (∀ x ∈ ps, x.block < W.heap.size) →
    DataW.TrodAll enc P W 0 (fun _ => true) true ts vs ds ps → DataW.TrodAll enc P W' 0 (fun b => decide (b < W.heap.size)) true ts vs ds ps
  | [], [], [], _, _, _, h => h
  | t :: ts, v :: vs, d :: ds, ps, ht, hlt, h => by
    obtain ⟨p, q, h1, h2, rfl⟩ := h
    exact ⟨p, q, Below.trod hl (ht t List.mem_cons_self).1 (ht t List.mem_cons_self).2 h1 hb (fun x hx => hlt x (List.mem_append_left _ hx)),
      trodAll_stays hl hb ts vs ds q (fun t h => ht t (List.mem_cons_of_mem _ h)) (fun x hx => hlt x (List.mem_append_right _ hx)) h2, rfl⟩
  | [], [], _ :: _, _, _, _, h => h.elim
  | [], _ :: _, _, _, _, _, h => h.elim
  | _ :: _, [], _, _, _, _, h => h.elim
  | _ :: _, _ :: _, [], _, _, _, h => h.elim
theorem law_post {f : Func} {s : ChangeSpec} {W' : World} {args : Array Value} {ds gs : List (DataW H)} {before : List MemPlace} {tb : TypeId} (hl : laidOutB P = true) (hpar : ∀ t ∈ f.params.toList, P.readableRec t = true ∧ t < P.types.size)
    (hvars : s.vars = []) (hrt : f.resultTypes = #[tb]) (hb : P.underlying tb = some .bool) (hfn : s.fn H (ds ++ gs) = { results := [.lit (.bool true)], args := ds })
    (hW : DataW.Whole enc P f.params.toList s.vars false W args.toList ds gs before) (hk : Ext W W') : s.post enc P f false true false false W args (.bool true) W' := by
  have hlt := hW.lt
  have hW' := hW
  obtain ⟨p, q, hA, hV, rfl, hfz, hnd⟩ := hW
  have hbel : Below W.heap.size W W' := ⟨hk.os, hk.tape, hk.output, hk.size, fun k h => hk.block k h trivial⟩
  refine ⟨ds, gs, p ++ q, [], p, [], hW', ?_, ?_, ?_, ?_, fun h => by cases h⟩
  · rw [hfn, hrt]
    exact ⟨[], [], ⟨1, by simp [Value.resultList, Value.cells, DataW.trod, hb]⟩, rfl, rfl⟩
  · rw [hfn]
    exact trodAll_stays hl hbel _ _ _ _ hpar (fun x hx => hlt x (List.mem_append_left _ hx)) hA
  · rw [hfn, hvars]; rfl
  · refine ⟨hk.os, hk.output, fun i hi => ?_⟩
    rw [hk.block i hi trivial]
    cases hq : W.heap[i]? with
    | none => rfl
    | some o => cases o <;> simp
end
end Go.Eng
namespace Go.Eng
open Go.ChangeShapes Go.WideShapes Go.ChangeAt Go.RowKit
theorem arg_slice {H : Type} {enc : TypeId × Value → H} {P : Program} {W : World} {ts : List TypeId} {t e : TypeId} {v : Value} {d : DataW H} {ps : List MemPlace} {base : Nat} (hp : (ts.all (plain1 P ts)) = true) (ht : t ∈ ts) (hu : P.underlying t = some (.slice e)) (hval : Value.okWide P W .any base t v)
    (h : DataW.Trod enc P W 0 (fun _ => true) true t v d ps) : ∃ dd, Rd W Univ dd v ∧ HasT P dd t := by
  obtain ⟨n, h⟩ := h
  obtain ⟨dd, h1, h2⟩ := trod_rd hp n t _ _ ht h
  refine ⟨dd, ⟨_, h1, ?_⟩, h2⟩
  unfold Value.okWide at hval
  rw [hu] at hval
  simp only [Cell.okWide, hu, Cell.ok] at hval
  have hc : v.cells.toList = [v] := by
    cases v <;> first | rfl | (exfalso; simp at hval)
  rw [hc]
  cases dd with
  | agg xs => simp [HasT, hu] at h2
  | bool b => rfl
  | int k m => rfl
  | str s => rfl
  | lst sz xs => rfl
structure HsT (P : Program) (tL tH tS : TypeId) : Prop where
  l : P.underlying tL = some (.slice tH)
  v : ((P.underlying tH).bind fun | .struct fs => some (fs.toList.map (·.type)) | _ => none) = some [tS, tS]
  s : P.underlying tS = some .string
  c : P.cellsOf tH = 2
theorem hasHs {P : Program} {tL tH tS : TypeId} (q : HsT P tL tH tS) (d : D) (h : HasT P d tH) : ∃ a : Hs, d = a.d := by
  obtain ⟨xs, rfl, hf⟩ := hasT_agg q.v d h
  match xs, hf with
  | [a, b], hf =>
    simp only [HasTF] at hf
    obtain ⟨ha, hb, -⟩ := hf
    obtain ⟨s, rfl, _⟩ := hasT_str q.s _ ha
    obtain ⟨t, rfl, _⟩ := hasT_str q.s _ hb
    exact ⟨⟨s, t⟩, rfl⟩
  | [], hf => simp [HasTF] at hf
  | [_], hf => simp [HasTF] at hf
  | _ :: _ :: _ :: _, hf => simp [HasTF] at hf
theorem hasHss {P : Program} {tL tH tS : TypeId} (q : HsT P tL tH tS) : ∀ (xs : List D), HasTL P xs tH → ∃ l : List Hs, xs = l.map Hs.d
  | [], _ => ⟨[], rfl⟩
  | x :: xs, h => by
    simp only [HasTL] at h
    obtain ⟨a, rfl⟩ := hasHs q x h.1
    obtain ⟨l, rfl⟩ := hasHss q xs h.2
    exact ⟨a :: l, rfl⟩
theorem arg_Hss {H : Type} {enc : TypeId × Value → H} {P : Program} {W : World} {tL tH tS : TypeId} (q : HsT P tL tH tS) {ts : List TypeId} {e : TypeId} {v : Value} {d : DataW H} {ps : List MemPlace} {base : Nat} (hp : (ts.all (plain1 P ts)) = true) (ht : tL ∈ ts) (hu : P.underlying tL = some (.slice e)) (hval : Value.okWide P W .any base tL v)
    (h : DataW.Trod enc P W 0 (fun _ => true) true tL v d ps) : ∃ l : List Hs, Rd W Univ (hssD l) v := by
  obtain ⟨dd, h1, h2⟩ := arg_slice hp ht hu hval h
  obtain ⟨xs, rfl, h3⟩ := hasT_lst q.l dd h2
  obtain ⟨l, rfl⟩ := hasHss q xs h3
  exact ⟨l, by rw [q.c] at h1; exact h1⟩
end Go.Eng
