/-
  The law RecordHashes of package legatelaw21 returns true for every input, and leaves its arguments as they were. No condition beyond the row's own.
-/
import Derived.Test.YtnobijngkpflcaaGreatRs3
namespace Go.Proofs.YtnobijngkpflcaaGreat
open Go.Eng
set_option maxRecDepth 100000 in
theorem object1_ok (x : V) (most : Int) (w : World) (S : BSet) (v : Value) (bq : Nat) (hv : Rd w S x.d v) (own_bq : Own w bq [.int .i64 most] 3) : Calls Tryz.prog 60 #[v, .pointer (some ⟨bq, 0, none⟩)] w (Ret w fun r W => ∃ r1, r = .tuple #[r1, .int .i64 (obE most x)] ∧ Rd W (Ar w S) (V.d (obV most x)) r1) := by
 obtain ⟨cn0a, cn0c, ci0a, ci0c, ev, ht0, D_cn0, D_ci0⟩ := rdV_out (rd_arg hv)
 subst ev
 refine enter Tryz.func60 rfl Tryz.ntmps60 (lbr rfl) fun a0 y0 zz0 harg => ?_
 have e0 : sl a0 0 = (.agg #[(.int .u8 (x.k)), (.int .i64 (x.n)), (.string (x.t)), (.slice cn0a (x.ns.length) cn0c), (.slice ci0a (x.xs.length) ci0c)]) := harg 0 (lbr rfl)
 have e1 : sl a0 1 = (.pointer (some ⟨bq, 0, none⟩)) := harg 1 (lbr rfl)
 have kw := Keeps.refl All w
 clear harg
 refine zq fun K1 hK1 => ?_
 refine rg mixed y0 zz0 ?_
 refine .boxOp (v := (.agg #[(.int .u8 (x.k)), (.int .i64 (x.n)), (.string (x.t)), (.slice cn0a (x.ns.length) cn0c), (.slice ci0a (x.xs.length) ci0c)])) (hbs rfl e0) ?_
 refine .alloc z26 ?_
 refine .ac ?_
 refine .dn fun a2 g W2 y2 zz2 hk hg hV hR hP => ?_
 obtain ⟨-, ⟨b3_2, e3, hb3, own_b3_2⟩, ⟨b2_2, e2, hb2, own_b2_2⟩, -⟩ := hV
 have lo_b3_2 : w.heap.size ≤ b3_2 := Nat.le_trans kw.size (hg.lo _ _ hb3)
 have ne_bq_b3_2 : bq ≠ b3_2 := Nat.ne_of_lt (Nat.lt_of_lt_of_le own_bq.lt (hg.lo _ _ hb3))
 have own_b3_2 : Own W2 b3_2 [(.int .u8 (0)), (.int .i64 (0)), (.string (⟨#[]⟩)), (.slice none 0 0), (.slice none 0 0)] 26 := own_b3_2
 have lo_b2_2 : w.heap.size ≤ b2_2 := Nat.le_trans kw.size (hg.lo _ _ hb2)
 have ne_bq_b2_2 : bq ≠ b2_2 := Nat.ne_of_lt (Nat.lt_of_lt_of_le own_bq.lt (hg.lo _ _ hb2))
 have own_b2_2 : Own W2 b2_2 [(.int .u8 (x.k)), (.int .i64 (x.n)), (.string (x.t)), (.slice cn0a (x.ns.length) cn0c), (.slice ci0a (x.xs.length) ci0c)] 26 := own_b2_2
 have ne_b3_2_b2_2 : b3_2 ≠ b2_2 := fun h => by have := hg.inj _ _ _ hb3 (h ▸ hb2); cases this
 replace e1 := ft hR e1
 replace D_cn0 := sa_more D_cn0 hk [b3_2, b2_2] (in_cons (hg.lo _ _ hb3) (in_cons (hg.lo _ _ hb2) in_nil))
 replace D_ci0 := sa_more D_ci0 hk [b3_2, b2_2] (in_cons (hg.lo _ _ hb3) (in_cons (hg.lo _ _ hb2) in_nil))
 replace own_bq := own_bq.ext hk
 replace kw := kw.x hk
 clear hR hk hg hP hb3 hb2
 refine zn (hK1 _ _ ?_)
 refine zq fun K3 hK3 => ?_
 refine zq fun K4 hK4 => ?_
 refine rg mixed y2 zz2 ?_
 refine .i (fo 0 (hbs rfl e2) Tryz.underlying26 rfl sz5 rfl) ?_
 refine .i (lo1 (hlc rfl) own_b2_2 trivial agg5 sz5 rfl) ?_
 refine .i (sp_neq (hlc rfl) Has.cst) ?_
 refine .dn fun a5 g W5 y5 zz5 hk hg hV hR hP => ?_
 obtain ⟨e7, -, -, -⟩ := hV
 replace e1 := ft hR e1
 replace e3 := ft hR e3
 replace e2 := ft hR e2
 replace D_cn0 := D_cn0.ext hk
 replace D_ci0 := D_ci0.ext hk
 replace e7 := e7.q
 replace own_bq := own_bq.ext hk
 replace own_b3_2 := own_b3_2.ext hk
 replace own_b2_2 := own_b2_2.ext hk
 replace kw := kw.x hk
 clear hR hk hg hP
 refine zn (hK4 _ _ ?_)
 refine zc e7 (fun hc => ?_) (fun hc => ?_)
 ·
  have hk : x.k ≠ 5 := by simp at hc; omega
  have hf : obE most x = 10 := by rw [obE, if_pos hk]
  have hv2 : obV most x = ⟨0, 0, ⟨#[]⟩, [], []⟩ := by rw [obV, hf]; rfl
  refine zq fun K6 hK6 => ?_
  refine rg mixed y5 zz5 ?_
  refine .i (v := (.agg #[(.int .u8 (0)), (.int .i64 (0)), (.string (⟨#[]⟩)), (.slice none 0 0), (.slice none 0 0)])) (sp_build (vs := []) Tryz.underlying26 z26 (pl26 Tryz.underlying26) trivial rfl) ?_
  refine .dn fun a7 g W7 y7 zz7 hk hg hV hR hP => ?_
  obtain ⟨e8, -⟩ := hV
  replace e3 := ft hR e3
  replace D_cn0 := D_cn0.ext hk
  replace D_ci0 := D_ci0.ext hk
  replace e8 := e8.q
  replace own_bq := own_bq.ext hk
  replace own_b3_2 := own_b3_2.ext hk
  replace own_b2_2 := own_b2_2.ext hk
  replace kw := kw.x hk
  clear hR hk hg hP
  refine tail_store e3 e8 sz26 rfl own_b3_2 (lbr rfl) (all_cons rfl (all_cons rfl (all_cons rfl (all_cons rfl (all_cons rfl all_nil))))) (fun W8 hs own_b3_2 => ?_)
  have own_b3_2 : Own W8 b3_2 [(.int .u8 (0)), (.int .i64 (0)), (.string (⟨#[]⟩)), (.slice none 0 0), (.slice none 0 0)] 26 := own_b3_2
  replace own_bq := own_store own_bq hs ne_bq_b3_2
  replace own_b2_2 := own_store own_b2_2 hs ne_b3_2_b2_2.symm
  replace D_cn0 := sa_store D_cn0 hs (by simp)
  replace D_ci0 := sa_store D_ci0 hs (by simp)
  replace kw := keeps_store kw hs lo_b3_2
  clear hs
  refine tail_assign (v := (.int .i64 (10))) rfl (by rw [y7]; exact Nat.le_of_ble_eq_true rfl) (fun a9 y9 zz9 e4 hr => ?_)
  replace y9 := y9.trans y7; replace zz9 := zz9.trans zz7
  replace e3 := (hr 3 (by decide)).trans e3
  replace e8 := (hr 8 (by decide)).trans e8
  clear hr
  refine zn (hK6 _ _ ?_)
  refine wp_ret ?_
  refine retCT (v := (.agg #[(.int .u8 (0)), (.int .i64 (0)), (.string (⟨#[]⟩)), (.slice none 0 0), (.slice none 0 0)])) rfl zz9 e3 own_b3_2 agg26 sz26 rfl (fun h => by cases h) rfl e4 ⟨_, rfl, kw, ?_⟩
  refine ⟨_, by rw [hf], ?_⟩
  rw [hv2]
  exact sa_ar (rdV_mk (lbr rfl) (rd_nil _) (rd_nil _) : Rd W8 (SA w S [b3_2, b2_2]) (V.d (V.mk (0) (0) (⟨#[]⟩) ([]) ([]))) _)
 have hk : ¬ x.k ≠ 5 := by simp at hc; omega
 refine wp_skip (hK3 _ _ ?_)
 refine zq fun K10 hK10 => ?_
 refine zq fun K11 hK11 => ?_
 refine rg mixed y5 zz5 ?_
 refine .i (fo 4 (hbs rfl e2) Tryz.underlying26 rfl sz24 rfl) ?_
 refine .i (lo1 (hlc rfl) own_b2_2 trivial agg24 sz24 rfl) ?_
 refine .i (sp_lenVs Tryz.underlying24 ((hlc rfl).dat D_ci0 sub_all)) ?_
 refine .i (lo1 (hbs rfl e1) own_bq trivial agg3 sz3 rfl) ?_
 refine .i (sp_gtr (hlc rfl) (hlc rfl)) ?_
 refine .dn fun a12 g W12 y12 zz12 hk hg hV hR hP => ?_
 obtain ⟨e13, -, -, -, -, -⟩ := hV
 replace e3 := ft hR e3
 replace e2 := ft hR e2
 replace D_cn0 := D_cn0.ext hk
 replace D_ci0 := D_ci0.ext hk
 replace e13 := e13.q
 replace own_bq := own_bq.ext hk
 replace own_b3_2 := own_b3_2.ext hk
 replace own_b2_2 := own_b2_2.ext hk
 replace kw := kw.x hk
 clear hR hk hg hP
 refine zn (hK11 _ _ ?_)
 refine zc e13 (fun hc => ?_) (fun hc => ?_)
 ·
  have hl : most < x.xs.length := of_decide_eq_true hc
  have hf : obE most x = 5 := by rw [obE, if_neg hk, if_pos hl]
  have hv2 : obV most x = ⟨0, 0, ⟨#[]⟩, [], []⟩ := by rw [obV, hf]; rfl
  refine zq fun K13 hK13 => ?_
  refine rg mixed y12 zz12 ?_
  refine .i (v := (.agg #[(.int .u8 (0)), (.int .i64 (0)), (.string (⟨#[]⟩)), (.slice none 0 0), (.slice none 0 0)])) (sp_build (vs := []) Tryz.underlying26 z26 (pl26 Tryz.underlying26) trivial rfl) ?_
  refine .dn fun a14 g W14 y14 zz14 hk hg hV hR hP => ?_
  obtain ⟨e14, -⟩ := hV
  replace e3 := ft hR e3
  replace D_cn0 := D_cn0.ext hk
  replace D_ci0 := D_ci0.ext hk
  replace e14 := e14.q
  replace own_bq := own_bq.ext hk
  replace own_b3_2 := own_b3_2.ext hk
  replace own_b2_2 := own_b2_2.ext hk
  replace kw := kw.x hk
  clear hR hk hg hP
  refine tail_store e3 e14 sz26 rfl own_b3_2 (lbr rfl) (all_cons rfl (all_cons rfl (all_cons rfl (all_cons rfl (all_cons rfl all_nil))))) (fun W15 hs own_b3_2 => ?_)
  have own_b3_2 : Own W15 b3_2 [(.int .u8 (0)), (.int .i64 (0)), (.string (⟨#[]⟩)), (.slice none 0 0), (.slice none 0 0)] 26 := own_b3_2
  replace own_bq := own_store own_bq hs ne_bq_b3_2
  replace own_b2_2 := own_store own_b2_2 hs ne_b3_2_b2_2.symm
  replace D_cn0 := sa_store D_cn0 hs (by simp)
  replace D_ci0 := sa_store D_ci0 hs (by simp)
  replace kw := keeps_store kw hs lo_b3_2
  clear hs
  refine tail_assign (v := (.int .i64 (5))) rfl (by rw [y14]; exact Nat.le_of_ble_eq_true rfl) (fun a16 y16 zz16 e4 hr => ?_)
  replace y16 := y16.trans y14; replace zz16 := zz16.trans zz14
  replace e3 := (hr 3 (by decide)).trans e3
  replace e14 := (hr 14 (by decide)).trans e14
  clear hr
  refine zn (hK13 _ _ ?_)
  refine wp_ret ?_
  refine retCT (v := (.agg #[(.int .u8 (0)), (.int .i64 (0)), (.string (⟨#[]⟩)), (.slice none 0 0), (.slice none 0 0)])) rfl zz16 e3 own_b3_2 agg26 sz26 rfl (fun h => by cases h) rfl e4 ⟨_, rfl, kw, ?_⟩
  refine ⟨_, by rw [hf], ?_⟩
  rw [hv2]
  exact sa_ar (rdV_mk (lbr rfl) (rd_nil _) (rd_nil _) : Rd W15 (SA w S [b3_2, b2_2]) (V.d (V.mk (0) (0) (⟨#[]⟩) ([]) ([]))) _)
 have hl : ¬ most < x.xs.length := of_decide_eq_false hc
 have hf : obE most x = 0 := by rw [obE, if_neg hk, if_neg hl]
 have hv2 : obV most x = x := by rw [obV, if_pos hf]
 refine wp_skip (hK10 _ _ ?_)
 refine zq fun K17 hK17 => ?_
 refine rg mixed y12 zz12 ?_
 refine .i (v := (.agg #[(.int .u8 (x.k)), (.int .i64 (x.n)), (.string (x.t)), (.slice cn0a (x.ns.length) cn0c), (.slice ci0a (x.xs.length) ci0c)])) (loA (hbs rfl e2) own_b2_2 trivial agg26 sz26 rfl rfl) ?_
 refine .dn fun a18 g W18 y18 zz18 hk hg hV hR hP => ?_
 obtain ⟨e15, -⟩ := hV
 replace e3 := ft hR e3
 replace D_cn0 := D_cn0.ext hk
 replace D_ci0 := D_ci0.ext hk
 replace e15 := e15.q
 replace own_bq := own_bq.ext hk
 replace own_b3_2 := own_b3_2.ext hk
 replace own_b2_2 := own_b2_2.ext hk
 replace kw := kw.x hk
 clear hR hk hg hP
 refine tail_store e3 e15 sz26 rfl own_b3_2 (lbr rfl) (all_cons rfl (all_cons rfl (all_cons rfl (all_cons rfl (all_cons rfl all_nil))))) (fun W19 hs own_b3_2 => ?_)
 have own_b3_2 : Own W19 b3_2 [(.int .u8 (x.k)), (.int .i64 (x.n)), (.string (x.t)), (.slice cn0a (x.ns.length) cn0c), (.slice ci0a (x.xs.length) ci0c)] 26 := own_b3_2
 replace own_bq := own_store own_bq hs ne_bq_b3_2
 replace own_b2_2 := own_store own_b2_2 hs ne_b3_2_b2_2.symm
 replace D_cn0 := sa_store D_cn0 hs (by simp)
 replace D_ci0 := sa_store D_ci0 hs (by simp)
 replace kw := keeps_store kw hs lo_b3_2
 clear hs
 refine tail_assign (v := (.int .i64 (0))) rfl (by rw [y18]; exact Nat.le_of_ble_eq_true rfl) (fun a20 y20 zz20 e4 hr => ?_)
 replace y20 := y20.trans y18; replace zz20 := zz20.trans zz18
 replace e3 := (hr 3 (by decide)).trans e3
 replace e15 := (hr 15 (by decide)).trans e15
 clear hr
 refine zn (hK17 _ _ ?_)
 refine wp_ret ?_
 refine retCT (v := (.agg #[(.int .u8 (x.k)), (.int .i64 (x.n)), (.string (x.t)), (.slice cn0a (x.ns.length) cn0c), (.slice ci0a (x.xs.length) ci0c)])) rfl zz20 e3 own_b3_2 agg26 sz26 rfl (fun h => by cases h) rfl e4 ⟨_, rfl, kw, ?_⟩
 refine ⟨_, by rw [hf], ?_⟩
 rw [hv2]
 exact sa_ar (rdV_in (x := x) ht0 D_cn0 D_ci0 : Rd W19 (SA w S [b3_2, b2_2]) (V.d (x)) _)
set_option maxRecDepth 100000 in
theorem any1_ok (x : V) (w : World) (S : BSet) (v : Value) (hv : Rd w S x.d v) : Calls Tryz.prog 63 #[v] w (Ret w fun r W => ∃ r1, r = .tuple #[r1, .int .i64 (anyE x)] ∧ Rd W (Ar w S) (V.d (x)) r1) := by
 have hf : anyE x = 0 := rfl
 have hv2 : x = x := rfl
 obtain ⟨cn0a, cn0c, ci0a, ci0c, ev, ht0, D_cn0, D_ci0⟩ := rdV_out (rd_arg hv)
 subst ev
 refine enter Tryz.func63 rfl Tryz.ntmps63 (lbr rfl) fun a0 y0 zz0 harg => ?_
 have e0 : sl a0 0 = (.agg #[(.int .u8 (x.k)), (.int .i64 (x.n)), (.string (x.t)), (.slice cn0a (x.ns.length) cn0c), (.slice ci0a (x.xs.length) ci0c)]) := harg 0 (lbr rfl)
 have kw := Keeps.refl All w
 clear harg
 refine zq fun K1 hK1 => ?_
 refine rg mixed y0 zz0 ?_
 refine .boxOp (v := (.agg #[(.int .u8 (x.k)), (.int .i64 (x.n)), (.string (x.t)), (.slice cn0a (x.ns.length) cn0c), (.slice ci0a (x.xs.length) ci0c)])) (hbs rfl e0) ?_
 refine .alloc z26 ?_
 refine .ac ?_
 refine .dn fun a2 g W2 y2 zz2 hk hg hV hR hP => ?_
 obtain ⟨-, ⟨b2_2, e2, hb2, own_b2_2⟩, ⟨b1_2, e1, hb1, own_b1_2⟩, -⟩ := hV
 have lo_b2_2 : w.heap.size ≤ b2_2 := Nat.le_trans kw.size (hg.lo _ _ hb2)
 have own_b2_2 : Own W2 b2_2 [(.int .u8 (0)), (.int .i64 (0)), (.string (⟨#[]⟩)), (.slice none 0 0), (.slice none 0 0)] 26 := own_b2_2
 have lo_b1_2 : w.heap.size ≤ b1_2 := Nat.le_trans kw.size (hg.lo _ _ hb1)
 have own_b1_2 : Own W2 b1_2 [(.int .u8 (x.k)), (.int .i64 (x.n)), (.string (x.t)), (.slice cn0a (x.ns.length) cn0c), (.slice ci0a (x.xs.length) ci0c)] 26 := own_b1_2
 have ne_b2_2_b1_2 : b2_2 ≠ b1_2 := fun h => by have := hg.inj _ _ _ hb2 (h ▸ hb1); cases this
 replace D_cn0 := sa_more D_cn0 hk [b2_2, b1_2] (in_cons (hg.lo _ _ hb2) (in_cons (hg.lo _ _ hb1) in_nil))
 replace D_ci0 := sa_more D_ci0 hk [b2_2, b1_2] (in_cons (hg.lo _ _ hb2) (in_cons (hg.lo _ _ hb1) in_nil))
 replace kw := kw.x hk
 clear hR hk hg hP hb2 hb1
 refine zn (hK1 _ _ ?_)
 refine zq fun K3 hK3 => ?_
 refine rg mixed y2 zz2 ?_
 refine .i (v := (.agg #[(.int .u8 (x.k)), (.int .i64 (x.n)), (.string (x.t)), (.slice cn0a (x.ns.length) cn0c), (.slice ci0a (x.xs.length) ci0c)])) (loA (hbs rfl e1) own_b1_2 trivial agg26 sz26 rfl rfl) ?_
 refine .dn fun a4 g W4 y4 zz4 hk hg hV hR hP => ?_
 obtain ⟨e4, -⟩ := hV
 replace e2 := ft hR e2
 replace D_cn0 := D_cn0.ext hk
 replace D_ci0 := D_ci0.ext hk
 replace e4 := e4.q
 replace own_b2_2 := own_b2_2.ext hk
 replace own_b1_2 := own_b1_2.ext hk
 replace kw := kw.x hk
 clear hR hk hg hP
 refine tail_store e2 e4 sz26 rfl own_b2_2 (lbr rfl) (all_cons rfl (all_cons rfl (all_cons rfl (all_cons rfl (all_cons rfl all_nil))))) (fun W5 hs own_b2_2 => ?_)
 have own_b2_2 : Own W5 b2_2 [(.int .u8 (x.k)), (.int .i64 (x.n)), (.string (x.t)), (.slice cn0a (x.ns.length) cn0c), (.slice ci0a (x.xs.length) ci0c)] 26 := own_b2_2
 replace own_b1_2 := own_store own_b1_2 hs ne_b2_2_b1_2.symm
 replace D_cn0 := sa_store D_cn0 hs (by simp)
 replace D_ci0 := sa_store D_ci0 hs (by simp)
 replace kw := keeps_store kw hs lo_b2_2
 clear hs
 refine tail_assign (v := (.int .i64 (0))) rfl (by rw [y4]; exact Nat.le_of_ble_eq_true rfl) (fun a6 y6 zz6 e3 hr => ?_)
 replace y6 := y6.trans y4; replace zz6 := zz6.trans zz4
 replace e2 := (hr 2 (by decide)).trans e2
 replace e4 := (hr 4 (by decide)).trans e4
 clear hr
 refine zn (hK3 _ _ ?_)
 refine wp_ret ?_
 refine retCT (v := (.agg #[(.int .u8 (x.k)), (.int .i64 (x.n)), (.string (x.t)), (.slice cn0a (x.ns.length) cn0c), (.slice ci0a (x.xs.length) ci0c)])) rfl zz6 e2 own_b2_2 agg26 sz26 rfl (fun h => by cases h) rfl e3 ⟨_, rfl, kw, ?_⟩
 refine ⟨_, by rw [hf], ?_⟩
 exact sa_ar (rdV_in (x := x) ht0 D_cn0 D_ci0 : Rd W5 (SA w S [b2_2, b1_2]) (V.d (x)) _)
set_option maxRecDepth 100000 in
theorem takeV_ok (x : V) (A : As) (e : Int) (hA : AB 1000000 A) (hx : x.wt ≤ 1073741824) (hxt : x.t.size ≤ maxLen) (name : ByteArray) (fi : FuncId) (cb : Array Value) (ce : V → Int) (fv : V → V) (w : World) (S : BSet) (cn ci : Value) (bo bm : Nat) (hS : ∀ b o, S b o → Cln o) (hM : ∀ b ∈ [bo, bm], ∀ o, ¬ S b o) (hne : bo ≠ bm) (hv : Rd w S (strsD x.ns) cn) (hu : Rd w S (valsD x.xs) ci) (own_bo : Own w bo [.int .u8 x.k, .int .i64 x.n, .string x.t, cn, ci, .map (some bm), .int .i64 (e)] 74) (own_bm : OwnM w bm A) (ef : Enters Tryz.prog fi) (hf : ∀ W, Keeps (fun k => k ∉ [bo, bm]) w W → ∀ (Z : BSet) (y : V) (v : Value), y.wt ≤ 1073741824 → Rd W Z y.d v → Calls Tryz.prog fi (#[v] ++ cb) W (Ret W fun r W2 => ∃ r1, r = .tuple #[r1, .int .i64 (ce y)] ∧ Rd W2 (Ar W Z) (V.d (fv y)) r1)) : Calls Tryz.prog 59 #[.pointer (some ⟨bo, 0, none⟩), .string name, .func (.func fi) #[] cb] w (RetL w [bo, bm] fun u W => Rd W (Fr w) (V.d (if tkB x e name ce then fv (getV x name) else ⟨0, 0, ⟨#[]⟩, [], []⟩)) u ∧ Own W bo [.int .u8 x.k, .int .i64 x.n, .string x.t, cn, ci, .map (some bm), .int .i64 (tkE x e name ce)] 74 ∧ OwnM W bm (tkA x A e name ce)) := by
 have hwx := wt_eq x
 have hwl := wts_len x.xs
 have hwn := wtN_len x.ns
 obtain ⟨cna, cnc, ev, D_cn⟩ := rdS_out (rd_argM (M := [bo, bm]) hv hM)
 subst ev
 obtain ⟨cia, cic, ev, D_ci⟩ := rdVs_out (rd_argM (M := [bo, bm]) hu hM)
 subst ev
 refine enter Tryz.func59 rfl Tryz.ntmps59 (lbr rfl) fun a0 y0 zz0 harg => ?_
 have e0 : sl a0 0 = (.pointer (some ⟨bo, 0, none⟩)) := harg 0 (lbr rfl)
 have e1 : sl a0 1 = (.string (name)) := harg 1 (lbr rfl)
 have e2 : sl a0 2 = (.func (.func fi) #[] cb) := harg 2 (lbr rfl)
 have kw := Keeps.refl (fun k => k ∉ [bo, bm]) w
 clear harg
 refine zq fun K1 hK1 => ?_
 refine rg mixed y0 zz0 ?_
 refine .alloc z26 ?_
 refine .dn fun a2 g W2 y2 zz2 hk hg hV hR hP => ?_
 obtain ⟨⟨b6_2, e6, hb6, own_b6_2⟩, -⟩ := hV
 have lo_b6_2 : w.heap.size ≤ b6_2 := Nat.le_trans kw.size (hg.lo _ _ hb6)
 have ne_bo_b6_2 : bo ≠ b6_2 := Nat.ne_of_lt (Nat.lt_of_lt_of_le own_bo.lt (hg.lo _ _ hb6))
 have ne_bm_b6_2 : bm ≠ b6_2 := Nat.ne_of_lt (Nat.lt_of_lt_of_le own_bm.lt (hg.lo _ _ hb6))
 have own_b6_2 : Own W2 b6_2 [(.int .u8 (0)), (.int .i64 (0)), (.string (⟨#[]⟩)), (.slice none 0 0), (.slice none 0 0)] 26 := own_b6_2
 replace e0 := ft hR e0
 replace e1 := ft hR e1
 replace e2 := ft hR e2
 replace D_cn := sa_more D_cn hk [b6_2] (in_cons (hg.lo _ _ hb6) in_nil)
 replace D_ci := sa_more D_ci hk [b6_2] (in_cons (hg.lo _ _ hb6) in_nil)
 replace own_bo := own_bo.ext hk
 replace own_bm := own_bm.ext hk
 replace kw := kw.x hk
 clear hR hk hg hP hb6
 refine zn (hK1 _ _ ?_)
 refine zq fun K3 hK3 => ?_
 refine rg mixed y2 zz2 ?_
 refine .alloc z26 ?_
 refine .dn fun a4 g W4 y4 zz4 hk hg hV hR hP => ?_
 obtain ⟨⟨b7_4, e7, hb7, own_b7_4⟩, -⟩ := hV
 have lo_b7_4 : w.heap.size ≤ b7_4 := Nat.le_trans kw.size (hg.lo _ _ hb7)
 have ne_bo_b7_4 : bo ≠ b7_4 := Nat.ne_of_lt (Nat.lt_of_lt_of_le own_bo.lt (hg.lo _ _ hb7))
 have ne_bm_b7_4 : bm ≠ b7_4 := Nat.ne_of_lt (Nat.lt_of_lt_of_le own_bm.lt (hg.lo _ _ hb7))
 have ne_b6_2_b7_4 : b6_2 ≠ b7_4 := Nat.ne_of_lt (Nat.lt_of_lt_of_le own_b6_2.lt (hg.lo _ _ hb7))
 have own_b7_4 : Own W4 b7_4 [(.int .u8 (0)), (.int .i64 (0)), (.string (⟨#[]⟩)), (.slice none 0 0), (.slice none 0 0)] 26 := own_b7_4
 replace e0 := ft hR e0
 replace e1 := ft hR e1
 replace e2 := ft hR e2
 replace e6 := ft hR e6
 replace D_cn := sa_more D_cn hk [b7_4] (in_cons (hg.lo _ _ hb7) in_nil)
 replace D_ci := sa_more D_ci hk [b7_4] (in_cons (hg.lo _ _ hb7) in_nil)
 replace own_bo := own_bo.ext hk
 replace own_bm := own_bm.ext hk
 replace own_b6_2 := own_b6_2.ext hk
 replace kw := kw.x hk
 clear hR hk hg hP hb7
 refine zn (hK3 _ _ ?_)
 refine zq fun K5 hK5 => ?_
 refine zq fun K6 hK6 => ?_
 refine rg mixed y4 zz4 ?_
 refine .mb rfl e0 ?_
 refine .i (v := (.int .i64 (errK x.k e))) (sp_call1 (φ1 := Is (.pointer (some ⟨bo, 0, none⟩))) ent61 (hlc rfl) (fun g u1 W hk hgk h1 => by have h1 : u1 = _ := h1; subst u1; exact Err_ok _ _ _ _ _ _ _ W _ (own_bo.ext hk))) ?_
 refine .i (sp_neq (hlc rfl) Has.cst) ?_
 refine .dn fun a7 g W7 y7 zz7 hk hg hV hR hP => ?_
 obtain ⟨e14, -, -, -⟩ := hV
 replace e0 := ft hR e0
 replace e1 := ft hR e1
 replace e2 := ft hR e2
 replace e6 := ft hR e6
 replace e7 := ft hR e7
 replace D_cn := D_cn.ext hk
 replace D_ci := D_ci.ext hk
 replace e14 := e14.q
 replace own_bo := own_bo.ext hk
 replace own_bm := own_bm.ext hk
 replace own_b6_2 := own_b6_2.ext hk
 replace own_b7_4 := own_b7_4.ext hk
 replace kw := kw.x hk
 clear hR hk hg hP
 refine zn (hK6 _ _ ?_)
 refine zc e14 (fun hc => ?_) (fun hc => ?_)
 ·
  have hE : errK x.k e ≠ 0 := by simpa using hc
  have h1 : tkE x e name ce = e := by rw [tkE, if_pos hE]
  have h2 : tkB x e name ce = false := by simp [tkB, hE]
  have h3 : tkA x A e name ce = A := by rw [tkA, h2]; rfl
  refine zq fun K8 hK8 => ?_
  refine rg mixed y7 zz7 ?_
  refine .i (v := (.agg #[(.int .u8 (0)), (.int .i64 (0)), (.string (⟨#[]⟩)), (.slice none 0 0), (.slice none 0 0)])) (loA (hbs rfl e7) own_b7_4 trivial agg26 sz26 rfl rfl) ?_
  refine .dn fun a9 g W9 y9 zz9 hk hg hV hR hP => ?_
  obtain ⟨e15, -⟩ := hV
  replace e6 := ft hR e6
  replace D_cn := D_cn.ext hk
  replace D_ci := D_ci.ext hk
  replace e15 := e15.q
  replace own_bo := own_bo.ext hk
  replace own_bm := own_bm.ext hk
  replace own_b6_2 := own_b6_2.ext hk
  replace own_b7_4 := own_b7_4.ext hk
  replace kw := kw.x hk
  clear hR hk hg hP
  refine tail_store e6 e15 sz26 rfl own_b6_2 (lbr rfl) (all_cons rfl (all_cons rfl (all_cons rfl (all_cons rfl (all_cons rfl all_nil))))) (fun W10 hs own_b6_2 => ?_)
  have own_b6_2 : Own W10 b6_2 [(.int .u8 (0)), (.int .i64 (0)), (.string (⟨#[]⟩)), (.slice none 0 0), (.slice none 0 0)] 26 := own_b6_2
  replace own_bo := own_store own_bo hs ne_bo_b6_2
  replace own_bm := ownM_store own_bm hs ne_bm_b6_2
  replace own_b7_4 := own_store own_b7_4 hs ne_b6_2_b7_4.symm
  replace D_cn := sa_store D_cn hs (by simp)
  replace D_ci := sa_store D_ci hs (by simp)
  replace kw := keeps_store kw hs lo_b6_2
  clear hs
  refine zn (hK8 _ _ ?_)
  refine wp_ret ?_
  refine retC (v := (.agg #[(.int .u8 (0)), (.int .i64 (0)), (.string (⟨#[]⟩)), (.slice none 0 0), (.slice none 0 0)])) rfl zz9 e6 own_b6_2 agg26 sz26 rfl (fun h => by cases h) rfl ⟨_, rfl, kw, ?_⟩
  rw [h1, h3, h2]
  exact ⟨sf_fr (rdV_mk (lbr rfl) (rd_nil _) (rd_nil _) : Rd W10 (SF w [b7_4, b6_2, bo, bm]) (V.d (V.mk (0) (0) (⟨#[]⟩) ([]) ([]))) _), own_bo, own_bm⟩
 have hE : errK x.k e = 0 := by simpa using hc
 have he0 := (errK_zero hE).1
 refine wp_skip (hK5 _ _ ?_)
 refine zq fun K11 hK11 => ?_
 refine rg mixed y7 zz7 ?_
 refine .mb rfl e0 ?_
 refine .i (sp_nilP (hlc rfl)) ?_
 refine .i (fo 0 (hlc rfl) Tryz.underlying74 rfl sz26 rfl) ?_
 refine .i (v := (.agg #[(.int .u8 (x.k)), (.int .i64 (x.n)), (.string (x.t)), (.slice cna (x.ns.length) cnc), (.slice cia (x.xs.length) cic)])) (loA (hlc rfl) own_bo trivial agg26 sz26 rfl rfl) ?_
 refine .mb rfl e1 ?_
 refine .op (φ := IsT (IsD (Fr W7) (V.d (getV (x) name))) (Is (.bool (getB (x) name)))) (st_t (st_d sub_all) (st_is _)) (sp_call2 (φ1 := IsD (SA w S [b7_4, b6_2, bo, bm]) (V.d (x))) (φ2 := Is (.string (name))) ent62 ((hlc rfl).dat (rdV_in (x := x) hxt D_cn D_ci : Rd W7 (SA w S [b7_4, b6_2, bo, bm]) (V.d (x)) _) sub_all) (hlc rfl) (fun g u1 u2 W hk hgk h1 h2 => by have h2 : u2 = _ := h2; subst u2; exact (Get_ok (x) (name) (by omega) W _ _ (fun b o h => sa_cln hS b o h.1) h1).mono (fun _ _ ⟨v, h1, h2, r1, h3, h4⟩ => ⟨v, h1, h2, r1, _, h3, fresh_d hk hgk h4, rfl⟩))) ?_
 refine .op (φ := IsT (IsD (Fr W7) (V.d (getV (x) name))) (Is (.bool (getB (x) name)))) (st_t (st_d sub_all) (st_is _)) (sp_move (hlc rfl)) ?_
 refine .da (X := Fr W7) (e := V.d (getV (x) name)) (sp_ext2 (hlc rfl) rfl) ?_
 refine .i (v := (.bool (getB (x) name))) (sp_ext2' (hlc rfl) rfl) ?_
 refine .alloc z26 ?_
 refine .dn fun a12 g W12 y12 zz12 hk hg hV hR hP => ?_
 obtain ⟨⟨b8_12, e8, hb8, own_b8_12⟩, e24, e23, -, -, -, -, -, -, -, -⟩ := hV
 have lo_b8_12 : w.heap.size ≤ b8_12 := Nat.le_trans kw.size (hg.lo _ _ hb8)
 have ne_bo_b8_12 : bo ≠ b8_12 := Nat.ne_of_lt (Nat.lt_of_lt_of_le own_bo.lt (hg.lo _ _ hb8))
 have ne_bm_b8_12 : bm ≠ b8_12 := Nat.ne_of_lt (Nat.lt_of_lt_of_le own_bm.lt (hg.lo _ _ hb8))
 have ne_b6_2_b8_12 : b6_2 ≠ b8_12 := Nat.ne_of_lt (Nat.lt_of_lt_of_le own_b6_2.lt (hg.lo _ _ hb8))
 have ne_b7_4_b8_12 : b7_4 ≠ b8_12 := Nat.ne_of_lt (Nat.lt_of_lt_of_le own_b7_4.lt (hg.lo _ _ hb8))
 have own_b8_12 : Own W12 b8_12 [(.int .u8 (0)), (.int .i64 (0)), (.string (⟨#[]⟩)), (.slice none 0 0), (.slice none 0 0)] 26 := own_b8_12
 replace e0 := ft hR e0
 replace e1 := ft hR e1
 replace e2 := ft hR e2
 replace e6 := ft hR e6
 replace e7 := ft hR e7
 replace D_cn := sa_more D_cn hk [b8_12] (in_cons (hg.lo _ _ hb8) in_nil)
 replace D_ci := sa_more D_ci hk [b8_12] (in_cons (hg.lo _ _ hb8) in_nil)
 obtain ⟨v23_12, ev⟩ : ∃ v, sl a12 23 = v := ⟨_, rfl⟩
 rw [ev] at e23
 have D_v23_12 : Rd W12 (SF w [b8_12, b7_4, b6_2, bo, bm]) (V.d (getV (x) name)) v23_12 := fr_end (M := [b7_4, b6_2, bo, bm]) e23 kw [b8_12] (in_cons ⟨_, hb8⟩ in_nil) (in_cons own_b7_4.lt (in_cons own_b6_2.lt (in_cons own_bo.lt (in_cons own_bm.lt in_nil))))
 replace e23 := ev; clear ev
 obtain ⟨cn23_12a, cn23_12c, ci23_12a, ci23_12c, ev, ht_v23_12, D_cn23_12, D_ci23_12⟩ := rdV_out D_v23_12
 subst ev; clear D_v23_12
 replace e24 := e24.q
 replace own_bo := own_bo.ext hk
 replace own_bm := own_bm.ext hk
 replace own_b6_2 := own_b6_2.ext hk
 replace own_b7_4 := own_b7_4.ext hk
 replace kw := kw.x hk
 clear hR hk hg hP hb8
 refine tail_store e8 e23 sz26 rfl own_b8_12 (lbr rfl) (all_cons rfl (all_cons rfl (all_cons rfl (all_cons rfl (all_cons rfl all_nil))))) (fun W13 hs own_b8_12 => ?_)
 have own_b8_12 : Own W13 b8_12 [(.int .u8 ((getV (x) name).k)), (.int .i64 ((getV (x) name).n)), (.string ((getV (x) name).t)), (.slice cn23_12a (((getV (x) name).ns).length) cn23_12c), (.slice ci23_12a (((getV (x) name).xs).length) ci23_12c)] 26 := own_b8_12
 replace own_bo := own_store own_bo hs ne_bo_b8_12
 replace own_bm := ownM_store own_bm hs ne_bm_b8_12
 replace own_b6_2 := own_store own_b6_2 hs ne_b6_2_b8_12
 replace own_b7_4 := own_store own_b7_4 hs ne_b7_4_b8_12
 replace D_cn := sa_store D_cn hs (by simp)
 replace D_ci := sa_store D_ci hs (by simp)
 replace D_cn23_12 := sf_store D_cn23_12 hs (by simp)
 replace D_ci23_12 := sf_store D_ci23_12 hs (by simp)
 replace kw := keeps_store kw hs lo_b8_12
 clear hs
 refine tail_assign (v := (.bool (getB (x) name))) e24 (by rw [y12]; exact Nat.le_of_ble_eq_true rfl) (fun a14 y14 zz14 e9 hr => ?_)
 replace y14 := y14.trans y12; replace zz14 := zz14.trans zz12
 replace e0 := (hr 0 (by decide)).trans e0
 replace e1 := (hr 1 (by decide)).trans e1
 replace e2 := (hr 2 (by decide)).trans e2
 replace e6 := (hr 6 (by decide)).trans e6
 replace e7 := (hr 7 (by decide)).trans e7
 replace e8 := (hr 8 (by decide)).trans e8
 replace e23 := (hr 23 (by decide)).trans e23
 replace e24 := (hr 24 (by decide)).trans e24
 clear hr
 refine zn (hK11 _ _ ?_)
 refine zq fun K15 hK15 => ?_
 refine zq fun K16 hK16 => ?_
 refine rg mixed y14 zz14 ?_
 refine .mb rfl e9 ?_
 refine .i (sp_not (hlc rfl)) ?_
 refine .dn fun a17 g W17 y17 zz17 hk hg hV hR hP => ?_
 obtain ⟨e26, -, -⟩ := hV
 replace e0 := ft hR e0
 replace e1 := ft hR e1
 replace e2 := ft hR e2
 replace e6 := ft hR e6
 replace e7 := ft hR e7
 replace e8 := ft hR e8
 replace D_cn := D_cn.ext hk
 replace D_ci := D_ci.ext hk
 replace D_cn23_12 := D_cn23_12.ext hk
 replace D_ci23_12 := D_ci23_12.ext hk
 replace e26 := e26.q
 replace own_bo := own_bo.ext hk
 replace own_bm := own_bm.ext hk
 replace own_b6_2 := own_b6_2.ext hk
 replace own_b7_4 := own_b7_4.ext hk
 replace own_b8_12 := own_b8_12.ext hk
 replace kw := kw.x hk
 clear hR hk hg hP
 refine zn (hK16 _ _ ?_)
 refine zc e26 (fun hc => ?_) (fun hc => ?_)
 ·
  have hg0 : getB x name = false := by simpa using hc
  have h1 : tkE x e name ce = failK x.k e 6 := by rw [tkE, if_neg (by simp [hE]), if_pos hg0, failK, if_pos hE]
  have h2 : tkB x e name ce = false := by simp [tkB, hg0]
  have h3 : tkA x A e name ce = A := by rw [tkA, h2]; rfl
  refine zq fun K18 hK18 => ?_
  refine wp_reg (fun k => k ∉ [bo]) (Ψ := fun W => Own W bo [(.int .u8 (x.k)), (.int .i64 (x.n)), (.string (x.t)), (.slice cna (x.ns.length) cnc), (.slice cia (x.xs.length) cic), (.map (some bm)), (.int .i64 (e))] 74) mixed y17 zz17 stE_own own_bo ?_
  refine .mb rfl e0 ?_
  refine .callL2 (φ1 := Is (.pointer (some ⟨bo, 0, none⟩))) (φ2 := Is (.int .i64 (6))) (φ := Is (.tuple #[])) (Ψ' := fun W => Own W bo [(.int .u8 (x.k)), (.int .i64 (x.n)), (.string (x.t)), (.slice cna (x.ns.length) cnc), (.slice cia (x.xs.length) cic), (.map (some bm)), (.int .i64 (failK x.k e 6))] 74) ent38 (hlc rfl) Has.cst (st_is _) stE_own (fun g u1 u2 W hk hg h1 h2 hP => by have h1 : u1 = _ := h1; subst u1; have h2 : u2 = _ := h2; subst u2; exact (Fail_ok _ _ _ _ _ _ _ (6) W _ hP)) ?_
  refine .dn fun a19 g W19 y19 zz19 hk hg hV hR hP => ?_
  obtain ⟨-, -, -⟩ := hV
  replace e6 := ft hR e6
  replace e7 := ft hR e7
  replace D_cn := sa_keepL D_cn hk (by simp)
  replace D_ci := sa_keepL D_ci hk (by simp)
  replace D_cn23_12 := sf_keepL D_cn23_12 hk (by simp)
  replace D_ci23_12 := sf_keepL D_ci23_12 hk (by simp)
  replace own_bm := ownM_keepL own_bm hk (by simp [hne.symm])
  replace own_b6_2 := own_keepL own_b6_2 hk (by simp [ne_bo_b6_2.symm])
  replace own_b7_4 := own_keepL own_b7_4 hk (by simp [ne_bo_b7_4.symm])
  replace own_b8_12 := own_keepL own_b8_12 hk (by simp [ne_bo_b8_12.symm])
  have own_bo := hP
  replace own_bo : Own W19 bo [(.int .u8 (x.k)), (.int .i64 (x.n)), (.string (x.t)), (.slice cna (x.ns.length) cnc), (.slice cia (x.xs.length) cic), (.map (some bm)), (.int .i64 (failK x.k e 6))] 74 := own_bo
  replace kw := keeps_L kw hk (in_cons (.inr (by simp)) in_nil)
  clear hR hk hg hP
  refine zn (hK18 _ _ ?_)
  refine zq fun K20 hK20 => ?_
  refine rg mixed y19 zz19 ?_
  refine .i (v := (.agg #[(.int .u8 (0)), (.int .i64 (0)), (.string (⟨#[]⟩)), (.slice none 0 0), (.slice none 0 0)])) (loA (hbs rfl e7) own_b7_4 trivial agg26 sz26 rfl rfl) ?_
  refine .dn fun a21 g W21 y21 zz21 hk hg hV hR hP => ?_
  obtain ⟨e29, -⟩ := hV
  replace e6 := ft hR e6
  replace D_cn := D_cn.ext hk
  replace D_ci := D_ci.ext hk
  replace e29 := e29.q
  replace own_bo := own_bo.ext hk
  replace own_bm := own_bm.ext hk
  replace own_b6_2 := own_b6_2.ext hk
  replace own_b7_4 := own_b7_4.ext hk
  replace own_b8_12 := own_b8_12.ext hk
  replace kw := kw.x hk
  clear hR hk hg hP
  refine tail_store e6 e29 sz26 rfl own_b6_2 (lbr rfl) (all_cons rfl (all_cons rfl (all_cons rfl (all_cons rfl (all_cons rfl all_nil))))) (fun W22 hs own_b6_2 => ?_)
  have own_b6_2 : Own W22 b6_2 [(.int .u8 (0)), (.int .i64 (0)), (.string (⟨#[]⟩)), (.slice none 0 0), (.slice none 0 0)] 26 := own_b6_2
  replace own_bo := own_store own_bo hs ne_bo_b6_2
  replace own_bm := ownM_store own_bm hs ne_bm_b6_2
  replace own_b7_4 := own_store own_b7_4 hs ne_b6_2_b7_4.symm
  replace own_b8_12 := own_store own_b8_12 hs ne_b6_2_b8_12.symm
  replace D_cn := sa_store D_cn hs (by simp)
  replace D_ci := sa_store D_ci hs (by simp)
  replace kw := keeps_store kw hs lo_b6_2
  clear hs
  refine zn (hK20 _ _ ?_)
  refine wp_ret ?_
  refine retC (v := (.agg #[(.int .u8 (0)), (.int .i64 (0)), (.string (⟨#[]⟩)), (.slice none 0 0), (.slice none 0 0)])) rfl zz21 e6 own_b6_2 agg26 sz26 rfl (fun h => by cases h) rfl ⟨_, rfl, kw, ?_⟩
  rw [h1, h3, h2]
  exact ⟨sf_fr (rdV_mk (lbr rfl) (rd_nil _) (rd_nil _) : Rd W22 (SF w [b8_12, b7_4, b6_2, bo, bm]) (V.d (V.mk (0) (0) (⟨#[]⟩) ([]) ([]))) _), own_bo, own_bm⟩
 have hg1 : getB x name = true := by simpa using hc
 have hAn := hA name
 have hwg := Nat.le_trans (getV_wt x name) hx
 refine wp_skip (hK15 _ _ ?_)
 refine zq fun K23 hK23 => ?_
 refine rg mixed y17 zz17 ?_
 refine .mb rfl e2 ?_
 refine .i (v := (.agg #[(.int .u8 ((getV (x) name).k)), (.int .i64 ((getV (x) name).n)), (.string ((getV (x) name).t)), (.slice cn23_12a (((getV (x) name).ns).length) cn23_12c), (.slice ci23_12a (((getV (x) name).xs).length) ci23_12c)])) (loA (hbs rfl e8) own_b8_12 trivial agg26 sz26 rfl rfl) ?_
 refine .op (φ := IsT (IsD (SF w [b8_12, b7_4, b6_2, bo, bm]) (V.d (fv (getV x name)))) (Is (.int .i64 (ce (getV x name))))) (st_t (st_d sub_all) (st_is _)) (sp_callF1 ef (hlc rfl) (hlc rfl) (fun g W hk hgk => (hf W (kw.trans (.of_ext hk)) _ _ _ hwg (rd_base (rdV_in (x := (getV (x) name)) ht_v23_12 D_cn23_12 D_ci23_12 : Rd W17 (SF w [b8_12, b7_4, b6_2, bo, bm]) (V.d ((getV (x) name))) _) hk hgk sub_all)).mono (fun _ _ ⟨v, h1, h2, r1, h3, h4⟩ => ⟨v, h1, h2, r1, _, h3, rd_ar_sf kw (in_cons own_b8_12.lt (in_cons own_b7_4.lt (in_cons own_b6_2.lt (in_cons own_bo.lt (in_cons own_bm.lt in_nil))))) hk hgk h4, rfl⟩))) ?_
 refine .op (φ := IsT (IsD (SF w [b8_12, b7_4, b6_2, bo, bm]) (V.d (fv (getV x name)))) (Is (.int .i64 (ce (getV x name))))) (st_t (st_d sub_all) (st_is _)) (sp_move (hlc rfl)) ?_
 refine .da (X := SF w [b8_12, b7_4, b6_2, bo, bm]) (e := V.d (fv (getV x name))) (sp_ext2 (hlc rfl) rfl) ?_
 refine .i (v := (.int .i64 (ce (getV x name)))) (sp_ext2' (hlc rfl) rfl) ?_
 refine .alloc z26 ?_
 refine .dn fun a24 g W24 y24 zz24 hk hg hV hR hP => ?_
 obtain ⟨⟨b10_24, e10, hb10, own_b10_24⟩, e35, e34, -, -, -, -, -⟩ := hV
 have lo_b10_24 : w.heap.size ≤ b10_24 := Nat.le_trans kw.size (hg.lo _ _ hb10)
 have ne_bo_b10_24 : bo ≠ b10_24 := Nat.ne_of_lt (Nat.lt_of_lt_of_le own_bo.lt (hg.lo _ _ hb10))
 have ne_bm_b10_24 : bm ≠ b10_24 := Nat.ne_of_lt (Nat.lt_of_lt_of_le own_bm.lt (hg.lo _ _ hb10))
 have ne_b6_2_b10_24 : b6_2 ≠ b10_24 := Nat.ne_of_lt (Nat.lt_of_lt_of_le own_b6_2.lt (hg.lo _ _ hb10))
 have ne_b7_4_b10_24 : b7_4 ≠ b10_24 := Nat.ne_of_lt (Nat.lt_of_lt_of_le own_b7_4.lt (hg.lo _ _ hb10))
 have ne_b8_12_b10_24 : b8_12 ≠ b10_24 := Nat.ne_of_lt (Nat.lt_of_lt_of_le own_b8_12.lt (hg.lo _ _ hb10))
 have own_b10_24 : Own W24 b10_24 [(.int .u8 (0)), (.int .i64 (0)), (.string (⟨#[]⟩)), (.slice none 0 0), (.slice none 0 0)] 26 := own_b10_24
 replace e0 := ft hR e0
 replace e1 := ft hR e1
 replace e6 := ft hR e6
 replace e7 := ft hR e7
 replace D_cn := sa_more D_cn hk [b10_24] (in_cons (hg.lo _ _ hb10) in_nil)
 replace D_ci := sa_more D_ci hk [b10_24] (in_cons (hg.lo _ _ hb10) in_nil)
 replace D_cn23_12 := sf_more D_cn23_12 hk [b10_24] (in_cons (hg.lo _ _ hb10) in_nil)
 replace D_ci23_12 := sf_more D_ci23_12 hk [b10_24] (in_cons (hg.lo _ _ hb10) in_nil)
 obtain ⟨v34_24, ev⟩ : ∃ v, sl a24 34 = v := ⟨_, rfl⟩
 rw [ev] at e34
 have D_v34_24 : Rd W24 (SF w [b10_24, b8_12, b7_4, b6_2, bo, bm]) (V.d (fv (getV x name))) v34_24 := sf_end e34 hk [b10_24] (in_cons ⟨_, hb10⟩ in_nil)
 replace e34 := ev; clear ev
 obtain ⟨cn34_24a, cn34_24c, ci34_24a, ci34_24c, ev, ht_v34_24, D_cn34_24, D_ci34_24⟩ := rdV_out D_v34_24
 subst ev; clear D_v34_24
 replace e35 := e35.q
 replace own_bo := own_bo.ext hk
 replace own_bm := own_bm.ext hk
 replace own_b6_2 := own_b6_2.ext hk
 replace own_b7_4 := own_b7_4.ext hk
 replace own_b8_12 := own_b8_12.ext hk
 replace kw := kw.x hk
 clear hR hk hg hP hb10
 refine tail_store e10 e34 sz26 rfl own_b10_24 (lbr rfl) (all_cons rfl (all_cons rfl (all_cons rfl (all_cons rfl (all_cons rfl all_nil))))) (fun W25 hs own_b10_24 => ?_)
 have own_b10_24 : Own W25 b10_24 [(.int .u8 ((fv (getV x name)).k)), (.int .i64 ((fv (getV x name)).n)), (.string ((fv (getV x name)).t)), (.slice cn34_24a (((fv (getV x name)).ns).length) cn34_24c), (.slice ci34_24a (((fv (getV x name)).xs).length) ci34_24c)] 26 := own_b10_24
 replace own_bo := own_store own_bo hs ne_bo_b10_24
 replace own_bm := ownM_store own_bm hs ne_bm_b10_24
 replace own_b6_2 := own_store own_b6_2 hs ne_b6_2_b10_24
 replace own_b7_4 := own_store own_b7_4 hs ne_b7_4_b10_24
 replace own_b8_12 := own_store own_b8_12 hs ne_b8_12_b10_24
 replace D_cn := sa_store D_cn hs (by simp)
 replace D_ci := sa_store D_ci hs (by simp)
 replace D_cn23_12 := sf_store D_cn23_12 hs (by simp)
 replace D_ci23_12 := sf_store D_ci23_12 hs (by simp)
 replace D_cn34_24 := sf_store D_cn34_24 hs (by simp)
 replace D_ci34_24 := sf_store D_ci34_24 hs (by simp)
 replace kw := keeps_store kw hs lo_b10_24
 clear hs
 refine tail_assign (v := (.int .i64 (ce (getV x name)))) e35 (by rw [y24]; exact Nat.le_of_ble_eq_true rfl) (fun a26 y26 zz26 e11 hr => ?_)
 replace y26 := y26.trans y24; replace zz26 := zz26.trans zz24
 replace e0 := (hr 0 (by decide)).trans e0
 replace e1 := (hr 1 (by decide)).trans e1
 replace e6 := (hr 6 (by decide)).trans e6
 replace e7 := (hr 7 (by decide)).trans e7
 replace e10 := (hr 10 (by decide)).trans e10
 replace e34 := (hr 34 (by decide)).trans e34
 replace e35 := (hr 35 (by decide)).trans e35
 clear hr
 refine zn (hK23 _ _ ?_)
 refine zq fun K27 hK27 => ?_
 refine zq fun K28 hK28 => ?_
 refine rg mixed y26 zz26 ?_
 refine .mb rfl e11 ?_
 refine .i (sp_neq (hlc rfl) Has.cst) ?_
 refine .dn fun a29 g W29 y29 zz29 hk hg hV hR hP => ?_
 obtain ⟨e37, -, -⟩ := hV
 replace e0 := ft hR e0
 replace e1 := ft hR e1
 replace e6 := ft hR e6
 replace e7 := ft hR e7
 replace e10 := ft hR e10
 replace e11 := ft hR e11
 replace D_cn := D_cn.ext hk
 replace D_ci := D_ci.ext hk
 replace D_cn34_24 := D_cn34_24.ext hk
 replace D_ci34_24 := D_ci34_24.ext hk
 replace e37 := e37.q
 replace own_bo := own_bo.ext hk
 replace own_bm := own_bm.ext hk
 replace own_b6_2 := own_b6_2.ext hk
 replace own_b7_4 := own_b7_4.ext hk
 replace own_b8_12 := own_b8_12.ext hk
 replace own_b10_24 := own_b10_24.ext hk
 replace kw := kw.x hk
 clear hR hk hg hP
 refine zn (hK28 _ _ ?_)
 refine zc e37 (fun hc => ?_) (fun hc => ?_)
 ·
  have hce : ce (getV x name) ≠ 0 := by simpa using hc
  have h1 : tkE x e name ce = failK x.k e (ce (getV x name)) := by rw [tkE, if_neg (by simp [hE]), if_neg (by simp [hg1]), failK, if_pos hE]
  have h2 : tkB x e name ce = false := by simp [tkB, hce]
  have h3 : tkA x A e name ce = A := by rw [tkA, h2]; rfl
  refine zq fun K30 hK30 => ?_
  refine wp_reg (fun k => k ∉ [bo]) (Ψ := fun W => Own W bo [(.int .u8 (x.k)), (.int .i64 (x.n)), (.string (x.t)), (.slice cna (x.ns.length) cnc), (.slice cia (x.xs.length) cic), (.map (some bm)), (.int .i64 (e))] 74) mixed y29 zz29 stE_own own_bo ?_
  refine .mb rfl e0 ?_
  refine .mb rfl e11 ?_
  refine .callL2 (φ1 := Is (.pointer (some ⟨bo, 0, none⟩))) (φ2 := Is (.int .i64 (ce (getV x name)))) (φ := Is (.tuple #[])) (Ψ' := fun W => Own W bo [(.int .u8 (x.k)), (.int .i64 (x.n)), (.string (x.t)), (.slice cna (x.ns.length) cnc), (.slice cia (x.xs.length) cic), (.map (some bm)), (.int .i64 (failK x.k e (ce (getV x name))))] 74) ent38 (hlc rfl) (hlc rfl) (st_is _) stE_own (fun g u1 u2 W hk hg h1 h2 hP => by have h1 : u1 = _ := h1; subst u1; have h2 : u2 = _ := h2; subst u2; exact (Fail_ok _ _ _ _ _ _ _ (ce (getV x name)) W _ hP)) ?_
  refine .dn fun a31 g W31 y31 zz31 hk hg hV hR hP => ?_
  obtain ⟨-, -, -, -⟩ := hV
  replace e6 := ft hR e6
  replace e7 := ft hR e7
  replace D_cn := sa_keepL D_cn hk (by simp)
  replace D_ci := sa_keepL D_ci hk (by simp)
  replace D_cn34_24 := sf_keepL D_cn34_24 hk (by simp)
  replace D_ci34_24 := sf_keepL D_ci34_24 hk (by simp)
  replace own_bm := ownM_keepL own_bm hk (by simp [hne.symm])
  replace own_b6_2 := own_keepL own_b6_2 hk (by simp [ne_bo_b6_2.symm])
  replace own_b7_4 := own_keepL own_b7_4 hk (by simp [ne_bo_b7_4.symm])
  replace own_b8_12 := own_keepL own_b8_12 hk (by simp [ne_bo_b8_12.symm])
  replace own_b10_24 := own_keepL own_b10_24 hk (by simp [ne_bo_b10_24.symm])
  have own_bo := hP
  replace own_bo : Own W31 bo [(.int .u8 (x.k)), (.int .i64 (x.n)), (.string (x.t)), (.slice cna (x.ns.length) cnc), (.slice cia (x.xs.length) cic), (.map (some bm)), (.int .i64 (failK x.k e (ce (getV x name))))] 74 := own_bo
  replace kw := keeps_L kw hk (in_cons (.inr (by simp)) in_nil)
  clear hR hk hg hP
  refine zn (hK30 _ _ ?_)
  refine zq fun K32 hK32 => ?_
  refine rg mixed y31 zz31 ?_
  refine .i (v := (.agg #[(.int .u8 (0)), (.int .i64 (0)), (.string (⟨#[]⟩)), (.slice none 0 0), (.slice none 0 0)])) (loA (hbs rfl e7) own_b7_4 trivial agg26 sz26 rfl rfl) ?_
  refine .dn fun a33 g W33 y33 zz33 hk hg hV hR hP => ?_
  obtain ⟨e41, -⟩ := hV
  replace e6 := ft hR e6
  replace D_cn := D_cn.ext hk
  replace D_ci := D_ci.ext hk
  replace e41 := e41.q
  replace own_bo := own_bo.ext hk
  replace own_bm := own_bm.ext hk
  replace own_b6_2 := own_b6_2.ext hk
  replace own_b7_4 := own_b7_4.ext hk
  replace own_b8_12 := own_b8_12.ext hk
  replace own_b10_24 := own_b10_24.ext hk
  replace kw := kw.x hk
  clear hR hk hg hP
  refine tail_store e6 e41 sz26 rfl own_b6_2 (lbr rfl) (all_cons rfl (all_cons rfl (all_cons rfl (all_cons rfl (all_cons rfl all_nil))))) (fun W34 hs own_b6_2 => ?_)
  have own_b6_2 : Own W34 b6_2 [(.int .u8 (0)), (.int .i64 (0)), (.string (⟨#[]⟩)), (.slice none 0 0), (.slice none 0 0)] 26 := own_b6_2
  replace own_bo := own_store own_bo hs ne_bo_b6_2
  replace own_bm := ownM_store own_bm hs ne_bm_b6_2
  replace own_b7_4 := own_store own_b7_4 hs ne_b6_2_b7_4.symm
  replace own_b8_12 := own_store own_b8_12 hs ne_b6_2_b8_12.symm
  replace own_b10_24 := own_store own_b10_24 hs ne_b6_2_b10_24.symm
  replace D_cn := sa_store D_cn hs (by simp)
  replace D_ci := sa_store D_ci hs (by simp)
  replace kw := keeps_store kw hs lo_b6_2
  clear hs
  refine zn (hK32 _ _ ?_)
  refine wp_ret ?_
  refine retC (v := (.agg #[(.int .u8 (0)), (.int .i64 (0)), (.string (⟨#[]⟩)), (.slice none 0 0), (.slice none 0 0)])) rfl zz33 e6 own_b6_2 agg26 sz26 rfl (fun h => by cases h) rfl ⟨_, rfl, kw, ?_⟩
  rw [h1, h3, h2]
  exact ⟨sf_fr (rdV_mk (lbr rfl) (rd_nil _) (rd_nil _) : Rd W34 (SF w [b10_24, b8_12, b7_4, b6_2, bo, bm]) (V.d (V.mk (0) (0) (⟨#[]⟩) ([]) ([]))) _), own_bo, own_bm⟩
 have hce : ce (getV x name) = 0 := by simpa using hc
 have h1 : tkE x e name ce = e := by rw [tkE, if_neg (by simp [hE]), if_neg (by simp [hg1]), hce, he0]
 have h2 : tkB x e name ce = true := by simp [tkB, hE, hg1, hce]
 have h3 : tkA x A e name ce = mset A name (mget A name + 1) := by rw [tkA, h2]; rfl
 refine wp_skip (hK27 _ _ ?_)
 refine zq fun K35 hK35 => ?_
 refine rg mixed y29 zz29 ?_
 refine .mb rfl e0 ?_
 refine .i (sp_nilP (hlc rfl)) ?_
 refine .i (fo 5 (hlc rfl) Tryz.underlying74 rfl sz72 rfl) ?_
 refine .i (lo1 (hlc rfl) own_bo trivial agg72 sz72 rfl) ?_
 refine .mb rfl e1 ?_
 refine .i (sp_lookup Tryz.underlying72 Tryz.underlying9 z3 (hlc rfl) (hlc rfl) own_bm trivial) ?_
 refine .i (sp_add (hlc rfl) Has.cst (i64_in (by omega))) ?_
 refine .dn fun a36 g W36 y36 zz36 hk hg hV hR hP => ?_
 obtain ⟨e48, -, e46, e45, -, -, -, -⟩ := hV
 replace e6 := ft hR e6
 replace e10 := ft hR e10
 replace D_cn := D_cn.ext hk
 replace D_ci := D_ci.ext hk
 replace D_cn34_24 := D_cn34_24.ext hk
 replace D_ci34_24 := D_ci34_24.ext hk
 replace e45 := e45.q
 replace e46 := e46.q
 replace e48 := e48.q
 replace own_bo := own_bo.ext hk
 replace own_bm := own_bm.ext hk
 replace own_b6_2 := own_b6_2.ext hk
 replace own_b7_4 := own_b7_4.ext hk
 replace own_b8_12 := own_b8_12.ext hk
 replace own_b10_24 := own_b10_24.ext hk
 replace kw := kw.x hk
 clear hR hk hg hP
 refine tail_updM Tryz.underlying72 Tryz.underlying9 e45 e46 e48 own_bm (fun W37 hs own_bm => ?_)
 have own_bm : OwnM W37 bm (mset A name ((mget A name : Int) + (1 : Int))) := own_bm
 replace own_bo := own_store own_bo hs hne
 replace own_b6_2 := own_store own_b6_2 hs ne_bm_b6_2.symm
 replace own_b7_4 := own_store own_b7_4 hs ne_bm_b7_4.symm
 replace own_b8_12 := own_store own_b8_12 hs ne_bm_b8_12.symm
 replace own_b10_24 := own_store own_b10_24 hs ne_bm_b10_24.symm
 replace D_cn := sa_store D_cn hs (by simp)
 replace D_ci := sa_store D_ci hs (by simp)
 replace D_cn34_24 := sf_store D_cn34_24 hs (by simp)
 replace D_ci34_24 := sf_store D_ci34_24 hs (by simp)
 replace kw := keeps_storeN kw hs (by simp)
 clear hs
 refine zn (hK35 _ _ ?_)
 refine zq fun K38 hK38 => ?_
 refine rg mixed y36 zz36 ?_
 refine .i (v := (.agg #[(.int .u8 ((fv (getV x name)).k)), (.int .i64 ((fv (getV x name)).n)), (.string ((fv (getV x name)).t)), (.slice cn34_24a (((fv (getV x name)).ns).length) cn34_24c), (.slice ci34_24a (((fv (getV x name)).xs).length) ci34_24c)])) (loA (hbs rfl e10) own_b10_24 trivial agg26 sz26 rfl rfl) ?_
 refine .dn fun a39 g W39 y39 zz39 hk hg hV hR hP => ?_
 obtain ⟨e49, -⟩ := hV
 replace e6 := ft hR e6
 replace D_cn := D_cn.ext hk
 replace D_ci := D_ci.ext hk
 replace D_cn34_24 := D_cn34_24.ext hk
 replace D_ci34_24 := D_ci34_24.ext hk
 replace e49 := e49.q
 replace own_bo := own_bo.ext hk
 replace own_bm := own_bm.ext hk
 replace own_b6_2 := own_b6_2.ext hk
 replace own_b7_4 := own_b7_4.ext hk
 replace own_b8_12 := own_b8_12.ext hk
 replace own_b10_24 := own_b10_24.ext hk
 replace kw := kw.x hk
 clear hR hk hg hP
 refine tail_store e6 e49 sz26 rfl own_b6_2 (lbr rfl) (all_cons rfl (all_cons rfl (all_cons rfl (all_cons rfl (all_cons rfl all_nil))))) (fun W40 hs own_b6_2 => ?_)
 have own_b6_2 : Own W40 b6_2 [(.int .u8 ((fv (getV x name)).k)), (.int .i64 ((fv (getV x name)).n)), (.string ((fv (getV x name)).t)), (.slice cn34_24a (((fv (getV x name)).ns).length) cn34_24c), (.slice ci34_24a (((fv (getV x name)).xs).length) ci34_24c)] 26 := own_b6_2
 replace own_bo := own_store own_bo hs ne_bo_b6_2
 replace own_bm := ownM_store own_bm hs ne_bm_b6_2
 replace own_b7_4 := own_store own_b7_4 hs ne_b6_2_b7_4.symm
 replace own_b8_12 := own_store own_b8_12 hs ne_b6_2_b8_12.symm
 replace own_b10_24 := own_store own_b10_24 hs ne_b6_2_b10_24.symm
 replace D_cn := sa_store D_cn hs (by simp)
 replace D_ci := sa_store D_ci hs (by simp)
 replace D_cn34_24 := sf_store D_cn34_24 hs (by simp)
 replace D_ci34_24 := sf_store D_ci34_24 hs (by simp)
 replace kw := keeps_store kw hs lo_b6_2
 clear hs
 refine zn (hK38 _ _ ?_)
 refine wp_ret ?_
 refine retC (v := (.agg #[(.int .u8 ((fv (getV x name)).k)), (.int .i64 ((fv (getV x name)).n)), (.string ((fv (getV x name)).t)), (.slice cn34_24a (((fv (getV x name)).ns).length) cn34_24c), (.slice ci34_24a (((fv (getV x name)).xs).length) ci34_24c)])) rfl zz39 e6 own_b6_2 agg26 sz26 rfl (fun h => by cases h) rfl ⟨_, rfl, kw, ?_⟩
 rw [h1, h3, h2]
 exact ⟨sf_fr (rdV_in (x := (fv (getV x name))) ht_v34_24 D_cn34_24 D_ci34_24 : Rd W40 (SF w [b10_24, b8_12, b7_4, b6_2, bo, bm]) (V.d ((fv (getV x name)))) _), own_bo, own_bm⟩
set_option maxRecDepth 100000 in
theorem takeVD_ok (k : Nat) (n : Int) (t : ByteArray) (cn ci mv : Value) (e : Int) (hE : errK k e ≠ 0) (name : ByteArray) (fv : Value) (w : World) (bo : Nat) (own_bo : Own w bo [.int .u8 k, .int .i64 n, .string t, cn, ci, mv, .int .i64 e] 74) : Calls Tryz.prog 59 #[.pointer (some ⟨bo, 0, none⟩), .string name, fv] w (Ret w fun u _ => u = .agg #[.int .u8 0, .int .i64 0, .string ⟨#[]⟩, .slice none 0 0, .slice none 0 0]) := by
 refine enter Tryz.func59 rfl Tryz.ntmps59 (lbr rfl) fun a0 y0 zz0 harg => ?_
 have e0 : sl a0 0 = (.pointer (some ⟨bo, 0, none⟩)) := harg 0 (lbr rfl)
 have e1 : sl a0 1 = (.string (name)) := harg 1 (lbr rfl)
 have e2 : sl a0 2 = fv := harg 2 (lbr rfl)
 have kw := Keeps.refl All w
 clear harg
 refine zq fun K1 hK1 => ?_
 refine rg mixed y0 zz0 ?_
 refine .alloc z26 ?_
 refine .dn fun a2 g W2 y2 zz2 hk hg hV hR hP => ?_
 obtain ⟨⟨b6_2, e6, hb6, own_b6_2⟩, -⟩ := hV
 have lo_b6_2 : w.heap.size ≤ b6_2 := Nat.le_trans kw.size (hg.lo _ _ hb6)
 have ne_bo_b6_2 : bo ≠ b6_2 := Nat.ne_of_lt (Nat.lt_of_lt_of_le own_bo.lt (hg.lo _ _ hb6))
 have own_b6_2 : Own W2 b6_2 [(.int .u8 (0)), (.int .i64 (0)), (.string (⟨#[]⟩)), (.slice none 0 0), (.slice none 0 0)] 26 := own_b6_2
 replace e0 := ft hR e0
 replace e1 := ft hR e1
 replace e2 := ft hR e2
 replace own_bo := own_bo.ext hk
 replace kw := kw.x hk
 clear hR hk hg hP hb6
 refine zn (hK1 _ _ ?_)
 refine zq fun K3 hK3 => ?_
 refine rg mixed y2 zz2 ?_
 refine .alloc z26 ?_
 refine .dn fun a4 g W4 y4 zz4 hk hg hV hR hP => ?_
 obtain ⟨⟨b7_4, e7, hb7, own_b7_4⟩, -⟩ := hV
 have lo_b7_4 : w.heap.size ≤ b7_4 := Nat.le_trans kw.size (hg.lo _ _ hb7)
 have ne_bo_b7_4 : bo ≠ b7_4 := Nat.ne_of_lt (Nat.lt_of_lt_of_le own_bo.lt (hg.lo _ _ hb7))
 have ne_b6_2_b7_4 : b6_2 ≠ b7_4 := Nat.ne_of_lt (Nat.lt_of_lt_of_le own_b6_2.lt (hg.lo _ _ hb7))
 have own_b7_4 : Own W4 b7_4 [(.int .u8 (0)), (.int .i64 (0)), (.string (⟨#[]⟩)), (.slice none 0 0), (.slice none 0 0)] 26 := own_b7_4
 replace e0 := ft hR e0
 replace e1 := ft hR e1
 replace e2 := ft hR e2
 replace e6 := ft hR e6
 replace own_bo := own_bo.ext hk
 replace own_b6_2 := own_b6_2.ext hk
 replace kw := kw.x hk
 clear hR hk hg hP hb7
 refine zn (hK3 _ _ ?_)
 refine zq fun K5 hK5 => ?_
 refine zq fun K6 hK6 => ?_
 refine rg mixed y4 zz4 ?_
 refine .mb rfl e0 ?_
 refine .i (v := (.int .i64 (errK (k : Nat) e))) (sp_call1 (φ1 := Is (.pointer (some ⟨bo, 0, none⟩))) ent61 (hlc rfl) (fun g u1 W hk hgk h1 => by have h1 : u1 = _ := h1; subst u1; exact Err_ok _ _ _ _ _ _ _ W _ (own_bo.ext hk))) ?_
 refine .i (sp_neq (hlc rfl) Has.cst) ?_
 refine .dn fun a7 g W7 y7 zz7 hk hg hV hR hP => ?_
 obtain ⟨e14, -, -, -⟩ := hV
 replace e0 := ft hR e0
 replace e1 := ft hR e1
 replace e2 := ft hR e2
 replace e6 := ft hR e6
 replace e7 := ft hR e7
 replace e14 := e14.q
 replace own_bo := own_bo.ext hk
 replace own_b6_2 := own_b6_2.ext hk
 replace own_b7_4 := own_b7_4.ext hk
 replace kw := kw.x hk
 clear hR hk hg hP
 refine zn (hK6 _ _ ?_)
 refine zc e14 (fun hc => ?_) (fun hc => ?_)
 ·
  refine zq fun K8 hK8 => ?_
  refine rg mixed y7 zz7 ?_
  refine .i (v := (.agg #[(.int .u8 (0)), (.int .i64 (0)), (.string (⟨#[]⟩)), (.slice none 0 0), (.slice none 0 0)])) (loA (hbs rfl e7) own_b7_4 trivial agg26 sz26 rfl rfl) ?_
  refine .dn fun a9 g W9 y9 zz9 hk hg hV hR hP => ?_
  obtain ⟨e15, -⟩ := hV
  replace e6 := ft hR e6
  replace e15 := e15.q
  replace own_bo := own_bo.ext hk
  replace own_b6_2 := own_b6_2.ext hk
  replace own_b7_4 := own_b7_4.ext hk
  replace kw := kw.x hk
  clear hR hk hg hP
  refine tail_store e6 e15 sz26 rfl own_b6_2 (lbr rfl) (all_cons rfl (all_cons rfl (all_cons rfl (all_cons rfl (all_cons rfl all_nil))))) (fun W10 hs own_b6_2 => ?_)
  have own_b6_2 : Own W10 b6_2 [(.int .u8 (0)), (.int .i64 (0)), (.string (⟨#[]⟩)), (.slice none 0 0), (.slice none 0 0)] 26 := own_b6_2
  replace own_bo := own_store own_bo hs ne_bo_b6_2
  replace own_b7_4 := own_store own_b7_4 hs ne_b6_2_b7_4.symm
  replace kw := keeps_store kw hs lo_b6_2
  clear hs
  refine zn (hK8 _ _ ?_)
  refine wp_ret ?_
  refine retC (v := (.agg #[(.int .u8 (0)), (.int .i64 (0)), (.string (⟨#[]⟩)), (.slice none 0 0), (.slice none 0 0)])) rfl zz9 e6 own_b6_2 agg26 sz26 rfl (fun h => by cases h) rfl ⟨_, rfl, kw, ?_⟩
  exact rfl
 exfalso
 exact hE (by simpa using hc)
end Go.Proofs.YtnobijngkpflcaaGreat
namespace Go.Proofs.YtnobijngkpflcaaGreat
open Go.Eng
set_option maxRecDepth 100000 in
theorem Object_ok (x : V) (A : As) (e : Int) (hA : AB 1000000 A) (hx : x.wt ≤ 1073741824) (hxt : x.t.size ≤ maxLen) (name : ByteArray) (most : Int) (w : World) (S : BSet) (cn ci : Value) (bo bm : Nat) (hS : ∀ b o, S b o → Cln o) (hM : ∀ b ∈ [bo, bm], ∀ o, ¬ S b o) (hne : bo ≠ bm) (hv : Rd w S (strsD x.ns) cn) (hu : Rd w S (valsD x.xs) ci) (own_bo : Own w bo [.int .u8 x.k, .int .i64 x.n, .string x.t, cn, ci, .map (some bm), .int .i64 (e)] 74) (own_bm : OwnM w bm A) : Calls Tryz.prog 37 #[.pointer (some ⟨bo, 0, none⟩), .string name, .int .i64 most] w (RetL w [bo, bm] fun u W => Rd W (Fr w) (V.d (if tkB x e name (obE most) then obV most (getV x name) else ⟨0, 0, ⟨#[]⟩, [], []⟩)) u ∧ Own W bo [.int .u8 x.k, .int .i64 x.n, .string x.t, cn, ci, .map (some bm), .int .i64 (tkE x e name (obE most))] 74 ∧ OwnM W bm (tkA x A e name (obE most))) := by
 obtain ⟨cna, cnc, ev, D_cn⟩ := rdS_out (rd_argM (M := [bo, bm]) hv hM)
 subst ev
 obtain ⟨cia, cic, ev, D_ci⟩ := rdVs_out (rd_argM (M := [bo, bm]) hu hM)
 subst ev
 refine enter Tryz.func37 rfl Tryz.ntmps37 (lbr rfl) fun a0 y0 zz0 harg => ?_
 have e0 : sl a0 0 = (.pointer (some ⟨bo, 0, none⟩)) := harg 0 (lbr rfl)
 have e1 : sl a0 1 = (.string (name)) := harg 1 (lbr rfl)
 have e2 : sl a0 2 = (.int .i64 (most)) := harg 2 (lbr rfl)
 have kw := Keeps.refl (fun k => k ∉ [bo, bm]) w
 clear harg
 refine zq fun K1 hK1 => ?_
 refine rg mixed y0 zz0 ?_
 refine .boxOp (v := (.int .i64 (most))) (hbs rfl e2) ?_
 refine .alloc z26 ?_
 refine .dn fun a2 g W2 y2 zz2 hk hg hV hR hP => ?_
 obtain ⟨⟨b6_2, e6, hb6, own_b6_2⟩, ⟨b5_2, e5, hb5, own_b5_2⟩, -⟩ := hV
 have lo_b6_2 : w.heap.size ≤ b6_2 := Nat.le_trans kw.size (hg.lo _ _ hb6)
 have ne_bo_b6_2 : bo ≠ b6_2 := Nat.ne_of_lt (Nat.lt_of_lt_of_le own_bo.lt (hg.lo _ _ hb6))
 have ne_bm_b6_2 : bm ≠ b6_2 := Nat.ne_of_lt (Nat.lt_of_lt_of_le own_bm.lt (hg.lo _ _ hb6))
 have own_b6_2 : Own W2 b6_2 [(.int .u8 (0)), (.int .i64 (0)), (.string (⟨#[]⟩)), (.slice none 0 0), (.slice none 0 0)] 26 := own_b6_2
 have lo_b5_2 : w.heap.size ≤ b5_2 := Nat.le_trans kw.size (hg.lo _ _ hb5)
 have ne_bo_b5_2 : bo ≠ b5_2 := Nat.ne_of_lt (Nat.lt_of_lt_of_le own_bo.lt (hg.lo _ _ hb5))
 have ne_bm_b5_2 : bm ≠ b5_2 := Nat.ne_of_lt (Nat.lt_of_lt_of_le own_bm.lt (hg.lo _ _ hb5))
 have own_b5_2 : Own W2 b5_2 [(.int .i64 (most))] 3 := own_b5_2
 have ne_b6_2_b5_2 : b6_2 ≠ b5_2 := fun h => by have := hg.inj _ _ _ hb6 (h ▸ hb5); cases this
 replace e0 := ft hR e0
 replace e1 := ft hR e1
 replace D_cn := sa_more D_cn hk [b6_2, b5_2] (in_cons (hg.lo _ _ hb6) (in_cons (hg.lo _ _ hb5) in_nil))
 replace D_ci := sa_more D_ci hk [b6_2, b5_2] (in_cons (hg.lo _ _ hb6) (in_cons (hg.lo _ _ hb5) in_nil))
 replace own_bo := own_bo.ext hk
 replace own_bm := own_bm.ext hk
 replace kw := kw.x hk
 clear hR hk hg hP hb6 hb5
 refine zn (hK1 _ _ ?_)
 refine zq fun K3 hK3 => ?_
 refine wp_reg (fun k => k ∉ [bo, bm]) (Ψ := fun W => Own W bo [(.int .u8 (x.k)), (.int .i64 (x.n)), (.string (x.t)), (.slice cna (x.ns.length) cnc), (.slice cia (x.xs.length) cic), (.map (some bm)), (.int .i64 (e))] 74 ∧ OwnM W bm (A)) mixed y2 zz2 (stE_and stE_own stE_ownM) ⟨own_bo, own_bm⟩ ?_
 refine .mb rfl e0 ?_
 refine .mb rfl e1 ?_
 refine .i (v := (.func (.func 60) #[] #[(.pointer (some ⟨b5_2, 0, none⟩))])) (sp_mkF1 (hbs rfl e5)) ?_
 refine .callL3 (φ1 := Is (.pointer (some ⟨bo, 0, none⟩))) (φ2 := Is (.string (name))) (φ3 := Is (.func (.func 60) #[] #[(.pointer (some ⟨b5_2, 0, none⟩))])) (φ := IsD (Fr W2) (V.d (if tkB x e name (obE most) then obV most (getV x name) else ⟨0, 0, ⟨#[]⟩, [], []⟩))) (Ψ' := fun W => Own W bo [(.int .u8 (x.k)), (.int .i64 (x.n)), (.string (x.t)), (.slice cna (x.ns.length) cnc), (.slice cia (x.xs.length) cic), (.map (some bm)), (.int .i64 (tkE x e name (obE most)))] 74 ∧ OwnM W bm (tkA x A e name (obE most))) ent59 (hlc rfl) (hlc rfl) (hlc rfl) (st_d (sub_frnl (in_cons own_bo.lt (in_cons own_bm.lt in_nil)))) (stE_and stE_own stE_ownM) (fun g u1 u2 u3 W hk hg h1 h2 h3 hP => by have h1 : u1 = _ := h1; subst u1; have h2 : u2 = _ := h2; subst u2; have h3 : u3 = _ := h3; subst u3; exact (takeV_ok (x) (A) (e) hA hx hxt name 60 #[(.pointer (some ⟨b5_2, 0, none⟩))] (obE most) (obV most) W _ _ _ _ _ (sa_cln hS) (sa_notin (by simp)) hne (sa_keepL D_cn hk (by simp)) (sa_keepL D_ci hk (by simp)) hP.1 hP.2 ent60 (fun W2 hk2 Z y v hy hv2 => object1_ok y most W2 _ v b5_2 hv2 (own_keepL (own_keepL own_b5_2 hk (by simp [ne_bo_b5_2.symm, ne_bm_b5_2.symm])) hk2 (by simp [ne_bo_b5_2.symm, ne_bm_b5_2.symm])))).mono (fun _ _ ⟨v, h1, h2, h3, h4⟩ => ⟨v, h1, h2, fresh_d hk hg h3, h4⟩)) ?_
 refine .dn fun a4 g W4 y4 zz4 hk hg hV hR hP => ?_
 obtain ⟨e10, -, -, -, -⟩ := hV
 replace e6 := ft hR e6
 obtain ⟨v10_4, ev⟩ : ∃ v, sl a4 10 = v := ⟨_, rfl⟩
 rw [ev] at e10
 have D_v10_4 : Rd W4 (SF w [b6_2, b5_2, bo, bm]) (V.d (if tkB x e name (obE most) then obV most (getV x name) else ⟨0, 0, ⟨#[]⟩, [], []⟩)) v10_4 := fr_end (M := [b6_2, b5_2, bo, bm]) e10 kw [] in_nil (in_cons own_b6_2.lt (in_cons own_b5_2.lt (in_cons own_bo.lt (in_cons own_bm.lt in_nil))))
 replace e10 := ev; clear ev
 obtain ⟨cn10_4a, cn10_4c, ci10_4a, ci10_4c, ev, ht_v10_4, D_cn10_4, D_ci10_4⟩ := rdV_out D_v10_4
 subst ev; clear D_v10_4
 replace D_cn := sa_keepL D_cn hk (by simp)
 replace D_ci := sa_keepL D_ci hk (by simp)
 replace own_b6_2 := own_keepL own_b6_2 hk (by simp [ne_bo_b6_2.symm, ne_bm_b6_2.symm])
 replace own_b5_2 := own_keepL own_b5_2 hk (by simp [ne_bo_b5_2.symm, ne_bm_b5_2.symm])
 obtain ⟨own_bo, own_bm⟩ := hP
 replace own_bo : Own W4 bo [(.int .u8 (x.k)), (.int .i64 (x.n)), (.string (x.t)), (.slice cna (x.ns.length) cnc), (.slice cia (x.xs.length) cic), (.map (some bm)), (.int .i64 (tkE x e name (obE most)))] 74 := own_bo
 replace own_bm : OwnM W4 bm (tkA x A e name (obE most)) := own_bm
 replace kw := keeps_L kw hk (in_cons (.inr (by simp)) (in_cons (.inr (by simp)) in_nil))
 clear hR hk hg
 refine tail_store e6 e10 sz26 rfl own_b6_2 (lbr rfl) (all_cons rfl (all_cons rfl (all_cons rfl (all_cons rfl (all_cons rfl all_nil))))) (fun W5 hs own_b6_2 => ?_)
 have own_b6_2 : Own W5 b6_2 [(.int .u8 ((if tkB x e name (obE most) then obV most (getV x name) else ⟨0, 0, ⟨#[]⟩, [], []⟩).k)), (.int .i64 ((if tkB x e name (obE most) then obV most (getV x name) else ⟨0, 0, ⟨#[]⟩, [], []⟩).n)), (.string ((if tkB x e name (obE most) then obV most (getV x name) else ⟨0, 0, ⟨#[]⟩, [], []⟩).t)), (.slice cn10_4a (((if tkB x e name (obE most) then obV most (getV x name) else ⟨0, 0, ⟨#[]⟩, [], []⟩).ns).length) cn10_4c), (.slice ci10_4a (((if tkB x e name (obE most) then obV most (getV x name) else ⟨0, 0, ⟨#[]⟩, [], []⟩).xs).length) ci10_4c)] 26 := own_b6_2
 replace own_bo := own_store own_bo hs ne_bo_b6_2
 replace own_bm := ownM_store own_bm hs ne_bm_b6_2
 replace own_b5_2 := own_store own_b5_2 hs ne_b6_2_b5_2.symm
 replace D_cn := sa_store D_cn hs (by simp)
 replace D_ci := sa_store D_ci hs (by simp)
 replace D_cn10_4 := sf_store D_cn10_4 hs (by simp)
 replace D_ci10_4 := sf_store D_ci10_4 hs (by simp)
 replace kw := keeps_store kw hs lo_b6_2
 clear hs
 refine zn (hK3 _ _ ?_)
 refine wp_ret ?_
 refine retC (v := (.agg #[(.int .u8 ((if tkB x e name (obE most) then obV most (getV x name) else ⟨0, 0, ⟨#[]⟩, [], []⟩).k)), (.int .i64 ((if tkB x e name (obE most) then obV most (getV x name) else ⟨0, 0, ⟨#[]⟩, [], []⟩).n)), (.string ((if tkB x e name (obE most) then obV most (getV x name) else ⟨0, 0, ⟨#[]⟩, [], []⟩).t)), (.slice cn10_4a (((if tkB x e name (obE most) then obV most (getV x name) else ⟨0, 0, ⟨#[]⟩, [], []⟩).ns).length) cn10_4c), (.slice ci10_4a (((if tkB x e name (obE most) then obV most (getV x name) else ⟨0, 0, ⟨#[]⟩, [], []⟩).xs).length) ci10_4c)])) rfl zz4 e6 own_b6_2 agg26 sz26 rfl (fun h => by cases h) rfl ⟨_, rfl, kw, ?_⟩
 exact ⟨sf_fr (rdV_in (x := (if tkB x e name (obE most) then obV most (getV x name) else ⟨0, 0, ⟨#[]⟩, [], []⟩)) ht_v10_4 D_cn10_4 D_ci10_4 : Rd W5 (SF w [b6_2, b5_2, bo, bm]) (V.d ((if tkB x e name (obE most) then obV most (getV x name) else ⟨0, 0, ⟨#[]⟩, [], []⟩))) _), own_bo, own_bm⟩
set_option maxRecDepth 100000 in
theorem Any_ok (x : V) (A : As) (e : Int) (hA : AB 1000000 A) (hx : x.wt ≤ 1073741824) (hxt : x.t.size ≤ maxLen) (name : ByteArray) (w : World) (S : BSet) (cn ci : Value) (bo bm : Nat) (hS : ∀ b o, S b o → Cln o) (hM : ∀ b ∈ [bo, bm], ∀ o, ¬ S b o) (hne : bo ≠ bm) (hv : Rd w S (strsD x.ns) cn) (hu : Rd w S (valsD x.xs) ci) (own_bo : Own w bo [.int .u8 x.k, .int .i64 x.n, .string x.t, cn, ci, .map (some bm), .int .i64 (e)] 74) (own_bm : OwnM w bm A) : Calls Tryz.prog 40 #[.pointer (some ⟨bo, 0, none⟩), .string name] w (RetL w [bo, bm] fun u W => Rd W (Fr w) (V.d (if tkB x e name anyE then getV x name else ⟨0, 0, ⟨#[]⟩, [], []⟩)) u ∧ Own W bo [.int .u8 x.k, .int .i64 x.n, .string x.t, cn, ci, .map (some bm), .int .i64 (tkE x e name anyE)] 74 ∧ OwnM W bm (tkA x A e name anyE)) := by
 obtain ⟨cna, cnc, ev, D_cn⟩ := rdS_out (rd_argM (M := [bo, bm]) hv hM)
 subst ev
 obtain ⟨cia, cic, ev, D_ci⟩ := rdVs_out (rd_argM (M := [bo, bm]) hu hM)
 subst ev
 refine enter Tryz.func40 rfl Tryz.ntmps40 (lbr rfl) fun a0 y0 zz0 harg => ?_
 have e0 : sl a0 0 = (.pointer (some ⟨bo, 0, none⟩)) := harg 0 (lbr rfl)
 have e1 : sl a0 1 = (.string (name)) := harg 1 (lbr rfl)
 have kw := Keeps.refl (fun k => k ∉ [bo, bm]) w
 clear harg
 refine zq fun K1 hK1 => ?_
 refine rg mixed y0 zz0 ?_
 refine .alloc z26 ?_
 refine .dn fun a2 g W2 y2 zz2 hk hg hV hR hP => ?_
 obtain ⟨⟨b4_2, e4, hb4, own_b4_2⟩, -⟩ := hV
 have lo_b4_2 : w.heap.size ≤ b4_2 := Nat.le_trans kw.size (hg.lo _ _ hb4)
 have ne_bo_b4_2 : bo ≠ b4_2 := Nat.ne_of_lt (Nat.lt_of_lt_of_le own_bo.lt (hg.lo _ _ hb4))
 have ne_bm_b4_2 : bm ≠ b4_2 := Nat.ne_of_lt (Nat.lt_of_lt_of_le own_bm.lt (hg.lo _ _ hb4))
 have own_b4_2 : Own W2 b4_2 [(.int .u8 (0)), (.int .i64 (0)), (.string (⟨#[]⟩)), (.slice none 0 0), (.slice none 0 0)] 26 := own_b4_2
 replace e0 := ft hR e0
 replace e1 := ft hR e1
 replace D_cn := sa_more D_cn hk [b4_2] (in_cons (hg.lo _ _ hb4) in_nil)
 replace D_ci := sa_more D_ci hk [b4_2] (in_cons (hg.lo _ _ hb4) in_nil)
 replace own_bo := own_bo.ext hk
 replace own_bm := own_bm.ext hk
 replace kw := kw.x hk
 clear hR hk hg hP hb4
 refine zn (hK1 _ _ ?_)
 refine zq fun K3 hK3 => ?_
 refine wp_reg (fun k => k ∉ [bo, bm]) (Ψ := fun W => Own W bo [(.int .u8 (x.k)), (.int .i64 (x.n)), (.string (x.t)), (.slice cna (x.ns.length) cnc), (.slice cia (x.xs.length) cic), (.map (some bm)), (.int .i64 (e))] 74 ∧ OwnM W bm (A)) mixed y2 zz2 (stE_and stE_own stE_ownM) ⟨own_bo, own_bm⟩ ?_
 refine .mb rfl e0 ?_
 refine .mb rfl e1 ?_
 refine .callL3 (φ1 := Is (.pointer (some ⟨bo, 0, none⟩))) (φ2 := Is (.string (name))) (φ3 := Is (.func (.func 63) #[] #[])) (φ := IsD (Fr W2) (V.d (if tkB x e name (anyE) then getV x name else ⟨0, 0, ⟨#[]⟩, [], []⟩))) (Ψ' := fun W => Own W bo [(.int .u8 (x.k)), (.int .i64 (x.n)), (.string (x.t)), (.slice cna (x.ns.length) cnc), (.slice cia (x.xs.length) cic), (.map (some bm)), (.int .i64 (tkE x e name anyE))] 74 ∧ OwnM W bm (tkA x A e name anyE)) ent59 (hlc rfl) (hlc rfl) Has.fn (st_d (sub_frnl (in_cons own_bo.lt (in_cons own_bm.lt in_nil)))) (stE_and stE_own stE_ownM) (fun g u1 u2 u3 W hk hg h1 h2 h3 hP => by have h1 : u1 = _ := h1; subst u1; have h2 : u2 = _ := h2; subst u2; have h3 : u3 = _ := h3; subst u3; exact (takeV_ok (x) (A) (e) hA hx hxt name 63 #[] (anyE) (fun v => v) W _ _ _ _ _ (sa_cln hS) (sa_notin (by simp)) hne (sa_keepL D_cn hk (by simp)) (sa_keepL D_ci hk (by simp)) hP.1 hP.2 ent63 (fun W2 hk2 Z y v hy hv2 => any1_ok y W2 _ v hv2)).mono (fun _ _ ⟨v, h1, h2, h3, h4⟩ => ⟨v, h1, h2, fresh_d hk hg h3, h4⟩)) ?_
 refine .dn fun a4 g W4 y4 zz4 hk hg hV hR hP => ?_
 obtain ⟨e7, -, -, -⟩ := hV
 replace e4 := ft hR e4
 obtain ⟨v7_4, ev⟩ : ∃ v, sl a4 7 = v := ⟨_, rfl⟩
 rw [ev] at e7
 have D_v7_4 : Rd W4 (SF w [b4_2, bo, bm]) (V.d (if tkB x e name (anyE) then getV x name else ⟨0, 0, ⟨#[]⟩, [], []⟩)) v7_4 := fr_end (M := [b4_2, bo, bm]) e7 kw [] in_nil (in_cons own_b4_2.lt (in_cons own_bo.lt (in_cons own_bm.lt in_nil)))
 replace e7 := ev; clear ev
 obtain ⟨cn7_4a, cn7_4c, ci7_4a, ci7_4c, ev, ht_v7_4, D_cn7_4, D_ci7_4⟩ := rdV_out D_v7_4
 subst ev; clear D_v7_4
 replace D_cn := sa_keepL D_cn hk (by simp)
 replace D_ci := sa_keepL D_ci hk (by simp)
 replace own_b4_2 := own_keepL own_b4_2 hk (by simp [ne_bo_b4_2.symm, ne_bm_b4_2.symm])
 obtain ⟨own_bo, own_bm⟩ := hP
 replace own_bo : Own W4 bo [(.int .u8 (x.k)), (.int .i64 (x.n)), (.string (x.t)), (.slice cna (x.ns.length) cnc), (.slice cia (x.xs.length) cic), (.map (some bm)), (.int .i64 (tkE x e name anyE))] 74 := own_bo
 replace own_bm : OwnM W4 bm (tkA x A e name anyE) := own_bm
 replace kw := keeps_L kw hk (in_cons (.inr (by simp)) (in_cons (.inr (by simp)) in_nil))
 clear hR hk hg
 refine tail_store e4 e7 sz26 rfl own_b4_2 (lbr rfl) (all_cons rfl (all_cons rfl (all_cons rfl (all_cons rfl (all_cons rfl all_nil))))) (fun W5 hs own_b4_2 => ?_)
 have own_b4_2 : Own W5 b4_2 [(.int .u8 ((if tkB x e name (anyE) then getV x name else ⟨0, 0, ⟨#[]⟩, [], []⟩).k)), (.int .i64 ((if tkB x e name (anyE) then getV x name else ⟨0, 0, ⟨#[]⟩, [], []⟩).n)), (.string ((if tkB x e name (anyE) then getV x name else ⟨0, 0, ⟨#[]⟩, [], []⟩).t)), (.slice cn7_4a (((if tkB x e name (anyE) then getV x name else ⟨0, 0, ⟨#[]⟩, [], []⟩).ns).length) cn7_4c), (.slice ci7_4a (((if tkB x e name (anyE) then getV x name else ⟨0, 0, ⟨#[]⟩, [], []⟩).xs).length) ci7_4c)] 26 := own_b4_2
 replace own_bo := own_store own_bo hs ne_bo_b4_2
 replace own_bm := ownM_store own_bm hs ne_bm_b4_2
 replace D_cn := sa_store D_cn hs (by simp)
 replace D_ci := sa_store D_ci hs (by simp)
 replace D_cn7_4 := sf_store D_cn7_4 hs (by simp)
 replace D_ci7_4 := sf_store D_ci7_4 hs (by simp)
 replace kw := keeps_store kw hs lo_b4_2
 clear hs
 refine zn (hK3 _ _ ?_)
 refine wp_ret ?_
 refine retC (v := (.agg #[(.int .u8 ((if tkB x e name (anyE) then getV x name else ⟨0, 0, ⟨#[]⟩, [], []⟩).k)), (.int .i64 ((if tkB x e name (anyE) then getV x name else ⟨0, 0, ⟨#[]⟩, [], []⟩).n)), (.string ((if tkB x e name (anyE) then getV x name else ⟨0, 0, ⟨#[]⟩, [], []⟩).t)), (.slice cn7_4a (((if tkB x e name (anyE) then getV x name else ⟨0, 0, ⟨#[]⟩, [], []⟩).ns).length) cn7_4c), (.slice ci7_4a (((if tkB x e name (anyE) then getV x name else ⟨0, 0, ⟨#[]⟩, [], []⟩).xs).length) ci7_4c)])) rfl zz4 e4 own_b4_2 agg26 sz26 rfl (fun h => by cases h) rfl ⟨_, rfl, kw, ?_⟩
 exact ⟨sf_fr (rdV_in (x := (if tkB x e name (anyE) then getV x name else ⟨0, 0, ⟨#[]⟩, [], []⟩)) ht_v7_4 D_cn7_4 D_ci7_4 : Rd W5 (SF w [b4_2, bo, bm]) (V.d ((if tkB x e name (anyE) then getV x name else ⟨0, 0, ⟨#[]⟩, [], []⟩))) _), own_bo, own_bm⟩
set_option maxRecDepth 100000 in
theorem ObjectD_ok (k : Nat) (n : Int) (t : ByteArray) (cn ci mv : Value) (e : Int) (hE : errK k e ≠ 0) (name : ByteArray) (most : Int) (w : World) (bo : Nat) (own_bo : Own w bo [.int .u8 k, .int .i64 n, .string t, cn, ci, mv, .int .i64 e] 74) : Calls Tryz.prog 37 #[.pointer (some ⟨bo, 0, none⟩), .string name, .int .i64 most] w (Ret w fun u _ => u = .agg #[.int .u8 0, .int .i64 0, .string ⟨#[]⟩, .slice none 0 0, .slice none 0 0]) := by
 refine enter Tryz.func37 rfl Tryz.ntmps37 (lbr rfl) fun a0 y0 zz0 harg => ?_
 have e0 : sl a0 0 = (.pointer (some ⟨bo, 0, none⟩)) := harg 0 (lbr rfl)
 have e1 : sl a0 1 = (.string (name)) := harg 1 (lbr rfl)
 have e2 : sl a0 2 = (.int .i64 (most)) := harg 2 (lbr rfl)
 have kw := Keeps.refl All w
 clear harg
 refine zq fun K1 hK1 => ?_
 refine rg mixed y0 zz0 ?_
 refine .boxOp (v := (.int .i64 (most))) (hbs rfl e2) ?_
 refine .alloc z26 ?_
 refine .dn fun a2 g W2 y2 zz2 hk hg hV hR hP => ?_
 obtain ⟨⟨b6_2, e6, hb6, own_b6_2⟩, ⟨b5_2, e5, hb5, own_b5_2⟩, -⟩ := hV
 have lo_b6_2 : w.heap.size ≤ b6_2 := Nat.le_trans kw.size (hg.lo _ _ hb6)
 have ne_bo_b6_2 : bo ≠ b6_2 := Nat.ne_of_lt (Nat.lt_of_lt_of_le own_bo.lt (hg.lo _ _ hb6))
 have own_b6_2 : Own W2 b6_2 [(.int .u8 (0)), (.int .i64 (0)), (.string (⟨#[]⟩)), (.slice none 0 0), (.slice none 0 0)] 26 := own_b6_2
 have lo_b5_2 : w.heap.size ≤ b5_2 := Nat.le_trans kw.size (hg.lo _ _ hb5)
 have ne_bo_b5_2 : bo ≠ b5_2 := Nat.ne_of_lt (Nat.lt_of_lt_of_le own_bo.lt (hg.lo _ _ hb5))
 have own_b5_2 : Own W2 b5_2 [(.int .i64 (most))] 3 := own_b5_2
 have ne_b6_2_b5_2 : b6_2 ≠ b5_2 := fun h => by have := hg.inj _ _ _ hb6 (h ▸ hb5); cases this
 replace e0 := ft hR e0
 replace e1 := ft hR e1
 replace own_bo := own_bo.ext hk
 replace kw := kw.x hk
 clear hR hk hg hP hb6 hb5
 refine zn (hK1 _ _ ?_)
 refine zq fun K3 hK3 => ?_
 refine rg mixed y2 zz2 ?_
 refine .mb rfl e0 ?_
 refine .mb rfl e1 ?_
 refine .i (v := (.func (.func 60) #[] #[(.pointer (some ⟨b5_2, 0, none⟩))])) (sp_mkF1 (hbs rfl e5)) ?_
 refine .i (v := (.agg #[(.int .u8 (0)), (.int .i64 (0)), (.string (⟨#[]⟩)), (.slice none 0 0), (.slice none 0 0)])) (sp_call3 (φ1 := Is (.pointer (some ⟨bo, 0, none⟩))) (φ2 := Is (.string (name))) (φ3 := Is (.func (.func 60) #[] #[(.pointer (some ⟨b5_2, 0, none⟩))])) ent59 (hlc rfl) (hlc rfl) (hlc rfl) (fun g u1 u2 u3 W hk hgk h1 h2 h3 => by have h1 : u1 = _ := h1; subst u1; have h2 : u2 = _ := h2; subst u2; have h3 : u3 = _ := h3; subst u3; exact takeVD_ok _ _ _ _ _ _ _ hE _ _ W _ (own_bo.ext hk))) ?_
 refine .dn fun a4 g W4 y4 zz4 hk hg hV hR hP => ?_
 obtain ⟨e10, -, -, -, -⟩ := hV
 replace e6 := ft hR e6
 replace e10 := e10.q
 replace own_bo := own_bo.ext hk
 replace own_b6_2 := own_b6_2.ext hk
 replace own_b5_2 := own_b5_2.ext hk
 replace kw := kw.x hk
 clear hR hk hg hP
 refine tail_store e6 e10 sz26 rfl own_b6_2 (lbr rfl) (all_cons rfl (all_cons rfl (all_cons rfl (all_cons rfl (all_cons rfl all_nil))))) (fun W5 hs own_b6_2 => ?_)
 have own_b6_2 : Own W5 b6_2 [(.int .u8 (0)), (.int .i64 (0)), (.string (⟨#[]⟩)), (.slice none 0 0), (.slice none 0 0)] 26 := own_b6_2
 replace own_bo := own_store own_bo hs ne_bo_b6_2
 replace own_b5_2 := own_store own_b5_2 hs ne_b6_2_b5_2.symm
 replace kw := keeps_store kw hs lo_b6_2
 clear hs
 refine zn (hK3 _ _ ?_)
 refine wp_ret ?_
 refine retC (v := (.agg #[(.int .u8 (0)), (.int .i64 (0)), (.string (⟨#[]⟩)), (.slice none 0 0), (.slice none 0 0)])) rfl zz4 e6 own_b6_2 agg26 sz26 rfl (fun h => by cases h) rfl ⟨_, rfl, kw, ?_⟩
 exact rfl
set_option maxRecDepth 100000 in
theorem HasO_ok (x : V) (e : Int) (hx : x.wt ≤ 1073741824) (hxt : x.t.size ≤ maxLen) (name : ByteArray) (w : World) (S : BSet) (cn ci mv : Value) (bo : Nat) (hS : ∀ b o, S b o → Cln o) (hv : Rd w S (strsD x.ns) cn) (hu : Rd w S (valsD x.xs) ci) (own_bo : Own w bo [.int .u8 x.k, .int .i64 x.n, .string x.t, cn, ci, mv, .int .i64 e] 74) : Calls Tryz.prog 39 #[.pointer (some ⟨bo, 0, none⟩), .string name] w (Ret w fun u _ => u = .bool (decide (errK x.k e = 0) && getB x name)) := by
 have hwx := wt_eq x
 have hwl := wts_len x.xs
 have hwn := wtN_len x.ns
 obtain ⟨cna, cnc, ev, D_cn⟩ := rdS_out (rd_arg hv)
 subst ev
 obtain ⟨cia, cic, ev, D_ci⟩ := rdVs_out (rd_arg hu)
 subst ev
 refine enter Tryz.func39 rfl Tryz.ntmps39 (lbr rfl) fun a0 y0 zz0 harg => ?_
 have e0 : sl a0 0 = (.pointer (some ⟨bo, 0, none⟩)) := harg 0 (lbr rfl)
 have e1 : sl a0 1 = (.string (name)) := harg 1 (lbr rfl)
 have kw := Keeps.refl All w
 clear harg
 refine zq fun K1 hK1 => ?_
 refine rg mixed y0 zz0 ?_
 refine .ac ?_
 refine .dn fun a2 g W2 y2 zz2 hk hg hV hR hP => ?_
 obtain ⟨-, -⟩ := hV
 replace e0 := ft hR e0
 replace e1 := ft hR e1
 replace D_cn := D_cn.ext hk
 replace D_ci := D_ci.ext hk
 replace own_bo := own_bo.ext hk
 replace kw := kw.x hk
 clear hR hk hg hP
 refine zn (hK1 _ _ ?_)
 refine zq fun K3 hK3 => ?_
 refine zq fun K4 hK4 => ?_
 refine rg mixed y2 zz2 ?_
 refine .mb rfl e0 ?_
 refine .i (v := (.int .i64 (errK x.k e))) (sp_call1 (φ1 := Is (.pointer (some ⟨bo, 0, none⟩))) ent61 (hlc rfl) (fun g u1 W hk hgk h1 => by have h1 : u1 = _ := h1; subst u1; exact Err_ok _ _ _ _ _ _ _ W _ (own_bo.ext hk))) ?_
 refine .i (sp_neq (hlc rfl) Has.cst) ?_
 refine .dn fun a5 g W5 y5 zz5 hk hg hV hR hP => ?_
 obtain ⟨e9, -, -, -⟩ := hV
 replace e0 := ft hR e0
 replace e1 := ft hR e1
 replace D_cn := D_cn.ext hk
 replace D_ci := D_ci.ext hk
 replace e9 := e9.q
 replace own_bo := own_bo.ext hk
 replace kw := kw.x hk
 clear hR hk hg hP
 refine zn (hK4 _ _ ?_)
 refine zc e9 (fun hc => ?_) (fun hc => ?_)
 ·
  have hE : errK x.k e ≠ 0 := by simpa using hc
  have hf : (decide (errK x.k e = 0) && getB x name) = false := by simp [hE]
  refine zq fun K6 hK6 => ?_
  refine rg mixed y5 zz5 ?_
  refine .ac ?_
  refine .dn fun a7 g W7 y7 zz7 hk hg hV hR hP => ?_
  obtain ⟨e4, -⟩ := hV
  replace D_cn := D_cn.ext hk
  replace D_ci := D_ci.ext hk
  replace e4 := e4.q
  replace own_bo := own_bo.ext hk
  replace kw := kw.x hk
  clear hR hk hg hP
  refine zn (hK6 _ _ ?_)
  refine wp_ret ?_
  refine ret1 rfl zz7 e4 ⟨_, rfl, kw, ?_⟩
  rw [hf]
 have hE : errK x.k e = 0 := by simpa using hc
 have hf : (decide (errK x.k e = 0) && getB x name) = getB x name := by simp [hE]
 refine wp_skip (hK3 _ _ ?_)
 refine zq fun K8 hK8 => ?_
 refine rg mixed y5 zz5 ?_
 refine .mb rfl e0 ?_
 refine .i (sp_nilP (hlc rfl)) ?_
 refine .i (fo 0 (hlc rfl) Tryz.underlying74 rfl sz26 rfl) ?_
 refine .i (v := (.agg #[(.int .u8 (x.k)), (.int .i64 (x.n)), (.string (x.t)), (.slice cna (x.ns.length) cnc), (.slice cia (x.xs.length) cic)])) (loA (hlc rfl) own_bo trivial agg26 sz26 rfl rfl) ?_
 refine .mb rfl e1 ?_
 refine .op (φ := IsT (IsD (Fr W5) (V.d (getV (x) name))) (Is (.bool (getB (x) name)))) (st_t (st_d sub_all) (st_is _)) (sp_call2 (φ1 := IsD (SA w S []) (V.d (x))) (φ2 := Is (.string (name))) ent62 ((hlc rfl).dat (rdV_in (x := x) hxt D_cn D_ci : Rd W5 (SA w S []) (V.d (x)) _) sub_all) (hlc rfl) (fun g u1 u2 W hk hgk h1 h2 => by have h2 : u2 = _ := h2; subst u2; exact (Get_ok (x) (name) (by omega) W _ _ (fun b o h => sa_cln hS b o h.1) h1).mono (fun _ _ ⟨v, h1, h2, r1, h3, h4⟩ => ⟨v, h1, h2, r1, _, h3, fresh_d hk hgk h4, rfl⟩))) ?_
 refine .op (φ := IsT (IsD (Fr W5) (V.d (getV (x) name))) (Is (.bool (getB (x) name)))) (st_t (st_d sub_all) (st_is _)) (sp_move (hlc rfl)) ?_
 refine .da (X := Fr W5) (e := V.d (getV (x) name)) (sp_ext2 (hlc rfl) rfl) ?_
 refine .i (v := (.bool (getB (x) name))) (sp_ext2' (hlc rfl) rfl) ?_
 refine .alloc z26 ?_
 refine .dn fun a9 g W9 y9 zz9 hk hg hV hR hP => ?_
 obtain ⟨⟨b5_9, e5, hb5, own_b5_9⟩, e18, e17, -, -, -, -, -, -, -, -⟩ := hV
 have lo_b5_9 : w.heap.size ≤ b5_9 := Nat.le_trans kw.size (hg.lo _ _ hb5)
 have ne_bo_b5_9 : bo ≠ b5_9 := Nat.ne_of_lt (Nat.lt_of_lt_of_le own_bo.lt (hg.lo _ _ hb5))
 have own_b5_9 : Own W9 b5_9 [(.int .u8 (0)), (.int .i64 (0)), (.string (⟨#[]⟩)), (.slice none 0 0), (.slice none 0 0)] 26 := own_b5_9
 replace D_cn := sa_more D_cn hk [b5_9] (in_cons (hg.lo _ _ hb5) in_nil)
 replace D_ci := sa_more D_ci hk [b5_9] (in_cons (hg.lo _ _ hb5) in_nil)
 obtain ⟨v17_9, ev⟩ : ∃ v, sl a9 17 = v := ⟨_, rfl⟩
 rw [ev] at e17
 have D_v17_9 : Rd W9 (SF w [b5_9]) (V.d (getV (x) name)) v17_9 := fr_end (M := []) e17 kw [b5_9] (in_cons ⟨_, hb5⟩ in_nil) in_nil
 replace e17 := ev; clear ev
 obtain ⟨cn17_9a, cn17_9c, ci17_9a, ci17_9c, ev, ht_v17_9, D_cn17_9, D_ci17_9⟩ := rdV_out D_v17_9
 subst ev; clear D_v17_9
 replace e18 := e18.q
 replace own_bo := own_bo.ext hk
 replace kw := kw.x hk
 clear hR hk hg hP hb5
 refine tail_store e5 e17 sz26 rfl own_b5_9 (lbr rfl) (all_cons rfl (all_cons rfl (all_cons rfl (all_cons rfl (all_cons rfl all_nil))))) (fun W10 hs own_b5_9 => ?_)
 have own_b5_9 : Own W10 b5_9 [(.int .u8 ((getV (x) name).k)), (.int .i64 ((getV (x) name).n)), (.string ((getV (x) name).t)), (.slice cn17_9a (((getV (x) name).ns).length) cn17_9c), (.slice ci17_9a (((getV (x) name).xs).length) ci17_9c)] 26 := own_b5_9
 replace own_bo := own_store own_bo hs ne_bo_b5_9
 replace D_cn := sa_store D_cn hs (by simp)
 replace D_ci := sa_store D_ci hs (by simp)
 replace D_cn17_9 := sf_store D_cn17_9 hs (by simp)
 replace D_ci17_9 := sf_store D_ci17_9 hs (by simp)
 replace kw := keeps_store kw hs lo_b5_9
 clear hs
 refine tail_assign (v := (.bool (getB (x) name))) e18 (by rw [y9]; exact Nat.le_of_ble_eq_true rfl) (fun a11 y11 zz11 e6 hr => ?_)
 replace y11 := y11.trans y9; replace zz11 := zz11.trans zz9
 replace e5 := (hr 5 (by decide)).trans e5
 replace e17 := (hr 17 (by decide)).trans e17
 replace e18 := (hr 18 (by decide)).trans e18
 clear hr
 refine zn (hK8 _ _ ?_)
 refine zq fun K12 hK12 => ?_
 refine rg mixed y11 zz11 ?_
 refine .mb rfl e6 ?_
 refine .al rfl ?_
 refine .dn fun a13 g W13 y13 zz13 hk hg hV hR hP => ?_
 obtain ⟨e4, -, -⟩ := hV
 replace D_cn := D_cn.ext hk
 replace D_ci := D_ci.ext hk
 replace e4 := e4.q
 replace own_bo := own_bo.ext hk
 replace own_b5_9 := own_b5_9.ext hk
 replace kw := kw.x hk
 clear hR hk hg hP
 refine zn (hK12 _ _ ?_)
 refine wp_ret ?_
 refine ret1 rfl zz13 e4 ⟨_, rfl, kw, ?_⟩
 rw [hf]
set_option maxRecDepth 100000 in
theorem HasOD_ok (k : Nat) (n : Int) (t : ByteArray) (cn ci mv : Value) (e : Int) (hE : errK k e ≠ 0) (name : ByteArray) (w : World) (bo : Nat) (own_bo : Own w bo [.int .u8 k, .int .i64 n, .string t, cn, ci, mv, .int .i64 e] 74) : Calls Tryz.prog 39 #[.pointer (some ⟨bo, 0, none⟩), .string name] w (Ret w fun u _ => u = .bool false) := by
 refine enter Tryz.func39 rfl Tryz.ntmps39 (lbr rfl) fun a0 y0 zz0 harg => ?_
 have e0 : sl a0 0 = (.pointer (some ⟨bo, 0, none⟩)) := harg 0 (lbr rfl)
 have e1 : sl a0 1 = (.string (name)) := harg 1 (lbr rfl)
 have kw := Keeps.refl All w
 clear harg
 refine zq fun K1 hK1 => ?_
 refine rg mixed y0 zz0 ?_
 refine .ac ?_
 refine .dn fun a2 g W2 y2 zz2 hk hg hV hR hP => ?_
 obtain ⟨-, -⟩ := hV
 replace e0 := ft hR e0
 replace e1 := ft hR e1
 replace own_bo := own_bo.ext hk
 replace kw := kw.x hk
 clear hR hk hg hP
 refine zn (hK1 _ _ ?_)
 refine zq fun K3 hK3 => ?_
 refine zq fun K4 hK4 => ?_
 refine rg mixed y2 zz2 ?_
 refine .mb rfl e0 ?_
 refine .i (v := (.int .i64 (errK (k : Nat) e))) (sp_call1 (φ1 := Is (.pointer (some ⟨bo, 0, none⟩))) ent61 (hlc rfl) (fun g u1 W hk hgk h1 => by have h1 : u1 = _ := h1; subst u1; exact Err_ok _ _ _ _ _ _ _ W _ (own_bo.ext hk))) ?_
 refine .i (sp_neq (hlc rfl) Has.cst) ?_
 refine .dn fun a5 g W5 y5 zz5 hk hg hV hR hP => ?_
 obtain ⟨e9, -, -, -⟩ := hV
 replace e0 := ft hR e0
 replace e1 := ft hR e1
 replace e9 := e9.q
 replace own_bo := own_bo.ext hk
 replace kw := kw.x hk
 clear hR hk hg hP
 refine zn (hK4 _ _ ?_)
 refine zc e9 (fun hc => ?_) (fun hc => ?_)
 ·
  refine zq fun K6 hK6 => ?_
  refine rg mixed y5 zz5 ?_
  refine .ac ?_
  refine .dn fun a7 g W7 y7 zz7 hk hg hV hR hP => ?_
  obtain ⟨e4, -⟩ := hV
  replace e4 := e4.q
  replace own_bo := own_bo.ext hk
  replace kw := kw.x hk
  clear hR hk hg hP
  refine zn (hK6 _ _ ?_)
  refine wp_ret ?_
  refine ret1 rfl zz7 e4 ⟨_, rfl, kw, ?_⟩
  exact rfl
 exfalso
 exact hE (by simpa using hc)
end Go.Proofs.YtnobijngkpflcaaGreat
namespace Go.Proofs.YtnobijngkpflcaaGreat
open Go.Eng
set_option maxRecDepth 100000 in
theorem hashesObjectJ_ok (l : List Hs) (hm : mayH l = true) (w : World) (S : BSet) (v : Value) (hv : Rd w S (hssD l) v) : Calls Tryz.prog 27 #[v] w (Ret w fun u W => Rd W (Fr w) (V.d (hshO l)) u ∧ DjV u) := by
 obtain ⟨hn0, hn4, hnw⟩ := mayH_ok hm
 obtain ⟨va, vc, ev, D_v⟩ := rdHss_out (rd_arg hv)
 subst ev
 refine enter Tryz.func27 rfl Tryz.ntmps27 (lbr rfl) fun a0 y0 zz0 harg => ?_
 have e0 : sl a0 0 = (.slice va (l.length) vc) := harg 0 (lbr rfl)
 have kw := Keeps.refl All w
 clear harg
 refine zq fun K1 hK1 => ?_
 refine rg mixed y0 zz0 ?_
 refine .alloc z26 ?_
 refine .dn fun a2 g W2 y2 zz2 hk hg hV hR hP => ?_
 obtain ⟨⟨b2_2, e2, hb2, own_b2_2⟩, -⟩ := hV
 have lo_b2_2 : w.heap.size ≤ b2_2 := Nat.le_trans kw.size (hg.lo _ _ hb2)
 have own_b2_2 : Own W2 b2_2 [(.int .u8 (0)), (.int .i64 (0)), (.string (⟨#[]⟩)), (.slice none 0 0), (.slice none 0 0)] 26 := own_b2_2
 replace e0 := ft hR e0
 replace D_v := sa_more D_v hk [b2_2] (in_cons (hg.lo _ _ hb2) in_nil)
 replace kw := kw.x hk
 clear hR hk hg hP hb2
 refine zn (hK1 _ _ ?_)
 refine zq fun K3 hK3 => ?_
 refine rg mixed y2 zz2 ?_
 refine .mb rfl e0 ?_
 refine .i (sp_lenL Tryz.underlying22 ((hlc rfl).dat D_v sub_all)) ?_
 refine .op (φ := IsArr W2 w.heap.size 66 6 (SF w [b2_2]) ([]) none) st_arr (sp_mkA0 Tryz.underlying64 inf66 z66 Has.cst (hlc rfl) (by omega) (by omega) (by simp only [maxLen]; omega) kw.size) ?_
 refine .dn fun a4 g W4 y4 zz4 hk hg hV hR hP => ?_
 obtain ⟨e10, -, -, -⟩ := hV
 replace e0 := ft hR e0
 replace e2 := ft hR e2
 obtain ⟨v10_4, ev⟩ : ∃ v, sl a4 10 = v := ⟨_, rfl⟩
 rw [ev] at e10
 obtain ⟨hd10_4, A_10_4, hf10_4⟩ := e10
 have e10 := ev; clear ev
 replace hf10_4 := row_new hf10_4
 obtain ⟨v10_4a, v10_4n, v10_4c, ev⟩ := arr_sl A_10_4; subst ev
 replace A_10_4 : Arr W4 w.heap.size 66 6 (SF w (blks hd10_4 ++ (b2_2 :: []))) (List.map Mb.d ([])) (.slice v10_4a v10_4n v10_4c) hd10_4 := arrF_new A_10_4 (M' := (blks hd10_4 ++ (b2_2 :: []))) (fun b hb => (List.mem_append.1 hb).symm)
 have nb_b2_2_4 : b2_2 ∉ blks hd10_4 := fun hm => absurd (hf10_4 _ hm) (Nat.not_le.2 own_b2_2.lt)
 replace D_v : Rd W4 (SA w S (blks hd10_4 ++ (b2_2 :: []))) (hssD (l)) (.slice va (l.length) vc) := sa_more D_v hk (blks hd10_4) hf10_4
 replace own_b2_2 := own_b2_2.ext hk
 replace kw := kw.x hk
 clear hR hk hg hP hf10_4
 refine tail_assign (v := (.slice v10_4a v10_4n v10_4c)) e10 (by rw [y4]; exact Nat.le_of_ble_eq_true rfl) (fun a5 y5 zz5 e3 hr => ?_)
 replace y5 := y5.trans y4; replace zz5 := zz5.trans zz4
 replace e0 := (hr 0 (by decide)).trans e0
 replace e2 := (hr 2 (by decide)).trans e2
 replace e10 := (hr 10 (by decide)).trans e10
 clear hr
 refine zn (hK3 _ _ ?_)
 refine zq fun K6 hK6 => ?_
 refine zq fun K7 hK7 => ?_
 refine rg mixed y5 zz5 ?_
 refine .mb rfl e0 ?_
 refine .i (sp_lenL Tryz.underlying22 ((hlc rfl).dat D_v sub_all)) ?_
 refine .i (sp_move Has.cst) ?_
 refine .dn fun a8 g W8 y8 zz8 hk hg hV hR hP => ?_
 obtain ⟨e13, e12, e11, -⟩ := hV
 replace e2 := ft hR e2
 replace e3 := ft hR e3
 replace A_10_4 := A_10_4.ext hk
 replace D_v := D_v.ext hk
 replace e11 := e11.q
 replace e12 := e12.q
 replace e13 := e13.q
 replace own_b2_2 := own_b2_2.ext hk
 replace kw := kw.x hk
 clear hR hk hg hP
 refine zn (hK7 _ _ ?_)
 refine wp_block ?_
 refine wp_for (l.length) (fun k a W => ∃ (vs3_9 : Value), ∃ (hds3_9 : Option Nat), a.tmps.size = 33 ∧ a.defers = [] ∧ Keeps All w W ∧ sl a 2 = (.pointer (some ⟨b2_2, 0, none⟩)) ∧ sl a 3 = vs3_9 ∧ sl a 11 = (.slice va (l.length) vc) ∧ sl a 12 = (.int .i64 (l.length)) ∧ sl a 13 = (.int .i64 ((k : Nat))) ∧ Own W b2_2 [(.int .u8 (0)), (.int .i64 (0)), (.string (⟨#[]⟩)), (.slice none 0 0), (.slice none 0 0)] 26 ∧ Rd W (SA w S (blks hds3_9 ++ (b2_2 :: []))) (hssD (l)) (.slice va (l.length) vc) ∧ Arr W w.heap.size 66 6 (SF w (blks hds3_9 ++ (b2_2 :: []))) (List.map Mb.d (List.map hsM (l.take k))) vs3_9 hds3_9 ∧ b2_2 ∉ blks hds3_9) ⟨(.slice v10_4a v10_4n v10_4c), hd10_4, y8, zz8, kw, e2, e3, e11, e12, (e13.trans (congrArg (Value.int .i64) (rfl))), own_b2_2, D_v, A_10_4, nb_b2_2_4⟩ ?_
 clear kw e2 e3 e11 e12 e13 own_b2_2 D_v A_10_4
 rintro k a9 W9 hkk ⟨vs3_9, hds3_9, y9, zz9, kw, e2, e3, e11, e12, e13, own_b2_2, D_v, As3_9, nb_b2_2_ro10_4_9⟩
 refine zq fun K10 hK10 => ?_
 refine rg mixed y9 zz9 ?_
 refine .i (sp_lss (hbs rfl e13) (hbs rfl e12)) ?_
 refine .dn fun a11 g W11 y11 zz11 hk hg hV hR hP => ?_
 obtain ⟨e14, -⟩ := hV
 replace e2 := ft hR e2
 replace e3 := ft hR e3
 replace e11 := ft hR e11
 replace e12 := ft hR e12
 replace e13 := ft hR e13
 replace As3_9 := As3_9.ext hk
 replace D_v := D_v.ext hk
 replace e14 := e14.q
 replace own_b2_2 := own_b2_2.ext hk
 replace kw := kw.x hk
 clear hR hk hg hP
 refine zn (hK10 _ _ ?_)
 refine zq fun K12 hK12 => ?_
 refine zc e14 (fun hc => ?_) (fun hc => ?_)
 ·
  have hlt : k < l.length := by simpa using hc
  refine wp_skip (hK12 _ _ ?_)
  refine zq fun K13 hK13 => ?_
  refine wp_block ?_
  refine zq fun K14 hK14 => ?_
  refine rg mixed y11 zz11 ?_
  refine .rf (X := SA w S (blks hds3_9 ++ (b2_2 :: []))) (e := Hs.d (l[k]'hlt)) (sp_indexL (i := k) ((hbs rfl e11).dat D_v sub_all) (hbs rfl e13) Tryz.underlying22 sz43 rfl hlt) ?_
  refine .da (X := SA w S (blks hds3_9 ++ (b2_2 :: []))) (e := Hs.d (l[k]'hlt)) (sp_loadR (hlc rfl) agg43 sz43 (width_Hs _)) ?_
  refine .alloc z43 ?_
  refine .dn fun a15 g W15 y15 zz15 hk hg hV hR hP => ?_
  obtain ⟨⟨b5_15, e5, hb5, own_b5_15⟩, e16, -, -⟩ := hV
  have lo_b5_15 : w.heap.size ≤ b5_15 := Nat.le_trans kw.size (hg.lo _ _ hb5)
  have ne_b2_2_b5_15 : b2_2 ≠ b5_15 := Nat.ne_of_lt (Nat.lt_of_lt_of_le own_b2_2.lt (hg.lo _ _ hb5))
  have own_b5_15 : Own W15 b5_15 [(.string (⟨#[]⟩)), (.string (⟨#[]⟩))] 43 := own_b5_15
  replace e2 := ft hR e2
  replace e3 := ft hR e3
  replace e11 := ft hR e11
  replace e12 := ft hR e12
  replace e13 := ft hR e13
  have hMx : ∀ b ∈ (blks hds3_9 ++ (b2_2 :: [])), b < W11.heap.size := (in_app As3_9.lt (in_cons own_b2_2.lt in_nil))
  have nb_b5_15_ro10_4 : b5_15 ∉ blks hds3_9 := nb_lt As3_9.lt (hg.lo _ _ hb5)
  replace As3_9 : Arr W15 w.heap.size 66 6 (SF w (b5_15 :: (blks hds3_9 ++ (b2_2 :: [])))) (List.map Mb.d (List.map hsM (l.take k))) vs3_9 hds3_9 := arrF_more As3_9 hk [b5_15] (in_cons (hg.lo _ _ hb5) in_nil)
  replace D_v : Rd W15 (SA w S (b5_15 :: (blks hds3_9 ++ (b2_2 :: [])))) (hssD (l)) (.slice va (l.length) vc) := sa_more D_v hk [b5_15] (in_cons (hg.lo _ _ hb5) in_nil)
  obtain ⟨v16_15, ev⟩ : ∃ v, sl a15 16 = v := ⟨_, rfl⟩
  rw [ev] at e16
  have D_v16_15 : Rd W15 (SA w S (b5_15 :: (blks hds3_9 ++ (b2_2 :: [])))) (Hs.d (l[k]'hlt)) v16_15 := sa_end e16 hk [b5_15] (in_cons ⟨_, hb5⟩ in_nil)
  replace e16 := ev; clear ev
  obtain ⟨ev, hb_v16_15_0, hb_v16_15_1⟩ := rdHs_out D_v16_15
  subst ev; clear D_v16_15
  replace own_b2_2 := own_b2_2.ext hk
  replace kw := kw.x hk
  clear hR hk hg hP hb5
  refine tail_store e5 e16 sz43 rfl own_b5_15 (lbr rfl) (all_cons rfl (all_cons rfl all_nil)) (fun W16 hs own_b5_15 => ?_)
  have own_b5_15 : Own W16 b5_15 [(.string ((l[k]'hlt).al)), (.string ((l[k]'hlt).hx))] 43 := own_b5_15
  replace own_b2_2 := own_store own_b2_2 hs ne_b2_2_b5_15
  replace D_v := sa_store D_v hs (by simp)
  replace As3_9 := arrF_store As3_9 hs (by simp) nb_b5_15_ro10_4
  replace kw := keeps_store kw hs lo_b5_15
  clear hs
  refine zn (hK14 _ _ ?_)
  refine wp_reg (fun k => k ∉ blks hds3_9) (Ψ := fun W => Arr W w.heap.size 66 6 (SF w (b5_15 :: (blks hds3_9 ++ (b2_2 :: [])))) (List.map Mb.d (List.map hsM (l.take k))) vs3_9 hds3_9) mixed y15 zz15 (fun W W' k h => h.ext k) As3_9 ?_
  refine .mb rfl e3 ?_
  refine .i (fo 0 (hbs rfl e5) Tryz.underlying43 rfl sz9 rfl) ?_
  refine .i (lo1 (hlc rfl) own_b5_15 nb_b5_15_ro10_4 agg9 sz9 rfl) ?_
  refine .i (fo 1 (hbs rfl e5) Tryz.underlying43 rfl sz9 rfl) ?_
  refine .i (lo1 (hlc rfl) own_b5_15 nb_b5_15_ro10_4 agg9 sz9 rfl) ?_
  refine .i (v := (.agg #[(.int .u8 (3)), (.int .i64 (0)), (.string ((l[k]'hlt).hx)), (.slice none 0 0), (.slice none 0 0)])) (sp_call1 (φ1 := Is (.string ((l[k]'hlt).hx))) ent45 (hlc rfl) (fun g u1 W hk hgk h1 => by have h1 : u1 = _ := h1; subst u1; exact pkText_ok ((l[k]'hlt).hx) W)) ?_
  refine .i (v := (.agg #[(.string ((l[k]'hlt).al)), (.int .u8 (3)), (.int .i64 (0)), (.string ((l[k]'hlt).hx)), (.slice none 0 0), (.slice none 0 0)])) (sp_build (vs := [(0, (.string ((l[k]'hlt).al))), (1, (.agg #[(.int .u8 (3)), (.int .i64 (0)), (.string ((l[k]'hlt).hx)), (.slice none 0 0), (.slice none 0 0)]))]) Tryz.underlying66 z66 (pl66 Tryz.underlying66) ⟨rfl, (hlc rfl), rfl, (hlc rfl), trivial⟩ (by kernel_rfl)) ?_
  refine .op (φ := IsD (SF w (b5_15 :: (blks hds3_9 ++ (b2_2 :: [])))) (mbsD ([Mb.mk ((l[k]'hlt).al) (V.mk (3) (0) ((l[k]'hlt).hx) ([]) ([]))]))) (st_d (sub_nbF (fun b hb => List.mem_cons_of_mem _ (List.mem_append_left _ hb)))) (sp_bsl (ds := [Mb.d (Mb.mk ((l[k]'hlt).al) (V.mk (3) (0) ((l[k]'hlt).hx) ([]) ([])))]) Tryz.underlying64 sz66 z66 (lbr rfl) (lbr rfl) ⟨rfl, ((hlc rfl).dat (rdMb_mk hb_v16_15_0 (rdV_mk (rdHss_at D_v hlt).2 (rd_nil _) (rd_nil _) : Rd W16 (SF w (b5_15 :: (blks hds3_9 ++ (b2_2 :: [])))) (V.d (V.mk (3) (0) ((l[k]'hlt).hx) ([]) ([]))) _) : Rd W16 (SF w (b5_15 :: (blks hds3_9 ++ (b2_2 :: [])))) (Mb.d (Mb.mk ((l[k]'hlt).al) (V.mk (3) (0) ((l[k]'hlt).hx) ([]) ([])))) _) (sub_nbF (fun b hb => List.mem_cons_of_mem _ (List.mem_append_left _ hb)))), trivial⟩ rfl (by intro e he; simp at he; rcases he with rfl <;> exact width_Mb _) (fr_sf kw (in_cons own_b5_15.lt (in_app As3_9.lt (in_cons own_b2_2.lt in_nil))))) ?_
  refine .appB (ds := List.map Mb.d (List.map hsM (l.take k))) (es := [Mb.d (Mb.mk ((l[k]'hlt).al) (V.mk (3) (0) ((l[k]'hlt).hx) ([]) ([])))]) (X := SF w (b5_15 :: (blks hds3_9 ++ (b2_2 :: [])))) Tryz.underlying64 inf66 (lbr rfl) (hlc rfl) (hlc rfl) (sub_nbF (fun b hb => List.mem_cons_of_mem _ (List.mem_append_left _ hb))) (by simp [maxLen]; omega) (by simp; omega) kw.size ?_
  refine .dn fun a17 g W17 y17 zz17 hk hg hV hR hP => ?_
  obtain ⟨e25, -, -, -, -, -, -, -, -, -⟩ := hV
  replace e2 := ft hR e2
  replace e3 := ft hR e3
  replace e11 := ft hR e11
  replace e12 := ft hR e12
  replace e13 := ft hR e13
  obtain ⟨v25_17, ev⟩ : ∃ v, sl a17 25 = v := ⟨_, rfl⟩
  rw [ev] at e25
  obtain ⟨hd25_17, A_25_17, hf25_17⟩ := e25
  have e25 := ev; clear ev
  obtain ⟨v25_17a, v25_17n, v25_17c, ev⟩ := arr_sl A_25_17; subst ev
  replace A_25_17 := arrF_new (M' := (b5_15 :: (blks hd25_17 ++ (b2_2 :: [])))) A_25_17 (rep_cons (rep_app (rep_q fun _ h => h) (rep_cons rep_nil)))
  replace A_25_17 : Arr W17 w.heap.size 66 6 (SF w (b5_15 :: (blks hd25_17 ++ (b2_2 :: [])))) (List.map Mb.d ((List.map hsM (l.take k)) ++ [Mb.mk ((l[k]'hlt).al) (V.mk (3) (0) ((l[k]'hlt).hx) ([]) ([]))])) (.slice v25_17a v25_17n v25_17c) hd25_17 := by first | exact A_25_17 | (rw [List.map_append]; exact A_25_17)
  have nb_b2_2_17 : b2_2 ∉ blks hd25_17 := nb_new nb_b2_2_ro10_4_9 own_b2_2.lt hf25_17
  have nb_b5_15_17 : b5_15 ∉ blks hd25_17 := nb_new nb_b5_15_ro10_4 own_b5_15.lt hf25_17
  replace D_v := sa_app (M' := (b5_15 :: (blks hd25_17 ++ (b2_2 :: [])))) D_v hk (fun b hb => List.mem_cons_of_mem _ (List.mem_append_left _ hb)) (rep_cons (rep_app hf25_17 (rep_cons rep_nil)))
  replace own_b2_2 := own_app own_b2_2 hk nb_b2_2_ro10_4_9
  replace own_b5_15 := own_app own_b5_15 hk nb_b5_15_ro10_4
  replace kw := keeps_app kw hk As3_9.ge
  clear hR hk hg hP hf25_17 As3_9
  refine tail_assign (v := (.slice v25_17a v25_17n v25_17c)) e25 (by rw [y17]; exact Nat.le_of_ble_eq_true rfl) (fun a18 y18 zz18 e3 hr => ?_)
  replace y18 := y18.trans y17; replace zz18 := zz18.trans zz17
  replace e2 := (hr 2 (by decide)).trans e2
  replace e11 := (hr 11 (by decide)).trans e11
  replace e12 := (hr 12 (by decide)).trans e12
  replace e13 := (hr 13 (by decide)).trans e13
  replace e25 := (hr 25 (by decide)).trans e25
  clear hr
  refine zn (hK13 _ _ ?_)
  refine rg mixed y18 zz18 ?_
  refine .i (sp_add (hbs rfl e13) Has.cst (i64_in (by omega))) ?_
  refine .i (sp_move (hlc rfl)) ?_
  refine .dn fun a19 g W19 y19 zz19 hk hg hV hR hP => ?_
  obtain ⟨e13, -, -⟩ := hV
  replace e2 := ft hR e2
  replace e3 := ft hR e3
  replace e11 := ft hR e11
  replace e12 := ft hR e12
  replace A_25_17 := A_25_17.ext hk
  replace D_v := D_v.ext hk
  replace e13 := e13.q
  replace own_b2_2 := own_b2_2.ext hk
  replace own_b5_15 := own_b5_15.ext hk
  replace kw := kw.x hk
  clear hR hk hg hP
  rw [show (List.map hsM (l.take k)) ++ [Mb.mk ((l[k]'hlt).al) (V.mk (3) (0) ((l[k]'hlt).hx) ([]) ([]))] = List.map hsM (l.take (k + 1)) by rw [List.take_succ_eq_append_getElem hlt, List.map_append]; rfl] at A_25_17
  exact tail_nil ⟨hlt, (.slice v25_17a v25_17n v25_17c), hd25_17, y19, zz19, kw, e2, e3, e11, e12, (e13.trans (congrArg (Value.int .i64) (by simp))), own_b2_2, (sa_less D_v (ls_skip (ls_keepA (ls_keep ls_nil)))), (arrF_less A_25_17 (ls_skip (ls_keepA (ls_keep ls_nil)))), nb_b2_2_17⟩
 have hge0 : ¬ k < l.length := by simpa using hc
 have hge : k = l.length := by omega
 rw [show List.map hsM (l.take k) = List.map hsM l by rw [hge, List.take_length]] at As3_9
 have D_vs3_9 : Rd W11 (SF w [b2_2]) (mbsD (List.map hsM l)) vs3_9 := arrF_rd As3_9 (ls_skipA (ls_keep ls_nil)) (nin_cons nb_b2_2_ro10_4_9 nin_nil)
 obtain ⟨vs3_9a, vs3_9c, ev, D2⟩ := rdMbs_out D_vs3_9
 subst ev; replace D_vs3_9 := D2; clear D2
 replace D_v := sa_less (M' := [b2_2]) D_v (ls_skipA (ls_keep ls_nil))
 refine wp_exit (hK6 _ _ ?_)
 refine zq fun K20 hK20 => ?_
 refine rg mixed y11 zz11 ?_
 refine .mb rfl e3 ?_
 refine .op (φ := IsT (IsJ (IsD (Fr W11) (V.d (objM (List.map hsM l))))) (Is (.int .i64 (objE (List.map hsM l))))) (st_t (st_j (st_d sub_all)) (st_is _)) (sp_call1 (φ1 := IsD (SF w [b2_2]) (mbsD (List.map hsM l))) ent46 ((hlc rfl).dat D_vs3_9 sub_all) (fun g u1 W hk hgk h1 => (ObjectOfJ_ok (List.map hsM l) (by simpa using hn0) (by simp; omega) hnw W _ _ (fun b o h => h.1.2.1) h1).mono (fun _ _ ⟨v, h1, h2, r1, h3, h4, h5⟩ => ⟨v, h1, h2, r1, _, h3, ⟨fresh_d hk hgk h4, h5⟩, rfl⟩))) ?_
 refine .op (φ := IsT (IsJ (IsD (Fr W11) (V.d (objM (List.map hsM l))))) (Is (.int .i64 (objE (List.map hsM l))))) (st_t (st_j (st_d sub_all)) (st_is _)) (sp_move (hlc rfl)) ?_
 refine .op (φ := IsJ (IsD (Fr W11) (V.d (objM (List.map hsM l))))) (st_j (st_d sub_all)) (sp_ext2 (hlc rfl) rfl) ?_
 refine .i (v := (.int .i64 (objE (List.map hsM l)))) (sp_ext2' (hlc rfl) rfl) ?_
 refine .alloc z26 ?_
 refine .dn fun a21 g W21 y21 zz21 hk hg hV hR hP => ?_
 obtain ⟨⟨b6_21, e6, hb6, own_b6_21⟩, e31, e30, -, -, -, -⟩ := hV
 have lo_b6_21 : w.heap.size ≤ b6_21 := Nat.le_trans kw.size (hg.lo _ _ hb6)
 have ne_b2_2_b6_21 : b2_2 ≠ b6_21 := Nat.ne_of_lt (Nat.lt_of_lt_of_le own_b2_2.lt (hg.lo _ _ hb6))
 have own_b6_21 : Own W21 b6_21 [(.int .u8 (0)), (.int .i64 (0)), (.string (⟨#[]⟩)), (.slice none 0 0), (.slice none 0 0)] 26 := own_b6_21
 replace e2 := ft hR e2
 replace D_v := sa_more D_v hk [b6_21] (in_cons (hg.lo _ _ hb6) in_nil)
 replace D_vs3_9 := sf_more D_vs3_9 hk [b6_21] (in_cons (hg.lo _ _ hb6) in_nil)
 obtain ⟨v30_21, ev⟩ : ∃ v, sl a21 30 = v := ⟨_, rfl⟩
 rw [ev] at e30
 have hdj_v30_21 := e30.2; replace e30 := e30.1
 have D_v30_21 : Rd W21 (SF w [b6_21, b2_2]) (V.d (objM (List.map hsM l))) v30_21 := fr_end (M := [b2_2]) e30 kw [b6_21] (in_cons ⟨_, hb6⟩ in_nil) (in_cons own_b2_2.lt in_nil)
 replace e30 := ev; clear ev
 obtain ⟨cn30_21a, cn30_21c, ci30_21a, ci30_21c, ev, ht_v30_21, D_cn30_21, D_ci30_21⟩ := rdV_out D_v30_21
 subst ev; clear D_v30_21
 replace e31 := e31.q
 replace own_b2_2 := own_b2_2.ext hk
 replace kw := kw.x hk
 clear hR hk hg hP hb6
 refine tail_store e6 e30 sz26 rfl own_b6_21 (lbr rfl) (all_cons rfl (all_cons rfl (all_cons rfl (all_cons rfl (all_cons rfl all_nil))))) (fun W22 hs own_b6_21 => ?_)
 have own_b6_21 : Own W22 b6_21 [(.int .u8 ((objM (List.map hsM l)).k)), (.int .i64 ((objM (List.map hsM l)).n)), (.string ((objM (List.map hsM l)).t)), (.slice cn30_21a (((objM (List.map hsM l)).ns).length) cn30_21c), (.slice ci30_21a (((objM (List.map hsM l)).xs).length) ci30_21c)] 26 := own_b6_21
 replace own_b2_2 := own_store own_b2_2 hs ne_b2_2_b6_21
 replace D_v := sa_store D_v hs (by simp)
 replace D_vs3_9 := sf_store D_vs3_9 hs (by simp)
 replace D_cn30_21 := sf_store D_cn30_21 hs (by simp)
 replace D_ci30_21 := sf_store D_ci30_21 hs (by simp)
 replace kw := keeps_store kw hs lo_b6_21
 clear hs
 refine tail_assign (v := (.int .i64 (objE (List.map hsM l)))) e31 (by rw [y21]; exact Nat.le_of_ble_eq_true rfl) (fun a23 y23 zz23 e7 hr => ?_)
 replace y23 := y23.trans y21; replace zz23 := zz23.trans zz21
 replace e2 := (hr 2 (by decide)).trans e2
 replace e6 := (hr 6 (by decide)).trans e6
 replace e30 := (hr 30 (by decide)).trans e30
 replace e31 := (hr 31 (by decide)).trans e31
 clear hr
 refine zn (hK20 _ _ ?_)
 refine zq fun K24 hK24 => ?_
 refine rg mixed y23 zz23 ?_
 refine .i (v := (.agg #[(.int .u8 ((objM (List.map hsM l)).k)), (.int .i64 ((objM (List.map hsM l)).n)), (.string ((objM (List.map hsM l)).t)), (.slice cn30_21a (((objM (List.map hsM l)).ns).length) cn30_21c), (.slice ci30_21a (((objM (List.map hsM l)).xs).length) ci30_21c)])) (loA (hbs rfl e6) own_b6_21 trivial agg26 sz26 rfl rfl) ?_
 refine .dn fun a25 g W25 y25 zz25 hk hg hV hR hP => ?_
 obtain ⟨e32, -⟩ := hV
 replace e2 := ft hR e2
 replace D_cn30_21 := D_cn30_21.ext hk
 replace D_ci30_21 := D_ci30_21.ext hk
 replace e32 := e32.q
 replace own_b2_2 := own_b2_2.ext hk
 replace own_b6_21 := own_b6_21.ext hk
 replace kw := kw.x hk
 clear hR hk hg hP
 refine tail_store e2 e32 sz26 rfl own_b2_2 (lbr rfl) (all_cons rfl (all_cons rfl (all_cons rfl (all_cons rfl (all_cons rfl all_nil))))) (fun W26 hs own_b2_2 => ?_)
 have own_b2_2 : Own W26 b2_2 [(.int .u8 ((objM (List.map hsM l)).k)), (.int .i64 ((objM (List.map hsM l)).n)), (.string ((objM (List.map hsM l)).t)), (.slice cn30_21a (((objM (List.map hsM l)).ns).length) cn30_21c), (.slice ci30_21a (((objM (List.map hsM l)).xs).length) ci30_21c)] 26 := own_b2_2
 replace own_b6_21 := own_store own_b6_21 hs ne_b2_2_b6_21.symm
 replace D_cn30_21 := sf_store D_cn30_21 hs (by simp)
 replace D_ci30_21 := sf_store D_ci30_21 hs (by simp)
 replace kw := keeps_store kw hs lo_b2_2
 clear hs
 refine zn (hK24 _ _ ?_)
 refine wp_ret ?_
 refine retC (v := (.agg #[(.int .u8 ((objM (List.map hsM l)).k)), (.int .i64 ((objM (List.map hsM l)).n)), (.string ((objM (List.map hsM l)).t)), (.slice cn30_21a (((objM (List.map hsM l)).ns).length) cn30_21c), (.slice ci30_21a (((objM (List.map hsM l)).xs).length) ci30_21c)])) rfl zz25 e2 own_b2_2 agg26 sz26 rfl (fun h => by cases h) rfl ⟨_, rfl, kw, ?_⟩
 exact ⟨sf_fr (rdV_in (x := (objM (List.map hsM l))) ht_v30_21 D_cn30_21 D_ci30_21 : Rd W26 (SF w [b6_21, b2_2]) (V.d ((objM (List.map hsM l)))) _), by assumption⟩
theorem hashesObject_ok (l : List Hs) (hm : mayH l = true) (w : World) (S : BSet) (v : Value) (hv : Rd w S (hssD l) v) : Calls Tryz.prog 27 #[v] w (Ret w fun u W => Rd W (Fr w) (V.d (hshO l)) u) := (hashesObjectJ_ok l hm w S v hv).mono fun e W ⟨v, h1, h2, h3, _⟩ => ⟨v, h1, h2, h3⟩
set_option maxRecDepth 100000 in
theorem object21_ok (r : Rc) (hmh : mayH r.hs = true) (hcu : r.cu.wt ≤ 1000000000) (w : World) (S : BSet) (v : Value) (hS : ∀ b o, S b o → Cln o) (hv : Rd w S r.d v) : Calls Tryz.prog 42 #[v] w (Ret w fun u W => Rd W (Fr w) (V.d (recO r)) u) := by
 have hobk := recL_ok hmh (Nat.le_trans hcu (by decide))
 obtain ⟨p0_1a, p0_1c, p0_5a, p0_5c, p0_6a, p0_6c, ev, hb_p0_4, D_p0_1, D_p0_5, D_p0_6⟩ := rdRc_out (rd_arg hv)
 subst ev
 refine enter Tryz.func42 rfl Tryz.ntmps42 (lbr rfl) fun a0 y0 zz0 harg => ?_
 have e0 : sl a0 0 = (.agg #[(.int .i64 (r.ln)), (.slice p0_1a (r.hs.length) p0_1c), (.int .u8 (r.cu.k)), (.int .i64 (r.cu.n)), (.string (r.cu.t)), (.slice p0_5a (r.cu.ns.length) p0_5c), (.slice p0_6a (r.cu.xs.length) p0_6c)]) := harg 0 (lbr rfl)
 have kw := Keeps.refl All w
 clear harg
 refine zq fun K1 hK1 => ?_
 refine rg mixed y0 zz0 ?_
 refine .boxOp (v := (.agg #[(.int .i64 (r.ln)), (.slice p0_1a (r.hs.length) p0_1c), (.int .u8 (r.cu.k)), (.int .i64 (r.cu.n)), (.string (r.cu.t)), (.slice p0_5a (r.cu.ns.length) p0_5c), (.slice p0_6a (r.cu.xs.length) p0_6c)])) (hbs rfl e0) ?_
 refine .alloc z26 ?_
 refine .dn fun a2 g W2 y2 zz2 hk hg hV hR hP => ?_
 obtain ⟨⟨b2_2, e2, hb2, own_b2_2⟩, ⟨b1_2, e1, hb1, own_b1_2⟩, -⟩ := hV
 have lo_b2_2 : w.heap.size ≤ b2_2 := Nat.le_trans kw.size (hg.lo _ _ hb2)
 have own_b2_2 : Own W2 b2_2 [(.int .u8 (0)), (.int .i64 (0)), (.string (⟨#[]⟩)), (.slice none 0 0), (.slice none 0 0)] 26 := own_b2_2
 have lo_b1_2 : w.heap.size ≤ b1_2 := Nat.le_trans kw.size (hg.lo _ _ hb1)
 have own_b1_2 : Own W2 b1_2 [(.int .i64 (r.ln)), (.slice p0_1a (r.hs.length) p0_1c), (.int .u8 (r.cu.k)), (.int .i64 (r.cu.n)), (.string (r.cu.t)), (.slice p0_5a (r.cu.ns.length) p0_5c), (.slice p0_6a (r.cu.xs.length) p0_6c)] 46 := own_b1_2
 have ne_b2_2_b1_2 : b2_2 ≠ b1_2 := fun h => by have := hg.inj _ _ _ hb2 (h ▸ hb1); cases this
 replace D_p0_1 := sa_more D_p0_1 hk [b2_2, b1_2] (in_cons (hg.lo _ _ hb2) (in_cons (hg.lo _ _ hb1) in_nil))
 replace D_p0_5 := sa_more D_p0_5 hk [b2_2, b1_2] (in_cons (hg.lo _ _ hb2) (in_cons (hg.lo _ _ hb1) in_nil))
 replace D_p0_6 := sa_more D_p0_6 hk [b2_2, b1_2] (in_cons (hg.lo _ _ hb2) (in_cons (hg.lo _ _ hb1) in_nil))
 replace kw := kw.x hk
 clear hR hk hg hP hb2 hb1
 refine zn (hK1 _ _ ?_)
 refine zq fun K3 hK3 => ?_
 refine rg mixed y2 zz2 ?_
 refine .i (fo 1 (hbs rfl e1) Tryz.underlying46 rfl sz22 rfl) ?_
 refine .i (lo1 (hlc rfl) own_b1_2 trivial agg22 sz22 rfl) ?_
 refine .da (X := Fr W2) (e := V.d (hshO r.hs)) (sp_call1 (φ1 := IsD (SA w S [b2_2, b1_2]) (hssD (r.hs))) ent27 ((hlc rfl).dat D_p0_1 sub_all) (fun g u1 W hk hgk h1 => (hashesObject_ok (r.hs) hmh W _ _ h1).mono (ret_fr hk hgk))) ?_
 refine .da (X := Fr W2) (e := Mb.d (Mb.mk sHashes (hshO r.hs))) (sp_buildD (zd := [D.str ⟨#[]⟩, V.d V.zero]) (es := [(0, D.str sHashes), (1, V.d (hshO r.hs))]) Tryz.underlying66 z66 (pl66 Tryz.underlying66) ⟨rfl, Has.cst.str (lbr rfl), ⟨rfl, (hlc rfl), trivial⟩⟩ zMb (by first | rfl | simp [plOf, width, width_V, hssD]) (by simp [fits, width, strsD, valsD, hssD, width_V]) rfl) ?_
 refine .i (fo 0 (hbs rfl e1) Tryz.underlying46 rfl sz2 rfl) ?_
 refine .i (lo1 (hlc rfl) own_b1_2 trivial agg2 sz2 rfl) ?_
 refine .i (v := (.agg #[(.int .u8 (2)), (.int .i64 (r.ln)), (.string (⟨#[]⟩)), (.slice none 0 0), (.slice none 0 0)])) (sp_call1 (φ1 := Is (.int .i64 (r.ln))) ent64 (hlc rfl) (fun g u1 W hk hgk h1 => by have h1 : u1 = _ := h1; subst u1; exact pkNum_ok (r.ln) W)) ?_
 refine .i (v := (.agg #[(.string sLength), (.int .u8 (2)), (.int .i64 (r.ln)), (.string (⟨#[]⟩)), (.slice none 0 0), (.slice none 0 0)])) (sp_build (vs := [(0, (.string sLength)), (1, (.agg #[(.int .u8 (2)), (.int .i64 (r.ln)), (.string (⟨#[]⟩)), (.slice none 0 0), (.slice none 0 0)]))]) Tryz.underlying66 z66 (pl66 Tryz.underlying66) ⟨rfl, Has.cst, rfl, (hlc rfl), trivial⟩ (by kernel_rfl)) ?_
 refine .op (φ := IsArr W2 w.heap.size 66 6 (SF w [b2_2, b1_2]) (List.map Mb.d ([Mb.mk sHashes (hshO r.hs), Mb.mk sLength (V.mk (2) (r.ln) (⟨#[]⟩) ([]) ([]))])) none) st_arr (sp_bslR (ds := [Mb.d (Mb.mk sHashes (hshO r.hs)), Mb.d (Mb.mk sLength (V.mk (2) (r.ln) (⟨#[]⟩) ([]) ([])))]) Tryz.underlying64 sz66 z66 (lbr rfl) (lbr rfl) ⟨rfl, ((hlc rfl).sup (fr_sf kw (in_cons own_b2_2.lt (in_cons own_b1_2.lt in_nil)))), ⟨rfl, ((hlc rfl).dat (rdMb_mk (lbr rfl) (rdV_mk (by decide) (rd_nil _) (rd_nil _) : Rd W2 (SF w [b2_2, b1_2]) (V.d (V.mk (2) (r.ln) (⟨#[]⟩) ([]) ([]))) _) : Rd W2 (SF w [b2_2, b1_2]) (Mb.d (Mb.mk sLength (V.mk (2) (r.ln) (⟨#[]⟩) ([]) ([])))) _) sub_all), trivial⟩⟩ rfl (by intro e he; simp at he; rcases he with rfl | rfl <;> exact width_Mb _) kw.size) ?_
 refine .dn fun a4 g W4 y4 zz4 hk hg hV hR hP => ?_
 obtain ⟨e14, -, -, -, -, -, -, -, -, -⟩ := hV
 replace e2 := ft hR e2
 replace e1 := ft hR e1
 obtain ⟨v14_4, ev⟩ : ∃ v, sl a4 14 = v := ⟨_, rfl⟩
 rw [ev] at e14
 obtain ⟨hd14_4, A_14_4, hf14_4⟩ := e14
 have e14 := ev; clear ev
 replace hf14_4 := row_new hf14_4
 obtain ⟨v14_4a, v14_4n, v14_4c, ev⟩ := arr_sl A_14_4; subst ev
 replace A_14_4 : Arr W4 w.heap.size 66 6 (SF w (blks hd14_4 ++ (b2_2 :: (b1_2 :: [])))) (List.map Mb.d ([Mb.mk sHashes (hshO r.hs), Mb.mk sLength (V.mk (2) (r.ln) (⟨#[]⟩) ([]) ([]))])) (.slice v14_4a v14_4n v14_4c) hd14_4 := arrF_new A_14_4 (M' := (blks hd14_4 ++ (b2_2 :: (b1_2 :: [])))) (fun b hb => (List.mem_append.1 hb).symm)
 have nb_b2_2_4 : b2_2 ∉ blks hd14_4 := fun hm => absurd (hf14_4 _ hm) (Nat.not_le.2 own_b2_2.lt)
 have nb_b1_2_4 : b1_2 ∉ blks hd14_4 := fun hm => absurd (hf14_4 _ hm) (Nat.not_le.2 own_b1_2.lt)
 replace D_p0_1 : Rd W4 (SA w S (blks hd14_4 ++ (b2_2 :: (b1_2 :: [])))) (hssD (r.hs)) (.slice p0_1a (r.hs.length) p0_1c) := sa_more D_p0_1 hk (blks hd14_4) hf14_4
 replace D_p0_5 : Rd W4 (SA w S (blks hd14_4 ++ (b2_2 :: (b1_2 :: [])))) (strsD (r.cu.ns)) (.slice p0_5a (r.cu.ns.length) p0_5c) := sa_more D_p0_5 hk (blks hd14_4) hf14_4
 replace D_p0_6 : Rd W4 (SA w S (blks hd14_4 ++ (b2_2 :: (b1_2 :: [])))) (valsD (r.cu.xs)) (.slice p0_6a (r.cu.xs.length) p0_6c) := sa_more D_p0_6 hk (blks hd14_4) hf14_4
 replace own_b2_2 := own_b2_2.ext hk
 replace own_b1_2 := own_b1_2.ext hk
 replace kw := kw.x hk
 clear hR hk hg hP hf14_4
 refine tail_assign (v := (.slice v14_4a v14_4n v14_4c)) e14 (by rw [y4]; exact Nat.le_of_ble_eq_true rfl) (fun a5 y5 zz5 e3 hr => ?_)
 replace y5 := y5.trans y4; replace zz5 := zz5.trans zz4
 replace e2 := (hr 2 (by decide)).trans e2
 replace e1 := (hr 1 (by decide)).trans e1
 replace e14 := (hr 14 (by decide)).trans e14
 clear hr
 refine zn (hK3 _ _ ?_)
 refine zq fun K6 hK6 => ?_
 refine zq fun K7 hK7 => ?_
 refine rg mixed y5 zz5 ?_
 refine .i (fo 2 (hbs rfl e1) Tryz.underlying46 rfl sz26 rfl) ?_
 refine .i (v := (.agg #[(.int .u8 (r.cu.k)), (.int .i64 (r.cu.n)), (.string (r.cu.t)), (.slice p0_5a (r.cu.ns.length) p0_5c), (.slice p0_6a (r.cu.xs.length) p0_6c)])) (loA (hlc rfl) own_b1_2 trivial agg26 sz26 rfl rfl) ?_
 refine .i (v := (.bool (noneB (r.cu)))) (sp_call1 (φ1 := IsD (SA w S (blks hd14_4 ++ (b2_2 :: (b1_2 :: [])))) (V.d (r.cu))) ent43 ((hlc rfl).dat (rdV_in (x := r.cu) hb_p0_4 D_p0_5 D_p0_6 : Rd W4 (SA w S (blks hd14_4 ++ (b2_2 :: (b1_2 :: [])))) (V.d (r.cu)) _) sub_all) (fun g u1 W hk hgk h1 => none_ok (r.cu) W _ _ h1)) ?_
 refine .i (sp_not (hlc rfl)) ?_
 refine .dn fun a8 g W8 y8 zz8 hk hg hV hR hP => ?_
 obtain ⟨e18, -, -, -, -⟩ := hV
 replace e2 := ft hR e2
 replace e1 := ft hR e1
 replace e3 := ft hR e3
 replace A_14_4 := A_14_4.ext hk
 replace D_p0_1 := D_p0_1.ext hk
 replace D_p0_5 := D_p0_5.ext hk
 replace D_p0_6 := D_p0_6.ext hk
 replace e18 := e18.q
 replace own_b2_2 := own_b2_2.ext hk
 replace own_b1_2 := own_b1_2.ext hk
 replace kw := kw.x hk
 clear hR hk hg hP
 refine zn (hK7 _ _ ?_)
 refine zc e18 (fun hc => ?_) (fun hc => ?_)
 ·
  have hno : noneB r.cu = false := by simpa using hc
  have hrl : recL r = [Mb.mk sHashes (hshO r.hs), Mb.mk sLength (numVv r.ln), Mb.mk sCustom r.cu] := by rw [recL, if_neg (by simp [hno])]
  refine wp_reg (fun k => k ∉ blks hd14_4) (Ψ := fun W => Arr W w.heap.size 66 6 (SF w (blks hd14_4 ++ (b2_2 :: (b1_2 :: [])))) (List.map Mb.d ([Mb.mk sHashes (hshO r.hs), Mb.mk sLength (V.mk (2) (r.ln) (⟨#[]⟩) ([]) ([]))])) (.slice v14_4a v14_4n v14_4c) hd14_4) mixed y8 zz8 (fun W W' k h => h.ext k) A_14_4 ?_
  refine .mb rfl e3 ?_
  refine .i (fo 2 (hbs rfl e1) Tryz.underlying46 rfl sz26 rfl) ?_
  refine .i (v := (.agg #[(.int .u8 (r.cu.k)), (.int .i64 (r.cu.n)), (.string (r.cu.t)), (.slice p0_5a (r.cu.ns.length) p0_5c), (.slice p0_6a (r.cu.xs.length) p0_6c)])) (loA (hlc rfl) own_b1_2 nb_b1_2_4 agg26 sz26 rfl rfl) ?_
  refine .op (φ := IsD (Fr W8) (V.d (r.cu))) (st_d (sub_frnb (fun b hb => A_14_4.lt b hb))) (sp_call1 (φ1 := IsD (SA w S (blks hd14_4 ++ (b2_2 :: (b1_2 :: [])))) (V.d (r.cu))) ent56 ((hlc rfl).dat (rdV_in (x := r.cu) hb_p0_4 D_p0_5 D_p0_6 : Rd W8 (SA w S (blks hd14_4 ++ (b2_2 :: (b1_2 :: [])))) (V.d (r.cu)) _) (sub_nb (fun b hb => List.mem_append_left _ hb))) (fun g u1 W hk hgk h1 => (Copy_ok (r.cu) (by first | omega | exact Nat.le_of_ble_eq_true (by kernel_rfl)) W _ _ (fun b o h => sa_cln hS b o h.1) h1).mono (ret_fr hk hgk))) ?_
  refine .op (φ := IsD (Fr W8) (Mb.d (Mb.mk sCustom (r.cu)))) (st_d (sub_frnb (fun b hb => A_14_4.lt b hb))) (sp_buildD (zd := [D.str ⟨#[]⟩, V.d V.zero]) (es := [(0, D.str sCustom), (1, V.d (r.cu))]) Tryz.underlying66 z66 (pl66 Tryz.underlying66) ⟨rfl, Has.cst.str (lbr rfl), ⟨rfl, (hlc rfl), trivial⟩⟩ zMb (by first | rfl | simp [plOf, width, width_V, hssD]) (by simp [fits, width, strsD, valsD, hssD, width_V]) rfl) ?_
  refine .op (φ := IsD (SF w (blks hd14_4 ++ (b2_2 :: (b1_2 :: [])))) (mbsD ([Mb.mk sCustom (r.cu)]))) (st_d (sub_nbF (fun b hb => List.mem_append_left _ hb))) (sp_bsl (ds := [Mb.d (Mb.mk sCustom (r.cu))]) Tryz.underlying64 sz66 z66 (lbr rfl) (lbr rfl) ⟨rfl, ((hlc rfl).sup (fr_sf kw (in_app A_14_4.lt (in_cons own_b2_2.lt (in_cons own_b1_2.lt in_nil))))), trivial⟩ rfl (by intro e he; simp at he; rcases he with rfl <;> exact width_Mb _) (fr_sf kw (in_app A_14_4.lt (in_cons own_b2_2.lt (in_cons own_b1_2.lt in_nil))))) ?_
  refine .appB (ds := List.map Mb.d ([Mb.mk sHashes (hshO r.hs), Mb.mk sLength (V.mk (2) (r.ln) (⟨#[]⟩) ([]) ([]))])) (es := [Mb.d (Mb.mk sCustom (r.cu))]) (X := SF w (blks hd14_4 ++ (b2_2 :: (b1_2 :: [])))) Tryz.underlying64 inf66 (lbr rfl) (hlc rfl) (hlc rfl) (sub_nbF (fun b hb => List.mem_append_left _ hb)) (by simp [maxLen]) (by simp) kw.size ?_
  refine .dn fun a9 g W9 y9 zz9 hk hg hV hR hP => ?_
  obtain ⟨e25, -, -, -, -, -, -, -⟩ := hV
  replace e2 := ft hR e2
  replace e3 := ft hR e3
  obtain ⟨v25_9, ev⟩ : ∃ v, sl a9 25 = v := ⟨_, rfl⟩
  rw [ev] at e25
  obtain ⟨hd25_9, A_25_9, hf25_9⟩ := e25
  have e25 := ev; clear ev
  obtain ⟨v25_9a, v25_9n, v25_9c, ev⟩ := arr_sl A_25_9; subst ev
  replace A_25_9 := arrF_new (M' := (blks hd25_9 ++ (b2_2 :: (b1_2 :: [])))) A_25_9 (rep_app (rep_q fun _ h => h) (rep_cons (rep_cons rep_nil)))
  replace A_25_9 : Arr W9 w.heap.size 66 6 (SF w (blks hd25_9 ++ (b2_2 :: (b1_2 :: [])))) (List.map Mb.d (([Mb.mk sHashes (hshO r.hs), Mb.mk sLength (V.mk (2) (r.ln) (⟨#[]⟩) ([]) ([]))]) ++ [Mb.mk sCustom (r.cu)])) (.slice v25_9a v25_9n v25_9c) hd25_9 := by first | exact A_25_9 | (rw [List.map_append]; exact A_25_9)
  have nb_b2_2_9 : b2_2 ∉ blks hd25_9 := nb_new nb_b2_2_4 own_b2_2.lt hf25_9
  have nb_b1_2_9 : b1_2 ∉ blks hd25_9 := nb_new nb_b1_2_4 own_b1_2.lt hf25_9
  replace D_p0_1 := sa_app (M' := (blks hd25_9 ++ (b2_2 :: (b1_2 :: [])))) D_p0_1 hk (fun b hb => List.mem_append_left _ hb) (rep_app hf25_9 (rep_cons (rep_cons rep_nil)))
  replace D_p0_5 := sa_app (M' := (blks hd25_9 ++ (b2_2 :: (b1_2 :: [])))) D_p0_5 hk (fun b hb => List.mem_append_left _ hb) (rep_app hf25_9 (rep_cons (rep_cons rep_nil)))
  replace D_p0_6 := sa_app (M' := (blks hd25_9 ++ (b2_2 :: (b1_2 :: [])))) D_p0_6 hk (fun b hb => List.mem_append_left _ hb) (rep_app hf25_9 (rep_cons (rep_cons rep_nil)))
  replace own_b2_2 := own_app own_b2_2 hk nb_b2_2_4
  replace own_b1_2 := own_app own_b1_2 hk nb_b1_2_4
  replace kw := keeps_app kw hk A_14_4.ge
  clear hR hk hg hP hf25_9 A_14_4
  refine tail_assign (v := (.slice v25_9a v25_9n v25_9c)) e25 (by rw [y9]; exact Nat.le_of_ble_eq_true rfl) (fun a10 y10 zz10 e3 hr => ?_)
  replace y10 := y10.trans y9; replace zz10 := zz10.trans zz9
  replace e2 := (hr 2 (by decide)).trans e2
  replace e25 := (hr 25 (by decide)).trans e25
  clear hr
  have D_v25_9 : Rd W9 (SF w [b2_2, b1_2]) (mbsD (([Mb.mk sHashes (hshO r.hs), Mb.mk sLength (V.mk (2) (r.ln) (⟨#[]⟩) ([]) ([]))]) ++ [Mb.mk sCustom (r.cu)])) (.slice v25_9a v25_9n v25_9c) := arrF_rd A_25_9 (ls_skipA (ls_keep (ls_keep ls_nil))) (nin_cons nb_b2_2_9 (nin_cons nb_b1_2_9 nin_nil))
  obtain ⟨xa, xc, ev, D2⟩ := rdMbs_out D_v25_9
  injection ev with h1 h2 h3; subst h1 h2 h3; replace D_v25_9 := D2; clear D2
  refine zn (hK6 _ _ ?_)
  refine zq fun K11 hK11 => ?_
  refine rg mixed y10 zz10 ?_
  refine .mb rfl e3 ?_
  refine .op (φ := IsT (IsD (Fr W9) (V.d (objM (([Mb.mk sHashes (hshO r.hs), Mb.mk sLength (V.mk (2) (r.ln) (⟨#[]⟩) ([]) ([]))]) ++ [Mb.mk sCustom (r.cu)])))) (Is (.int .i64 (objE (([Mb.mk sHashes (hshO r.hs), Mb.mk sLength (V.mk (2) (r.ln) (⟨#[]⟩) ([]) ([]))]) ++ [Mb.mk sCustom (r.cu)]))))) (st_t (st_d sub_all) (st_is _)) (sp_call1 (φ1 := IsD (SF w [b2_2, b1_2]) (mbsD (([Mb.mk sHashes (hshO r.hs), Mb.mk sLength (V.mk (2) (r.ln) (⟨#[]⟩) ([]) ([]))]) ++ [Mb.mk sCustom (r.cu)]))) ent46 ((hlc rfl).dat D_v25_9 sub_all) (fun g u1 W hk hgk h1 => (ObjectOf_ok (([Mb.mk sHashes (hshO r.hs), Mb.mk sLength (V.mk (2) (r.ln) (⟨#[]⟩) ([]) ([]))]) ++ [Mb.mk sCustom (r.cu)]) (by have h := hobk.1; rw [hrl] at h; exact h) (by have h := hobk.2.1; rw [hrl] at h; exact h) (by have h := hobk.2.2; rw [hrl] at h; exact h) W _ _ (fun b o h => h.1.2.1) h1).mono (fun _ _ ⟨v, h1, h2, r1, h3, h4⟩ => ⟨v, h1, h2, r1, _, h3, fresh_d hk hgk h4, rfl⟩))) ?_
  refine .op (φ := _) (st_t (st_d sub_all) (st_is _)) (sp_move (hlc rfl)) ?_
  refine .da (X := Fr W9) (e := V.d (objM (([Mb.mk sHashes (hshO r.hs), Mb.mk sLength (V.mk (2) (r.ln) (⟨#[]⟩) ([]) ([]))]) ++ [Mb.mk sCustom (r.cu)]))) (sp_ext2 (hlc rfl) rfl) ?_
  refine .i (v := (.int .i64 (objE (([Mb.mk sHashes (hshO r.hs), Mb.mk sLength (V.mk (2) (r.ln) (⟨#[]⟩) ([]) ([]))]) ++ [Mb.mk sCustom (r.cu)])))) (sp_ext2' (hlc rfl) rfl) ?_
  refine .alloc z26 ?_
  refine .dn fun a12 g W12 y12 zz12 hk hg hV hR hP => ?_
  obtain ⟨⟨b4_12, e4, hb4, own_b4_12⟩, e30, e29, -, -, -, -⟩ := hV
  have lo_b4_12 : w.heap.size ≤ b4_12 := Nat.le_trans kw.size (hg.lo _ _ hb4)
  have ne_b2_2_b4_12 : b2_2 ≠ b4_12 := Nat.ne_of_lt (Nat.lt_of_lt_of_le own_b2_2.lt (hg.lo _ _ hb4))
  have ne_b1_2_b4_12 : b1_2 ≠ b4_12 := Nat.ne_of_lt (Nat.lt_of_lt_of_le own_b1_2.lt (hg.lo _ _ hb4))
  have own_b4_12 : Own W12 b4_12 [(.int .u8 (0)), (.int .i64 (0)), (.string (⟨#[]⟩)), (.slice none 0 0), (.slice none 0 0)] 26 := own_b4_12
  replace e2 := ft hR e2
  replace D_v25_9 := sf_more D_v25_9 hk [b4_12] (in_cons (hg.lo _ _ hb4) in_nil)
  obtain ⟨v29_12, ev⟩ : ∃ v, sl a12 29 = v := ⟨_, rfl⟩
  rw [ev] at e29
  have D_v29_12 : Rd W12 (SF w [b4_12, b2_2, b1_2]) (V.d (objM (([Mb.mk sHashes (hshO r.hs), Mb.mk sLength (V.mk (2) (r.ln) (⟨#[]⟩) ([]) ([]))]) ++ [Mb.mk sCustom (r.cu)]))) v29_12 := fr_end (M := [b2_2, b1_2]) e29 kw [b4_12] (in_cons ⟨_, hb4⟩ in_nil) (in_cons own_b2_2.lt (in_cons own_b1_2.lt in_nil))
  replace e29 := ev; clear ev
  obtain ⟨cn29_12a, cn29_12c, ci29_12a, ci29_12c, ev, ht_v29_12, D_cn29_12, D_ci29_12⟩ := rdV_out D_v29_12
  subst ev; clear D_v29_12
  replace e30 := e30.q
  replace own_b2_2 := own_b2_2.ext hk
  replace own_b1_2 := own_b1_2.ext hk
  replace kw := kw.x hk
  clear hR hk hg hP hb4
  refine tail_store e4 e29 sz26 rfl own_b4_12 (lbr rfl) (all_cons rfl (all_cons rfl (all_cons rfl (all_cons rfl (all_cons rfl all_nil))))) (fun W13 hs own_b4_12 => ?_)
  have own_b4_12 : Own W13 b4_12 [(.int .u8 ((objM (([Mb.mk sHashes (hshO r.hs), Mb.mk sLength (V.mk (2) (r.ln) (⟨#[]⟩) ([]) ([]))]) ++ [Mb.mk sCustom (r.cu)])).k)), (.int .i64 ((objM (([Mb.mk sHashes (hshO r.hs), Mb.mk sLength (V.mk (2) (r.ln) (⟨#[]⟩) ([]) ([]))]) ++ [Mb.mk sCustom (r.cu)])).n)), (.string ((objM (([Mb.mk sHashes (hshO r.hs), Mb.mk sLength (V.mk (2) (r.ln) (⟨#[]⟩) ([]) ([]))]) ++ [Mb.mk sCustom (r.cu)])).t)), (.slice cn29_12a (((objM (([Mb.mk sHashes (hshO r.hs), Mb.mk sLength (V.mk (2) (r.ln) (⟨#[]⟩) ([]) ([]))]) ++ [Mb.mk sCustom (r.cu)])).ns).length) cn29_12c), (.slice ci29_12a (((objM (([Mb.mk sHashes (hshO r.hs), Mb.mk sLength (V.mk (2) (r.ln) (⟨#[]⟩) ([]) ([]))]) ++ [Mb.mk sCustom (r.cu)])).xs).length) ci29_12c)] 26 := own_b4_12
  replace own_b2_2 := own_store own_b2_2 hs ne_b2_2_b4_12
  replace own_b1_2 := own_store own_b1_2 hs ne_b1_2_b4_12
  replace D_v25_9 := sf_store D_v25_9 hs (by simp)
  replace D_cn29_12 := sf_store D_cn29_12 hs (by simp)
  replace D_ci29_12 := sf_store D_ci29_12 hs (by simp)
  replace kw := keeps_store kw hs lo_b4_12
  clear hs
  refine tail_assign (v := (.int .i64 (objE (([Mb.mk sHashes (hshO r.hs), Mb.mk sLength (V.mk (2) (r.ln) (⟨#[]⟩) ([]) ([]))]) ++ [Mb.mk sCustom (r.cu)])))) e30 (by rw [y12]; exact Nat.le_of_ble_eq_true rfl) (fun a14 y14 zz14 e5 hr => ?_)
  replace y14 := y14.trans y12; replace zz14 := zz14.trans zz12
  replace e2 := (hr 2 (by decide)).trans e2
  replace e4 := (hr 4 (by decide)).trans e4
  replace e29 := (hr 29 (by decide)).trans e29
  replace e30 := (hr 30 (by decide)).trans e30
  clear hr
  refine zn (hK11 _ _ ?_)
  refine zq fun K15 hK15 => ?_
  refine rg mixed y14 zz14 ?_
  refine .i (v := (.agg #[(.int .u8 ((objM (([Mb.mk sHashes (hshO r.hs), Mb.mk sLength (V.mk (2) (r.ln) (⟨#[]⟩) ([]) ([]))]) ++ [Mb.mk sCustom (r.cu)])).k)), (.int .i64 ((objM (([Mb.mk sHashes (hshO r.hs), Mb.mk sLength (V.mk (2) (r.ln) (⟨#[]⟩) ([]) ([]))]) ++ [Mb.mk sCustom (r.cu)])).n)), (.string ((objM (([Mb.mk sHashes (hshO r.hs), Mb.mk sLength (V.mk (2) (r.ln) (⟨#[]⟩) ([]) ([]))]) ++ [Mb.mk sCustom (r.cu)])).t)), (.slice cn29_12a (((objM (([Mb.mk sHashes (hshO r.hs), Mb.mk sLength (V.mk (2) (r.ln) (⟨#[]⟩) ([]) ([]))]) ++ [Mb.mk sCustom (r.cu)])).ns).length) cn29_12c), (.slice ci29_12a (((objM (([Mb.mk sHashes (hshO r.hs), Mb.mk sLength (V.mk (2) (r.ln) (⟨#[]⟩) ([]) ([]))]) ++ [Mb.mk sCustom (r.cu)])).xs).length) ci29_12c)])) (loA (hbs rfl e4) own_b4_12 trivial agg26 sz26 rfl rfl) ?_
  refine .dn fun a16 g W16 y16 zz16 hk hg hV hR hP => ?_
  obtain ⟨e31, -⟩ := hV
  replace e2 := ft hR e2
  replace D_cn29_12 := D_cn29_12.ext hk
  replace D_ci29_12 := D_ci29_12.ext hk
  replace e31 := e31.q
  replace own_b2_2 := own_b2_2.ext hk
  replace own_b1_2 := own_b1_2.ext hk
  replace own_b4_12 := own_b4_12.ext hk
  replace kw := kw.x hk
  clear hR hk hg hP
  refine tail_store e2 e31 sz26 rfl own_b2_2 (lbr rfl) (all_cons rfl (all_cons rfl (all_cons rfl (all_cons rfl (all_cons rfl all_nil))))) (fun W17 hs own_b2_2 => ?_)
  have own_b2_2 : Own W17 b2_2 [(.int .u8 ((objM (([Mb.mk sHashes (hshO r.hs), Mb.mk sLength (V.mk (2) (r.ln) (⟨#[]⟩) ([]) ([]))]) ++ [Mb.mk sCustom (r.cu)])).k)), (.int .i64 ((objM (([Mb.mk sHashes (hshO r.hs), Mb.mk sLength (V.mk (2) (r.ln) (⟨#[]⟩) ([]) ([]))]) ++ [Mb.mk sCustom (r.cu)])).n)), (.string ((objM (([Mb.mk sHashes (hshO r.hs), Mb.mk sLength (V.mk (2) (r.ln) (⟨#[]⟩) ([]) ([]))]) ++ [Mb.mk sCustom (r.cu)])).t)), (.slice cn29_12a (((objM (([Mb.mk sHashes (hshO r.hs), Mb.mk sLength (V.mk (2) (r.ln) (⟨#[]⟩) ([]) ([]))]) ++ [Mb.mk sCustom (r.cu)])).ns).length) cn29_12c), (.slice ci29_12a (((objM (([Mb.mk sHashes (hshO r.hs), Mb.mk sLength (V.mk (2) (r.ln) (⟨#[]⟩) ([]) ([]))]) ++ [Mb.mk sCustom (r.cu)])).xs).length) ci29_12c)] 26 := own_b2_2
  replace own_b1_2 := own_store own_b1_2 hs ne_b2_2_b1_2.symm
  replace own_b4_12 := own_store own_b4_12 hs ne_b2_2_b4_12.symm
  replace D_cn29_12 := sf_store D_cn29_12 hs (by simp)
  replace D_ci29_12 := sf_store D_ci29_12 hs (by simp)
  replace kw := keeps_store kw hs lo_b2_2
  clear hs
  refine zn (hK15 _ _ ?_)
  refine wp_ret ?_
  refine retC (v := (.agg #[(.int .u8 ((objM (([Mb.mk sHashes (hshO r.hs), Mb.mk sLength (V.mk (2) (r.ln) (⟨#[]⟩) ([]) ([]))]) ++ [Mb.mk sCustom (r.cu)])).k)), (.int .i64 ((objM (([Mb.mk sHashes (hshO r.hs), Mb.mk sLength (V.mk (2) (r.ln) (⟨#[]⟩) ([]) ([]))]) ++ [Mb.mk sCustom (r.cu)])).n)), (.string ((objM (([Mb.mk sHashes (hshO r.hs), Mb.mk sLength (V.mk (2) (r.ln) (⟨#[]⟩) ([]) ([]))]) ++ [Mb.mk sCustom (r.cu)])).t)), (.slice cn29_12a (((objM (([Mb.mk sHashes (hshO r.hs), Mb.mk sLength (V.mk (2) (r.ln) (⟨#[]⟩) ([]) ([]))]) ++ [Mb.mk sCustom (r.cu)])).ns).length) cn29_12c), (.slice ci29_12a (((objM (([Mb.mk sHashes (hshO r.hs), Mb.mk sLength (V.mk (2) (r.ln) (⟨#[]⟩) ([]) ([]))]) ++ [Mb.mk sCustom (r.cu)])).xs).length) ci29_12c)])) rfl zz16 e2 own_b2_2 agg26 sz26 rfl (fun h => by cases h) rfl ⟨_, rfl, kw, ?_⟩
  rw [show recO r = (objM (([Mb.mk sHashes (hshO r.hs), Mb.mk sLength (V.mk (2) (r.ln) (⟨#[]⟩) ([]) ([]))]) ++ [Mb.mk sCustom (r.cu)])) by rw [recO, hrl]; rfl]
  exact sf_fr (rdV_in (x := (objM (([Mb.mk sHashes (hshO r.hs), Mb.mk sLength (V.mk (2) (r.ln) (⟨#[]⟩) ([]) ([]))]) ++ [Mb.mk sCustom (r.cu)]))) ht_v29_12 D_cn29_12 D_ci29_12 : Rd W17 (SF w [b4_12, b2_2, b1_2]) (V.d ((objM (([Mb.mk sHashes (hshO r.hs), Mb.mk sLength (V.mk (2) (r.ln) (⟨#[]⟩) ([]) ([]))]) ++ [Mb.mk sCustom (r.cu)])))) _)
 have hno : noneB r.cu = true := by simpa using hc
 have hrl : recL r = [Mb.mk sHashes (hshO r.hs), Mb.mk sLength (numVv r.ln)] := by rw [recL, if_pos hno]
 have D_v14_4 : Rd W8 (SF w [b2_2, b1_2]) (mbsD ([Mb.mk sHashes (hshO r.hs), Mb.mk sLength (V.mk (2) (r.ln) (⟨#[]⟩) ([]) ([]))])) (.slice v14_4a v14_4n v14_4c) := arrF_rd A_14_4 (ls_skipA (ls_keep (ls_keep ls_nil))) (nin_cons nb_b2_2_4 (nin_cons nb_b1_2_4 nin_nil))
 obtain ⟨xa, xc, ev, D2⟩ := rdMbs_out D_v14_4
 injection ev with h1 h2 h3; subst h1 h2 h3; replace D_v14_4 := D2; clear D2
 replace D_p0_1 := sa_less (M' := [b2_2, b1_2]) D_p0_1 (ls_skipA (ls_keep (ls_keep ls_nil)))
 replace D_p0_5 := sa_less (M' := [b2_2, b1_2]) D_p0_5 (ls_skipA (ls_keep (ls_keep ls_nil)))
 replace D_p0_6 := sa_less (M' := [b2_2, b1_2]) D_p0_6 (ls_skipA (ls_keep (ls_keep ls_nil)))
 refine wp_skip (hK6 _ _ ?_)
 refine zq fun K18 hK18 => ?_
 refine rg mixed y8 zz8 ?_
 refine .mb rfl e3 ?_
 refine .op (φ := IsT (IsD (Fr W8) (V.d (objM ([Mb.mk sHashes (hshO r.hs), Mb.mk sLength (V.mk (2) (r.ln) (⟨#[]⟩) ([]) ([]))])))) (Is (.int .i64 (objE ([Mb.mk sHashes (hshO r.hs), Mb.mk sLength (V.mk (2) (r.ln) (⟨#[]⟩) ([]) ([]))]))))) (st_t (st_d sub_all) (st_is _)) (sp_call1 (φ1 := IsD (SF w [b2_2, b1_2]) (mbsD ([Mb.mk sHashes (hshO r.hs), Mb.mk sLength (V.mk (2) (r.ln) (⟨#[]⟩) ([]) ([]))]))) ent46 ((hlc rfl).dat D_v14_4 sub_all) (fun g u1 W hk hgk h1 => (ObjectOf_ok ([Mb.mk sHashes (hshO r.hs), Mb.mk sLength (V.mk (2) (r.ln) (⟨#[]⟩) ([]) ([]))]) (by have h := hobk.1; rw [hrl] at h; exact h) (by have h := hobk.2.1; rw [hrl] at h; exact h) (by have h := hobk.2.2; rw [hrl] at h; exact h) W _ _ (fun b o h => h.1.2.1) h1).mono (fun _ _ ⟨v, h1, h2, r1, h3, h4⟩ => ⟨v, h1, h2, r1, _, h3, fresh_d hk hgk h4, rfl⟩))) ?_
 refine .op (φ := _) (st_t (st_d sub_all) (st_is _)) (sp_move (hlc rfl)) ?_
 refine .da (X := Fr W8) (e := V.d (objM ([Mb.mk sHashes (hshO r.hs), Mb.mk sLength (V.mk (2) (r.ln) (⟨#[]⟩) ([]) ([]))]))) (sp_ext2 (hlc rfl) rfl) ?_
 refine .i (v := (.int .i64 (objE ([Mb.mk sHashes (hshO r.hs), Mb.mk sLength (V.mk (2) (r.ln) (⟨#[]⟩) ([]) ([]))])))) (sp_ext2' (hlc rfl) rfl) ?_
 refine .alloc z26 ?_
 refine .dn fun a19 g W19 y19 zz19 hk hg hV hR hP => ?_
 obtain ⟨⟨b4_19, e4, hb4, own_b4_19⟩, e30, e29, -, -, -, -⟩ := hV
 have lo_b4_19 : w.heap.size ≤ b4_19 := Nat.le_trans kw.size (hg.lo _ _ hb4)
 have ne_b2_2_b4_19 : b2_2 ≠ b4_19 := Nat.ne_of_lt (Nat.lt_of_lt_of_le own_b2_2.lt (hg.lo _ _ hb4))
 have ne_b1_2_b4_19 : b1_2 ≠ b4_19 := Nat.ne_of_lt (Nat.lt_of_lt_of_le own_b1_2.lt (hg.lo _ _ hb4))
 have own_b4_19 : Own W19 b4_19 [(.int .u8 (0)), (.int .i64 (0)), (.string (⟨#[]⟩)), (.slice none 0 0), (.slice none 0 0)] 26 := own_b4_19
 replace e2 := ft hR e2
 replace D_p0_1 := sa_more D_p0_1 hk [b4_19] (in_cons (hg.lo _ _ hb4) in_nil)
 replace D_p0_5 := sa_more D_p0_5 hk [b4_19] (in_cons (hg.lo _ _ hb4) in_nil)
 replace D_p0_6 := sa_more D_p0_6 hk [b4_19] (in_cons (hg.lo _ _ hb4) in_nil)
 replace D_v14_4 := sf_more D_v14_4 hk [b4_19] (in_cons (hg.lo _ _ hb4) in_nil)
 obtain ⟨v29_19, ev⟩ : ∃ v, sl a19 29 = v := ⟨_, rfl⟩
 rw [ev] at e29
 have D_v29_19 : Rd W19 (SF w [b4_19, b2_2, b1_2]) (V.d (objM ([Mb.mk sHashes (hshO r.hs), Mb.mk sLength (V.mk (2) (r.ln) (⟨#[]⟩) ([]) ([]))]))) v29_19 := fr_end (M := [b2_2, b1_2]) e29 kw [b4_19] (in_cons ⟨_, hb4⟩ in_nil) (in_cons own_b2_2.lt (in_cons own_b1_2.lt in_nil))
 replace e29 := ev; clear ev
 obtain ⟨cn29_19a, cn29_19c, ci29_19a, ci29_19c, ev, ht_v29_19, D_cn29_19, D_ci29_19⟩ := rdV_out D_v29_19
 subst ev; clear D_v29_19
 replace e30 := e30.q
 replace own_b2_2 := own_b2_2.ext hk
 replace own_b1_2 := own_b1_2.ext hk
 replace kw := kw.x hk
 clear hR hk hg hP hb4
 refine tail_store e4 e29 sz26 rfl own_b4_19 (lbr rfl) (all_cons rfl (all_cons rfl (all_cons rfl (all_cons rfl (all_cons rfl all_nil))))) (fun W20 hs own_b4_19 => ?_)
 have own_b4_19 : Own W20 b4_19 [(.int .u8 ((objM ([Mb.mk sHashes (hshO r.hs), Mb.mk sLength (V.mk (2) (r.ln) (⟨#[]⟩) ([]) ([]))])).k)), (.int .i64 ((objM ([Mb.mk sHashes (hshO r.hs), Mb.mk sLength (V.mk (2) (r.ln) (⟨#[]⟩) ([]) ([]))])).n)), (.string ((objM ([Mb.mk sHashes (hshO r.hs), Mb.mk sLength (V.mk (2) (r.ln) (⟨#[]⟩) ([]) ([]))])).t)), (.slice cn29_19a (((objM ([Mb.mk sHashes (hshO r.hs), Mb.mk sLength (V.mk (2) (r.ln) (⟨#[]⟩) ([]) ([]))])).ns).length) cn29_19c), (.slice ci29_19a (((objM ([Mb.mk sHashes (hshO r.hs), Mb.mk sLength (V.mk (2) (r.ln) (⟨#[]⟩) ([]) ([]))])).xs).length) ci29_19c)] 26 := own_b4_19
 replace own_b2_2 := own_store own_b2_2 hs ne_b2_2_b4_19
 replace own_b1_2 := own_store own_b1_2 hs ne_b1_2_b4_19
 replace D_p0_1 := sa_store D_p0_1 hs (by simp)
 replace D_p0_5 := sa_store D_p0_5 hs (by simp)
 replace D_p0_6 := sa_store D_p0_6 hs (by simp)
 replace D_v14_4 := sf_store D_v14_4 hs (by simp)
 replace D_cn29_19 := sf_store D_cn29_19 hs (by simp)
 replace D_ci29_19 := sf_store D_ci29_19 hs (by simp)
 replace kw := keeps_store kw hs lo_b4_19
 clear hs
 refine tail_assign (v := (.int .i64 (objE ([Mb.mk sHashes (hshO r.hs), Mb.mk sLength (V.mk (2) (r.ln) (⟨#[]⟩) ([]) ([]))])))) e30 (by rw [y19]; exact Nat.le_of_ble_eq_true rfl) (fun a21 y21 zz21 e5 hr => ?_)
 replace y21 := y21.trans y19; replace zz21 := zz21.trans zz19
 replace e2 := (hr 2 (by decide)).trans e2
 replace e4 := (hr 4 (by decide)).trans e4
 replace e29 := (hr 29 (by decide)).trans e29
 replace e30 := (hr 30 (by decide)).trans e30
 clear hr
 refine zn (hK18 _ _ ?_)
 refine zq fun K22 hK22 => ?_
 refine rg mixed y21 zz21 ?_
 refine .i (v := (.agg #[(.int .u8 ((objM ([Mb.mk sHashes (hshO r.hs), Mb.mk sLength (V.mk (2) (r.ln) (⟨#[]⟩) ([]) ([]))])).k)), (.int .i64 ((objM ([Mb.mk sHashes (hshO r.hs), Mb.mk sLength (V.mk (2) (r.ln) (⟨#[]⟩) ([]) ([]))])).n)), (.string ((objM ([Mb.mk sHashes (hshO r.hs), Mb.mk sLength (V.mk (2) (r.ln) (⟨#[]⟩) ([]) ([]))])).t)), (.slice cn29_19a (((objM ([Mb.mk sHashes (hshO r.hs), Mb.mk sLength (V.mk (2) (r.ln) (⟨#[]⟩) ([]) ([]))])).ns).length) cn29_19c), (.slice ci29_19a (((objM ([Mb.mk sHashes (hshO r.hs), Mb.mk sLength (V.mk (2) (r.ln) (⟨#[]⟩) ([]) ([]))])).xs).length) ci29_19c)])) (loA (hbs rfl e4) own_b4_19 trivial agg26 sz26 rfl rfl) ?_
 refine .dn fun a23 g W23 y23 zz23 hk hg hV hR hP => ?_
 obtain ⟨e31, -⟩ := hV
 replace e2 := ft hR e2
 replace D_cn29_19 := D_cn29_19.ext hk
 replace D_ci29_19 := D_ci29_19.ext hk
 replace e31 := e31.q
 replace own_b2_2 := own_b2_2.ext hk
 replace own_b1_2 := own_b1_2.ext hk
 replace own_b4_19 := own_b4_19.ext hk
 replace kw := kw.x hk
 clear hR hk hg hP
 refine tail_store e2 e31 sz26 rfl own_b2_2 (lbr rfl) (all_cons rfl (all_cons rfl (all_cons rfl (all_cons rfl (all_cons rfl all_nil))))) (fun W24 hs own_b2_2 => ?_)
 have own_b2_2 : Own W24 b2_2 [(.int .u8 ((objM ([Mb.mk sHashes (hshO r.hs), Mb.mk sLength (V.mk (2) (r.ln) (⟨#[]⟩) ([]) ([]))])).k)), (.int .i64 ((objM ([Mb.mk sHashes (hshO r.hs), Mb.mk sLength (V.mk (2) (r.ln) (⟨#[]⟩) ([]) ([]))])).n)), (.string ((objM ([Mb.mk sHashes (hshO r.hs), Mb.mk sLength (V.mk (2) (r.ln) (⟨#[]⟩) ([]) ([]))])).t)), (.slice cn29_19a (((objM ([Mb.mk sHashes (hshO r.hs), Mb.mk sLength (V.mk (2) (r.ln) (⟨#[]⟩) ([]) ([]))])).ns).length) cn29_19c), (.slice ci29_19a (((objM ([Mb.mk sHashes (hshO r.hs), Mb.mk sLength (V.mk (2) (r.ln) (⟨#[]⟩) ([]) ([]))])).xs).length) ci29_19c)] 26 := own_b2_2
 replace own_b1_2 := own_store own_b1_2 hs ne_b2_2_b1_2.symm
 replace own_b4_19 := own_store own_b4_19 hs ne_b2_2_b4_19.symm
 replace D_cn29_19 := sf_store D_cn29_19 hs (by simp)
 replace D_ci29_19 := sf_store D_ci29_19 hs (by simp)
 replace kw := keeps_store kw hs lo_b2_2
 clear hs
 refine zn (hK22 _ _ ?_)
 refine wp_ret ?_
 refine retC (v := (.agg #[(.int .u8 ((objM ([Mb.mk sHashes (hshO r.hs), Mb.mk sLength (V.mk (2) (r.ln) (⟨#[]⟩) ([]) ([]))])).k)), (.int .i64 ((objM ([Mb.mk sHashes (hshO r.hs), Mb.mk sLength (V.mk (2) (r.ln) (⟨#[]⟩) ([]) ([]))])).n)), (.string ((objM ([Mb.mk sHashes (hshO r.hs), Mb.mk sLength (V.mk (2) (r.ln) (⟨#[]⟩) ([]) ([]))])).t)), (.slice cn29_19a (((objM ([Mb.mk sHashes (hshO r.hs), Mb.mk sLength (V.mk (2) (r.ln) (⟨#[]⟩) ([]) ([]))])).ns).length) cn29_19c), (.slice ci29_19a (((objM ([Mb.mk sHashes (hshO r.hs), Mb.mk sLength (V.mk (2) (r.ln) (⟨#[]⟩) ([]) ([]))])).xs).length) ci29_19c)])) rfl zz23 e2 own_b2_2 agg26 sz26 rfl (fun h => by cases h) rfl ⟨_, rfl, kw, ?_⟩
 rw [show recO r = (objM ([Mb.mk sHashes (hshO r.hs), Mb.mk sLength (V.mk (2) (r.ln) (⟨#[]⟩) ([]) ([]))])) by rw [recO, hrl]; rfl]
 exact sf_fr (rdV_in (x := (objM ([Mb.mk sHashes (hshO r.hs), Mb.mk sLength (V.mk (2) (r.ln) (⟨#[]⟩) ([]) ([]))]))) ht_v29_19 D_cn29_19 D_ci29_19 : Rd W24 (SF w [b4_19, b2_2, b1_2]) (V.d ((objM ([Mb.mk sHashes (hshO r.hs), Mb.mk sLength (V.mk (2) (r.ln) (⟨#[]⟩) ([]) ([]))])))) _)
end Go.Proofs.YtnobijngkpflcaaGreat
namespace Go.Proofs.YtnobijngkpflcaaGreat
open Go.Eng
set_option maxRecDepth 100000 in
theorem HashesOf_ok (x : V) (hx : x.wt ≤ 1073741824) (w : World) (S : BSet) (v : Value) (hv : Rd w S x.d v) : Calls Tryz.prog 9 #[v] w (Ret w fun r W => ∃ r1, r = .tuple #[r1, .int .i64 (hsOE x)] ∧ Rd W (Fr w) (hssD (hsOV x)) r1) := by
 obtain ⟨cn0a, cn0c, ci0a, ci0c, ev, ht0, D_cn0, D_ci0⟩ := rdV_out (rd_arg hv)
 subst ev
 refine enter Tryz.func9 rfl Tryz.ntmps9 (lbr rfl) fun a0 y0 zz0 harg => ?_
 have e0 : sl a0 0 = (.agg #[(.int .u8 (x.k)), (.int .i64 (x.n)), (.string (x.t)), (.slice cn0a (x.ns.length) cn0c), (.slice ci0a (x.xs.length) ci0c)]) := harg 0 (lbr rfl)
 have kw := Keeps.refl All w
 clear harg
 refine zq fun K1 hK1 => ?_
 refine rg mixed y0 zz0 ?_
 refine .boxOp (v := (.agg #[(.int .u8 (x.k)), (.int .i64 (x.n)), (.string (x.t)), (.slice cn0a (x.ns.length) cn0c), (.slice ci0a (x.xs.length) ci0c)])) (hbs rfl e0) ?_
 refine .ac ?_
 refine .ac ?_
 refine .dn fun a2 g W2 y2 zz2 hk hg hV hR hP => ?_
 obtain ⟨-, -, ⟨b1_2, e1, hb1, own_b1_2⟩, -⟩ := hV
 have lo_b1_2 : w.heap.size ≤ b1_2 := Nat.le_trans kw.size (hg.lo _ _ hb1)
 have own_b1_2 : Own W2 b1_2 [(.int .u8 (x.k)), (.int .i64 (x.n)), (.string (x.t)), (.slice cn0a (x.ns.length) cn0c), (.slice ci0a (x.xs.length) ci0c)] 26 := own_b1_2
 replace D_cn0 := sa_more D_cn0 hk [b1_2] (in_cons (hg.lo _ _ hb1) in_nil)
 replace D_ci0 := sa_more D_ci0 hk [b1_2] (in_cons (hg.lo _ _ hb1) in_nil)
 replace kw := kw.x hk
 clear hR hk hg hP hb1
 refine zn (hK1 _ _ ?_)
 refine zq fun K3 hK3 => ?_
 refine zq fun K4 hK4 => ?_
 refine rg mixed y2 zz2 ?_
 refine .i (v := (.agg #[(.int .u8 (x.k)), (.int .i64 (x.n)), (.string (x.t)), (.slice cn0a (x.ns.length) cn0c), (.slice ci0a (x.xs.length) ci0c)])) (loA (hbs rfl e1) own_b1_2 trivial agg26 sz26 rfl rfl) ?_
 refine .i (v := (.bool (mayB (x)))) (sp_call1 (φ1 := IsD (SA w S [b1_2]) (V.d (x))) ent29 ((hlc rfl).dat (rdV_in (x := x) ht0 D_cn0 D_ci0 : Rd W2 (SA w S [b1_2]) (V.d (x)) _) sub_all) (fun g u1 W hk hgk h1 => May_ok (x) (Nat.le_trans (cnt_wt x) hx) W _ _ h1)) ?_
 refine .i (sp_not (hlc rfl)) ?_
 refine .dn fun a5 g W5 y5 zz5 hk hg hV hR hP => ?_
 obtain ⟨e10, -, -, -⟩ := hV
 replace e1 := ft hR e1
 replace D_cn0 := D_cn0.ext hk
 replace D_ci0 := D_ci0.ext hk
 replace e10 := e10.q
 replace own_b1_2 := own_b1_2.ext hk
 replace kw := kw.x hk
 clear hR hk hg hP
 refine zn (hK4 _ _ ?_)
 refine zc e10 (fun hc => ?_) (fun hc => ?_)
 ·
  have hm : mayB x = false := by simpa using hc
  have hoe : hsOE x = 3 := by rw [hsOE, if_pos hm]
  have hov : hsOV x = [] := by rw [hsOV, if_neg (by rw [hoe]; decide)]
  refine zq fun K6 hK6 => ?_
  refine rg mixed y5 zz5 ?_
  refine .ac ?_
  refine .ac ?_
  refine .dn fun a7 g W7 y7 zz7 hk hg hV hR hP => ?_
  obtain ⟨e3, e2, -⟩ := hV
  replace D_cn0 := D_cn0.ext hk
  replace D_ci0 := D_ci0.ext hk
  replace e2 := e2.q
  replace e3 := e3.q
  replace own_b1_2 := own_b1_2.ext hk
  replace kw := kw.x hk
  clear hR hk hg hP
  refine zn (hK6 _ _ ?_)
  refine wp_ret ?_
  refine ret2 rfl zz7 e2 e3 ⟨_, rfl, kw, ?_⟩
  refine ⟨_, by rw [hoe], ?_⟩
  rw [hov]
  exact rd_nil _
 have hm : mayB x = true := by simpa using hc
 refine wp_skip (hK3 _ _ ?_)
 refine zq fun K8 hK8 => ?_
 refine zq fun K9 hK9 => ?_
 refine rg mixed y5 zz5 ?_
 refine .i (fo 0 (hbs rfl e1) Tryz.underlying26 rfl sz5 rfl) ?_
 refine .i (lo1 (hlc rfl) own_b1_2 trivial agg5 sz5 rfl) ?_
 refine .i (sp_neq (hlc rfl) Has.cst) ?_
 refine .dn fun a10 g W10 y10 zz10 hk hg hV hR hP => ?_
 obtain ⟨e13, -, -, -⟩ := hV
 replace e1 := ft hR e1
 replace D_cn0 := D_cn0.ext hk
 replace D_ci0 := D_ci0.ext hk
 replace e13 := e13.q
 replace own_b1_2 := own_b1_2.ext hk
 replace kw := kw.x hk
 clear hR hk hg hP
 refine zn (hK9 _ _ ?_)
 refine zc e13 (fun hc => ?_) (fun hc => ?_)
 ·
  have hk : x.k ≠ 5 := by simp at hc; omega
  have hoe : hsOE x = 10 := by rw [hsOE, if_neg (by simp [hm]), if_pos hk]
  have hov : hsOV x = [] := by rw [hsOV, if_neg (by rw [hoe]; decide)]
  refine zq fun K11 hK11 => ?_
  refine rg mixed y10 zz10 ?_
  refine .ac ?_
  refine .ac ?_
  refine .dn fun a12 g W12 y12 zz12 hk hg hV hR hP => ?_
  obtain ⟨e3, e2, -⟩ := hV
  replace D_cn0 := D_cn0.ext hk
  replace D_ci0 := D_ci0.ext hk
  replace e2 := e2.q
  replace e3 := e3.q
  replace own_b1_2 := own_b1_2.ext hk
  replace kw := kw.x hk
  clear hR hk hg hP
  refine zn (hK11 _ _ ?_)
  refine wp_ret ?_
  refine ret2 rfl zz12 e2 e3 ⟨_, rfl, kw, ?_⟩
  refine ⟨_, by rw [hoe], ?_⟩
  rw [hov]
  exact rd_nil _
 have hk : x.k = 5 := by simp at hc; omega
 have hlen := mayB_len hm hk
 refine wp_skip (hK8 _ _ ?_)
 refine zq fun K13 hK13 => ?_
 refine zq fun K14 hK14 => ?_
 refine rg mixed y10 zz10 ?_
 refine .i (fo 3 (hbs rfl e1) Tryz.underlying26 rfl sz23 rfl) ?_
 refine .i (lo1 (hlc rfl) own_b1_2 trivial agg23 sz23 rfl) ?_
 refine .i (sp_lenSs Tryz.underlying23 ((hlc rfl).dat D_cn0 sub_all)) ?_
 refine .i (sp_gtr (hlc rfl) Has.cst) ?_
 refine .dn fun a15 g W15 y15 zz15 hk hg hV hR hP => ?_
 obtain ⟨e17, -, -, -, -⟩ := hV
 replace e1 := ft hR e1
 replace D_cn0 := D_cn0.ext hk
 replace D_ci0 := D_ci0.ext hk
 replace e17 := e17.q
 replace own_b1_2 := own_b1_2.ext hk
 replace kw := kw.x hk
 clear hR hk hg hP
 refine zn (hK14 _ _ ?_)
 refine zc e17 (fun hc => ?_) (fun hc => ?_)
 ·
  have h4 : 4 < x.ns.length := by simp at hc; omega
  have hoe : hsOE x = 5 := by rw [hsOE, if_neg (by simp [hm]), if_neg (by simp [hk]), if_pos h4]
  have hov : hsOV x = [] := by rw [hsOV, if_neg (by rw [hoe]; decide)]
  refine zq fun K16 hK16 => ?_
  refine rg mixed y15 zz15 ?_
  refine .ac ?_
  refine .ac ?_
  refine .dn fun a17 g W17 y17 zz17 hk hg hV hR hP => ?_
  obtain ⟨e3, e2, -⟩ := hV
  replace D_cn0 := D_cn0.ext hk
  replace D_ci0 := D_ci0.ext hk
  replace e2 := e2.q
  replace e3 := e3.q
  replace own_b1_2 := own_b1_2.ext hk
  replace kw := kw.x hk
  clear hR hk hg hP
  refine zn (hK16 _ _ ?_)
  refine wp_ret ?_
  refine ret2 rfl zz17 e2 e3 ⟨_, rfl, kw, ?_⟩
  refine ⟨_, by rw [hoe], ?_⟩
  rw [hov]
  exact rd_nil _
 have h4 : ¬ 4 < x.ns.length := by simp at hc; omega
 refine wp_skip (hK13 _ _ ?_)
 refine zq fun K18 hK18 => ?_
 refine zq fun K19 hK19 => ?_
 refine rg mixed y15 zz15 ?_
 refine .i (fo 3 (hbs rfl e1) Tryz.underlying26 rfl sz23 rfl) ?_
 refine .i (lo1 (hlc rfl) own_b1_2 trivial agg23 sz23 rfl) ?_
 refine .i (sp_lenSs Tryz.underlying23 ((hlc rfl).dat D_cn0 sub_all)) ?_
 refine .i (sp_eql (hlc rfl) Has.cst) ?_
 refine .dn fun a20 g W20 y20 zz20 hk hg hV hR hP => ?_
 obtain ⟨e21, -, -, -, -⟩ := hV
 replace e1 := ft hR e1
 replace D_cn0 := D_cn0.ext hk
 replace D_ci0 := D_ci0.ext hk
 replace e21 := e21.q
 replace own_b1_2 := own_b1_2.ext hk
 replace kw := kw.x hk
 clear hR hk hg hP
 refine zn (hK19 _ _ ?_)
 refine zc e21 (fun hc => ?_) (fun hc => ?_)
 ·
  have h0 : x.ns.length = 0 := by simp at hc; simp [hc]
  have hoe : hsOE x = 4 := by rw [hsOE, if_neg (by simp [hm]), if_neg (by simp [hk]), if_neg h4, if_pos h0]
  have hov : hsOV x = [] := by rw [hsOV, if_neg (by rw [hoe]; decide)]
  refine zq fun K21 hK21 => ?_
  refine rg mixed y20 zz20 ?_
  refine .ac ?_
  refine .ac ?_
  refine .dn fun a22 g W22 y22 zz22 hk hg hV hR hP => ?_
  obtain ⟨e3, e2, -⟩ := hV
  replace D_cn0 := D_cn0.ext hk
  replace D_ci0 := D_ci0.ext hk
  replace e2 := e2.q
  replace e3 := e3.q
  replace own_b1_2 := own_b1_2.ext hk
  replace kw := kw.x hk
  clear hR hk hg hP
  refine zn (hK21 _ _ ?_)
  refine wp_ret ?_
  refine ret2 rfl zz22 e2 e3 ⟨_, rfl, kw, ?_⟩
  refine ⟨_, by rw [hoe], ?_⟩
  rw [hov]
  exact rd_nil _
 have h0 : ¬ x.ns.length = 0 := by simp at hc; simp [hc]
 refine wp_skip (hK18 _ _ ?_)
 refine zq fun K23 hK23 => ?_
 refine rg mixed y20 zz20 ?_
 refine .i (fo 3 (hbs rfl e1) Tryz.underlying26 rfl sz23 rfl) ?_
 refine .i (lo1 (hlc rfl) own_b1_2 trivial agg23 sz23 rfl) ?_
 refine .i (sp_lenSs Tryz.underlying23 ((hlc rfl).dat D_cn0 sub_all)) ?_
 refine .op (φ := IsArr W20 w.heap.size 43 2 (SF w [b1_2]) ([]) none) st_arr (sp_mkA0 Tryz.underlying22 inf43 z43 Has.cst (hlc rfl) (by omega) (by omega) (by simp only [maxLen]; omega) kw.size) ?_
 refine .dn fun a24 g W24 y24 zz24 hk hg hV hR hP => ?_
 obtain ⟨e25, -, -, -, -⟩ := hV
 replace e1 := ft hR e1
 obtain ⟨v25_24, ev⟩ : ∃ v, sl a24 25 = v := ⟨_, rfl⟩
 rw [ev] at e25
 obtain ⟨hd25_24, A_25_24, hf25_24⟩ := e25
 have e25 := ev; clear ev
 replace hf25_24 := row_new hf25_24
 obtain ⟨v25_24a, v25_24n, v25_24c, ev⟩ := arr_sl A_25_24; subst ev
 replace A_25_24 : Arr W24 w.heap.size 43 2 (SF w (blks hd25_24 ++ (b1_2 :: []))) (List.map Hs.d ([])) (.slice v25_24a v25_24n v25_24c) hd25_24 := arrF_new A_25_24 (M' := (blks hd25_24 ++ (b1_2 :: []))) (fun b hb => (List.mem_append.1 hb).symm)
 have nb_b1_2_24 : b1_2 ∉ blks hd25_24 := fun hm => absurd (hf25_24 _ hm) (Nat.not_le.2 own_b1_2.lt)
 replace D_cn0 : Rd W24 (SA w S (blks hd25_24 ++ (b1_2 :: []))) (strsD (x.ns)) (.slice cn0a (x.ns.length) cn0c) := sa_more D_cn0 hk (blks hd25_24) hf25_24
 replace D_ci0 : Rd W24 (SA w S (blks hd25_24 ++ (b1_2 :: []))) (valsD (x.xs)) (.slice ci0a (x.xs.length) ci0c) := sa_more D_ci0 hk (blks hd25_24) hf25_24
 replace own_b1_2 := own_b1_2.ext hk
 replace kw := kw.x hk
 clear hR hk hg hP hf25_24
 refine tail_assign (v := (.slice v25_24a v25_24n v25_24c)) e25 (by rw [y24]; exact Nat.le_of_ble_eq_true rfl) (fun a25 y25 zz25 e4 hr => ?_)
 replace y25 := y25.trans y24; replace zz25 := zz25.trans zz24
 replace e1 := (hr 1 (by decide)).trans e1
 replace e25 := (hr 25 (by decide)).trans e25
 clear hr
 refine zn (hK23 _ _ ?_)
 refine zq fun K26 hK26 => ?_
 refine zq fun K27 hK27 => ?_
 refine rg mixed y25 zz25 ?_
 refine .i (fo 3 (hbs rfl e1) Tryz.underlying26 rfl sz23 rfl) ?_
 refine .i (lo1 (hlc rfl) own_b1_2 trivial agg23 sz23 rfl) ?_
 refine .i (sp_lenSs Tryz.underlying23 ((hlc rfl).dat D_cn0 sub_all)) ?_
 refine .i (sp_move Has.cst) ?_
 refine .dn fun a28 g W28 y28 zz28 hk hg hV hR hP => ?_
 obtain ⟨e29, e28, e27, -, -⟩ := hV
 replace e1 := ft hR e1
 replace e4 := ft hR e4
 replace A_25_24 := A_25_24.ext hk
 replace D_cn0 := D_cn0.ext hk
 replace D_ci0 := D_ci0.ext hk
 replace e27 := e27.q
 replace e28 := e28.q
 replace e29 := e29.q
 replace own_b1_2 := own_b1_2.ext hk
 replace kw := kw.x hk
 clear hR hk hg hP
 refine zn (hK27 _ _ ?_)
 refine wp_block ?_
 refine wp_for (x.ns.length) (fun k a W => ∃ (vs4_29 : Value), ∃ (hds4_29 : Option Nat), a.tmps.size = 58 ∧ a.defers = [] ∧ Keeps All w W ∧ sl a 1 = (.pointer (some ⟨b1_2, 0, none⟩)) ∧ sl a 4 = vs4_29 ∧ sl a 27 = (.slice cn0a (x.ns.length) cn0c) ∧ sl a 28 = (.int .i64 (x.ns.length)) ∧ sl a 29 = (.int .i64 ((k : Nat))) ∧ Own W b1_2 [(.int .u8 (x.k)), (.int .i64 (x.n)), (.string (x.t)), (.slice cn0a (x.ns.length) cn0c), (.slice ci0a (x.xs.length) ci0c)] 26 ∧ Rd W (SA w S (blks hds4_29 ++ (b1_2 :: []))) (strsD (x.ns)) (.slice cn0a (x.ns.length) cn0c) ∧ Rd W (SA w S (blks hds4_29 ++ (b1_2 :: []))) (valsD (x.xs)) (.slice ci0a (x.xs.length) ci0c) ∧ Arr W w.heap.size 43 2 (SF w (blks hds4_29 ++ (b1_2 :: []))) (List.map Hs.d (hsZ (x.ns.take k) (x.xs.take k))) vs4_29 hds4_29 ∧ b1_2 ∉ blks hds4_29 ∧ (hsF x.ns x.xs = hsF (x.ns.drop k) (x.xs.drop k))) ⟨(.slice v25_24a v25_24n v25_24c), hd25_24, y28, zz28, kw, e1, e4, e27, e28, (e29.trans (congrArg (Value.int .i64) (rfl))), own_b1_2, D_cn0, D_ci0, A_25_24, nb_b1_2_24, rfl⟩ ?_
 clear kw e1 e4 e27 e28 e29 own_b1_2 D_cn0 D_ci0 A_25_24
 rintro k a29 W29 hkk ⟨vs4_29, hds4_29, y29, zz29, kw, e1, e4, e27, e28, e29, own_b1_2, D_cn0, D_ci0, As4_29, nb_b1_2_ro25_24_29, hin⟩
 refine zq fun K30 hK30 => ?_
 refine rg mixed y29 zz29 ?_
 refine .i (sp_lss (hbs rfl e29) (hbs rfl e28)) ?_
 refine .dn fun a31 g W31 y31 zz31 hk hg hV hR hP => ?_
 obtain ⟨e30, -⟩ := hV
 replace e1 := ft hR e1
 replace e4 := ft hR e4
 replace e27 := ft hR e27
 replace e28 := ft hR e28
 replace e29 := ft hR e29
 replace As4_29 := As4_29.ext hk
 replace D_cn0 := D_cn0.ext hk
 replace D_ci0 := D_ci0.ext hk
 replace e30 := e30.q
 replace own_b1_2 := own_b1_2.ext hk
 replace kw := kw.x hk
 clear hR hk hg hP
 refine zn (hK30 _ _ ?_)
 refine zq fun K32 hK32 => ?_
 refine zc e30 (fun hc => ?_) (fun hc => ?_)
 ·
  have hlt : k < x.ns.length := by simpa using hc
  have hlx : k < x.xs.length := by omega
  rw [hsF_step hlt hlx] at hin
  have hzl : (hsZ (x.ns.take k) (x.xs.take k)).length = k := hsZ_len (by omega) (by omega)
  refine wp_skip (hK32 _ _ ?_)
  refine zq fun K33 hK33 => ?_
  refine wp_block ?_
  refine zq fun K34 hK34 => ?_
  refine rg mixed y31 zz31 ?_
  refine .mb rfl e29 ?_
  refine .rf (sp_indexS (i := k) ((hbs rfl e27).dat D_cn0 sub_all) (hbs rfl e29) Tryz.underlying23 sz9 rfl hlt) ?_
  refine .i (sp_loadStr (hlc rfl) agg9 sz9) ?_
  refine .al rfl ?_
  refine .al rfl ?_
  refine .dn fun a35 g W35 y35 zz35 hk hg hV hR hP => ?_
  obtain ⟨e6, e5, -, -, -, -⟩ := hV
  replace e1 := ft hR e1
  replace e4 := ft hR e4
  replace e27 := ft hR e27
  replace e28 := ft hR e28
  replace e29 := ft hR e29
  replace As4_29 := As4_29.ext hk
  replace D_cn0 := D_cn0.ext hk
  replace D_ci0 := D_ci0.ext hk
  replace e5 := e5.q
  replace e6 := e6.q
  replace own_b1_2 := own_b1_2.ext hk
  replace kw := kw.x hk
  clear hR hk hg hP
  refine zn (hK34 _ _ ?_)
  refine zq fun K36 hK36 => ?_
  refine zq fun K37 hK37 => ?_
  refine rg mixed y35 zz35 ?_
  refine .mb rfl e6 ?_
  refine .i (v := (.bool (roleB (x.ns[k]'hlt)))) (sp_call1 (φ1 := Is (.string (x.ns[k]'hlt))) ent30 (hlc rfl) (fun g u1 W hk hgk h1 => by have h1 : u1 = _ := h1; subst u1; exact Role_ok (x.ns[k]'hlt) (rd_strAt D_cn0 k hlt) W)) ?_
  refine .i (sp_not (hlc rfl)) ?_
  refine .dn fun a38 g W38 y38 zz38 hk hg hV hR hP => ?_
  obtain ⟨e36, -, -, -⟩ := hV
  replace e1 := ft hR e1
  replace e4 := ft hR e4
  replace e27 := ft hR e27
  replace e28 := ft hR e28
  replace e29 := ft hR e29
  replace e5 := ft hR e5
  replace e6 := ft hR e6
  replace As4_29 := As4_29.ext hk
  replace D_cn0 := D_cn0.ext hk
  replace D_ci0 := D_ci0.ext hk
  replace e36 := e36.q
  replace own_b1_2 := own_b1_2.ext hk
  replace kw := kw.x hk
  clear hR hk hg hP
  refine zn (hK37 _ _ ?_)
  refine zc e36 (fun hc => ?_) (fun hc => ?_)
  ·
   have hr : roleB (x.ns[k]'hlt) = false := by simpa using hc
   have hoe : hsOE x = 3 := by rw [hsOE, if_neg (by simp [hm]), if_neg (by simp [hk]), if_neg h4, if_neg h0, hin, if_pos hr]
   have hov : hsOV x = [] := by rw [hsOV, if_neg (by rw [hoe]; decide)]
   refine zq fun K39 hK39 => ?_
   refine rg mixed y38 zz38 ?_
   refine .ac ?_
   refine .ac ?_
   refine .dn fun a40 g W40 y40 zz40 hk hg hV hR hP => ?_
   obtain ⟨e3, e2, -⟩ := hV
   replace As4_29 := As4_29.ext hk
   replace D_cn0 := D_cn0.ext hk
   replace D_ci0 := D_ci0.ext hk
   replace e2 := e2.q
   replace e3 := e3.q
   replace own_b1_2 := own_b1_2.ext hk
   replace kw := kw.x hk
   clear hR hk hg hP
   refine zn (hK39 _ _ ?_)
   refine wp_ret ?_
   refine ret2 rfl zz40 e2 e3 ⟨_, rfl, kw, ?_⟩
   refine ⟨_, by rw [hoe], ?_⟩
   rw [hov]
   exact rd_nil _
  have hr : roleB (x.ns[k]'hlt) = true := by simpa using hc
  rw [if_neg (by simp [hr])] at hin
  refine wp_skip (hK36 _ _ ?_)
  refine zq fun K41 hK41 => ?_
  refine rg mixed y38 zz38 ?_
  refine .i (fo 4 (hbs rfl e1) Tryz.underlying26 rfl sz24 rfl) ?_
  refine .i (lo1 (hlc rfl) own_b1_2 trivial agg24 sz24 rfl) ?_
  refine .mb rfl e5 ?_
  refine .rf (sp_indexV (i := k) ((hlc rfl).dat D_ci0 sub_all) (hlc rfl) Tryz.underlying24 sz26 rfl hlx) ?_
  refine .da (sp_loadV (hlc rfl) agg26 sz26) ?_
  refine .alloc z26 ?_
  refine .dn fun a42 g W42 y42 zz42 hk hg hV hR hP => ?_
  obtain ⟨⟨b7_42, e7, hb7, own_b7_42⟩, e41, -, -, -, -, -⟩ := hV
  have lo_b7_42 : w.heap.size ≤ b7_42 := Nat.le_trans kw.size (hg.lo _ _ hb7)
  have ne_b1_2_b7_42 : b1_2 ≠ b7_42 := Nat.ne_of_lt (Nat.lt_of_lt_of_le own_b1_2.lt (hg.lo _ _ hb7))
  have own_b7_42 : Own W42 b7_42 [(.int .u8 (0)), (.int .i64 (0)), (.string (⟨#[]⟩)), (.slice none 0 0), (.slice none 0 0)] 26 := own_b7_42
  replace e1 := ft hR e1
  replace e4 := ft hR e4
  replace e27 := ft hR e27
  replace e28 := ft hR e28
  replace e29 := ft hR e29
  replace e6 := ft hR e6
  have hMx : ∀ b ∈ (blks hds4_29 ++ (b1_2 :: [])), b < W38.heap.size := (in_app As4_29.lt (in_cons own_b1_2.lt in_nil))
  have nb_b7_42_ro25_24 : b7_42 ∉ blks hds4_29 := nb_lt As4_29.lt (hg.lo _ _ hb7)
  replace As4_29 : Arr W42 w.heap.size 43 2 (SF w (b7_42 :: (blks hds4_29 ++ (b1_2 :: [])))) (List.map Hs.d (hsZ (x.ns.take k) (x.xs.take k))) vs4_29 hds4_29 := arrF_more As4_29 hk [b7_42] (in_cons (hg.lo _ _ hb7) in_nil)
  replace D_cn0 : Rd W42 (SA w S (b7_42 :: (blks hds4_29 ++ (b1_2 :: [])))) (strsD (x.ns)) (.slice cn0a (x.ns.length) cn0c) := sa_more D_cn0 hk [b7_42] (in_cons (hg.lo _ _ hb7) in_nil)
  replace D_ci0 : Rd W42 (SA w S (b7_42 :: (blks hds4_29 ++ (b1_2 :: [])))) (valsD (x.xs)) (.slice ci0a (x.xs.length) ci0c) := sa_more D_ci0 hk [b7_42] (in_cons (hg.lo _ _ hb7) in_nil)
  obtain ⟨v41_42, ev⟩ : ∃ v, sl a42 41 = v := ⟨_, rfl⟩
  rw [ev] at e41
  have D_v41_42 : Rd W42 (SA w S (b7_42 :: (blks hds4_29 ++ (b1_2 :: [])))) (V.d (x.xs[k]'hlx)) v41_42 := sa_end e41 hk [b7_42] (in_cons ⟨_, hb7⟩ in_nil)
  replace e41 := ev; clear ev
  obtain ⟨cn41_42a, cn41_42c, ci41_42a, ci41_42c, ev, ht_v41_42, D_cn41_42, D_ci41_42⟩ := rdV_out D_v41_42
  subst ev; clear D_v41_42
  replace own_b1_2 := own_b1_2.ext hk
  replace kw := kw.x hk
  clear hR hk hg hP hb7
  refine tail_store e7 e41 sz26 rfl own_b7_42 (lbr rfl) (all_cons rfl (all_cons rfl (all_cons rfl (all_cons rfl (all_cons rfl all_nil))))) (fun W43 hs own_b7_42 => ?_)
  have own_b7_42 : Own W43 b7_42 [(.int .u8 ((x.xs[k]'hlx).k)), (.int .i64 ((x.xs[k]'hlx).n)), (.string ((x.xs[k]'hlx).t)), (.slice cn41_42a (((x.xs[k]'hlx).ns).length) cn41_42c), (.slice ci41_42a (((x.xs[k]'hlx).xs).length) ci41_42c)] 26 := own_b7_42
  replace own_b1_2 := own_store own_b1_2 hs ne_b1_2_b7_42
  replace D_cn0 := sa_store D_cn0 hs (by simp)
  replace D_ci0 := sa_store D_ci0 hs (by simp)
  replace D_cn41_42 := sa_store D_cn41_42 hs (by simp)
  replace D_ci41_42 := sa_store D_ci41_42 hs (by simp)
  replace As4_29 := arrF_store As4_29 hs (by simp) nb_b7_42_ro25_24
  replace kw := keeps_store kw hs lo_b7_42
  clear hs
  refine zn (hK41 _ _ ?_)
  refine zq fun K44 hK44 => ?_
  refine zq fun K45 hK45 => ?_
  refine rg mixed y42 zz42 ?_
  refine .i (fo 0 (hbs rfl e7) Tryz.underlying26 rfl sz5 rfl) ?_
  refine .i (lo1 (hlc rfl) own_b7_42 trivial agg5 sz5 rfl) ?_
  refine .i (sp_neq (hlc rfl) Has.cst) ?_
  refine .dn fun a46 g W46 y46 zz46 hk hg hV hR hP => ?_
  obtain ⟨e44, -, -, -⟩ := hV
  replace e1 := ft hR e1
  replace e4 := ft hR e4
  replace e27 := ft hR e27
  replace e28 := ft hR e28
  replace e29 := ft hR e29
  replace e6 := ft hR e6
  replace e7 := ft hR e7
  replace As4_29 := As4_29.ext hk
  replace D_cn0 := D_cn0.ext hk
  replace D_ci0 := D_ci0.ext hk
  replace D_cn41_42 := D_cn41_42.ext hk
  replace D_ci41_42 := D_ci41_42.ext hk
  replace e44 := e44.q
  replace own_b1_2 := own_b1_2.ext hk
  replace own_b7_42 := own_b7_42.ext hk
  replace kw := kw.x hk
  clear hR hk hg hP
  refine zn (hK45 _ _ ?_)
  refine zc e44 (fun hc => ?_) (fun hc => ?_)
  ·
   have h3 : (x.xs[k]'hlx).k ≠ 3 := by simp at hc; omega
   have hoe : hsOE x = 10 := by rw [hsOE, if_neg (by simp [hm]), if_neg (by simp [hk]), if_neg h4, if_neg h0, hin, if_pos h3]
   have hov : hsOV x = [] := by rw [hsOV, if_neg (by rw [hoe]; decide)]
   refine zq fun K47 hK47 => ?_
   refine rg mixed y46 zz46 ?_
   refine .ac ?_
   refine .ac ?_
   refine .dn fun a48 g W48 y48 zz48 hk hg hV hR hP => ?_
   obtain ⟨e3, e2, -⟩ := hV
   replace As4_29 := As4_29.ext hk
   replace D_cn0 := D_cn0.ext hk
   replace D_ci0 := D_ci0.ext hk
   replace D_cn41_42 := D_cn41_42.ext hk
   replace D_ci41_42 := D_ci41_42.ext hk
   replace e2 := e2.q
   replace e3 := e3.q
   replace own_b1_2 := own_b1_2.ext hk
   replace own_b7_42 := own_b7_42.ext hk
   replace kw := kw.x hk
   clear hR hk hg hP
   refine zn (hK47 _ _ ?_)
   refine wp_ret ?_
   refine ret2 rfl zz48 e2 e3 ⟨_, rfl, kw, ?_⟩
   refine ⟨_, by rw [hoe], ?_⟩
   rw [hov]
   exact rd_nil _
  have h3 : (x.xs[k]'hlx).k = 3 := by simp at hc; omega
  rw [if_neg (by simp [h3])] at hin
  refine wp_skip (hK44 _ _ ?_)
  refine zq fun K49 hK49 => ?_
  refine zq fun K50 hK50 => ?_
  refine rg mixed y46 zz46 ?_
  refine .i (fo 2 (hbs rfl e7) Tryz.underlying26 rfl sz9 rfl) ?_
  refine .i (lo1 (hlc rfl) own_b7_42 trivial agg9 sz9 rfl) ?_
  refine .i (v := (.bool (digR ((x.xs[k]'hlx).t)))) (sp_call1 (φ1 := Is (.string ((x.xs[k]'hlx).t))) ent31 (hlc rfl) (fun g u1 W hk hgk h1 => by have h1 : u1 = _ := h1; subst u1; exact digR_ok ((x.xs[k]'hlx).t) (rd_tAt D_ci0 hlx) W)) ?_
  refine .i (sp_not (hlc rfl)) ?_
  refine .dn fun a51 g W51 y51 zz51 hk hg hV hR hP => ?_
  obtain ⟨e48, -, -, -, -⟩ := hV
  replace e1 := ft hR e1
  replace e4 := ft hR e4
  replace e27 := ft hR e27
  replace e28 := ft hR e28
  replace e29 := ft hR e29
  replace e6 := ft hR e6
  replace e7 := ft hR e7
  replace As4_29 := As4_29.ext hk
  replace D_cn0 := D_cn0.ext hk
  replace D_ci0 := D_ci0.ext hk
  replace D_cn41_42 := D_cn41_42.ext hk
  replace D_ci41_42 := D_ci41_42.ext hk
  replace e48 := e48.q
  replace own_b1_2 := own_b1_2.ext hk
  replace own_b7_42 := own_b7_42.ext hk
  replace kw := kw.x hk
  clear hR hk hg hP
  refine zn (hK50 _ _ ?_)
  refine zc e48 (fun hc => ?_) (fun hc => ?_)
  ·
   have hd : digR (x.xs[k]'hlx).t = false := by simpa using hc
   have hoe : hsOE x = 3 := by rw [hsOE, if_neg (by simp [hm]), if_neg (by simp [hk]), if_neg h4, if_neg h0, hin, if_pos hd]
   have hov : hsOV x = [] := by rw [hsOV, if_neg (by rw [hoe]; decide)]
   refine zq fun K52 hK52 => ?_
   refine rg mixed y51 zz51 ?_
   refine .ac ?_
   refine .ac ?_
   refine .dn fun a53 g W53 y53 zz53 hk hg hV hR hP => ?_
   obtain ⟨e3, e2, -⟩ := hV
   replace As4_29 := As4_29.ext hk
   replace D_cn0 := D_cn0.ext hk
   replace D_ci0 := D_ci0.ext hk
   replace D_cn41_42 := D_cn41_42.ext hk
   replace D_ci41_42 := D_ci41_42.ext hk
   replace e2 := e2.q
   replace e3 := e3.q
   replace own_b1_2 := own_b1_2.ext hk
   replace own_b7_42 := own_b7_42.ext hk
   replace kw := kw.x hk
   clear hR hk hg hP
   refine zn (hK52 _ _ ?_)
   refine wp_ret ?_
   refine ret2 rfl zz53 e2 e3 ⟨_, rfl, kw, ?_⟩
   refine ⟨_, by rw [hoe], ?_⟩
   rw [hov]
   exact rd_nil _
  have hd : digR (x.xs[k]'hlx).t = true := by simpa using hc
  rw [if_neg (by simp [hd])] at hin
  refine wp_skip (hK49 _ _ ?_)
  refine wp_reg (fun k => k ∉ blks hds4_29) (Ψ := fun W => Arr W w.heap.size 43 2 (SF w (b7_42 :: (blks hds4_29 ++ (b1_2 :: [])))) (List.map Hs.d (hsZ (x.ns.take k) (x.xs.take k))) vs4_29 hds4_29) mixed y51 zz51 (fun W W' k h => h.ext k) As4_29 ?_
  refine .mb rfl e4 ?_
  refine .mb rfl e6 ?_
  refine .i (fo 2 (hbs rfl e7) Tryz.underlying26 rfl sz9 rfl) ?_
  refine .i (lo1 (hlc rfl) own_b7_42 nb_b7_42_ro25_24 agg9 sz9 rfl) ?_
  refine .i (v := (.agg #[(.string (x.ns[k]'hlt)), (.string ((x.xs[k]'hlx).t))])) (sp_build (vs := [(0, (.string (x.ns[k]'hlt))), (1, (.string ((x.xs[k]'hlx).t)))]) Tryz.underlying43 z43 (pl43 Tryz.underlying43) ⟨rfl, (hlc rfl), rfl, (hlc rfl), trivial⟩ rfl) ?_
  refine .op (φ := IsD (SF w (b7_42 :: (blks hds4_29 ++ (b1_2 :: [])))) (hssD ([Hs.mk (x.ns[k]'hlt) ((x.xs[k]'hlx).t)]))) (st_d (sub_nbF (fun b hb => List.mem_cons_of_mem _ (List.mem_append_left _ hb)))) (sp_bsl (ds := [Hs.d (Hs.mk (x.ns[k]'hlt) ((x.xs[k]'hlx).t))]) Tryz.underlying22 sz43 z43 (lbr rfl) (lbr rfl) ⟨rfl, ((hlc rfl).dat (rdHs_mk (rd_strAt D_cn0 k hlt) ht_v41_42 : Rd W51 (SF w (b7_42 :: (blks hds4_29 ++ (b1_2 :: [])))) (Hs.d (Hs.mk (x.ns[k]'hlt) ((x.xs[k]'hlx).t))) _) (sub_nbF (fun b hb => List.mem_cons_of_mem _ (List.mem_append_left _ hb)))), trivial⟩ rfl (by intro e he; simp at he; rcases he with rfl <;> exact width_Hs _) (fr_sf kw (in_cons own_b7_42.lt (in_app As4_29.lt (in_cons own_b1_2.lt in_nil))))) ?_
  refine .appB (ds := List.map Hs.d (hsZ (x.ns.take k) (x.xs.take k))) (es := [Hs.d (Hs.mk (x.ns[k]'hlt) ((x.xs[k]'hlx).t))]) (X := SF w (b7_42 :: (blks hds4_29 ++ (b1_2 :: [])))) Tryz.underlying22 inf43 (lbr rfl) (hlc rfl) (hlc rfl) (sub_nbF (fun b hb => List.mem_cons_of_mem _ (List.mem_append_left _ hb))) (by rw [List.length_map, hzl, List.length_singleton, maxLen]; omega) (by rw [List.length_map, hzl, List.length_singleton]; omega) kw.size ?_
  refine .dn fun a54 g W54 y54 zz54 hk hg hV hR hP => ?_
  obtain ⟨e55, -, -, -, -, -, -, -⟩ := hV
  replace e1 := ft hR e1
  replace e4 := ft hR e4
  replace e27 := ft hR e27
  replace e28 := ft hR e28
  replace e29 := ft hR e29
  obtain ⟨v55_54, ev⟩ : ∃ v, sl a54 55 = v := ⟨_, rfl⟩
  rw [ev] at e55
  obtain ⟨hd55_54, A_55_54, hf55_54⟩ := e55
  have e55 := ev; clear ev
  obtain ⟨v55_54a, v55_54n, v55_54c, ev⟩ := arr_sl A_55_54; subst ev
  replace A_55_54 := arrF_new (M' := (b7_42 :: (blks hd55_54 ++ (b1_2 :: [])))) A_55_54 (rep_cons (rep_app (rep_q fun _ h => h) (rep_cons rep_nil)))
  replace A_55_54 : Arr W54 w.heap.size 43 2 (SF w (b7_42 :: (blks hd55_54 ++ (b1_2 :: [])))) (List.map Hs.d ((hsZ (x.ns.take k) (x.xs.take k)) ++ [Hs.mk (x.ns[k]'hlt) ((x.xs[k]'hlx).t)])) (.slice v55_54a v55_54n v55_54c) hd55_54 := by first | exact A_55_54 | (rw [List.map_append]; exact A_55_54)
  have nb_b1_2_54 : b1_2 ∉ blks hd55_54 := nb_new nb_b1_2_ro25_24_29 own_b1_2.lt hf55_54
  have nb_b7_42_54 : b7_42 ∉ blks hd55_54 := nb_new nb_b7_42_ro25_24 own_b7_42.lt hf55_54
  replace D_cn0 := sa_app (M' := (b7_42 :: (blks hd55_54 ++ (b1_2 :: [])))) D_cn0 hk (fun b hb => List.mem_cons_of_mem _ (List.mem_append_left _ hb)) (rep_cons (rep_app hf55_54 (rep_cons rep_nil)))
  replace D_ci0 := sa_app (M' := (b7_42 :: (blks hd55_54 ++ (b1_2 :: [])))) D_ci0 hk (fun b hb => List.mem_cons_of_mem _ (List.mem_append_left _ hb)) (rep_cons (rep_app hf55_54 (rep_cons rep_nil)))
  replace D_cn41_42 := sa_app (M' := (b7_42 :: (blks hd55_54 ++ (b1_2 :: [])))) D_cn41_42 hk (fun b hb => List.mem_cons_of_mem _ (List.mem_append_left _ hb)) (rep_cons (rep_app hf55_54 (rep_cons rep_nil)))
  replace D_ci41_42 := sa_app (M' := (b7_42 :: (blks hd55_54 ++ (b1_2 :: [])))) D_ci41_42 hk (fun b hb => List.mem_cons_of_mem _ (List.mem_append_left _ hb)) (rep_cons (rep_app hf55_54 (rep_cons rep_nil)))
  replace own_b1_2 := own_app own_b1_2 hk nb_b1_2_ro25_24_29
  replace own_b7_42 := own_app own_b7_42 hk nb_b7_42_ro25_24
  replace kw := keeps_app kw hk As4_29.ge
  clear hR hk hg hP hf55_54 As4_29
  refine tail_assign (v := (.slice v55_54a v55_54n v55_54c)) e55 (by rw [y54]; exact Nat.le_of_ble_eq_true rfl) (fun a55 y55 zz55 e4 hr => ?_)
  replace y55 := y55.trans y54; replace zz55 := zz55.trans zz54
  replace e1 := (hr 1 (by decide)).trans e1
  replace e27 := (hr 27 (by decide)).trans e27
  replace e28 := (hr 28 (by decide)).trans e28
  replace e29 := (hr 29 (by decide)).trans e29
  replace e55 := (hr 55 (by decide)).trans e55
  clear hr
  refine zn (hK33 _ _ ?_)
  refine rg mixed y55 zz55 ?_
  refine .i (sp_add (hbs rfl e29) Has.cst (i64_in (by omega))) ?_
  refine .i (sp_move (hlc rfl)) ?_
  refine .dn fun a56 g W56 y56 zz56 hk hg hV hR hP => ?_
  obtain ⟨e29, -, -⟩ := hV
  replace e1 := ft hR e1
  replace e4 := ft hR e4
  replace e27 := ft hR e27
  replace e28 := ft hR e28
  replace A_55_54 := A_55_54.ext hk
  replace D_cn0 := D_cn0.ext hk
  replace D_ci0 := D_ci0.ext hk
  replace e29 := e29.q
  replace own_b1_2 := own_b1_2.ext hk
  replace own_b7_42 := own_b7_42.ext hk
  replace kw := kw.x hk
  clear hR hk hg hP
  rw [show (hsZ (x.ns.take k) (x.xs.take k)) ++ [Hs.mk (x.ns[k]'hlt) ((x.xs[k]'hlx).t)] = hsZ (x.ns.take (k + 1)) (x.xs.take (k + 1)) by exact hsZ_step hlt hlx] at A_55_54
  exact tail_nil ⟨hlt, (.slice v55_54a v55_54n v55_54c), hd55_54, y56, zz56, kw, e1, e4, e27, e28, (e29.trans (congrArg (Value.int .i64) (by simp))), own_b1_2, (sa_less D_cn0 (ls_skip (ls_keepA (ls_keep ls_nil)))), (sa_less D_ci0 (ls_skip (ls_keepA (ls_keep ls_nil)))), (arrF_less A_55_54 (ls_skip (ls_keepA (ls_keep ls_nil)))), nb_b1_2_54, hin⟩
 have hge0 : ¬ k < x.ns.length := by simpa using hc
 have hge : k = x.ns.length := by omega
 have hoe : hsOE x = 0 := by rw [hsOE, if_neg (by simp [hm]), if_neg (by simp [hk]), if_neg h4, if_neg h0, hin, hge, List.drop_length]; rfl
 have hov : hsOV x = hsZ x.ns x.xs := by rw [hsOV, if_pos hoe]
 rw [show hsZ (x.ns.take k) (x.xs.take k) = hsZ x.ns x.xs by rw [hge, hlen, List.take_length, ← hlen, List.take_length]] at As4_29
 have D_vs4_29 : Rd W31 (SF w [b1_2]) (hssD (hsZ x.ns x.xs)) vs4_29 := arrF_rd As4_29 (ls_skipA (ls_keep ls_nil)) (nin_cons nb_b1_2_ro25_24_29 nin_nil)
 obtain ⟨vs4_29a, vs4_29c, ev, D2⟩ := rdHss_out D_vs4_29
 subst ev; replace D_vs4_29 := D2; clear D2
 replace D_cn0 := sa_less (M' := [b1_2]) D_cn0 (ls_skipA (ls_keep ls_nil))
 replace D_ci0 := sa_less (M' := [b1_2]) D_ci0 (ls_skipA (ls_keep ls_nil))
 refine wp_exit (hK26 _ _ ?_)
 refine zq fun K57 hK57 => ?_
 refine rg mixed y31 zz31 ?_
 refine .mb rfl e4 ?_
 refine .al rfl ?_
 refine .ac ?_
 refine .dn fun a58 g W58 y58 zz58 hk hg hV hR hP => ?_
 obtain ⟨e3, e2, -, -⟩ := hV
 replace D_cn0 := D_cn0.ext hk
 replace D_ci0 := D_ci0.ext hk
 replace D_vs4_29 := D_vs4_29.ext hk
 replace e2 := e2.q
 replace e3 := e3.q
 replace own_b1_2 := own_b1_2.ext hk
 replace kw := kw.x hk
 clear hR hk hg hP
 refine zn (hK57 _ _ ?_)
 refine wp_ret ?_
 refine ret2 rfl zz58 e2 e3 ⟨_, rfl, kw, ?_⟩
 refine ⟨_, by rw [hoe], ?_⟩
 rw [hov]
 exact sf_fr D_vs4_29
set_option maxRecDepth 100000 in
theorem MayR_ok (r : Rc) (hcu : r.cu.wt ≤ 1000000000) (w : World) (S : BSet) (v : Value) (hS : ∀ b o, S b o → Cln o) (hv : Rd w S r.d v) : Calls Tryz.prog 25 #[v] w (Ret w fun u _ => u = .bool (mayR r)) := by
 obtain ⟨p0_1a, p0_1c, p0_5a, p0_5c, p0_6a, p0_6c, ev, hb_p0_4, D_p0_1, D_p0_5, D_p0_6⟩ := rdRc_out (rd_arg hv)
 subst ev
 refine enter Tryz.func25 rfl Tryz.ntmps25 (lbr rfl) fun a0 y0 zz0 harg => ?_
 have e0 : sl a0 0 = (.agg #[(.int .i64 (r.ln)), (.slice p0_1a (r.hs.length) p0_1c), (.int .u8 (r.cu.k)), (.int .i64 (r.cu.n)), (.string (r.cu.t)), (.slice p0_5a (r.cu.ns.length) p0_5c), (.slice p0_6a (r.cu.xs.length) p0_6c)]) := harg 0 (lbr rfl)
 have kw := Keeps.refl All w
 clear harg
 refine zq fun K1 hK1 => ?_
 refine rg mixed y0 zz0 ?_
 refine .boxOp (v := (.agg #[(.int .i64 (r.ln)), (.slice p0_1a (r.hs.length) p0_1c), (.int .u8 (r.cu.k)), (.int .i64 (r.cu.n)), (.string (r.cu.t)), (.slice p0_5a (r.cu.ns.length) p0_5c), (.slice p0_6a (r.cu.xs.length) p0_6c)])) (hbs rfl e0) ?_
 refine .ac ?_
 refine .dn fun a2 g W2 y2 zz2 hk hg hV hR hP => ?_
 obtain ⟨-, ⟨b1_2, e1, hb1, own_b1_2⟩, -⟩ := hV
 have lo_b1_2 : w.heap.size ≤ b1_2 := Nat.le_trans kw.size (hg.lo _ _ hb1)
 have own_b1_2 : Own W2 b1_2 [(.int .i64 (r.ln)), (.slice p0_1a (r.hs.length) p0_1c), (.int .u8 (r.cu.k)), (.int .i64 (r.cu.n)), (.string (r.cu.t)), (.slice p0_5a (r.cu.ns.length) p0_5c), (.slice p0_6a (r.cu.xs.length) p0_6c)] 46 := own_b1_2
 replace D_p0_1 := sa_more D_p0_1 hk [b1_2] (in_cons (hg.lo _ _ hb1) in_nil)
 replace D_p0_5 := sa_more D_p0_5 hk [b1_2] (in_cons (hg.lo _ _ hb1) in_nil)
 replace D_p0_6 := sa_more D_p0_6 hk [b1_2] (in_cons (hg.lo _ _ hb1) in_nil)
 replace kw := kw.x hk
 clear hR hk hg hP hb1
 refine zn (hK1 _ _ ?_)
 refine zq fun K3 hK3 => ?_
 refine zq fun K4 hK4 => ?_
 refine rg mixed y2 zz2 ?_
 refine .i (fo 0 (hbs rfl e1) Tryz.underlying46 rfl sz2 rfl) ?_
 refine .i (lo1 (hlc rfl) own_b1_2 trivial agg2 sz2 rfl) ?_
 refine .i (sp_lss (hlc rfl) Has.cst) ?_
 refine .i (sp_move (hlc rfl)) ?_
 refine .e rfl (hlc rfl) (fun hg => fo 0 (hbs rfl e1) Tryz.underlying46 rfl sz2 rfl) ?_
 refine .e rfl (hlc rfl) (fun hg => lo1 ((hlc rfl).undE hg) own_b1_2 trivial agg2 sz2 rfl) ?_
 refine .e rfl (hlc rfl) (fun hg => sp_gtr ((hlc rfl).undE hg) Has.cst) ?_
 refine .i (sp_or (hlc rfl) ((hlc rfl).weak fun hq => hq)) ?_
 refine .i (sp_move (hlc rfl)) ?_
 refine .e rfl (hlc rfl) (fun hg => fo 1 (hbs rfl e1) Tryz.underlying46 rfl sz22 rfl) ?_
 refine .e rfl (hlc rfl) (fun hg => lo1 ((hlc rfl).undE hg) own_b1_2 trivial agg22 sz22 rfl) ?_
 refine .e (v := (.bool (mayH r.hs))) rfl (hlc rfl) (fun hg => sp_call1 (φ1 := IsD (SA w S [b1_2]) (hssD (r.hs))) ent17 (((hlc rfl).undE hg).dat D_p0_1 sub_all) (fun g u1 W hk hgk h1 => MayHashes_ok (r.hs) W _ _ h1)) ?_
 refine .e rfl (hlc rfl) (fun hg => sp_not ((hlc rfl).undE hg)) ?_
 refine .i (sp_or (hlc rfl) ((hlc rfl).weak fun hq => hq)) ?_
 refine .dn fun a5 g W5 y5 zz5 hk hg hV hR hP => ?_
 obtain ⟨e16, -, -, -, -, -, -, -, -, -, -, -, -, -, -⟩ := hV
 replace e1 := ft hR e1
 replace D_p0_1 := D_p0_1.ext hk
 replace D_p0_5 := D_p0_5.ext hk
 replace D_p0_6 := D_p0_6.ext hk
 replace e16 := e16.q
 replace own_b1_2 := own_b1_2.ext hk
 replace kw := kw.x hk
 clear hR hk hg hP
 refine zn (hK4 _ _ ?_)
 refine zc e16 (fun hc => ?_) (fun hc => ?_)
 ·
  have hfin : mayR r = false := by rw [mayR, if_pos]; simp at hc; rcases hc with (h | h) | h; exact .inl h; exact .inr (.inl h); exact .inr (.inr h)
  refine zq fun K6 hK6 => ?_
  refine rg mixed y5 zz5 ?_
  refine .ac ?_
  refine .dn fun a7 g W7 y7 zz7 hk hg hV hR hP => ?_
  obtain ⟨e2, -⟩ := hV
  replace D_p0_1 := D_p0_1.ext hk
  replace D_p0_5 := D_p0_5.ext hk
  replace D_p0_6 := D_p0_6.ext hk
  replace e2 := e2.q
  replace own_b1_2 := own_b1_2.ext hk
  replace kw := kw.x hk
  clear hR hk hg hP
  refine zn (hK6 _ _ ?_)
  refine wp_ret ?_
  refine ret1 rfl zz7 e2 ⟨_, rfl, kw, ?_⟩
  rw [hfin]
 have hno : ¬ (r.ln < 0 ∨ 1099511627776 < r.ln ∨ mayH r.hs = false) := by simp at hc; rintro (h | h | h); omega; omega; rw [hc.2] at h; cases h
 have hmh : mayH r.hs = true := by simp at hc; exact hc.2
 refine wp_skip (hK3 _ _ ?_)
 refine zq fun K8 hK8 => ?_
 refine zq fun K9 hK9 => ?_
 refine rg mixed y5 zz5 ?_
 refine .i (fo 2 (hbs rfl e1) Tryz.underlying46 rfl sz26 rfl) ?_
 refine .i (v := (.agg #[(.int .u8 (r.cu.k)), (.int .i64 (r.cu.n)), (.string (r.cu.t)), (.slice p0_5a (r.cu.ns.length) p0_5c), (.slice p0_6a (r.cu.xs.length) p0_6c)])) (loA (hlc rfl) own_b1_2 trivial agg26 sz26 rfl rfl) ?_
 refine .i (v := (.bool (noneB (r.cu)))) (sp_call1 (φ1 := IsD (SA w S [b1_2]) (V.d (r.cu))) ent43 ((hlc rfl).dat (rdV_in (x := r.cu) hb_p0_4 D_p0_5 D_p0_6 : Rd W5 (SA w S [b1_2]) (V.d (r.cu)) _) sub_all) (fun g u1 W hk hgk h1 => none_ok (r.cu) W _ _ h1)) ?_
 refine .i (sp_not (hlc rfl)) ?_
 refine .i (sp_move (hlc rfl)) ?_
 refine .e rfl (hlc rfl) (fun hg => fo 2 (hbs rfl e1) Tryz.underlying46 rfl sz26 rfl) ?_
 refine .e (v := (.agg #[(.int .u8 (r.cu.k)), (.int .i64 (r.cu.n)), (.string (r.cu.t)), (.slice p0_5a (r.cu.ns.length) p0_5c), (.slice p0_6a (r.cu.xs.length) p0_6c)])) rfl (hlc rfl) (fun hg => loA ((hlc rfl).undE hg) own_b1_2 trivial agg26 sz26 rfl rfl) ?_
 refine .e (v := (.bool (mayB (r.cu)))) rfl (hlc rfl) (fun hg => sp_call1 (φ1 := IsD (SA w S [b1_2]) (V.d (r.cu))) ent29 (((hlc rfl).undE hg).dat (rdV_in (x := r.cu) hb_p0_4 D_p0_5 D_p0_6 : Rd W5 (SA w S [b1_2]) (V.d (r.cu)) _) sub_all) (fun g u1 W hk hgk h1 => May_ok (r.cu) (Nat.le_trans (cnt_wt _) (Nat.le_trans hcu (by decide))) W _ _ h1)) ?_
 refine .e rfl (hlc rfl) (fun hg => sp_not ((hlc rfl).undE hg)) ?_
 refine .i (sp_and (hlc rfl) ((hlc rfl).weak fun hq => hq)) ?_
 refine .dn fun a10 g W10 y10 zz10 hk hg hV hR hP => ?_
 obtain ⟨e26, -, -, -, -, -, -, -, -, -, -⟩ := hV
 replace e1 := ft hR e1
 replace D_p0_1 := D_p0_1.ext hk
 replace D_p0_5 := D_p0_5.ext hk
 replace D_p0_6 := D_p0_6.ext hk
 replace e26 := e26.q
 replace own_b1_2 := own_b1_2.ext hk
 replace kw := kw.x hk
 clear hR hk hg hP
 refine zn (hK9 _ _ ?_)
 refine zc e26 (fun hc => ?_) (fun hc => ?_)
 ·
  have hfin : mayR r = false := by rw [mayR, if_neg hno, if_pos]; simpa using hc
  refine zq fun K11 hK11 => ?_
  refine rg mixed y10 zz10 ?_
  refine .ac ?_
  refine .dn fun a12 g W12 y12 zz12 hk hg hV hR hP => ?_
  obtain ⟨e2, -⟩ := hV
  replace D_p0_1 := D_p0_1.ext hk
  replace D_p0_5 := D_p0_5.ext hk
  replace D_p0_6 := D_p0_6.ext hk
  replace e2 := e2.q
  replace own_b1_2 := own_b1_2.ext hk
  replace kw := kw.x hk
  clear hR hk hg hP
  refine zn (hK11 _ _ ?_)
  refine wp_ret ?_
  refine ret1 rfl zz12 e2 ⟨_, rfl, kw, ?_⟩
  rw [hfin]
 have hfin : mayR r = mayB (recO r) := by rw [mayR, if_neg hno, if_neg]; simp at hc; rintro ⟨h1, h2⟩; rw [hc h1] at h2; cases h2
 refine wp_skip (hK8 _ _ ?_)
 refine zq fun K13 hK13 => ?_
 refine rg mixed y10 zz10 ?_
 refine .i (v := (.agg #[(.int .i64 (r.ln)), (.slice p0_1a (r.hs.length) p0_1c), (.int .u8 (r.cu.k)), (.int .i64 (r.cu.n)), (.string (r.cu.t)), (.slice p0_5a (r.cu.ns.length) p0_5c), (.slice p0_6a (r.cu.xs.length) p0_6c)])) (loA (hbs rfl e1) own_b1_2 trivial agg46 sz46 rfl rfl) ?_
 refine .da (X := Fr W10) (e := V.d (recO r)) (sp_call1 (φ1 := IsD (SA w S [b1_2]) (Rc.d (r))) ent42 ((hlc rfl).dat (rdRc_mk D_p0_1 (rdV_in (x := r.cu) hb_p0_4 D_p0_5 D_p0_6 : Rd W10 (SA w S [b1_2]) (V.d (r.cu)) _) : Rd W10 (SA w S [b1_2]) (Rc.d (r)) _) sub_all) (fun g u1 W hk hgk h1 => (object21_ok (r) hmh hcu W _ _ (fun b o h => sa_cln hS b o h.1) h1).mono (ret_fr hk hgk))) ?_
 refine .i (v := (.bool (mayB (recO r)))) (sp_call1 (φ1 := IsD (Fr W10) (V.d (recO r))) ent29 (hlc rfl) (fun g u1 W hk hgk h1 => May_ok (recO r) (Nat.le_trans (cnt_wt _) (recO_wt hmh hcu)) W _ _ h1)) ?_
 refine .al rfl ?_
 refine .dn fun a14 g W14 y14 zz14 hk hg hV hR hP => ?_
 obtain ⟨e2, -, -, -, -⟩ := hV
 replace D_p0_1 := D_p0_1.ext hk
 replace D_p0_5 := D_p0_5.ext hk
 replace D_p0_6 := D_p0_6.ext hk
 replace e2 := e2.q
 replace own_b1_2 := own_b1_2.ext hk
 replace kw := kw.x hk
 clear hR hk hg hP
 refine zn (hK13 _ _ ?_)
 refine wp_ret ?_
 refine ret1 rfl zz14 e2 ⟨_, rfl, kw, ?_⟩
 rw [hfin]
set_option maxRecDepth 100000 in
theorem ValueR_ok (r : Rc) (hcu : r.cu.wt ≤ 1000000000) (w : World) (S : BSet) (v : Value) (hS : ∀ b o, S b o → Cln o) (hv : Rd w S r.d v) : Calls Tryz.prog 23 #[v] w (Ret w fun u W => ∃ r1, u = .tuple #[r1, .int .i64 (recE r)] ∧ Rd W (Fr w) (V.d (recV r)) r1) := by
 obtain ⟨p0_1a, p0_1c, p0_5a, p0_5c, p0_6a, p0_6c, ev, hb_p0_4, D_p0_1, D_p0_5, D_p0_6⟩ := rdRc_out (rd_arg hv)
 subst ev
 refine enter Tryz.func23 rfl Tryz.ntmps23 (lbr rfl) fun a0 y0 zz0 harg => ?_
 have e0 : sl a0 0 = (.agg #[(.int .i64 (r.ln)), (.slice p0_1a (r.hs.length) p0_1c), (.int .u8 (r.cu.k)), (.int .i64 (r.cu.n)), (.string (r.cu.t)), (.slice p0_5a (r.cu.ns.length) p0_5c), (.slice p0_6a (r.cu.xs.length) p0_6c)]) := harg 0 (lbr rfl)
 have kw := Keeps.refl All w
 clear harg
 refine zq fun K1 hK1 => ?_
 refine rg mixed y0 zz0 ?_
 refine .boxOp (v := (.agg #[(.int .i64 (r.ln)), (.slice p0_1a (r.hs.length) p0_1c), (.int .u8 (r.cu.k)), (.int .i64 (r.cu.n)), (.string (r.cu.t)), (.slice p0_5a (r.cu.ns.length) p0_5c), (.slice p0_6a (r.cu.xs.length) p0_6c)])) (hbs rfl e0) ?_
 refine .alloc z26 ?_
 refine .ac ?_
 refine .dn fun a2 g W2 y2 zz2 hk hg hV hR hP => ?_
 obtain ⟨-, ⟨b2_2, e2, hb2, own_b2_2⟩, ⟨b1_2, e1, hb1, own_b1_2⟩, -⟩ := hV
 have lo_b2_2 : w.heap.size ≤ b2_2 := Nat.le_trans kw.size (hg.lo _ _ hb2)
 have own_b2_2 : Own W2 b2_2 [(.int .u8 (0)), (.int .i64 (0)), (.string (⟨#[]⟩)), (.slice none 0 0), (.slice none 0 0)] 26 := own_b2_2
 have lo_b1_2 : w.heap.size ≤ b1_2 := Nat.le_trans kw.size (hg.lo _ _ hb1)
 have own_b1_2 : Own W2 b1_2 [(.int .i64 (r.ln)), (.slice p0_1a (r.hs.length) p0_1c), (.int .u8 (r.cu.k)), (.int .i64 (r.cu.n)), (.string (r.cu.t)), (.slice p0_5a (r.cu.ns.length) p0_5c), (.slice p0_6a (r.cu.xs.length) p0_6c)] 46 := own_b1_2
 have ne_b2_2_b1_2 : b2_2 ≠ b1_2 := fun h => by have := hg.inj _ _ _ hb2 (h ▸ hb1); cases this
 replace D_p0_1 := sa_more D_p0_1 hk [b2_2, b1_2] (in_cons (hg.lo _ _ hb2) (in_cons (hg.lo _ _ hb1) in_nil))
 replace D_p0_5 := sa_more D_p0_5 hk [b2_2, b1_2] (in_cons (hg.lo _ _ hb2) (in_cons (hg.lo _ _ hb1) in_nil))
 replace D_p0_6 := sa_more D_p0_6 hk [b2_2, b1_2] (in_cons (hg.lo _ _ hb2) (in_cons (hg.lo _ _ hb1) in_nil))
 replace kw := kw.x hk
 clear hR hk hg hP hb2 hb1
 refine zn (hK1 _ _ ?_)
 refine zq fun K3 hK3 => ?_
 refine zq fun K4 hK4 => ?_
 refine rg mixed y2 zz2 ?_
 refine .i (v := (.agg #[(.int .i64 (r.ln)), (.slice p0_1a (r.hs.length) p0_1c), (.int .u8 (r.cu.k)), (.int .i64 (r.cu.n)), (.string (r.cu.t)), (.slice p0_5a (r.cu.ns.length) p0_5c), (.slice p0_6a (r.cu.xs.length) p0_6c)])) (loA (hbs rfl e1) own_b1_2 trivial agg46 sz46 rfl rfl) ?_
 refine .i (v := (.bool (mayR r))) (sp_call1 (φ1 := IsD (SA w S [b2_2, b1_2]) (Rc.d (r))) ent25 ((hlc rfl).dat (rdRc_mk D_p0_1 (rdV_in (x := r.cu) hb_p0_4 D_p0_5 D_p0_6 : Rd W2 (SA w S [b2_2, b1_2]) (V.d (r.cu)) _) : Rd W2 (SA w S [b2_2, b1_2]) (Rc.d (r)) _) sub_all) (fun g u1 W hk hgk h1 => MayR_ok (r) hcu W _ _ (fun b o h => sa_cln hS b o h.1) h1)) ?_
 refine .i (sp_not (hlc rfl)) ?_
 refine .dn fun a5 g W5 y5 zz5 hk hg hV hR hP => ?_
 obtain ⟨e6, -, -, -⟩ := hV
 replace e2 := ft hR e2
 replace e1 := ft hR e1
 replace D_p0_1 := D_p0_1.ext hk
 replace D_p0_5 := D_p0_5.ext hk
 replace D_p0_6 := D_p0_6.ext hk
 replace e6 := e6.q
 replace own_b2_2 := own_b2_2.ext hk
 replace own_b1_2 := own_b1_2.ext hk
 replace kw := kw.x hk
 clear hR hk hg hP
 refine zn (hK4 _ _ ?_)
 refine zc e6 (fun hc => ?_) (fun hc => ?_)
 ·
  have hm : mayR r = false := by simpa using hc
  have hoe : recE r = 3 := by rw [recE, hm]; rfl
  have hov : recV r = ⟨0, 0, ⟨#[]⟩, [], []⟩ := by rw [recV, hm]; rfl
  refine zq fun K6 hK6 => ?_
  refine rg mixed y5 zz5 ?_
  refine .i (v := (.agg #[(.int .u8 (0)), (.int .i64 (0)), (.string (⟨#[]⟩)), (.slice none 0 0), (.slice none 0 0)])) (sp_build (vs := []) Tryz.underlying26 z26 (pl26 Tryz.underlying26) trivial rfl) ?_
  refine .dn fun a7 g W7 y7 zz7 hk hg hV hR hP => ?_
  obtain ⟨e7, -⟩ := hV
  replace e2 := ft hR e2
  replace D_p0_1 := D_p0_1.ext hk
  replace D_p0_5 := D_p0_5.ext hk
  replace D_p0_6 := D_p0_6.ext hk
  replace e7 := e7.q
  replace own_b2_2 := own_b2_2.ext hk
  replace own_b1_2 := own_b1_2.ext hk
  replace kw := kw.x hk
  clear hR hk hg hP
  refine tail_store e2 e7 sz26 rfl own_b2_2 (lbr rfl) (all_cons rfl (all_cons rfl (all_cons rfl (all_cons rfl (all_cons rfl all_nil))))) (fun W8 hs own_b2_2 => ?_)
  have own_b2_2 : Own W8 b2_2 [(.int .u8 (0)), (.int .i64 (0)), (.string (⟨#[]⟩)), (.slice none 0 0), (.slice none 0 0)] 26 := own_b2_2
  replace own_b1_2 := own_store own_b1_2 hs ne_b2_2_b1_2.symm
  replace D_p0_1 := sa_store D_p0_1 hs (by simp)
  replace D_p0_5 := sa_store D_p0_5 hs (by simp)
  replace D_p0_6 := sa_store D_p0_6 hs (by simp)
  replace kw := keeps_store kw hs lo_b2_2
  clear hs
  refine tail_assign (v := (.int .i64 (3))) rfl (by rw [y7]; exact Nat.le_of_ble_eq_true rfl) (fun a9 y9 zz9 e3 hr => ?_)
  replace y9 := y9.trans y7; replace zz9 := zz9.trans zz7
  replace e2 := (hr 2 (by decide)).trans e2
  replace e7 := (hr 7 (by decide)).trans e7
  clear hr
  refine zn (hK6 _ _ ?_)
  refine wp_ret ?_
  refine retCT (v := (.agg #[(.int .u8 (0)), (.int .i64 (0)), (.string (⟨#[]⟩)), (.slice none 0 0), (.slice none 0 0)])) rfl zz9 e2 own_b2_2 agg26 sz26 rfl (fun h => by cases h) rfl e3 ⟨_, rfl, kw, ?_⟩
  refine ⟨_, by rw [hoe], ?_⟩
  rw [hov]
  exact sf_fr (rdV_mk (lbr rfl) (rd_nil _) (rd_nil _) : Rd W8 (SF w [b2_2, b1_2]) (V.d (V.mk (0) (0) (⟨#[]⟩) ([]) ([]))) _)
 have hm : mayR r = true := by simpa using hc
 have hmh : mayH r.hs = true := by unfold mayR at hm; split at hm; cases hm; rename_i hno; cases hq : mayH r.hs with | true => rfl | false => exact absurd (.inr (.inr hq)) hno
 have hoe : recE r = 0 := by rw [recE, hm]; rfl
 have hov : recV r = recO r := by rw [recV, hm]; rfl
 refine wp_skip (hK3 _ _ ?_)
 refine zq fun K10 hK10 => ?_
 refine rg mixed y5 zz5 ?_
 refine .i (v := (.agg #[(.int .i64 (r.ln)), (.slice p0_1a (r.hs.length) p0_1c), (.int .u8 (r.cu.k)), (.int .i64 (r.cu.n)), (.string (r.cu.t)), (.slice p0_5a (r.cu.ns.length) p0_5c), (.slice p0_6a (r.cu.xs.length) p0_6c)])) (loA (hbs rfl e1) own_b1_2 trivial agg46 sz46 rfl rfl) ?_
 refine .da (X := Fr W5) (e := V.d (recO r)) (sp_call1 (φ1 := IsD (SA w S [b2_2, b1_2]) (Rc.d (r))) ent42 ((hlc rfl).dat (rdRc_mk D_p0_1 (rdV_in (x := r.cu) hb_p0_4 D_p0_5 D_p0_6 : Rd W5 (SA w S [b2_2, b1_2]) (V.d (r.cu)) _) : Rd W5 (SA w S [b2_2, b1_2]) (Rc.d (r)) _) sub_all) (fun g u1 W hk hgk h1 => (object21_ok (r) hmh hcu W _ _ (fun b o h => sa_cln hS b o h.1) h1).mono (ret_fr hk hgk))) ?_
 refine .dn fun a11 g W11 y11 zz11 hk hg hV hR hP => ?_
 obtain ⟨e9, -, -⟩ := hV
 replace e2 := ft hR e2
 replace D_p0_1 := D_p0_1.ext hk
 replace D_p0_5 := D_p0_5.ext hk
 replace D_p0_6 := D_p0_6.ext hk
 obtain ⟨v9_11, ev⟩ : ∃ v, sl a11 9 = v := ⟨_, rfl⟩
 rw [ev] at e9
 have D_v9_11 : Rd W11 (SF w [b2_2, b1_2]) (V.d (recO r)) v9_11 := fr_end (M := [b2_2, b1_2]) e9 kw [] in_nil (in_cons own_b2_2.lt (in_cons own_b1_2.lt in_nil))
 replace e9 := ev; clear ev
 obtain ⟨cn9_11a, cn9_11c, ci9_11a, ci9_11c, ev, ht_v9_11, D_cn9_11, D_ci9_11⟩ := rdV_out D_v9_11
 subst ev; clear D_v9_11
 replace own_b2_2 := own_b2_2.ext hk
 replace own_b1_2 := own_b1_2.ext hk
 replace kw := kw.x hk
 clear hR hk hg hP
 refine tail_store e2 e9 sz26 rfl own_b2_2 (lbr rfl) (all_cons rfl (all_cons rfl (all_cons rfl (all_cons rfl (all_cons rfl all_nil))))) (fun W12 hs own_b2_2 => ?_)
 have own_b2_2 : Own W12 b2_2 [(.int .u8 ((recO r).k)), (.int .i64 ((recO r).n)), (.string ((recO r).t)), (.slice cn9_11a (((recO r).ns).length) cn9_11c), (.slice ci9_11a (((recO r).xs).length) ci9_11c)] 26 := own_b2_2
 replace own_b1_2 := own_store own_b1_2 hs ne_b2_2_b1_2.symm
 replace D_p0_1 := sa_store D_p0_1 hs (by simp)
 replace D_p0_5 := sa_store D_p0_5 hs (by simp)
 replace D_p0_6 := sa_store D_p0_6 hs (by simp)
 replace D_cn9_11 := sf_store D_cn9_11 hs (by simp)
 replace D_ci9_11 := sf_store D_ci9_11 hs (by simp)
 replace kw := keeps_store kw hs lo_b2_2
 clear hs
 refine tail_assign (v := (.int .i64 (0))) rfl (by rw [y11]; exact Nat.le_of_ble_eq_true rfl) (fun a13 y13 zz13 e3 hr => ?_)
 replace y13 := y13.trans y11; replace zz13 := zz13.trans zz11
 replace e2 := (hr 2 (by decide)).trans e2
 replace e9 := (hr 9 (by decide)).trans e9
 clear hr
 refine zn (hK10 _ _ ?_)
 refine wp_ret ?_
 refine retCT (v := (.agg #[(.int .u8 ((recO r).k)), (.int .i64 ((recO r).n)), (.string ((recO r).t)), (.slice cn9_11a (((recO r).ns).length) cn9_11c), (.slice ci9_11a (((recO r).xs).length) ci9_11c)])) rfl zz13 e2 own_b2_2 agg26 sz26 rfl (fun h => by cases h) rfl e3 ⟨_, rfl, kw, ?_⟩
 refine ⟨_, by rw [hoe], ?_⟩
 rw [hov]
 exact sf_fr (rdV_in (x := (recO r)) ht_v9_11 D_cn9_11 D_ci9_11 : Rd W12 (SF w [b2_2, b1_2]) (V.d ((recO r))) _)
set_option maxRecDepth 100000 in
theorem SameR_ok (p q : Rc) (hp : p.cu.wt ≤ 1073741824) (hq : q.cu.wt ≤ 1073741824) (w : World) (S : BSet) (v u : Value) (hS : ∀ b o, S b o → Cln o) (hv : Rd w S p.d v) (hu : Rd w S q.d u) : Calls Tryz.prog 26 #[v, u] w (Ret w fun r _ => r = .bool (sameR p q)) := by
 have hp1 := Nat.le_trans (cnt_wt p.cu) hp
 have hq1 := Nat.le_trans (cnt_wt q.cu) hq
 obtain ⟨p0_1a, p0_1c, p0_5a, p0_5c, p0_6a, p0_6c, ev, hb_p0_4, D_p0_1, D_p0_5, D_p0_6⟩ := rdRc_out (rd_arg hv)
 subst ev
 obtain ⟨p1_1a, p1_1c, p1_5a, p1_5c, p1_6a, p1_6c, ev, hb_p1_4, D_p1_1, D_p1_5, D_p1_6⟩ := rdRc_out (rd_arg hu)
 subst ev
 refine enter Tryz.func26 rfl Tryz.ntmps26 (lbr rfl) fun a0 y0 zz0 harg => ?_
 have e0 : sl a0 0 = (.agg #[(.int .i64 (p.ln)), (.slice p0_1a (p.hs.length) p0_1c), (.int .u8 (p.cu.k)), (.int .i64 (p.cu.n)), (.string (p.cu.t)), (.slice p0_5a (p.cu.ns.length) p0_5c), (.slice p0_6a (p.cu.xs.length) p0_6c)]) := harg 0 (lbr rfl)
 have e1 : sl a0 1 = (.agg #[(.int .i64 (q.ln)), (.slice p1_1a (q.hs.length) p1_1c), (.int .u8 (q.cu.k)), (.int .i64 (q.cu.n)), (.string (q.cu.t)), (.slice p1_5a (q.cu.ns.length) p1_5c), (.slice p1_6a (q.cu.xs.length) p1_6c)]) := harg 1 (lbr rfl)
 have kw := Keeps.refl All w
 clear harg
 refine zq fun K1 hK1 => ?_
 refine rg mixed y0 zz0 ?_
 refine .boxOp (v := (.agg #[(.int .i64 (p.ln)), (.slice p0_1a (p.hs.length) p0_1c), (.int .u8 (p.cu.k)), (.int .i64 (p.cu.n)), (.string (p.cu.t)), (.slice p0_5a (p.cu.ns.length) p0_5c), (.slice p0_6a (p.cu.xs.length) p0_6c)])) (hbs rfl e0) ?_
 refine .boxOp (v := (.agg #[(.int .i64 (q.ln)), (.slice p1_1a (q.hs.length) p1_1c), (.int .u8 (q.cu.k)), (.int .i64 (q.cu.n)), (.string (q.cu.t)), (.slice p1_5a (q.cu.ns.length) p1_5c), (.slice p1_6a (q.cu.xs.length) p1_6c)])) (hbs rfl e1) ?_
 refine .ac ?_
 refine .dn fun a2 g W2 y2 zz2 hk hg hV hR hP => ?_
 obtain ⟨-, ⟨b3_2, e3, hb3, own_b3_2⟩, ⟨b2_2, e2, hb2, own_b2_2⟩, -⟩ := hV
 have lo_b3_2 : w.heap.size ≤ b3_2 := Nat.le_trans kw.size (hg.lo _ _ hb3)
 have own_b3_2 : Own W2 b3_2 [(.int .i64 (q.ln)), (.slice p1_1a (q.hs.length) p1_1c), (.int .u8 (q.cu.k)), (.int .i64 (q.cu.n)), (.string (q.cu.t)), (.slice p1_5a (q.cu.ns.length) p1_5c), (.slice p1_6a (q.cu.xs.length) p1_6c)] 46 := own_b3_2
 have lo_b2_2 : w.heap.size ≤ b2_2 := Nat.le_trans kw.size (hg.lo _ _ hb2)
 have own_b2_2 : Own W2 b2_2 [(.int .i64 (p.ln)), (.slice p0_1a (p.hs.length) p0_1c), (.int .u8 (p.cu.k)), (.int .i64 (p.cu.n)), (.string (p.cu.t)), (.slice p0_5a (p.cu.ns.length) p0_5c), (.slice p0_6a (p.cu.xs.length) p0_6c)] 46 := own_b2_2
 have ne_b3_2_b2_2 : b3_2 ≠ b2_2 := fun h => by have := hg.inj _ _ _ hb3 (h ▸ hb2); cases this
 replace D_p0_1 := sa_more D_p0_1 hk [b3_2, b2_2] (in_cons (hg.lo _ _ hb3) (in_cons (hg.lo _ _ hb2) in_nil))
 replace D_p0_5 := sa_more D_p0_5 hk [b3_2, b2_2] (in_cons (hg.lo _ _ hb3) (in_cons (hg.lo _ _ hb2) in_nil))
 replace D_p0_6 := sa_more D_p0_6 hk [b3_2, b2_2] (in_cons (hg.lo _ _ hb3) (in_cons (hg.lo _ _ hb2) in_nil))
 replace D_p1_1 := sa_more D_p1_1 hk [b3_2, b2_2] (in_cons (hg.lo _ _ hb3) (in_cons (hg.lo _ _ hb2) in_nil))
 replace D_p1_5 := sa_more D_p1_5 hk [b3_2, b2_2] (in_cons (hg.lo _ _ hb3) (in_cons (hg.lo _ _ hb2) in_nil))
 replace D_p1_6 := sa_more D_p1_6 hk [b3_2, b2_2] (in_cons (hg.lo _ _ hb3) (in_cons (hg.lo _ _ hb2) in_nil))
 replace kw := kw.x hk
 clear hR hk hg hP hb3 hb2
 refine zn (hK1 _ _ ?_)
 refine zq fun K3 hK3 => ?_
 refine rg mixed y2 zz2 ?_
 refine .i (fo 0 (hbs rfl e2) Tryz.underlying46 rfl sz2 rfl) ?_
 refine .i (lo1 (hlc rfl) own_b2_2 trivial agg2 sz2 rfl) ?_
 refine .i (fo 0 (hbs rfl e3) Tryz.underlying46 rfl sz2 rfl) ?_
 refine .i (lo1 (hlc rfl) own_b3_2 trivial agg2 sz2 rfl) ?_
 refine .i (sp_eql (hlc rfl) (hlc rfl)) ?_
 refine .i (sp_move (hlc rfl)) ?_
 refine .e rfl (hlc rfl) (fun hg => fo 1 (hbs rfl e2) Tryz.underlying46 rfl sz22 rfl) ?_
 refine .e rfl (hlc rfl) (fun hg => lo1 ((hlc rfl).undE hg) own_b2_2 trivial agg22 sz22 rfl) ?_
 refine .e rfl (hlc rfl) (fun hg => fo 1 (hbs rfl e3) Tryz.underlying46 rfl sz22 rfl) ?_
 refine .e rfl (hlc rfl) (fun hg => lo1 ((hlc rfl).undE hg) own_b3_2 trivial agg22 sz22 rfl) ?_
 refine .e (v := (.bool (sameH p.hs q.hs))) rfl (hlc rfl) (fun hg => sp_call2 (φ1 := IsD (SA w S [b3_2, b2_2]) (hssD (p.hs))) (φ2 := IsD (SA w S [b3_2, b2_2]) (hssD (q.hs))) ent19 (((hlc rfl).undE hg).dat D_p0_1 sub_all) (((hlc rfl).undE hg).dat D_p1_1 sub_all) (fun g u1 u2 W hk hgk h1 h2 => sameHs_ok (p.hs) (q.hs) W _ _ _ h1 h2)) ?_
 refine .i (sp_and (hlc rfl) ((hlc rfl).weak fun hq => hq)) ?_
 refine .i (sp_move (hlc rfl)) ?_
 refine .e rfl (hlc rfl) (fun hg => fo 2 (hbs rfl e2) Tryz.underlying46 rfl sz26 rfl) ?_
 refine .e (v := (.agg #[(.int .u8 (p.cu.k)), (.int .i64 (p.cu.n)), (.string (p.cu.t)), (.slice p0_5a (p.cu.ns.length) p0_5c), (.slice p0_6a (p.cu.xs.length) p0_6c)])) rfl (hlc rfl) (fun hg => loA ((hlc rfl).undE hg) own_b2_2 trivial agg26 sz26 rfl rfl) ?_
 refine .e rfl (hlc rfl) (fun hg => fo 2 (hbs rfl e3) Tryz.underlying46 rfl sz26 rfl) ?_
 refine .e (v := (.agg #[(.int .u8 (q.cu.k)), (.int .i64 (q.cu.n)), (.string (q.cu.t)), (.slice p1_5a (q.cu.ns.length) p1_5c), (.slice p1_6a (q.cu.xs.length) p1_6c)])) rfl (hlc rfl) (fun hg => loA ((hlc rfl).undE hg) own_b3_2 trivial agg26 sz26 rfl rfl) ?_
 refine .e (v := (.bool (V.beq (p.cu) (q.cu)))) rfl (hlc rfl) (fun hg => sp_call2 (φ1 := IsD (SA w S [b3_2, b2_2]) (V.d (p.cu))) (φ2 := IsD (SA w S [b3_2, b2_2]) (V.d (q.cu))) ent44 (((hlc rfl).undE hg).dat (rdV_in (x := p.cu) hb_p0_4 D_p0_5 D_p0_6 : Rd W2 (SA w S [b3_2, b2_2]) (V.d (p.cu)) _) sub_all) (((hlc rfl).undE hg).dat (rdV_in (x := q.cu) hb_p1_4 D_p1_5 D_p1_6 : Rd W2 (SA w S [b3_2, b2_2]) (V.d (q.cu)) _) sub_all) (fun g u1 u2 W hk hgk h1 h2 => Same_ok (p.cu) (q.cu) (by first | omega | exact Nat.le_of_ble_eq_true (by kernel_rfl)) (by first | omega | exact Nat.le_of_ble_eq_true (by kernel_rfl)) W _ _ _ (fun b o h => sa_cln hS b o h.1) h1 h2)) ?_
 refine .i (sp_and (hlc rfl) ((hlc rfl).weak fun hq => hq)) ?_
 refine .al rfl ?_
 refine .dn fun a4 g W4 y4 zz4 hk hg hV hR hP => ?_
 obtain ⟨e4, -, -, -, -, -, -, -, -, -, -, -, -, -, -, -, -, -, -, -, -⟩ := hV
 replace D_p0_1 := D_p0_1.ext hk
 replace D_p0_5 := D_p0_5.ext hk
 replace D_p0_6 := D_p0_6.ext hk
 replace D_p1_1 := D_p1_1.ext hk
 replace D_p1_5 := D_p1_5.ext hk
 replace D_p1_6 := D_p1_6.ext hk
 replace e4 := e4.q
 replace own_b3_2 := own_b3_2.ext hk
 replace own_b2_2 := own_b2_2.ext hk
 replace kw := kw.x hk
 clear hR hk hg hP
 refine zn (hK3 _ _ ?_)
 refine wp_ret ?_
 refine ret1 rfl zz4 e4 ⟨_, rfl, kw, ?_⟩
 refine congrArg Value.bool ?_
 rw [Bool.eq_iff_iff]
 simp [sameR, and_assoc]
set_option maxRecDepth 100000 in
theorem refSameR_ok (p q : Rc) (hp : p.cu.wt ≤ 1073741824) (hq : q.cu.wt ≤ 1073741824) (w : World) (S : BSet) (v u : Value) (hv : Rd w S p.d v) (hu : Rd w S q.d u) : Calls Tryz.prog 24 #[v, u] w (Ret w fun r _ => r = .bool (sameR p q)) := by
 have hp1 := Nat.le_trans (cnt_wt p.cu) hp
 have hq1 := Nat.le_trans (cnt_wt q.cu) hq
 obtain ⟨p0_1a, p0_1c, p0_5a, p0_5c, p0_6a, p0_6c, ev, hb_p0_4, D_p0_1, D_p0_5, D_p0_6⟩ := rdRc_out (rd_arg hv)
 subst ev
 obtain ⟨p1_1a, p1_1c, p1_5a, p1_5c, p1_6a, p1_6c, ev, hb_p1_4, D_p1_1, D_p1_5, D_p1_6⟩ := rdRc_out (rd_arg hu)
 subst ev
 refine enter Tryz.func24 rfl Tryz.ntmps24 (lbr rfl) fun a0 y0 zz0 harg => ?_
 have e0 : sl a0 0 = (.agg #[(.int .i64 (p.ln)), (.slice p0_1a (p.hs.length) p0_1c), (.int .u8 (p.cu.k)), (.int .i64 (p.cu.n)), (.string (p.cu.t)), (.slice p0_5a (p.cu.ns.length) p0_5c), (.slice p0_6a (p.cu.xs.length) p0_6c)]) := harg 0 (lbr rfl)
 have e1 : sl a0 1 = (.agg #[(.int .i64 (q.ln)), (.slice p1_1a (q.hs.length) p1_1c), (.int .u8 (q.cu.k)), (.int .i64 (q.cu.n)), (.string (q.cu.t)), (.slice p1_5a (q.cu.ns.length) p1_5c), (.slice p1_6a (q.cu.xs.length) p1_6c)]) := harg 1 (lbr rfl)
 have kw := Keeps.refl All w
 clear harg
 refine zq fun K1 hK1 => ?_
 refine rg mixed y0 zz0 ?_
 refine .boxOp (v := (.agg #[(.int .i64 (p.ln)), (.slice p0_1a (p.hs.length) p0_1c), (.int .u8 (p.cu.k)), (.int .i64 (p.cu.n)), (.string (p.cu.t)), (.slice p0_5a (p.cu.ns.length) p0_5c), (.slice p0_6a (p.cu.xs.length) p0_6c)])) (hbs rfl e0) ?_
 refine .boxOp (v := (.agg #[(.int .i64 (q.ln)), (.slice p1_1a (q.hs.length) p1_1c), (.int .u8 (q.cu.k)), (.int .i64 (q.cu.n)), (.string (q.cu.t)), (.slice p1_5a (q.cu.ns.length) p1_5c), (.slice p1_6a (q.cu.xs.length) p1_6c)])) (hbs rfl e1) ?_
 refine .ac ?_
 refine .dn fun a2 g W2 y2 zz2 hk hg hV hR hP => ?_
 obtain ⟨-, ⟨b3_2, e3, hb3, own_b3_2⟩, ⟨b2_2, e2, hb2, own_b2_2⟩, -⟩ := hV
 have lo_b3_2 : w.heap.size ≤ b3_2 := Nat.le_trans kw.size (hg.lo _ _ hb3)
 have own_b3_2 : Own W2 b3_2 [(.int .i64 (q.ln)), (.slice p1_1a (q.hs.length) p1_1c), (.int .u8 (q.cu.k)), (.int .i64 (q.cu.n)), (.string (q.cu.t)), (.slice p1_5a (q.cu.ns.length) p1_5c), (.slice p1_6a (q.cu.xs.length) p1_6c)] 46 := own_b3_2
 have lo_b2_2 : w.heap.size ≤ b2_2 := Nat.le_trans kw.size (hg.lo _ _ hb2)
 have own_b2_2 : Own W2 b2_2 [(.int .i64 (p.ln)), (.slice p0_1a (p.hs.length) p0_1c), (.int .u8 (p.cu.k)), (.int .i64 (p.cu.n)), (.string (p.cu.t)), (.slice p0_5a (p.cu.ns.length) p0_5c), (.slice p0_6a (p.cu.xs.length) p0_6c)] 46 := own_b2_2
 have ne_b3_2_b2_2 : b3_2 ≠ b2_2 := fun h => by have := hg.inj _ _ _ hb3 (h ▸ hb2); cases this
 replace D_p0_1 := sa_more D_p0_1 hk [b3_2, b2_2] (in_cons (hg.lo _ _ hb3) (in_cons (hg.lo _ _ hb2) in_nil))
 replace D_p0_5 := sa_more D_p0_5 hk [b3_2, b2_2] (in_cons (hg.lo _ _ hb3) (in_cons (hg.lo _ _ hb2) in_nil))
 replace D_p0_6 := sa_more D_p0_6 hk [b3_2, b2_2] (in_cons (hg.lo _ _ hb3) (in_cons (hg.lo _ _ hb2) in_nil))
 replace D_p1_1 := sa_more D_p1_1 hk [b3_2, b2_2] (in_cons (hg.lo _ _ hb3) (in_cons (hg.lo _ _ hb2) in_nil))
 replace D_p1_5 := sa_more D_p1_5 hk [b3_2, b2_2] (in_cons (hg.lo _ _ hb3) (in_cons (hg.lo _ _ hb2) in_nil))
 replace D_p1_6 := sa_more D_p1_6 hk [b3_2, b2_2] (in_cons (hg.lo _ _ hb3) (in_cons (hg.lo _ _ hb2) in_nil))
 replace kw := kw.x hk
 clear hR hk hg hP hb3 hb2
 refine zn (hK1 _ _ ?_)
 refine zq fun K3 hK3 => ?_
 refine rg mixed y2 zz2 ?_
 refine .i (fo 0 (hbs rfl e2) Tryz.underlying46 rfl sz2 rfl) ?_
 refine .i (lo1 (hlc rfl) own_b2_2 trivial agg2 sz2 rfl) ?_
 refine .i (fo 0 (hbs rfl e3) Tryz.underlying46 rfl sz2 rfl) ?_
 refine .i (lo1 (hlc rfl) own_b3_2 trivial agg2 sz2 rfl) ?_
 refine .i (sp_eql (hlc rfl) (hlc rfl)) ?_
 refine .i (sp_move (hlc rfl)) ?_
 refine .e rfl (hlc rfl) (fun hg => fo 1 (hbs rfl e2) Tryz.underlying46 rfl sz22 rfl) ?_
 refine .e rfl (hlc rfl) (fun hg => lo1 ((hlc rfl).undE hg) own_b2_2 trivial agg22 sz22 rfl) ?_
 refine .e rfl (hlc rfl) (fun hg => fo 1 (hbs rfl e3) Tryz.underlying46 rfl sz22 rfl) ?_
 refine .e rfl (hlc rfl) (fun hg => lo1 ((hlc rfl).undE hg) own_b3_2 trivial agg22 sz22 rfl) ?_
 refine .e (v := (.bool (sameH p.hs q.hs))) rfl (hlc rfl) (fun hg => sp_call2 (φ1 := IsD (SA w S [b3_2, b2_2]) (hssD (p.hs))) (φ2 := IsD (SA w S [b3_2, b2_2]) (hssD (q.hs))) ent13 (((hlc rfl).undE hg).dat D_p0_1 sub_all) (((hlc rfl).undE hg).dat D_p1_1 sub_all) (fun g u1 u2 W hk hgk h1 h2 => refSameHs_ok (p.hs) (q.hs) W _ _ _ h1 h2)) ?_
 refine .i (sp_and (hlc rfl) ((hlc rfl).weak fun hq => hq)) ?_
 refine .i (sp_move (hlc rfl)) ?_
 refine .e rfl (hlc rfl) (fun hg => fo 2 (hbs rfl e2) Tryz.underlying46 rfl sz26 rfl) ?_
 refine .e (v := (.agg #[(.int .u8 (p.cu.k)), (.int .i64 (p.cu.n)), (.string (p.cu.t)), (.slice p0_5a (p.cu.ns.length) p0_5c), (.slice p0_6a (p.cu.xs.length) p0_6c)])) rfl (hlc rfl) (fun hg => loA ((hlc rfl).undE hg) own_b2_2 trivial agg26 sz26 rfl rfl) ?_
 refine .e rfl (hlc rfl) (fun hg => fo 2 (hbs rfl e3) Tryz.underlying46 rfl sz26 rfl) ?_
 refine .e (v := (.agg #[(.int .u8 (q.cu.k)), (.int .i64 (q.cu.n)), (.string (q.cu.t)), (.slice p1_5a (q.cu.ns.length) p1_5c), (.slice p1_6a (q.cu.xs.length) p1_6c)])) rfl (hlc rfl) (fun hg => loA ((hlc rfl).undE hg) own_b3_2 trivial agg26 sz26 rfl rfl) ?_
 refine .e (v := (.bool (V.beq (p.cu) (q.cu)))) rfl (hlc rfl) (fun hg => sp_call2 (φ1 := IsD (SA w S [b3_2, b2_2]) (V.d (p.cu))) (φ2 := IsD (SA w S [b3_2, b2_2]) (V.d (q.cu))) ent14 (((hlc rfl).undE hg).dat (rdV_in (x := p.cu) hb_p0_4 D_p0_5 D_p0_6 : Rd W2 (SA w S [b3_2, b2_2]) (V.d (p.cu)) _) sub_all) (((hlc rfl).undE hg).dat (rdV_in (x := q.cu) hb_p1_4 D_p1_5 D_p1_6 : Rd W2 (SA w S [b3_2, b2_2]) (V.d (q.cu)) _) sub_all) (fun g u1 u2 W hk hgk h1 h2 => refSame_all _ (p.cu) (q.cu) (Nat.le_refl _) (by first | omega | exact Nat.le_of_ble_eq_true (by kernel_rfl)) W _ _ _ h1 h2)) ?_
 refine .i (sp_and (hlc rfl) ((hlc rfl).weak fun hq => hq)) ?_
 refine .al rfl ?_
 refine .dn fun a4 g W4 y4 zz4 hk hg hV hR hP => ?_
 obtain ⟨e4, -, -, -, -, -, -, -, -, -, -, -, -, -, -, -, -, -, -, -, -⟩ := hV
 replace D_p0_1 := D_p0_1.ext hk
 replace D_p0_5 := D_p0_5.ext hk
 replace D_p0_6 := D_p0_6.ext hk
 replace D_p1_1 := D_p1_1.ext hk
 replace D_p1_5 := D_p1_5.ext hk
 replace D_p1_6 := D_p1_6.ext hk
 replace e4 := e4.q
 replace own_b3_2 := own_b3_2.ext hk
 replace own_b2_2 := own_b2_2.ext hk
 replace kw := kw.x hk
 clear hR hk hg hP
 refine zn (hK3 _ _ ?_)
 refine wp_ret ?_
 refine ret1 rfl zz4 e4 ⟨_, rfl, kw, ?_⟩
 refine congrArg Value.bool ?_
 rw [Bool.eq_iff_iff]
 simp [sameR, and_assoc]
end Go.Proofs.YtnobijngkpflcaaGreat
namespace Go.Eng
theorem sLt_tot {a b : ByteArray} (h1 : sLt b a = false) (h2 : b ≠ a) : sLt a b = true := by
  rw [sLt_iff]
  have h1' : ¬ b.toList < a.toList := fun h => by rw [(sLt_iff b a).2 h] at h1; cases h1
  have h3 : a.toList ≤ b.toList := h1'
  rcases List.le_iff_lt_or_eq.1 h3 with h | h
  · exact h
  · exfalso
    rw [ByteArray.toList_eq, ByteArray.toList_eq] at h
    obtain ⟨⟨x⟩⟩ := a
    obtain ⟨⟨y⟩⟩ := b
    simp at h
    exact h2 (by rw [h])
end Go.Eng
namespace Go.Proofs.YtnobijngkpflcaaGreat
open Go.Eng
def refV (c : Nat) : Int := if 48 ≤ c ∧ c ≤ 57 then (c : Int) - 48 else if 97 ≤ c ∧ c ≤ 102 then (c : Int) - 97 + 10 else -1
theorem refV_neg (c : Nat) : decide (refV c < 0) = !hexB c := by
  rw [Bool.eq_iff_iff]
  unfold refV hexB
  split
  · simp; omega
  · split
    · simp; omega
    · simp; omega
theorem badH_not (b a : Hs) : badH b a = !sLt a.al b.al := by
  unfold badH
  cases h : sLt a.al b.al with
  | true =>
    have h2 : sLt b.al a.al = false := by
      cases hq : sLt b.al a.al with
      | false => rfl
      | true => have := sLt_trans h hq; rw [sLt_irrefl] at this; cases this
    rw [h2]
    have : b.al ≠ a.al := fun e => by rw [e, sLt_irrefl] at h; cases h
    simp [this]
  | false =>
    by_cases e : b.al = a.al
    · simp [e]
    · rw [sLt_tot h (Ne.symm e)]; rfl
theorem mayH_no {l : List Hs} {k : Nat} (h : k < l.length) (hb : hsOk l[k] = false ∨ (0 < k ∧ sLt (l[k - 1]'(by omega)).al (l[k]).al = false)) : mayH l = false := by
  unfold mayH
  rcases hb with hb | ⟨h0, hb⟩
  · rw [all_false h hb]; simp
  · rw [ascH_false l (k - 1) (by omega) (by simp only [Nat.sub_add_cancel (show 1 ≤ k by omega)]; rw [badH_not, hb]; rfl)]; simp
set_option maxRecDepth 100000 in
theorem part13_ok (c : Nat) (w : World) : Calls Tryz.prog 54 #[.int .u8 c] w (Ret w fun u _ => u = .bool (allowB c)) := by
 refine enter Tryz.func54 rfl Tryz.ntmps54 (lbr rfl) fun a0 y0 zz0 harg => ?_
 have e0 : sl a0 0 = (.int .u8 ((c : Nat))) := harg 0 (lbr rfl)
 have kw := Keeps.refl All w
 clear harg
 refine zq fun K1 hK1 => ?_
 refine rg mixed y0 zz0 ?_
 refine .ac ?_
 refine .dn fun a2 g W2 y2 zz2 hk hg hV hR hP => ?_
 obtain ⟨-, -⟩ := hV
 replace e0 := ft hR e0
 replace kw := kw.x hk
 clear hR hk hg hP
 refine zn (hK1 _ _ ?_)
 refine zq fun K3 hK3 => ?_
 refine rg mixed y2 zz2 ?_
 refine .mb rfl e0 ?_
 refine .i (sp_geq (hlc rfl) Has.cst) ?_
 refine .i (sp_move (hlc rfl)) ?_
 refine .em rfl (hlc rfl) rfl e0 ?_
 refine .e rfl (hlc rfl) (fun hg => sp_leq ((hlc rfl).undE hg) Has.cst) ?_
 refine .i (sp_and (hlc rfl) ((hlc rfl).weak fun hq => hq)) ?_
 refine .i (sp_move (hlc rfl)) ?_
 refine .em rfl (hlc rfl) rfl e0 ?_
 refine .e rfl (hlc rfl) (fun hg => sp_geq ((hlc rfl).undE hg) Has.cst) ?_
 refine .e rfl (hlc rfl) (fun hg => sp_move ((hlc rfl).undE hg)) ?_
 refine .opEE (t := 12) (x := decide ((65 : Int) ≤ ((c : Nat) : Int))) (p := ((decide ((97 : Int) ≤ ((c : Nat) : Int))) && (decide (((c : Nat) : Int) ≤ (122 : Int)))) = false) (φ := Is (.int .u8 ((c : Nat)))) rfl (hlc rfl) (st_is _) (fun hg => sp_move (hbs rfl e0)) ?_
 refine .opEE (t := 12) (x := decide ((65 : Int) ≤ ((c : Nat) : Int))) (p := ((decide ((97 : Int) ≤ ((c : Nat) : Int))) && (decide (((c : Nat) : Int) ≤ (122 : Int)))) = false) (φ := Is (.bool (decide (((c : Nat) : Int) ≤ (90 : Int))))) rfl (hlc rfl) (st_is _) (fun hg => sp_leq ((hlc rfl).undE hg) Has.cst) ?_
 refine .e rfl (hlc rfl) (fun hg => sp_and ((hlc rfl).undE hg) ((hlc rfl).weak fun hq => ⟨hg, hq⟩)) ?_
 refine .i (sp_or (hlc rfl) ((hlc rfl).weak fun hq => hq)) ?_
 refine .i (sp_move (hlc rfl)) ?_
 refine .em rfl (hlc rfl) rfl e0 ?_
 refine .e rfl (hlc rfl) (fun hg => sp_geq ((hlc rfl).undE hg) Has.cst) ?_
 refine .e rfl (hlc rfl) (fun hg => sp_move ((hlc rfl).undE hg)) ?_
 refine .opEE (t := 20) (x := decide ((48 : Int) ≤ ((c : Nat) : Int))) (p := (((decide ((97 : Int) ≤ ((c : Nat) : Int))) && (decide (((c : Nat) : Int) ≤ (122 : Int)))) || ((decide ((65 : Int) ≤ ((c : Nat) : Int))) && (decide (((c : Nat) : Int) ≤ (90 : Int))))) = false) (φ := Is (.int .u8 ((c : Nat)))) rfl (hlc rfl) (st_is _) (fun hg => sp_move (hbs rfl e0)) ?_
 refine .opEE (t := 20) (x := decide ((48 : Int) ≤ ((c : Nat) : Int))) (p := (((decide ((97 : Int) ≤ ((c : Nat) : Int))) && (decide (((c : Nat) : Int) ≤ (122 : Int)))) || ((decide ((65 : Int) ≤ ((c : Nat) : Int))) && (decide (((c : Nat) : Int) ≤ (90 : Int))))) = false) (φ := Is (.bool (decide (((c : Nat) : Int) ≤ (57 : Int))))) rfl (hlc rfl) (st_is _) (fun hg => sp_leq ((hlc rfl).undE hg) Has.cst) ?_
 refine .e rfl (hlc rfl) (fun hg => sp_and ((hlc rfl).undE hg) ((hlc rfl).weak fun hq => ⟨hg, hq⟩)) ?_
 refine .i (sp_or (hlc rfl) ((hlc rfl).weak fun hq => hq)) ?_
 refine .i (sp_move (hlc rfl)) ?_
 refine .em rfl (hlc rfl) rfl e0 ?_
 refine .e rfl (hlc rfl) (fun hg => sp_eql ((hlc rfl).undE hg) Has.cst) ?_
 refine .i (sp_or (hlc rfl) ((hlc rfl).weak fun hq => hq)) ?_
 refine .i (sp_move (hlc rfl)) ?_
 refine .em rfl (hlc rfl) rfl e0 ?_
 refine .e rfl (hlc rfl) (fun hg => sp_eql ((hlc rfl).undE hg) Has.cst) ?_
 refine .i (sp_or (hlc rfl) ((hlc rfl).weak fun hq => hq)) ?_
 refine .i (sp_move (hlc rfl)) ?_
 refine .em rfl (hlc rfl) rfl e0 ?_
 refine .e rfl (hlc rfl) (fun hg => sp_eql ((hlc rfl).undE hg) Has.cst) ?_
 refine .i (sp_or (hlc rfl) ((hlc rfl).weak fun hq => hq)) ?_
 refine .al rfl ?_
 refine .dn fun a4 g W4 y4 zz4 hk hg hV hR hP => ?_
 obtain ⟨e2, -, -, -, -, -, -, -, -, -, -, -, -, -, -, -, -, -, -, -, -, -, -, -, -, -, -, -, -, -, -, -, -, -, -, -⟩ := hV
 replace e2 := e2.q
 replace kw := kw.x hk
 clear hR hk hg hP
 refine zn (hK3 _ _ ?_)
 refine wp_ret ?_
 refine ret1 rfl zz4 e2 ⟨_, rfl, kw, ?_⟩
 refine congrArg Value.bool ?_
 rw [Bool.eq_iff_iff]
 simp [allowB]
 try omega
set_option maxRecDepth 100000 in
theorem role13_ok (s : ByteArray) (hm : s.size ≤ maxLen) (w : World) : Calls Tryz.prog 33 #[.string s] w (Ret w fun u _ => u = .bool (roleB s)) := by
 have hmx := hm
 simp only [maxLen] at hmx
 refine enter Tryz.func33 rfl Tryz.ntmps33 (lbr rfl) fun a0 y0 zz0 harg => ?_
 have e0 : sl a0 0 = (.string (s)) := harg 0 (lbr rfl)
 have kw := Keeps.refl All w
 clear harg
 refine zq fun K1 hK1 => ?_
 refine rg mixed y0 zz0 ?_
 refine .ac ?_
 refine .dn fun a2 g W2 y2 zz2 hk hg hV hR hP => ?_
 obtain ⟨-, -⟩ := hV
 replace e0 := ft hR e0
 replace kw := kw.x hk
 clear hR hk hg hP
 refine zn (hK1 _ _ ?_)
 refine zq fun K3 hK3 => ?_
 refine zq fun K4 hK4 => ?_
 refine rg mixed y2 zz2 ?_
 refine .mb rfl e0 ?_
 refine .i (sp_lenS Tryz.underlying9 (hlc rfl)) ?_
 refine .i (sp_lss (hlc rfl) Has.cst) ?_
 refine .i (sp_move (hlc rfl)) ?_
 refine .em rfl (hlc rfl) rfl e0 ?_
 refine .e rfl (hlc rfl) (fun hg => sp_lenS Tryz.underlying9 ((hlc rfl).undE hg)) ?_
 refine .e rfl (hlc rfl) (fun hg => sp_gtr ((hlc rfl).undE hg) Has.cst) ?_
 refine .i (sp_or (hlc rfl) ((hlc rfl).weak fun hq => hq)) ?_
 refine .i (sp_move (hlc rfl)) ?_
 refine .em rfl (hlc rfl) rfl e0 ?_
 refine .e (v := (.int .u8 ((byteAt s 0 : Nat)))) rfl (hlc rfl) (fun hg => sp_indexStrB (i := 0) Tryz.underlying9 ((hlc rfl).undE hg) Has.cst rfl (by simp at hg; omega)) ?_
 refine .e rfl (hlc rfl) (fun hg => sp_eql ((hlc rfl).undE hg) Has.cst) ?_
 refine .i (sp_or (hlc rfl) ((hlc rfl).weak fun hq => hq)) ?_
 refine .dn fun a5 g W5 y5 zz5 hk hg hV hR hP => ?_
 obtain ⟨e16, -, -, -, -, -, -, -, -, -, -, -, -, -⟩ := hV
 replace e0 := ft hR e0
 replace e16 := e16.q
 replace kw := kw.x hk
 clear hR hk hg hP
 refine zn (hK4 _ _ ?_)
 refine zc e16 (fun hc => ?_) (fun hc => ?_)
 ·
  have hfin : roleB s = false := by rw [roleB, if_pos]; simp only [Bool.or_eq_true, decide_eq_true_eq, beq_iff_eq] at hc; rcases hc with (h | h) | h; exact .inl (by omega); exact .inr (.inl (by omega)); exact .inr (.inr (by omega))
  refine zq fun K6 hK6 => ?_
  refine rg mixed y5 zz5 ?_
  refine .ac ?_
  refine .dn fun a7 g W7 y7 zz7 hk hg hV hR hP => ?_
  obtain ⟨e2, -⟩ := hV
  replace e2 := e2.q
  replace kw := kw.x hk
  clear hR hk hg hP
  refine zn (hK6 _ _ ?_)
  refine wp_ret ?_
  refine ret1 rfl zz7 e2 ⟨_, rfl, kw, ?_⟩
  rw [hfin]
 have hno : ¬ (s.size = 0 ∨ 64 < s.size ∨ byteAt s 0 = 46) := by simp only [Bool.or_eq_false_iff, decide_eq_false_iff_not, beq_eq_false_iff_ne, ne_eq] at hc; obtain ⟨⟨h1, h2⟩, h3⟩ := hc; rintro (h | h | h) <;> omega
 have hfa : roleB s = allB allowB s := by rw [roleB, if_neg hno]
 refine wp_skip (hK3 _ _ ?_)
 refine zq fun K8 hK8 => ?_
 refine zq fun K9 hK9 => ?_
 refine rg mixed y5 zz5 ?_
 refine .ac ?_
 refine .dn fun a10 g W10 y10 zz10 hk hg hV hR hP => ?_
 obtain ⟨e3, -⟩ := hV
 replace e0 := ft hR e0
 replace e3 := e3.q
 replace kw := kw.x hk
 clear hR hk hg hP
 refine zn (hK9 _ _ ?_)
 refine wp_block ?_
 refine wp_for (s.size) (fun k a W => a.tmps.size = 28 ∧ a.defers = [] ∧ Keeps All w W ∧ sl a 0 = (.string (s)) ∧ sl a 3 = (.int .i64 ((k : Nat))) ∧ (∀ i (h : i < s.size), i < k → allowB (s[i]'h).toNat = true)) ⟨y10, zz10, kw, e0, (e3.trans (congrArg (Value.int .i64) (rfl))), fun i h hi => absurd hi (by omega)⟩ ?_
 clear kw e0 e3
 rintro k a11 W11 hkk ⟨y11, zz11, kw, e0, e3, hinv⟩
 refine zq fun K12 hK12 => ?_
 refine zq fun K13 hK13 => ?_
 refine rg mixed y11 zz11 ?_
 refine .mb rfl e3 ?_
 refine .mb rfl e0 ?_
 refine .i (sp_lenS Tryz.underlying9 (hlc rfl)) ?_
 refine .i (sp_lss (hlc rfl) (hlc rfl)) ?_
 refine .dn fun a14 g W14 y14 zz14 hk hg hV hR hP => ?_
 obtain ⟨e20, -, -, -, -⟩ := hV
 replace e0 := ft hR e0
 replace e3 := ft hR e3
 replace e20 := e20.q
 replace kw := kw.x hk
 clear hR hk hg hP
 refine zn (hK13 _ _ ?_)
 refine zc e20 (fun hc => ?_) (fun hc => ?_)
 ·
  have hlt : k < s.size := by simpa using hc
  refine wp_skip (hK12 _ _ ?_)
  refine zq fun K15 hK15 => ?_
  refine wp_block ?_
  refine zq fun K16 hK16 => ?_
  refine rg mixed y14 zz14 ?_
  refine .mb rfl e0 ?_
  refine .mb rfl e3 ?_
  refine .i (v := (.int .u8 (((s[k]'hlt).toNat : Nat)))) (sp_indexStr (i := k) Tryz.underlying9 (hlc rfl) (hlc rfl) rfl hlt) ?_
  refine .i (v := (.bool (allowB ((s[k]'hlt).toNat)))) (sp_call1 (φ1 := Is (.int .u8 (((s[k]'hlt).toNat : Nat)))) ent54 (hlc rfl) (fun g u1 W hk hgk h1 => by have h1 : u1 = _ := h1; subst u1; exact part13_ok _ W)) ?_
  refine .i (sp_not (hlc rfl)) ?_
  refine .dn fun a17 g W17 y17 zz17 hk hg hV hR hP => ?_
  obtain ⟨e27, -, -, -, -, -⟩ := hV
  replace e0 := ft hR e0
  replace e3 := ft hR e3
  replace e27 := e27.q
  replace kw := kw.x hk
  clear hR hk hg hP
  refine zn (hK16 _ _ ?_)
  refine zc e27 (fun hc => ?_) (fun hc => ?_)
  ·
   have hfin : roleB s = false := by rw [hfa]; exact allB_false hlt (by simpa using hc)
   refine zq fun K18 hK18 => ?_
   refine rg mixed y17 zz17 ?_
   refine .ac ?_
   refine .dn fun a19 g W19 y19 zz19 hk hg hV hR hP => ?_
   obtain ⟨e2, -⟩ := hV
   replace e2 := e2.q
   replace kw := kw.x hk
   clear hR hk hg hP
   refine zn (hK18 _ _ ?_)
   refine wp_ret ?_
   refine ret1 rfl zz19 e2 ⟨_, rfl, kw, ?_⟩
   rw [hfin]
  have hk1 : allowB (s[k]'hlt).toNat = true := by simpa using hc
  refine wp_skip (hK15 _ _ ?_)
  refine rg mixed y17 zz17 ?_
  refine .mb rfl e3 ?_
  refine .i (sp_add (hlc rfl) Has.cst (i64_in (by omega))) ?_
  refine .al rfl ?_
  refine .dn fun a20 g W20 y20 zz20 hk hg hV hR hP => ?_
  obtain ⟨e3, -, -, -⟩ := hV
  replace e0 := ft hR e0
  replace e3 := e3.q
  replace kw := kw.x hk
  clear hR hk hg hP
  exact tail_nil ⟨hlt, y20, zz20, kw, e0, (e3.trans (congrArg (Value.int .i64) (by simp))), fun i h hi => by rcases Nat.lt_succ_iff_lt_or_eq.1 hi with h1 | h1; exact hinv i h h1; subst h1; exact hk1⟩
 have hge0 : ¬ k < s.size := by simpa using hc
 have hge : k = s.size := by omega
 have hfin : roleB s = true := by rw [hfa]; exact (allB_iff _ _).2 fun i h => hinv i h (by omega)
 refine wp_exit (hK8 _ _ ?_)
 refine zq fun K21 hK21 => ?_
 refine rg mixed y14 zz14 ?_
 refine .ac ?_
 refine .dn fun a22 g W22 y22 zz22 hk hg hV hR hP => ?_
 obtain ⟨e2, -⟩ := hV
 replace e2 := e2.q
 replace kw := kw.x hk
 clear hR hk hg hP
 refine zn (hK21 _ _ ?_)
 refine wp_ret ?_
 refine ret1 rfl zz22 e2 ⟨_, rfl, kw, ?_⟩
 rw [hfin]
set_option maxRecDepth 100000 in
theorem value01_ok (c : Nat) (hc8 : c < 256) (w : World) : Calls Tryz.prog 75 #[.int .u8 c] w (Ret w fun u _ => u = .int .i64 (refV c)) := by
 refine enter Tryz.func75 rfl Tryz.ntmps75 (lbr rfl) fun a0 y0 zz0 harg => ?_
 have e0 : sl a0 0 = (.int .u8 ((c : Nat))) := harg 0 (lbr rfl)
 have kw := Keeps.refl All w
 clear harg
 refine zq fun K1 hK1 => ?_
 refine rg mixed y0 zz0 ?_
 refine .ac ?_
 refine .dn fun a2 g W2 y2 zz2 hk hg hV hR hP => ?_
 obtain ⟨-, -⟩ := hV
 replace e0 := ft hR e0
 replace kw := kw.x hk
 clear hR hk hg hP
 refine zn (hK1 _ _ ?_)
 refine zq fun K3 hK3 => ?_
 refine zq fun K4 hK4 => ?_
 refine rg mixed y2 zz2 ?_
 refine .mb rfl e0 ?_
 refine .i (sp_geq (hlc rfl) Has.cst) ?_
 refine .i (sp_move (hlc rfl)) ?_
 refine .em rfl (hlc rfl) rfl e0 ?_
 refine .e rfl (hlc rfl) (fun hg => sp_leq ((hlc rfl).undE hg) Has.cst) ?_
 refine .i (sp_and (hlc rfl) ((hlc rfl).weak fun hq => hq)) ?_
 refine .dn fun a5 g W5 y5 zz5 hk hg hV hR hP => ?_
 obtain ⟨e8, -, -, -, -, -, -⟩ := hV
 replace e0 := ft hR e0
 replace e8 := e8.q
 replace kw := kw.x hk
 clear hR hk hg hP
 refine zn (hK4 _ _ ?_)
 refine zc e8 (fun hc => ?_) (fun hc => ?_)
 ·
  have h1 : 48 ≤ c ∧ c ≤ 57 := by simp at hc; omega
  have hfin : refV c = (c : Int) - 48 := by rw [refV, if_pos h1]
  refine zq fun K6 hK6 => ?_
  refine rg mixed y5 zz5 ?_
  refine .mb rfl e0 ?_
  refine .i (v := (.int .i64 ((c : Nat)))) (sp_conv Tryz.underlying5 Tryz.underlying3 (hlc rfl) (i64_in (by omega))) ?_
  refine .i (sp_sub (hlc rfl) Has.cst (i64_in (by omega))) ?_
  refine .al rfl ?_
  refine .dn fun a7 g W7 y7 zz7 hk hg hV hR hP => ?_
  obtain ⟨e2, -, -, -, -⟩ := hV
  replace e2 := e2.q
  replace kw := kw.x hk
  clear hR hk hg hP
  refine zn (hK6 _ _ ?_)
  refine wp_ret ?_
  refine ret1 rfl zz7 e2 ⟨_, rfl, kw, ?_⟩
  rw [hfin]
 have h1 : ¬ (48 ≤ c ∧ c ≤ 57) := by simp at hc; omega
 refine wp_skip (hK3 _ _ ?_)
 refine zq fun K8 hK8 => ?_
 refine zq fun K9 hK9 => ?_
 refine rg mixed y5 zz5 ?_
 refine .mb rfl e0 ?_
 refine .i (sp_geq (hlc rfl) Has.cst) ?_
 refine .i (sp_move (hlc rfl)) ?_
 refine .em rfl (hlc rfl) rfl e0 ?_
 refine .e rfl (hlc rfl) (fun hg => sp_leq ((hlc rfl).undE hg) Has.cst) ?_
 refine .i (sp_and (hlc rfl) ((hlc rfl).weak fun hq => hq)) ?_
 refine .dn fun a10 g W10 y10 zz10 hk hg hV hR hP => ?_
 obtain ⟨e17, -, -, -, -, -, -⟩ := hV
 replace e0 := ft hR e0
 replace e17 := e17.q
 replace kw := kw.x hk
 clear hR hk hg hP
 refine zn (hK9 _ _ ?_)
 refine zc e17 (fun hc => ?_) (fun hc => ?_)
 ·
  have h2 : 97 ≤ c ∧ c ≤ 102 := by simp at hc; omega
  have hfin : refV c = (c : Int) - 97 + 10 := by rw [refV, if_neg h1, if_pos h2]
  refine zq fun K11 hK11 => ?_
  refine rg mixed y10 zz10 ?_
  refine .mb rfl e0 ?_
  refine .i (v := (.int .i64 ((c : Nat)))) (sp_conv Tryz.underlying5 Tryz.underlying3 (hlc rfl) (i64_in (by omega))) ?_
  refine .i (sp_sub (hlc rfl) Has.cst (i64_in (by omega))) ?_
  refine .i (sp_add (hlc rfl) Has.cst (i64_in (by omega))) ?_
  refine .al rfl ?_
  refine .dn fun a12 g W12 y12 zz12 hk hg hV hR hP => ?_
  obtain ⟨e2, -, -, -, -, -⟩ := hV
  replace e2 := e2.q
  replace kw := kw.x hk
  clear hR hk hg hP
  refine zn (hK11 _ _ ?_)
  refine wp_ret ?_
  refine ret1 rfl zz12 e2 ⟨_, rfl, kw, ?_⟩
  rw [hfin]
 have h2 : ¬ (97 ≤ c ∧ c ≤ 102) := by simp at hc; omega
 have hfin : refV c = -1 := by rw [refV, if_neg h1, if_neg h2]
 refine wp_skip (hK8 _ _ ?_)
 refine zq fun K13 hK13 => ?_
 refine rg mixed y10 zz10 ?_
 refine .ac ?_
 refine .dn fun a14 g W14 y14 zz14 hk hg hV hR hP => ?_
 obtain ⟨e2, -⟩ := hV
 replace e2 := e2.q
 replace kw := kw.x hk
 clear hR hk hg hP
 refine zn (hK13 _ _ ?_)
 refine wp_ret ?_
 refine ret1 rfl zz14 e2 ⟨_, rfl, kw, ?_⟩
 rw [hfin]
set_option maxRecDepth 100000 in
theorem is01_ok (s : ByteArray) (hm : s.size ≤ maxLen) (w : World) : Calls Tryz.prog 55 #[.string s] w (Ret w fun u _ => u = .bool (hexIs s)) := by
 have hmx := hm
 simp only [maxLen] at hmx
 refine enter Tryz.func55 rfl Tryz.ntmps55 (lbr rfl) fun a0 y0 zz0 harg => ?_
 have e0 : sl a0 0 = (.string (s)) := harg 0 (lbr rfl)
 have kw := Keeps.refl All w
 clear harg
 refine zq fun K1 hK1 => ?_
 refine rg mixed y0 zz0 ?_
 refine .ac ?_
 refine .dn fun a2 g W2 y2 zz2 hk hg hV hR hP => ?_
 obtain ⟨-, -⟩ := hV
 replace e0 := ft hR e0
 replace kw := kw.x hk
 clear hR hk hg hP
 refine zn (hK1 _ _ ?_)
 refine zq fun K3 hK3 => ?_
 refine zq fun K4 hK4 => ?_
 refine rg mixed y2 zz2 ?_
 refine .ac ?_
 refine .dn fun a5 g W5 y5 zz5 hk hg hV hR hP => ?_
 obtain ⟨e3, -⟩ := hV
 replace e0 := ft hR e0
 replace e3 := e3.q
 replace kw := kw.x hk
 clear hR hk hg hP
 refine zn (hK4 _ _ ?_)
 refine wp_block ?_
 refine wp_for (s.size) (fun k a W => a.tmps.size = 15 ∧ a.defers = [] ∧ Keeps All w W ∧ sl a 0 = (.string (s)) ∧ sl a 3 = (.int .i64 ((k : Nat))) ∧ (∀ i (h : i < s.size), i < k → hexB (s[i]'h).toNat = true)) ⟨y5, zz5, kw, e0, (e3.trans (congrArg (Value.int .i64) (rfl))), fun i h hi => absurd hi (by omega)⟩ ?_
 clear kw e0 e3
 rintro k a6 W6 hkk ⟨y6, zz6, kw, e0, e3, hinv⟩
 refine zq fun K7 hK7 => ?_
 refine zq fun K8 hK8 => ?_
 refine rg mixed y6 zz6 ?_
 refine .mb rfl e3 ?_
 refine .mb rfl e0 ?_
 refine .i (sp_lenS Tryz.underlying9 (hlc rfl)) ?_
 refine .i (sp_lss (hlc rfl) (hlc rfl)) ?_
 refine .dn fun a9 g W9 y9 zz9 hk hg hV hR hP => ?_
 obtain ⟨e7, -, -, -, -⟩ := hV
 replace e0 := ft hR e0
 replace e3 := ft hR e3
 replace e7 := e7.q
 replace kw := kw.x hk
 clear hR hk hg hP
 refine zn (hK8 _ _ ?_)
 refine zc e7 (fun hc => ?_) (fun hc => ?_)
 ·
  have hlt : k < s.size := by simpa using hc
  refine wp_skip (hK7 _ _ ?_)
  refine zq fun K10 hK10 => ?_
  refine wp_block ?_
  refine zq fun K11 hK11 => ?_
  refine rg mixed y9 zz9 ?_
  refine .mb rfl e0 ?_
  refine .mb rfl e3 ?_
  refine .i (v := (.int .u8 (((s[k]'hlt).toNat : Nat)))) (sp_indexStr (i := k) Tryz.underlying9 (hlc rfl) (hlc rfl) rfl hlt) ?_
  refine .i (v := (.int .i64 (refV ((s[k]'hlt).toNat)))) (sp_call1 (φ1 := Is (.int .u8 (((s[k]'hlt).toNat : Nat)))) ent75 (hlc rfl) (fun g u1 W hk hgk h1 => by have h1 : u1 = _ := h1; subst u1; exact value01_ok _ (UInt8.toNat_lt _) W)) ?_
  refine .i (sp_lss (hlc rfl) Has.cst) ?_
  refine .dn fun a12 g W12 y12 zz12 hk hg hV hR hP => ?_
  obtain ⟨e14, -, -, -, -, -⟩ := hV
  replace e0 := ft hR e0
  replace e3 := ft hR e3
  replace e14 := e14.q
  replace kw := kw.x hk
  clear hR hk hg hP
  refine zn (hK11 _ _ ?_)
  refine zc e14 (fun hc => ?_) (fun hc => ?_)
  ·
   rw [refV_neg] at hc
   have hfin : hexIs s = false := hexIs_false hlt (by simpa using hc)
   refine zq fun K13 hK13 => ?_
   refine rg mixed y12 zz12 ?_
   refine .ac ?_
   refine .dn fun a14 g W14 y14 zz14 hk hg hV hR hP => ?_
   obtain ⟨e2, -⟩ := hV
   replace e2 := e2.q
   replace kw := kw.x hk
   clear hR hk hg hP
   refine zn (hK13 _ _ ?_)
   refine wp_ret ?_
   refine ret1 rfl zz14 e2 ⟨_, rfl, kw, ?_⟩
   rw [hfin]
  rw [refV_neg] at hc
  have hk1 : hexB (s[k]'hlt).toNat = true := by simpa using hc
  refine wp_skip (hK10 _ _ ?_)
  refine rg mixed y12 zz12 ?_
  refine .mb rfl e3 ?_
  refine .i (sp_add (hlc rfl) Has.cst (i64_in (by omega))) ?_
  refine .al rfl ?_
  refine .dn fun a15 g W15 y15 zz15 hk hg hV hR hP => ?_
  obtain ⟨e3, -, -, -⟩ := hV
  replace e0 := ft hR e0
  replace e3 := e3.q
  replace kw := kw.x hk
  clear hR hk hg hP
  exact tail_nil ⟨hlt, y15, zz15, kw, e0, (e3.trans (congrArg (Value.int .i64) (by simp))), fun i h hi => by rcases Nat.lt_succ_iff_lt_or_eq.1 hi with h1 | h1; exact hinv i h h1; subst h1; exact hk1⟩
 have hge0 : ¬ k < s.size := by simpa using hc
 have hge : k = s.size := by omega
 have hfin : hexIs s = true := (hexIs_iff s).2 fun i h => hinv i h (by omega)
 refine wp_exit (hK3 _ _ ?_)
 refine zq fun K16 hK16 => ?_
 refine rg mixed y9 zz9 ?_
 refine .ac ?_
 refine .dn fun a17 g W17 y17 zz17 hk hg hV hR hP => ?_
 obtain ⟨e2, -⟩ := hV
 replace e2 := e2.q
 replace kw := kw.x hk
 clear hR hk hg hP
 refine zn (hK16 _ _ ?_)
 refine wp_ret ?_
 refine ret1 rfl zz17 e2 ⟨_, rfl, kw, ?_⟩
 rw [hfin]
set_option maxRecDepth 100000 in
theorem digits21_ok (s : ByteArray) (hm : s.size ≤ maxLen) (w : World) : Calls Tryz.prog 34 #[.string s] w (Ret w fun u _ => u = .bool (digR s)) := by
 refine enter Tryz.func34 rfl Tryz.ntmps34 (lbr rfl) fun a0 y0 zz0 harg => ?_
 have e0 : sl a0 0 = (.string (s)) := harg 0 (lbr rfl)
 have kw := Keeps.refl All w
 clear harg
 refine zq fun K1 hK1 => ?_
 refine rg mixed y0 zz0 ?_
 refine .ac ?_
 refine .dn fun a2 g W2 y2 zz2 hk hg hV hR hP => ?_
 obtain ⟨-, -⟩ := hV
 replace e0 := ft hR e0
 replace kw := kw.x hk
 clear hR hk hg hP
 refine zn (hK1 _ _ ?_)
 refine zq fun K3 hK3 => ?_
 refine rg mixed y2 zz2 ?_
 refine .mb rfl e0 ?_
 refine .i (sp_lenS Tryz.underlying9 (hlc rfl)) ?_
 refine .i (sp_geq (hlc rfl) Has.cst) ?_
 refine .i (sp_move (hlc rfl)) ?_
 refine .em rfl (hlc rfl) rfl e0 ?_
 refine .e rfl (hlc rfl) (fun hg => sp_lenS Tryz.underlying9 ((hlc rfl).undE hg)) ?_
 refine .e rfl (hlc rfl) (fun hg => sp_leq ((hlc rfl).undE hg) Has.cst) ?_
 refine .i (sp_and (hlc rfl) ((hlc rfl).weak fun hq => hq)) ?_
 refine .i (sp_move (hlc rfl)) ?_
 refine .em rfl (hlc rfl) rfl e0 ?_
 refine .e rfl (hlc rfl) (fun hg => sp_lenS Tryz.underlying9 ((hlc rfl).undE hg)) ?_
 refine .e (v := (.int .i64 (Int.tmod s.size 2))) rfl (hlc rfl) (fun hg => sp_rem ((hlc rfl).undE hg) Has.cst (by decide)) ?_
 refine .e rfl (hlc rfl) (fun hg => sp_eql ((hlc rfl).undE hg) Has.cst) ?_
 refine .i (sp_and (hlc rfl) ((hlc rfl).weak fun hq => hq)) ?_
 refine .i (sp_move (hlc rfl)) ?_
 refine .em rfl (hlc rfl) rfl e0 ?_
 refine .e (v := (.bool (hexIs s))) rfl (hlc rfl) (fun hg => sp_call1 (φ1 := Is (.string (s))) ent55 ((hlc rfl).undE hg) (fun g u1 W hk hgk h1 => by have h1 : u1 = _ := h1; subst u1; exact is01_ok (s) hm W)) ?_
 refine .i (sp_and (hlc rfl) ((hlc rfl).weak fun hq => hq)) ?_
 refine .al rfl ?_
 refine .dn fun a4 g W4 y4 zz4 hk hg hV hR hP => ?_
 obtain ⟨e2, -, -, -, -, -, -, -, -, -, -, -, -, -, -, -, -, -, -, -⟩ := hV
 replace e2 := e2.q
 replace kw := kw.x hk
 clear hR hk hg hP
 refine zn (hK3 _ _ ?_)
 refine wp_ret ?_
 refine ret1 rfl zz4 e2 ⟨_, rfl, kw, ?_⟩
 have ht : (s.size : Int).tmod 2 = ((s.size % 2 : Nat) : Int) := by rw [Int.tmod_eq_emod_of_nonneg (by omega)]; push_cast; rfl
 refine congrArg Value.bool ?_
 rw [Bool.eq_iff_iff, ht]
 simp [digR]
 constructor
 · rintro ⟨⟨⟨h1, h2⟩, h3⟩, h4⟩; exact ⟨by omega, by omega, by omega, h4⟩
 · rintro ⟨h1, h2, h3, h4⟩; exact ⟨⟨⟨by omega, by omega⟩, by omega⟩, h4⟩
set_option maxRecDepth 100000 in
theorem MayHashes21_ok (l : List Hs) (w : World) (S : BSet) (v : Value) (hv : Rd w S (hssD l) v) : Calls Tryz.prog 18 #[v] w (Ret w fun u _ => u = .bool (mayH l)) := by
 have hmx : l.length ≤ maxLen := rdHss_len hv
 simp only [maxLen] at hmx
 obtain ⟨va, vc, ev, D_v⟩ := rdHss_out (rd_arg hv)
 subst ev
 refine enter Tryz.func18 rfl Tryz.ntmps18 (lbr rfl) fun a0 y0 zz0 harg => ?_
 have e0 : sl a0 0 = (.slice va (l.length) vc) := harg 0 (lbr rfl)
 have kw := Keeps.refl All w
 clear harg
 refine zq fun K1 hK1 => ?_
 refine rg mixed y0 zz0 ?_
 refine .ac ?_
 refine .dn fun a2 g W2 y2 zz2 hk hg hV hR hP => ?_
 obtain ⟨-, -⟩ := hV
 replace e0 := ft hR e0
 replace D_v := D_v.ext hk
 replace kw := kw.x hk
 clear hR hk hg hP
 refine zn (hK1 _ _ ?_)
 refine zq fun K3 hK3 => ?_
 refine zq fun K4 hK4 => ?_
 refine rg mixed y2 zz2 ?_
 refine .mb rfl e0 ?_
 refine .i (sp_lenL Tryz.underlying22 ((hlc rfl).dat D_v sub_all)) ?_
 refine .i (sp_lss (hlc rfl) Has.cst) ?_
 refine .i (sp_move (hlc rfl)) ?_
 refine .em rfl (hlc rfl) rfl e0 ?_
 refine .e rfl (hlc rfl) (fun hg => sp_lenL Tryz.underlying22 (((hlc rfl).undE hg).dat D_v sub_all)) ?_
 refine .e rfl (hlc rfl) (fun hg => sp_gtr ((hlc rfl).undE hg) Has.cst) ?_
 refine .i (sp_or (hlc rfl) ((hlc rfl).weak fun hq => hq)) ?_
 refine .dn fun a5 g W5 y5 zz5 hk hg hV hR hP => ?_
 obtain ⟨e11, -, -, -, -, -, -, -, -⟩ := hV
 replace e0 := ft hR e0
 replace D_v := D_v.ext hk
 replace e11 := e11.q
 replace kw := kw.x hk
 clear hR hk hg hP
 refine zn (hK4 _ _ ?_)
 refine zc e11 (fun hc => ?_) (fun hc => ?_)
 ·
  have hfin : mayH l = false := by simp at hc; unfold mayH; rcases hc with h | h; simp [show l.length = 0 by omega]; simp [show ¬ l.length ≤ 4 by omega]
  refine zq fun K6 hK6 => ?_
  refine rg mixed y5 zz5 ?_
  refine .ac ?_
  refine .dn fun a7 g W7 y7 zz7 hk hg hV hR hP => ?_
  obtain ⟨e2, -⟩ := hV
  replace D_v := D_v.ext hk
  replace e2 := e2.q
  replace kw := kw.x hk
  clear hR hk hg hP
  refine zn (hK6 _ _ ?_)
  refine wp_ret ?_
  refine ret1 rfl zz7 e2 ⟨_, rfl, kw, ?_⟩
  rw [hfin]
 have hl4 : 1 ≤ l.length ∧ l.length ≤ 4 := by simp at hc; omega
 refine wp_skip (hK3 _ _ ?_)
 refine zq fun K8 hK8 => ?_
 refine zq fun K9 hK9 => ?_
 refine rg mixed y5 zz5 ?_
 refine .ac ?_
 refine .dn fun a10 g W10 y10 zz10 hk hg hV hR hP => ?_
 obtain ⟨e3, -⟩ := hV
 replace e0 := ft hR e0
 replace D_v := D_v.ext hk
 replace e3 := e3.q
 replace kw := kw.x hk
 clear hR hk hg hP
 refine zn (hK9 _ _ ?_)
 refine wp_block ?_
 refine wp_for (l.length) (fun k a W => a.tmps.size = 52 ∧ a.defers = [] ∧ Keeps All w W ∧ sl a 0 = (.slice va (l.length) vc) ∧ sl a 3 = (.int .i64 ((k : Nat))) ∧ Rd W (SA w S []) (hssD (l)) (.slice va (l.length) vc) ∧ (∀ i (h : i < l.length), i < k → hsOk l[i] = true ∧ ∀ j (e : j + 1 = i), badH l[i] (l[j]'(by omega)) = false)) ⟨y10, zz10, kw, e0, (e3.trans (congrArg (Value.int .i64) (rfl))), D_v, fun i h hi => absurd hi (by omega)⟩ ?_
 clear kw e0 e3 D_v
 rintro k a11 W11 hkk ⟨y11, zz11, kw, e0, e3, D_v, hinv⟩
 refine zq fun K12 hK12 => ?_
 refine zq fun K13 hK13 => ?_
 refine rg mixed y11 zz11 ?_
 refine .mb rfl e3 ?_
 refine .mb rfl e0 ?_
 refine .i (sp_lenL Tryz.underlying22 ((hlc rfl).dat D_v sub_all)) ?_
 refine .i (sp_lss (hlc rfl) (hlc rfl)) ?_
 refine .dn fun a14 g W14 y14 zz14 hk hg hV hR hP => ?_
 obtain ⟨e15, -, -, -, -⟩ := hV
 replace e0 := ft hR e0
 replace e3 := ft hR e3
 replace D_v := D_v.ext hk
 replace e15 := e15.q
 replace kw := kw.x hk
 clear hR hk hg hP
 refine zn (hK13 _ _ ?_)
 refine zc e15 (fun hc => ?_) (fun hc => ?_)
 ·
  have hlt : k < l.length := by simpa using hc
  refine wp_skip (hK12 _ _ ?_)
  refine zq fun K15 hK15 => ?_
  refine wp_block ?_
  refine zq fun K16 hK16 => ?_
  refine rg mixed y14 zz14 ?_
  refine .mb rfl e0 ?_
  refine .mb rfl e3 ?_
  refine .rf (X := SA w S []) (e := Hs.d (l[k]'hlt)) (sp_indexL (i := k) ((hlc rfl).dat D_v sub_all) (hlc rfl) Tryz.underlying22 sz43 rfl hlt) ?_
  refine .rf (X := SA w S []) (e := D.str ((l[k]'hlt).al)) (sp_fieldR (hlc rfl) Tryz.underlying43 rfl sz9 rfl (by first | rfl | simp [widths, width, hssD, width_V])) ?_
  refine .i (sp_loadStr (hlc rfl) agg9 sz9) ?_
  refine .i (v := (.bool (roleB ((l[k]'hlt).al)))) (sp_call1 (φ1 := Is (.string ((l[k]'hlt).al))) ent33 (hlc rfl) (fun g u1 W hk hgk h1 => by have h1 : u1 = _ := h1; subst u1; exact role13_ok ((l[k]'hlt).al) (rdHss_at D_v hlt).1 W)) ?_
  refine .i (sp_not (hlc rfl)) ?_
  refine .i (sp_move (hlc rfl)) ?_
  refine .em rfl (hlc rfl) rfl e0 ?_
  refine .em rfl (hlc rfl) rfl e3 ?_
  refine .opE (t := 25) (φ := IsR (SA w S []) (Hs.d (l[k]'hlt))) rfl (hlc rfl) (st_r sub_all) (fun hg => sp_indexL (i := k) (((hlc rfl).undE hg).dat D_v sub_all) ((hlc rfl).undE hg) Tryz.underlying22 sz43 rfl hlt) ?_
  refine .opE (t := 25) (φ := IsR (SA w S []) (D.str ((l[k]'hlt).hx))) rfl (hlc rfl) (st_r sub_all) (fun hg => sp_fieldR ((hlc rfl).undE hg) Tryz.underlying43 rfl sz9 rfl (by first | rfl | simp [widths, width, hssD, width_V])) ?_
  refine .e rfl (hlc rfl) (fun hg => sp_loadStr ((hlc rfl).undE hg) agg9 sz9) ?_
  refine .e (v := (.bool (digR ((l[k]'hlt).hx)))) rfl (hlc rfl) (fun hg => sp_call1 (φ1 := Is (.string ((l[k]'hlt).hx))) ent34 ((hlc rfl).undE hg) (fun g u1 W hk hgk h1 => by have h1 : u1 = _ := h1; subst u1; exact digits21_ok ((l[k]'hlt).hx) (rdHss_at D_v hlt).2 W)) ?_
  refine .e rfl (hlc rfl) (fun hg => sp_not ((hlc rfl).undE hg)) ?_
  refine .i (sp_or (hlc rfl) ((hlc rfl).weak fun hq => hq)) ?_
  refine .i (sp_move (hlc rfl)) ?_
  refine .em rfl (hlc rfl) rfl e3 ?_
  refine .e rfl (hlc rfl) (fun hg => sp_gtr ((hlc rfl).undE hg) Has.cst) ?_
  refine .e rfl (hlc rfl) (fun hg => sp_move ((hlc rfl).undE hg)) ?_
  refine .opEE (t := 37) (x := decide ((0 : Int) < ((k : Nat) : Int))) (p := ((!(roleB ((l[k]'hlt).al))) || (!(digR ((l[k]'hlt).hx)))) = false) (φ := Is (.slice va (l.length) vc)) rfl (hlc rfl) (st_is _) (fun hg => sp_move (hbs rfl e0)) ?_
  refine .opEE (t := 37) (x := decide ((0 : Int) < ((k : Nat) : Int))) (p := ((!(roleB ((l[k]'hlt).al))) || (!(digR ((l[k]'hlt).hx)))) = false) (φ := Is (.int .i64 ((k : Nat)))) rfl (hlc rfl) (st_is _) (fun hg => sp_move (hbs rfl e3)) ?_
  refine .opEE (t := 37) (x := decide ((0 : Int) < ((k : Nat) : Int))) (p := ((!(roleB ((l[k]'hlt).al))) || (!(digR ((l[k]'hlt).hx)))) = false) (φ := Is (.int .i64 (((k : Nat) : Int) - (1 : Int)))) rfl (hlc rfl) (st_is _) (fun hg => sp_sub ((hlc rfl).undE hg) Has.cst (i64_in (by omega))) ?_
  refine .opEE (t := 37) (x := decide ((0 : Int) < ((k : Nat) : Int))) (p := ((!(roleB ((l[k]'hlt).al))) || (!(digR ((l[k]'hlt).hx)))) = false) (φ := IsR (SA w S []) (Hs.d (l[(k - 1)]'(by omega)))) rfl (hlc rfl) (st_r sub_all) (fun hg => sp_indexL (i := (k - 1)) (((hlc rfl).undE hg).dat D_v sub_all) ((hlc rfl).undE hg) Tryz.underlying22 sz43 (by simp at hg; omega) (by omega)) ?_
  refine .opEE (t := 37) (x := decide ((0 : Int) < ((k : Nat) : Int))) (p := ((!(roleB ((l[k]'hlt).al))) || (!(digR ((l[k]'hlt).hx)))) = false) (φ := IsR (SA w S []) (D.str ((l[(k - 1)]'(by omega)).al))) rfl (hlc rfl) (st_r sub_all) (fun hg => sp_fieldR ((hlc rfl).undE hg) Tryz.underlying43 rfl sz9 rfl (by first | rfl | simp [widths, width, hssD, width_V])) ?_
  refine .opEE (t := 37) (x := decide ((0 : Int) < ((k : Nat) : Int))) (p := ((!(roleB ((l[k]'hlt).al))) || (!(digR ((l[k]'hlt).hx)))) = false) (φ := Is (.string ((l[(k - 1)]'(by omega)).al))) rfl (hlc rfl) (st_is _) (fun hg => sp_loadStr ((hlc rfl).undE hg) agg9 sz9) ?_
  refine .opEE (t := 37) (x := decide ((0 : Int) < ((k : Nat) : Int))) (p := ((!(roleB ((l[k]'hlt).al))) || (!(digR ((l[k]'hlt).hx)))) = false) (φ := Is (.slice va (l.length) vc)) rfl (hlc rfl) (st_is _) (fun hg => sp_move (hbs rfl e0)) ?_
  refine .opEE (t := 37) (x := decide ((0 : Int) < ((k : Nat) : Int))) (p := ((!(roleB ((l[k]'hlt).al))) || (!(digR ((l[k]'hlt).hx)))) = false) (φ := Is (.int .i64 ((k : Nat)))) rfl (hlc rfl) (st_is _) (fun hg => sp_move (hbs rfl e3)) ?_
  refine .opEE (t := 37) (x := decide ((0 : Int) < ((k : Nat) : Int))) (p := ((!(roleB ((l[k]'hlt).al))) || (!(digR ((l[k]'hlt).hx)))) = false) (φ := IsR (SA w S []) (Hs.d (l[k]'hlt))) rfl (hlc rfl) (st_r sub_all) (fun hg => sp_indexL (i := k) (((hlc rfl).undE hg).dat D_v sub_all) ((hlc rfl).undE hg) Tryz.underlying22 sz43 rfl hlt) ?_
  refine .opEE (t := 37) (x := decide ((0 : Int) < ((k : Nat) : Int))) (p := ((!(roleB ((l[k]'hlt).al))) || (!(digR ((l[k]'hlt).hx)))) = false) (φ := IsR (SA w S []) (D.str ((l[k]'hlt).al))) rfl (hlc rfl) (st_r sub_all) (fun hg => sp_fieldR ((hlc rfl).undE hg) Tryz.underlying43 rfl sz9 rfl (by first | rfl | simp [widths, width, hssD, width_V])) ?_
  refine .opEE (t := 37) (x := decide ((0 : Int) < ((k : Nat) : Int))) (p := ((!(roleB ((l[k]'hlt).al))) || (!(digR ((l[k]'hlt).hx)))) = false) (φ := Is (.string ((l[k]'hlt).al))) rfl (hlc rfl) (st_is _) (fun hg => sp_loadStr ((hlc rfl).undE hg) agg9 sz9) ?_
  refine .opEE (t := 37) (x := decide ((0 : Int) < ((k : Nat) : Int))) (p := ((!(roleB ((l[k]'hlt).al))) || (!(digR ((l[k]'hlt).hx)))) = false) (φ := Is (.bool (!sLt ((l[(k - 1)]'(by omega)).al) ((l[k]'hlt).al)))) rfl (hlc rfl) (st_is _) (fun hg => sp_sGeq ((hlc rfl).undE hg) ((hlc rfl).undE hg)) ?_
  refine .e rfl (hlc rfl) (fun hg => sp_and ((hlc rfl).undE hg) ((hlc rfl).weak fun hq => ⟨hg, hq⟩)) ?_
  refine .i (sp_or (hlc rfl) ((hlc rfl).weak fun hq => hq)) ?_
  refine .dn fun a17 g W17 y17 zz17 hk hg hV hR hP => ?_
  obtain ⟨e51, -, -, -, -, -, -, -, -, -, -, -, -, -, -, -, -, -, -, -, -, -, -, -, -, -, -, -, -, -, -, -, -, -, -⟩ := hV
  replace e0 := ft hR e0
  replace e3 := ft hR e3
  replace D_v := D_v.ext hk
  replace e51 := e51.q
  replace kw := kw.x hk
  clear hR hk hg hP
  refine zn (hK16 _ _ ?_)
  refine zc e51 (fun hc => ?_) (fun hc => ?_)
  ·
   have hfin : mayH l = false := mayH_no hlt (by simp only [Bool.or_eq_true, Bool.not_eq_true', Bool.and_eq_true, decide_eq_true_eq] at hc; rcases hc with (h | h) | ⟨h1, h2⟩; exact .inl (by simp [hsOk, h]); exact .inl (by simp [hsOk, h]); exact .inr ⟨by omega, h2⟩)
   refine zq fun K18 hK18 => ?_
   refine rg mixed y17 zz17 ?_
   refine .ac ?_
   refine .dn fun a19 g W19 y19 zz19 hk hg hV hR hP => ?_
   obtain ⟨e2, -⟩ := hV
   replace D_v := D_v.ext hk
   replace e2 := e2.q
   replace kw := kw.x hk
   clear hR hk hg hP
   refine zn (hK18 _ _ ?_)
   refine wp_ret ?_
   refine ret1 rfl zz19 e2 ⟨_, rfl, kw, ?_⟩
   rw [hfin]
  have hk1 : hsOk (l[k]'hlt) = true := by simp at hc; simp [hsOk, hc]
  have hk2 : ∀ i, i + 1 = k → (hi : i < l.length) → badH (l[k]'hlt) (l[i]'hi) = false := by intro i e hi; simp at hc; subst e; rw [badH_not]; have := hc.2 (by omega); simpa using this
  refine wp_skip (hK15 _ _ ?_)
  refine rg mixed y17 zz17 ?_
  refine .mb rfl e3 ?_
  refine .i (sp_add (hlc rfl) Has.cst (i64_in (by omega))) ?_
  refine .al rfl ?_
  refine .dn fun a20 g W20 y20 zz20 hk hg hV hR hP => ?_
  obtain ⟨e3, -, -, -⟩ := hV
  replace e0 := ft hR e0
  replace D_v := D_v.ext hk
  replace e3 := e3.q
  replace kw := kw.x hk
  clear hR hk hg hP
  exact tail_nil ⟨hlt, y20, zz20, kw, e0, (e3.trans (congrArg (Value.int .i64) (by simp))), D_v, fun i h hi => by rcases Nat.lt_succ_iff_lt_or_eq.1 hi with h1 | h1; exact hinv i h h1; subst h1; exact ⟨hk1, fun j e => hk2 j e (by omega)⟩⟩
 have hge0 : ¬ k < l.length := by simpa using hc
 have hge : k = l.length := by omega
 have hfin : mayH l = true := by unfold mayH; rw [all_true fun i h => (hinv i h (by omega)).1, ascH_true l fun i h => (hinv (i + 1) h (by omega)).2 i rfl]; simp [hl4.1, hl4.2]
 refine wp_exit (hK8 _ _ ?_)
 refine zq fun K21 hK21 => ?_
 refine rg mixed y14 zz14 ?_
 refine .ac ?_
 refine .dn fun a22 g W22 y22 zz22 hk hg hV hR hP => ?_
 obtain ⟨e2, -⟩ := hV
 replace D_v := D_v.ext hk
 replace e2 := e2.q
 replace kw := kw.x hk
 clear hR hk hg hP
 refine zn (hK21 _ _ ?_)
 refine wp_ret ?_
 refine ret1 rfl zz22 e2 ⟨_, rfl, kw, ?_⟩
 rw [hfin]
set_option maxRecDepth 100000 in
theorem Hash21_ok (l : List Hs) (al : ByteArray) (w : World) (S : BSet) (v : Value) (hv : Rd w S (hssD l) v) : Calls Tryz.prog 12 #[v, .string al] w (Ret w fun r _ => r = .tuple #[.string (hashS l al), .bool (hashB l al)]) := by
 have hmx : l.length ≤ maxLen := rdHss_len hv
 simp only [maxLen] at hmx
 obtain ⟨va, vc, ev, D_v⟩ := rdHss_out (rd_arg hv)
 subst ev
 refine enter Tryz.func12 rfl Tryz.ntmps12 (lbr rfl) fun a0 y0 zz0 harg => ?_
 have e0 : sl a0 0 = (.slice va (l.length) vc) := harg 0 (lbr rfl)
 have e1 : sl a0 1 = (.string (al)) := harg 1 (lbr rfl)
 have kw := Keeps.refl All w
 clear harg
 refine zq fun K1 hK1 => ?_
 refine rg mixed y0 zz0 ?_
 refine .ac ?_
 refine .ac ?_
 refine .dn fun a2 g W2 y2 zz2 hk hg hV hR hP => ?_
 obtain ⟨-, -, -⟩ := hV
 replace e0 := ft hR e0
 replace e1 := ft hR e1
 replace D_v := D_v.ext hk
 replace kw := kw.x hk
 clear hR hk hg hP
 refine zn (hK1 _ _ ?_)
 refine zq fun K3 hK3 => ?_
 refine zq fun K4 hK4 => ?_
 refine rg mixed y2 zz2 ?_
 refine .ac ?_
 refine .dn fun a5 g W5 y5 zz5 hk hg hV hR hP => ?_
 obtain ⟨e6, -⟩ := hV
 replace e0 := ft hR e0
 replace e1 := ft hR e1
 replace D_v := D_v.ext hk
 replace e6 := e6.q
 replace kw := kw.x hk
 clear hR hk hg hP
 refine zn (hK4 _ _ ?_)
 refine wp_block ?_
 refine wp_for (l.length) (fun k a W => a.tmps.size = 25 ∧ a.defers = [] ∧ Keeps All w W ∧ sl a 0 = (.slice va (l.length) vc) ∧ sl a 1 = (.string (al)) ∧ sl a 6 = (.int .i64 ((k : Nat))) ∧ Rd W (SA w S []) (hssD (l)) (.slice va (l.length) vc) ∧ (∀ i (h : i < l.length), i < k → l[i].al ≠ al)) ⟨y5, zz5, kw, e0, e1, (e6.trans (congrArg (Value.int .i64) (rfl))), D_v, fun i h hi => absurd hi (by omega)⟩ ?_
 clear kw e0 e1 e6 D_v
 rintro k a6 W6 hkk ⟨y6, zz6, kw, e0, e1, e6, D_v, hinv⟩
 refine zq fun K7 hK7 => ?_
 refine zq fun K8 hK8 => ?_
 refine rg mixed y6 zz6 ?_
 refine .mb rfl e6 ?_
 refine .mb rfl e0 ?_
 refine .i (sp_lenL Tryz.underlying22 ((hlc rfl).dat D_v sub_all)) ?_
 refine .i (sp_lss (hlc rfl) (hlc rfl)) ?_
 refine .dn fun a9 g W9 y9 zz9 hk hg hV hR hP => ?_
 obtain ⟨e10, -, -, -, -⟩ := hV
 replace e0 := ft hR e0
 replace e1 := ft hR e1
 replace e6 := ft hR e6
 replace D_v := D_v.ext hk
 replace e10 := e10.q
 replace kw := kw.x hk
 clear hR hk hg hP
 refine zn (hK8 _ _ ?_)
 refine zc e10 (fun hc => ?_) (fun hc => ?_)
 ·
  have hlt : k < l.length := by simpa using hc
  refine wp_skip (hK7 _ _ ?_)
  refine zq fun K10 hK10 => ?_
  refine wp_block ?_
  refine zq fun K11 hK11 => ?_
  refine rg mixed y9 zz9 ?_
  refine .mb rfl e0 ?_
  refine .mb rfl e6 ?_
  refine .rf (X := SA w S []) (e := Hs.d (l[k]'hlt)) (sp_indexL (i := k) ((hlc rfl).dat D_v sub_all) (hlc rfl) Tryz.underlying22 sz43 rfl hlt) ?_
  refine .rf (X := SA w S []) (e := D.str ((l[k]'hlt).al)) (sp_fieldR (hlc rfl) Tryz.underlying43 rfl sz9 rfl (by first | rfl | simp [widths, width, hssD, width_V])) ?_
  refine .i (sp_loadStr (hlc rfl) agg9 sz9) ?_
  refine .mb rfl e1 ?_
  refine .i (sp_sEql (hlc rfl) (hlc rfl)) ?_
  refine .dn fun a12 g W12 y12 zz12 hk hg hV hR hP => ?_
  obtain ⟨e19, -, -, -, -, -, -, -⟩ := hV
  replace e0 := ft hR e0
  replace e1 := ft hR e1
  replace e6 := ft hR e6
  replace D_v := D_v.ext hk
  replace e19 := e19.q
  replace kw := kw.x hk
  clear hR hk hg hP
  refine zn (hK11 _ _ ?_)
  refine zc e19 (fun hc => ?_) (fun hc => ?_)
  ·
   have hfin : hashO l al = some l[k] := hashO_some hlt hinv (by simpa using hc)
   refine zq fun K13 hK13 => ?_
   refine rg mixed y12 zz12 ?_
   refine .mb rfl e0 ?_
   refine .mb rfl e6 ?_
   refine .rf (X := SA w S []) (e := Hs.d (l[k]'hlt)) (sp_indexL (i := k) ((hlc rfl).dat D_v sub_all) (hlc rfl) Tryz.underlying22 sz43 rfl hlt) ?_
   refine .rf (X := SA w S []) (e := D.str ((l[k]'hlt).hx)) (sp_fieldR (hlc rfl) Tryz.underlying43 rfl sz9 rfl (by first | rfl | simp [widths, width, hssD, width_V])) ?_
   refine .i (sp_loadStr (hlc rfl) agg9 sz9) ?_
   refine .al rfl ?_
   refine .ac ?_
   refine .dn fun a14 g W14 y14 zz14 hk hg hV hR hP => ?_
   obtain ⟨e5, e4, -, -, -, -, -, -⟩ := hV
   replace D_v := D_v.ext hk
   replace e4 := e4.q
   replace e5 := e5.q
   replace kw := kw.x hk
   clear hR hk hg hP
   refine zn (hK13 _ _ ?_)
   refine wp_ret ?_
   refine ret2 rfl zz14 e4 e5 ⟨_, rfl, kw, ?_⟩
   rw [hashS, hashB, hfin]
   exact rfl
  have hk1 : l[k].al ≠ al := by simpa using hc
  refine wp_skip (hK10 _ _ ?_)
  refine rg mixed y12 zz12 ?_
  refine .mb rfl e6 ?_
  refine .i (sp_add (hlc rfl) Has.cst (i64_in (by omega))) ?_
  refine .al rfl ?_
  refine .dn fun a15 g W15 y15 zz15 hk hg hV hR hP => ?_
  obtain ⟨e6, -, -, -⟩ := hV
  replace e0 := ft hR e0
  replace e1 := ft hR e1
  replace D_v := D_v.ext hk
  replace e6 := e6.q
  replace kw := kw.x hk
  clear hR hk hg hP
  exact tail_nil ⟨hlt, y15, zz15, kw, e0, e1, (e6.trans (congrArg (Value.int .i64) (by simp))), D_v, fun i h hi => by rcases Nat.lt_succ_iff_lt_or_eq.1 hi with h1 | h1; exact hinv i h h1; subst h1; exact hk1⟩
 have hge0 : ¬ k < l.length := by simpa using hc
 have hge : k = l.length := by omega
 have hfin : hashO l al = none := hashO_none fun i h => hinv i h (by omega)
 refine wp_exit (hK3 _ _ ?_)
 refine zq fun K16 hK16 => ?_
 refine rg mixed y9 zz9 ?_
 refine .ac ?_
 refine .ac ?_
 refine .dn fun a17 g W17 y17 zz17 hk hg hV hR hP => ?_
 obtain ⟨e5, e4, -⟩ := hV
 replace D_v := D_v.ext hk
 replace e4 := e4.q
 replace e5 := e5.q
 replace kw := kw.x hk
 clear hR hk hg hP
 refine zn (hK16 _ _ ?_)
 refine wp_ret ?_
 refine ret2 rfl zz17 e4 e5 ⟨_, rfl, kw, ?_⟩
 rw [hashS, hashB, hfin]
 exact rfl
set_option maxRecDepth 100000 in
theorem Count08_all : ∀ (m : Nat) (x : V), x.cnt ≤ m → m ≤ 1073741824 → ∀ (w : World) (S : BSet) (v : Value), Rd w S x.d v → Calls Tryz.prog 52 #[v] w (Ret w fun u _ => u = .int .i64 x.cnt) := by
 intro m
 induction m with
 | zero => intro x hx; cases x; simp [V.cnt] at hx
 | succ m ih =>
 intro x hx hm w S v hv
 have hcx := cnt_eq x
 have hlx := len_cnts x.xs
 obtain ⟨cn0a, cn0c, ci0a, ci0c, ev, ht0, D_cn0, D_ci0⟩ := rdV_out (rd_arg hv)
 subst ev
 refine enter Tryz.func52 rfl Tryz.ntmps52 (lbr rfl) fun a0 y0 zz0 harg => ?_
 have e0 : sl a0 0 = (.agg #[(.int .u8 (x.k)), (.int .i64 (x.n)), (.string (x.t)), (.slice cn0a (x.ns.length) cn0c), (.slice ci0a (x.xs.length) ci0c)]) := harg 0 (lbr rfl)
 have kw := Keeps.refl All w
 clear harg
 refine zq fun K1 hK1 => ?_
 refine rg mixed y0 zz0 ?_
 refine .boxOp (v := (.agg #[(.int .u8 (x.k)), (.int .i64 (x.n)), (.string (x.t)), (.slice cn0a (x.ns.length) cn0c), (.slice ci0a (x.xs.length) ci0c)])) (hbs rfl e0) ?_
 refine .ac ?_
 refine .dn fun a2 g W2 y2 zz2 hk hg hV hR hP => ?_
 obtain ⟨-, ⟨b1_2, e1, hb1, own_b1_2⟩, -⟩ := hV
 have lo_b1_2 : w.heap.size ≤ b1_2 := Nat.le_trans kw.size (hg.lo _ _ hb1)
 have own_b1_2 : Own W2 b1_2 [(.int .u8 (x.k)), (.int .i64 (x.n)), (.string (x.t)), (.slice cn0a (x.ns.length) cn0c), (.slice ci0a (x.xs.length) ci0c)] 26 := own_b1_2
 replace D_cn0 := sa_more D_cn0 hk [b1_2] (in_cons (hg.lo _ _ hb1) in_nil)
 replace D_ci0 := sa_more D_ci0 hk [b1_2] (in_cons (hg.lo _ _ hb1) in_nil)
 replace kw := kw.x hk
 clear hR hk hg hP hb1
 refine zn (hK1 _ _ ?_)
 refine zq fun K3 hK3 => ?_
 refine rg mixed y2 zz2 ?_
 refine .ac ?_
 refine .dn fun a4 g W4 y4 zz4 hk hg hV hR hP => ?_
 obtain ⟨e3, -⟩ := hV
 replace e1 := ft hR e1
 replace D_cn0 := D_cn0.ext hk
 replace D_ci0 := D_ci0.ext hk
 replace e3 := e3.q
 replace own_b1_2 := own_b1_2.ext hk
 replace kw := kw.x hk
 clear hR hk hg hP
 refine zn (hK3 _ _ ?_)
 refine zq fun K5 hK5 => ?_
 refine zq fun K6 hK6 => ?_
 refine rg mixed y4 zz4 ?_
 refine .ac ?_
 refine .dn fun a7 g W7 y7 zz7 hk hg hV hR hP => ?_
 obtain ⟨e4, -⟩ := hV
 replace e1 := ft hR e1
 replace e3 := ft hR e3
 replace D_cn0 := D_cn0.ext hk
 replace D_ci0 := D_ci0.ext hk
 replace e4 := e4.q
 replace own_b1_2 := own_b1_2.ext hk
 replace kw := kw.x hk
 clear hR hk hg hP
 refine zn (hK6 _ _ ?_)
 refine wp_block ?_
 refine wp_for (x.xs.length) (fun k a W => a.tmps.size = 21 ∧ a.defers = [] ∧ Keeps All w W ∧ sl a 1 = (.pointer (some ⟨b1_2, 0, none⟩)) ∧ sl a 3 = (.int .i64 (1 + ((V.cnts (x.xs.take k) : Nat) : Int))) ∧ sl a 4 = (.int .i64 ((k : Nat))) ∧ Own W b1_2 [(.int .u8 (x.k)), (.int .i64 (x.n)), (.string (x.t)), (.slice cn0a (x.ns.length) cn0c), (.slice ci0a (x.xs.length) ci0c)] 26 ∧ Rd W (SA w S [b1_2]) (strsD (x.ns)) (.slice cn0a (x.ns.length) cn0c) ∧ Rd W (SA w S [b1_2]) (valsD (x.xs)) (.slice ci0a (x.xs.length) ci0c)) ⟨y7, zz7, kw, e1, (e3.trans (congrArg (Value.int .i64) (by simp [V.cnts]))), (e4.trans (congrArg (Value.int .i64) (rfl))), own_b1_2, D_cn0, D_ci0⟩ ?_
 clear kw e1 e3 e4 own_b1_2 D_cn0 D_ci0
 rintro k a8 W8 hkk ⟨y8, zz8, kw, e1, e3, e4, own_b1_2, D_cn0, D_ci0⟩
 refine zq fun K9 hK9 => ?_
 refine zq fun K10 hK10 => ?_
 refine rg mixed y8 zz8 ?_
 refine .mb rfl e4 ?_
 refine .i (fo 4 (hbs rfl e1) Tryz.underlying26 rfl sz24 rfl) ?_
 refine .i (lo1 (hlc rfl) own_b1_2 trivial agg24 sz24 rfl) ?_
 refine .i (sp_lenVs Tryz.underlying24 ((hlc rfl).dat D_ci0 sub_all)) ?_
 refine .i (sp_lss (hlc rfl) (hlc rfl)) ?_
 refine .dn fun a11 g W11 y11 zz11 hk hg hV hR hP => ?_
 obtain ⟨e9, -, -, -, -, -⟩ := hV
 replace e1 := ft hR e1
 replace e3 := ft hR e3
 replace e4 := ft hR e4
 replace D_cn0 := D_cn0.ext hk
 replace D_ci0 := D_ci0.ext hk
 replace e9 := e9.q
 replace own_b1_2 := own_b1_2.ext hk
 replace kw := kw.x hk
 clear hR hk hg hP
 refine zn (hK10 _ _ ?_)
 refine zc e9 (fun hc => ?_) (fun hc => ?_)
 ·
  have hlt : k < x.xs.length := by simpa using hc
  have hs1 := cnts_take x.xs k hlt
  have hs2 := cnt_elem hlt
  have hs5 := cnts_le x.xs (k + 1)
  refine wp_skip (hK9 _ _ ?_)
  refine zq fun K12 hK12 => ?_
  refine wp_block ?_
  refine rg mixed y11 zz11 ?_
  refine .mb rfl e3 ?_
  refine .i (fo 4 (hbs rfl e1) Tryz.underlying26 rfl sz24 rfl) ?_
  refine .i (lo1 (hlc rfl) own_b1_2 trivial agg24 sz24 rfl) ?_
  refine .mb rfl e4 ?_
  refine .rf (sp_indexV (i := k) ((hlc rfl).dat D_ci0 sub_all) (hlc rfl) Tryz.underlying24 sz26 rfl hlt) ?_
  refine .da (sp_loadV (hlc rfl) agg26 sz26) ?_
  refine .i (v := (.int .i64 (((V.cnt (x.xs[k]'hlt) : Nat) : Int)))) (sp_call1 (φ1 := IsD (SA w S [b1_2]) (V.d (x.xs[k]'hlt))) ent52 (hlc rfl) (fun g u1 W hk hgk h1 => ih (x.xs[k]'hlt) (by omega) (by omega) W _ _ h1)) ?_
  refine .i (sp_add (hlc rfl) (hlc rfl) (i64_in (by omega))) ?_
  refine .al rfl ?_
  refine .dn fun a13 g W13 y13 zz13 hk hg hV hR hP => ?_
  obtain ⟨e3, -, -, -, -, -, -, -, -, -⟩ := hV
  replace e1 := ft hR e1
  replace e4 := ft hR e4
  replace D_cn0 := D_cn0.ext hk
  replace D_ci0 := D_ci0.ext hk
  replace e3 := e3.q
  replace own_b1_2 := own_b1_2.ext hk
  replace kw := kw.x hk
  clear hR hk hg hP
  refine zn (hK12 _ _ ?_)
  refine rg mixed y13 zz13 ?_
  refine .mb rfl e4 ?_
  refine .i (sp_add (hlc rfl) Has.cst (i64_in (by omega))) ?_
  refine .al rfl ?_
  refine .dn fun a14 g W14 y14 zz14 hk hg hV hR hP => ?_
  obtain ⟨e4, -, -, -⟩ := hV
  replace e1 := ft hR e1
  replace e3 := ft hR e3
  replace D_cn0 := D_cn0.ext hk
  replace D_ci0 := D_ci0.ext hk
  replace e4 := e4.q
  replace own_b1_2 := own_b1_2.ext hk
  replace kw := kw.x hk
  clear hR hk hg hP
  exact tail_nil ⟨hlt, y14, zz14, kw, e1, (e3.trans (congrArg (Value.int .i64) (by omega))), (e4.trans (congrArg (Value.int .i64) (by simp))), own_b1_2, D_cn0, D_ci0⟩
 have hge0 : ¬ k < x.xs.length := by simpa using hc
 have hge : k = x.xs.length := by omega
 have hfin : (x.cnt : Int) = 1 + (V.cnts (x.xs.take k) : Nat) := by rw [hge, List.take_length]; omega
 refine wp_exit (hK5 _ _ ?_)
 refine zq fun K15 hK15 => ?_
 refine rg mixed y11 zz11 ?_
 refine .mb rfl e3 ?_
 refine .al rfl ?_
 refine .dn fun a16 g W16 y16 zz16 hk hg hV hR hP => ?_
 obtain ⟨e2, -, -⟩ := hV
 replace D_cn0 := D_cn0.ext hk
 replace D_ci0 := D_ci0.ext hk
 replace e2 := e2.q
 replace own_b1_2 := own_b1_2.ext hk
 replace kw := kw.x hk
 clear hR hk hg hP
 refine zn (hK15 _ _ ?_)
 refine wp_ret ?_
 refine ret1 rfl zz16 e2 ⟨_, rfl, kw, ?_⟩
 rw [hfin]
set_option maxRecDepth 100000 in
theorem Depth08_all : ∀ (m : Nat) (x : V), x.cnt ≤ m → m ≤ 1073741824 → ∀ (w : World) (S : BSet) (v : Value), Rd w S x.d v → Calls Tryz.prog 53 #[v] w (Ret w fun u _ => u = .int .i64 x.dep) := by
 intro m
 induction m with
 | zero => intro x hx; cases x; simp [V.cnt] at hx
 | succ m ih =>
 intro x hx hm w S v hv
 have hcx := cnt_eq x
 have hdx := dep_eq x
 have hlx := len_cnts x.xs
 obtain ⟨cn0a, cn0c, ci0a, ci0c, ev, ht0, D_cn0, D_ci0⟩ := rdV_out (rd_arg hv)
 subst ev
 refine enter Tryz.func53 rfl Tryz.ntmps53 (lbr rfl) fun a0 y0 zz0 harg => ?_
 have e0 : sl a0 0 = (.agg #[(.int .u8 (x.k)), (.int .i64 (x.n)), (.string (x.t)), (.slice cn0a (x.ns.length) cn0c), (.slice ci0a (x.xs.length) ci0c)]) := harg 0 (lbr rfl)
 have kw := Keeps.refl All w
 clear harg
 refine zq fun K1 hK1 => ?_
 refine rg mixed y0 zz0 ?_
 refine .boxOp (v := (.agg #[(.int .u8 (x.k)), (.int .i64 (x.n)), (.string (x.t)), (.slice cn0a (x.ns.length) cn0c), (.slice ci0a (x.xs.length) ci0c)])) (hbs rfl e0) ?_
 refine .ac ?_
 refine .dn fun a2 g W2 y2 zz2 hk hg hV hR hP => ?_
 obtain ⟨-, ⟨b1_2, e1, hb1, own_b1_2⟩, -⟩ := hV
 have lo_b1_2 : w.heap.size ≤ b1_2 := Nat.le_trans kw.size (hg.lo _ _ hb1)
 have own_b1_2 : Own W2 b1_2 [(.int .u8 (x.k)), (.int .i64 (x.n)), (.string (x.t)), (.slice cn0a (x.ns.length) cn0c), (.slice ci0a (x.xs.length) ci0c)] 26 := own_b1_2
 replace D_cn0 := sa_more D_cn0 hk [b1_2] (in_cons (hg.lo _ _ hb1) in_nil)
 replace D_ci0 := sa_more D_ci0 hk [b1_2] (in_cons (hg.lo _ _ hb1) in_nil)
 replace kw := kw.x hk
 clear hR hk hg hP hb1
 refine zn (hK1 _ _ ?_)
 refine zq fun K3 hK3 => ?_
 refine zq fun K4 hK4 => ?_
 refine rg mixed y2 zz2 ?_
 refine .i (fo 0 (hbs rfl e1) Tryz.underlying26 rfl sz5 rfl) ?_
 refine .i (lo1 (hlc rfl) own_b1_2 trivial agg5 sz5 rfl) ?_
 refine .i (sp_neq (hlc rfl) Has.cst) ?_
 refine .i (sp_move (hlc rfl)) ?_
 refine .e rfl (hlc rfl) (fun hg => fo 0 (hbs rfl e1) Tryz.underlying26 rfl sz5 rfl) ?_
 refine .e rfl (hlc rfl) (fun hg => lo1 ((hlc rfl).undE hg) own_b1_2 trivial agg5 sz5 rfl) ?_
 refine .e rfl (hlc rfl) (fun hg => sp_neq ((hlc rfl).undE hg) Has.cst) ?_
 refine .i (sp_and (hlc rfl) ((hlc rfl).weak fun hq => hq)) ?_
 refine .dn fun a5 g W5 y5 zz5 hk hg hV hR hP => ?_
 obtain ⟨e12, -, -, -, -, -, -, -, -⟩ := hV
 replace e1 := ft hR e1
 replace D_cn0 := D_cn0.ext hk
 replace D_ci0 := D_ci0.ext hk
 replace e12 := e12.q
 replace own_b1_2 := own_b1_2.ext hk
 replace kw := kw.x hk
 clear hR hk hg hP
 refine zn (hK4 _ _ ?_)
 refine zc e12 (fun hc => ?_) (fun hc => ?_)
 ·
  have hfin : x.dep = 0 := by simp at hc; rw [hdx, if_neg (by omega)]
  refine zq fun K6 hK6 => ?_
  refine rg mixed y5 zz5 ?_
  refine .ac ?_
  refine .dn fun a7 g W7 y7 zz7 hk hg hV hR hP => ?_
  obtain ⟨e2, -⟩ := hV
  replace D_cn0 := D_cn0.ext hk
  replace D_ci0 := D_ci0.ext hk
  replace e2 := e2.q
  replace own_b1_2 := own_b1_2.ext hk
  replace kw := kw.x hk
  clear hR hk hg hP
  refine zn (hK6 _ _ ?_)
  refine wp_ret ?_
  refine ret1 rfl zz7 e2 ⟨_, rfl, kw, ?_⟩
  rw [hfin]; rfl
 have hkk : x.k = 4 ∨ x.k = 5 := by simp at hc; omega
 rw [if_pos hkk] at hdx
 refine wp_skip (hK3 _ _ ?_)
 refine zq fun K8 hK8 => ?_
 refine rg mixed y5 zz5 ?_
 refine .ac ?_
 refine .dn fun a9 g W9 y9 zz9 hk hg hV hR hP => ?_
 obtain ⟨e3, -⟩ := hV
 replace e1 := ft hR e1
 replace D_cn0 := D_cn0.ext hk
 replace D_ci0 := D_ci0.ext hk
 replace e3 := e3.q
 replace own_b1_2 := own_b1_2.ext hk
 replace kw := kw.x hk
 clear hR hk hg hP
 refine zn (hK8 _ _ ?_)
 refine zq fun K10 hK10 => ?_
 refine zq fun K11 hK11 => ?_
 refine rg mixed y9 zz9 ?_
 refine .ac ?_
 refine .dn fun a12 g W12 y12 zz12 hk hg hV hR hP => ?_
 obtain ⟨e4, -⟩ := hV
 replace e1 := ft hR e1
 replace e3 := ft hR e3
 replace D_cn0 := D_cn0.ext hk
 replace D_ci0 := D_ci0.ext hk
 replace e4 := e4.q
 replace own_b1_2 := own_b1_2.ext hk
 replace kw := kw.x hk
 clear hR hk hg hP
 refine zn (hK11 _ _ ?_)
 refine wp_block ?_
 refine wp_for (x.xs.length) (fun k a W => a.tmps.size = 30 ∧ a.defers = [] ∧ Keeps All w W ∧ sl a 1 = (.pointer (some ⟨b1_2, 0, none⟩)) ∧ sl a 3 = (.int .i64 (((V.deps (x.xs.take k) : Nat) : Int))) ∧ sl a 4 = (.int .i64 ((k : Nat))) ∧ Own W b1_2 [(.int .u8 (x.k)), (.int .i64 (x.n)), (.string (x.t)), (.slice cn0a (x.ns.length) cn0c), (.slice ci0a (x.xs.length) ci0c)] 26 ∧ Rd W (SA w S [b1_2]) (strsD (x.ns)) (.slice cn0a (x.ns.length) cn0c) ∧ Rd W (SA w S [b1_2]) (valsD (x.xs)) (.slice ci0a (x.xs.length) ci0c)) ⟨y12, zz12, kw, e1, (e3.trans (congrArg (Value.int .i64) (by simp [V.deps]))), (e4.trans (congrArg (Value.int .i64) (rfl))), own_b1_2, D_cn0, D_ci0⟩ ?_
 clear kw e1 e3 e4 own_b1_2 D_cn0 D_ci0
 rintro k a13 W13 hkk ⟨y13, zz13, kw, e1, e3, e4, own_b1_2, D_cn0, D_ci0⟩
 refine zq fun K14 hK14 => ?_
 refine zq fun K15 hK15 => ?_
 refine rg mixed y13 zz13 ?_
 refine .mb rfl e4 ?_
 refine .i (fo 4 (hbs rfl e1) Tryz.underlying26 rfl sz24 rfl) ?_
 refine .i (lo1 (hlc rfl) own_b1_2 trivial agg24 sz24 rfl) ?_
 refine .i (sp_lenVs Tryz.underlying24 ((hlc rfl).dat D_ci0 sub_all)) ?_
 refine .i (sp_lss (hlc rfl) (hlc rfl)) ?_
 refine .dn fun a16 g W16 y16 zz16 hk hg hV hR hP => ?_
 obtain ⟨e17, -, -, -, -, -⟩ := hV
 replace e1 := ft hR e1
 replace e3 := ft hR e3
 replace e4 := ft hR e4
 replace D_cn0 := D_cn0.ext hk
 replace D_ci0 := D_ci0.ext hk
 replace e17 := e17.q
 replace own_b1_2 := own_b1_2.ext hk
 replace kw := kw.x hk
 clear hR hk hg hP
 refine zn (hK15 _ _ ?_)
 refine zc e17 (fun hc => ?_) (fun hc => ?_)
 ·
  have hlt : k < x.xs.length := by simpa using hc
  have hs1 := deps_take x.xs k hlt
  have hs2 := cnt_elem hlt
  have hs3 := dep_cnt (x.xs[k])
  have hs4 := deps_cnts (x.xs.take k)
  have hs5 := cnts_le x.xs k
  refine wp_skip (hK14 _ _ ?_)
  refine zq fun K17 hK17 => ?_
  refine wp_block ?_
  refine rg mixed y16 zz16 ?_
  refine .mb rfl e3 ?_
  refine .i (fo 4 (hbs rfl e1) Tryz.underlying26 rfl sz24 rfl) ?_
  refine .i (lo1 (hlc rfl) own_b1_2 trivial agg24 sz24 rfl) ?_
  refine .mb rfl e4 ?_
  refine .rf (sp_indexV (i := k) ((hlc rfl).dat D_ci0 sub_all) (hlc rfl) Tryz.underlying24 sz26 rfl hlt) ?_
  refine .da (sp_loadV (hlc rfl) agg26 sz26) ?_
  refine .i (v := (.int .i64 (((V.dep (x.xs[k]'hlt) : Nat) : Int)))) (sp_call1 (φ1 := IsD (SA w S [b1_2]) (V.d (x.xs[k]'hlt))) ent53 (hlc rfl) (fun g u1 W hk hgk h1 => ih (x.xs[k]'hlt) (by omega) (by omega) W _ _ h1)) ?_
  refine .i (sp_max (hlc rfl) (hlc rfl)) ?_
  refine .al rfl ?_
  refine .dn fun a18 g W18 y18 zz18 hk hg hV hR hP => ?_
  obtain ⟨e3, -, -, -, -, -, -, -, -, -⟩ := hV
  replace e1 := ft hR e1
  replace e4 := ft hR e4
  replace D_cn0 := D_cn0.ext hk
  replace D_ci0 := D_ci0.ext hk
  replace e3 := e3.q
  replace own_b1_2 := own_b1_2.ext hk
  replace kw := kw.x hk
  clear hR hk hg hP
  refine zn (hK17 _ _ ?_)
  refine rg mixed y18 zz18 ?_
  refine .mb rfl e4 ?_
  refine .i (sp_add (hlc rfl) Has.cst (i64_in (by omega))) ?_
  refine .al rfl ?_
  refine .dn fun a19 g W19 y19 zz19 hk hg hV hR hP => ?_
  obtain ⟨e4, -, -, -⟩ := hV
  replace e1 := ft hR e1
  replace e3 := ft hR e3
  replace D_cn0 := D_cn0.ext hk
  replace D_ci0 := D_ci0.ext hk
  replace e4 := e4.q
  replace own_b1_2 := own_b1_2.ext hk
  replace kw := kw.x hk
  clear hR hk hg hP
  exact tail_nil ⟨hlt, y19, zz19, kw, e1, (e3.trans (congrArg (Value.int .i64) (by rw [hs1]; omega))), (e4.trans (congrArg (Value.int .i64) (by simp))), own_b1_2, D_cn0, D_ci0⟩
 have hge0 : ¬ k < x.xs.length := by simpa using hc
 have hge : k = x.xs.length := by omega
 have hfin : x.dep = V.deps (x.xs.take k) + 1 := by rw [hge, List.take_length, hdx]
 have hs4 := deps_cnts (x.xs.take k)
 have hs5 := cnts_le x.xs k
 refine wp_exit (hK10 _ _ ?_)
 refine zq fun K20 hK20 => ?_
 refine rg mixed y16 zz16 ?_
 refine .mb rfl e3 ?_
 refine .i (sp_add (hlc rfl) Has.cst (i64_in (by omega))) ?_
 refine .al rfl ?_
 refine .dn fun a21 g W21 y21 zz21 hk hg hV hR hP => ?_
 obtain ⟨e2, -, -, -⟩ := hV
 replace D_cn0 := D_cn0.ext hk
 replace D_ci0 := D_ci0.ext hk
 replace e2 := e2.q
 replace own_b1_2 := own_b1_2.ext hk
 replace kw := kw.x hk
 clear hR hk hg hP
 refine zn (hK20 _ _ ?_)
 refine wp_ret ?_
 refine ret1 rfl zz21 e2 ⟨_, rfl, kw, ?_⟩
 rw [hfin]; rfl
end Go.Proofs.YtnobijngkpflcaaGreat
namespace Go.Proofs.YtnobijngkpflcaaGreat
open Go.Eng
def hsT (h : Hs) : V := txtV h.hx
def hshP (l : List Hs) : V := ⟨5, 0, ⟨#[]⟩, l.map Hs.al, l.map hsT⟩
theorem sLt_not {a b : ByteArray} (h : sLt a b = true) : sLt b a = false ∧ b ≠ a := by
  refine ⟨?_, fun e => by rw [e, sLt_irrefl] at h; cases h⟩
  cases hq : sLt b a with
  | false => rfl
  | true => have := sLt_trans h hq; rw [sLt_irrefl] at this; cases this
theorem cmpB_neg : ∀ (x y : List UInt8), Lib.compareBytes x y < 0 ↔ x < y
  | [], [] => by simp [Lib.compareBytes]
  | [], _ :: _ => by simp [Lib.compareBytes]
  | _ :: _, [] => by simp [Lib.compareBytes]
  | a :: x, b :: y => by
    have ih := cmpB_neg x y
    simp only [Lib.compareBytes, List.cons_lt_cons_iff]
    split
    · rename_i h; simp [h]
    · split
      · rename_i h1 h2
        have : ¬ a < b := h1
        have hne : a ≠ b := fun e => by subst e; exact absurd h2 this
        simp [this, hne]
      · rename_i h1 h2
        have he : a = b := UInt8.le_antisymm (UInt8.not_lt.1 h2) (UInt8.not_lt.1 h1)
        subst he
        simp [ih]
theorem cfM_neg (a b : Mb) : ltM a b = sLt a.nm b.nm := by
  unfold ltM cfM
  rw [Bool.eq_iff_iff, decide_eq_true_eq, sLt_iff, ByteArray.toList_eq, ByteArray.toList_eq]
  exact cmpB_neg _ _
set_option maxRecDepth 100000 in
theorem rise_ok (ns : List ByteArray) (w : World) (S : BSet) (v : Value) (hv : Rd w S (strsD ns) v) : Calls Tryz.prog 74 #[v] w (Ret w fun u _ => u = .bool (asc ns)) := by
 have hn : ns.length ≤ maxLen := rd_lenS hv
 simp only [maxLen] at hn
 obtain ⟨va, vc, ev, D_v⟩ := rdS_out (rd_arg hv)
 subst ev
 refine enter Tryz.func74 rfl Tryz.ntmps74 (lbr rfl) fun a0 y0 zz0 harg => ?_
 have e0 : sl a0 0 = (.slice va (ns.length) vc) := harg 0 (lbr rfl)
 have kw := Keeps.refl All w
 clear harg
 refine zq fun K1 hK1 => ?_
 refine rg mixed y0 zz0 ?_
 refine .ac ?_
 refine .dn fun a2 g W2 y2 zz2 hk hg hV hR hP => ?_
 obtain ⟨-, -⟩ := hV
 replace e0 := ft hR e0
 replace D_v := D_v.ext hk
 replace kw := kw.x hk
 clear hR hk hg hP
 refine zn (hK1 _ _ ?_)
 refine zq fun K3 hK3 => ?_
 refine zq fun K4 hK4 => ?_
 refine rg mixed y2 zz2 ?_
 refine .ac ?_
 refine .dn fun a5 g W5 y5 zz5 hk hg hV hR hP => ?_
 obtain ⟨e3, -⟩ := hV
 replace e0 := ft hR e0
 replace D_v := D_v.ext hk
 replace e3 := e3.q
 replace kw := kw.x hk
 clear hR hk hg hP
 refine zn (hK4 _ _ ?_)
 refine wp_block ?_
 refine wp_for (ns.length) (fun k a W => a.tmps.size = 20 ∧ a.defers = [] ∧ Keeps All w W ∧ sl a 0 = (.slice va (ns.length) vc) ∧ sl a 3 = (.int .i64 (((k + 1 : Nat) : Int))) ∧ Rd W (SA w S []) (strsD (ns)) (.slice va (ns.length) vc) ∧ (∀ i (h : i + 1 < ns.length), i < k → sLt ns[i] ns[i + 1] = true)) ⟨y5, zz5, kw, e0, (e3.trans (congrArg (Value.int .i64) (rfl))), D_v, fun i h hi => absurd hi (by omega)⟩ ?_
 clear kw e0 e3 D_v
 rintro k a6 W6 hkk ⟨y6, zz6, kw, e0, e3, D_v, hinv⟩
 refine zq fun K7 hK7 => ?_
 refine zq fun K8 hK8 => ?_
 refine rg mixed y6 zz6 ?_
 refine .mb rfl e3 ?_
 refine .mb rfl e0 ?_
 refine .i (sp_lenSs Tryz.underlying23 ((hlc rfl).dat D_v sub_all)) ?_
 refine .i (sp_lss (hlc rfl) (hlc rfl)) ?_
 refine .dn fun a9 g W9 y9 zz9 hk hg hV hR hP => ?_
 obtain ⟨e7, -, -, -, -⟩ := hV
 replace e0 := ft hR e0
 replace e3 := ft hR e3
 replace D_v := D_v.ext hk
 replace e7 := e7.q
 replace kw := kw.x hk
 clear hR hk hg hP
 refine zn (hK8 _ _ ?_)
 refine zc e7 (fun hc => ?_) (fun hc => ?_)
 ·
  have hlt : k + 1 < ns.length := by have := of_decide_eq_true hc; omega
  refine wp_skip (hK7 _ _ ?_)
  refine zq fun K10 hK10 => ?_
  refine wp_block ?_
  refine zq fun K11 hK11 => ?_
  refine rg mixed y9 zz9 ?_
  refine .mb rfl e0 ?_
  refine .mb rfl e3 ?_
  refine .rf (sp_indexS (i := (k + 1)) ((hlc rfl).dat D_v sub_all) (hlc rfl) Tryz.underlying23 sz9 rfl hlt) ?_
  refine .i (sp_loadStr (hlc rfl) agg9 sz9) ?_
  refine .mb rfl e0 ?_
  refine .mb rfl e3 ?_
  refine .i (sp_sub (hlc rfl) Has.cst (i64_in (by omega))) ?_
  refine .rf (sp_indexS (i := k) ((hlc rfl).dat D_v sub_all) (hlc rfl) Tryz.underlying23 sz9 (by omega) (by omega)) ?_
  refine .i (sp_loadStr (hlc rfl) agg9 sz9) ?_
  refine .i (sp_sLeq (hlc rfl) (hlc rfl)) ?_
  refine .dn fun a12 g W12 y12 zz12 hk hg hV hR hP => ?_
  obtain ⟨e19, -, -, -, -, -, -, -, -, -, -⟩ := hV
  replace e0 := ft hR e0
  replace e3 := ft hR e3
  replace D_v := D_v.ext hk
  replace e19 := e19.q
  replace kw := kw.x hk
  clear hR hk hg hP
  refine zn (hK11 _ _ ?_)
  refine zc e19 (fun hc => ?_) (fun hc => ?_)
  ·
   have hfin : asc ns = false := asc_false hlt (by simp at hc; cases hq : sLt ns[k] ns[k + 1] with | false => rfl | true => have h2 := sLt_not hq; rw [h2.1] at hc; simp [h2.2] at hc)
   refine zq fun K13 hK13 => ?_
   refine rg mixed y12 zz12 ?_
   refine .ac ?_
   refine .dn fun a14 g W14 y14 zz14 hk hg hV hR hP => ?_
   obtain ⟨e2, -⟩ := hV
   replace D_v := D_v.ext hk
   replace e2 := e2.q
   replace kw := kw.x hk
   clear hR hk hg hP
   refine zn (hK13 _ _ ?_)
   refine wp_ret ?_
   refine ret1 rfl zz14 e2 ⟨_, rfl, kw, ?_⟩
   rw [hfin]
  have hk1 : sLt ns[k] ns[k + 1] = true := by simp at hc; exact sLt_tot hc.1 hc.2
  refine wp_skip (hK10 _ _ ?_)
  refine rg mixed y12 zz12 ?_
  refine .mb rfl e3 ?_
  refine .i (sp_add (hlc rfl) Has.cst (i64_in (by omega))) ?_
  refine .al rfl ?_
  refine .dn fun a15 g W15 y15 zz15 hk hg hV hR hP => ?_
  obtain ⟨e3, -, -, -⟩ := hV
  replace e0 := ft hR e0
  replace D_v := D_v.ext hk
  replace e3 := e3.q
  replace kw := kw.x hk
  clear hR hk hg hP
  exact tail_nil ⟨by omega, y15, zz15, kw, e0, (e3.trans (congrArg (Value.int .i64) (by omega))), D_v, fun i h hi => by rcases Nat.lt_succ_iff_lt_or_eq.1 hi with h1 | h1; exact hinv i h h1; subst h1; exact hk1⟩
 have hge : ¬ k + 1 < ns.length := by have := of_decide_eq_false hc; omega
 have hfin : asc ns = true := (asc_iff ns).2 fun i hi => hinv i hi (by omega)
 refine wp_exit (hK3 _ _ ?_)
 refine zq fun K16 hK16 => ?_
 refine rg mixed y9 zz9 ?_
 refine .ac ?_
 refine .dn fun a17 g W17 y17 zz17 hk hg hV hR hP => ?_
 obtain ⟨e2, -⟩ := hV
 replace D_v := D_v.ext hk
 replace e2 := e2.q
 replace kw := kw.x hk
 clear hR hk hg hP
 refine zn (hK16 _ _ ?_)
 refine wp_ret ?_
 refine ret1 rfl zz17 e2 ⟨_, rfl, kw, ?_⟩
 rw [hfin]
set_option maxRecDepth 100000 in
theorem object21r_ok (l : List Hs) (hn : l.length ≤ 1073741824) (w : World) (S : BSet) (v : Value) (hv : Rd w S (hssD l) v) : Calls Tryz.prog 28 #[v] w (Ret w fun u W => Rd W (Fr w) (V.d (hshP l)) u) := by
 obtain ⟨va, vc, ev, D_v⟩ := rdHss_out (rd_arg hv)
 subst ev
 refine enter Tryz.func28 rfl Tryz.ntmps28 (lbr rfl) fun a0 y0 zz0 harg => ?_
 have e0 : sl a0 0 = (.slice va (l.length) vc) := harg 0 (lbr rfl)
 have kw := Keeps.refl All w
 clear harg
 refine zq fun K1 hK1 => ?_
 refine rg mixed y0 zz0 ?_
 refine .alloc z26 ?_
 refine .dn fun a2 g W2 y2 zz2 hk hg hV hR hP => ?_
 obtain ⟨⟨b2_2, e2, hb2, own_b2_2⟩, -⟩ := hV
 have lo_b2_2 : w.heap.size ≤ b2_2 := Nat.le_trans kw.size (hg.lo _ _ hb2)
 have own_b2_2 : Own W2 b2_2 [(.int .u8 (0)), (.int .i64 (0)), (.string (⟨#[]⟩)), (.slice none 0 0), (.slice none 0 0)] 26 := own_b2_2
 replace e0 := ft hR e0
 replace D_v := sa_more D_v hk [b2_2] (in_cons (hg.lo _ _ hb2) in_nil)
 replace kw := kw.x hk
 clear hR hk hg hP hb2
 refine zn (hK1 _ _ ?_)
 refine zq fun K3 hK3 => ?_
 refine rg mixed y2 zz2 ?_
 refine .i (v := (.agg #[(.int .u8 (5)), (.int .i64 (0)), (.string (⟨#[]⟩)), (.slice none 0 0), (.slice none 0 0)])) (sp_build (vs := [(0, (.int .u8 (5)))]) Tryz.underlying26 z26 (pl26 Tryz.underlying26) ⟨rfl, Has.cst, trivial⟩ rfl) ?_
 refine .alloc z26 ?_
 refine .dn fun a4 g W4 y4 zz4 hk hg hV hR hP => ?_
 obtain ⟨⟨b3_4, e3, hb3, own_b3_4⟩, e5, -⟩ := hV
 have lo_b3_4 : w.heap.size ≤ b3_4 := Nat.le_trans kw.size (hg.lo _ _ hb3)
 have ne_b2_2_b3_4 : b2_2 ≠ b3_4 := Nat.ne_of_lt (Nat.lt_of_lt_of_le own_b2_2.lt (hg.lo _ _ hb3))
 have own_b3_4 : Own W4 b3_4 [(.int .u8 (0)), (.int .i64 (0)), (.string (⟨#[]⟩)), (.slice none 0 0), (.slice none 0 0)] 26 := own_b3_4
 replace e0 := ft hR e0
 replace e2 := ft hR e2
 replace D_v := sa_more D_v hk [b3_4] (in_cons (hg.lo _ _ hb3) in_nil)
 replace e5 := e5.q
 replace own_b2_2 := own_b2_2.ext hk
 replace kw := kw.x hk
 clear hR hk hg hP hb3
 refine tail_store e3 e5 sz26 rfl own_b3_4 (lbr rfl) (all_cons rfl (all_cons rfl (all_cons rfl (all_cons rfl (all_cons rfl all_nil))))) (fun W5 hs own_b3_4 => ?_)
 have own_b3_4 : Own W5 b3_4 [(.int .u8 (5)), (.int .i64 (0)), (.string (⟨#[]⟩)), (.slice none 0 0), (.slice none 0 0)] 26 := own_b3_4
 replace own_b2_2 := own_store own_b2_2 hs ne_b2_2_b3_4
 replace D_v := sa_store D_v hs (by simp)
 replace kw := keeps_store kw hs lo_b3_4
 clear hs
 refine zn (hK3 _ _ ?_)
 refine zq fun K6 hK6 => ?_
 refine zq fun K7 hK7 => ?_
 refine rg mixed y4 zz4 ?_
 refine .ac ?_
 refine .dn fun a8 g W8 y8 zz8 hk hg hV hR hP => ?_
 obtain ⟨e4, -⟩ := hV
 replace e0 := ft hR e0
 replace e2 := ft hR e2
 replace e3 := ft hR e3
 replace D_v := D_v.ext hk
 replace e4 := e4.q
 replace own_b2_2 := own_b2_2.ext hk
 replace own_b3_4 := own_b3_4.ext hk
 replace kw := kw.x hk
 clear hR hk hg hP
 refine zn (hK7 _ _ ?_)
 refine wp_block ?_
 have A_ar9 : Arr W8 w.heap.size 9 1 (SF w (blks none ++ (b3_4 :: (b2_2 :: [])))) (List.map D.str ([])) (.slice none 0 0) none := arr_nil _ _ _ _ _
 replace D_v : Rd W8 (SA w S (blks none ++ (b3_4 :: (b2_2 :: [])))) (hssD (l)) (.slice va (l.length) vc) := D_v
 have A_ar10 : Arr W8 w.heap.size 26 5 (SF w (blks (none) ++ (blks none ++ (b3_4 :: (b2_2 :: []))))) (List.map V.d ([])) (.slice none 0 0) (none) := arr_nil _ _ _ _ _
 replace D_v : Rd W8 (SA w S (blks (none) ++ (blks none ++ (b3_4 :: (b2_2 :: []))))) (hssD (l)) (.slice va (l.length) vc) := D_v
 replace A_ar9 : Arr W8 w.heap.size 9 1 (SF w (blks (none) ++ (blks none ++ (b3_4 :: (b2_2 :: []))))) (List.map D.str ([])) (.slice none 0 0) none := A_ar9
 refine wp_for (l.length) (fun k a W => ∃ (va3_11 : Value), ∃ (hd3_11 : Option Nat), ∃ (va4_11 : Value), ∃ (hd4_11 : Option Nat), a.tmps.size = 34 ∧ a.defers = [] ∧ Keeps All w W ∧ sl a 0 = (.slice va (l.length) vc) ∧ sl a 2 = (.pointer (some ⟨b2_2, 0, none⟩)) ∧ sl a 3 = (.pointer (some ⟨b3_4, 0, none⟩)) ∧ sl a 4 = (.int .i64 ((k : Nat))) ∧ Own W b2_2 [(.int .u8 (0)), (.int .i64 (0)), (.string (⟨#[]⟩)), (.slice none 0 0), (.slice none 0 0)] 26 ∧ Own W b3_4 [(.int .u8 (5)), (.int .i64 (0)), (.string (⟨#[]⟩)), va3_11, va4_11] 26 ∧ Rd W (SA w S (blks hd4_11 ++ (blks hd3_11 ++ (b3_4 :: (b2_2 :: []))))) (hssD (l)) (.slice va (l.length) vc) ∧ Arr W w.heap.size 9 1 (SF w (blks hd4_11 ++ (blks hd3_11 ++ (b3_4 :: (b2_2 :: []))))) (List.map D.str (List.map Hs.al (l.take k))) va3_11 hd3_11 ∧ b2_2 ∉ blks hd3_11 ∧ b3_4 ∉ blks hd3_11 ∧ Arr W w.heap.size 26 5 (SF w (blks hd4_11 ++ (blks hd3_11 ++ (b3_4 :: (b2_2 :: []))))) (List.map V.d (List.map hsT (l.take k))) va4_11 hd4_11 ∧ b2_2 ∉ blks hd4_11 ∧ b3_4 ∉ blks hd4_11 ∧ (∀ b ∈ blks hd3_11, b ∉ blks hd4_11)) ⟨(.slice none 0 0), none, (.slice none 0 0), (none), y8, zz8, kw, e0, e2, e3, (e4.trans (congrArg (Value.int .i64) (rfl))), own_b2_2, own_b3_4, D_v, A_ar9, nb_none, nb_none, A_ar10, nb_none, nb_none, (fun _ _ => nb_none)⟩ ?_
 clear kw e0 e2 e3 e4 own_b2_2 own_b3_4 D_v A_ar9 A_ar10
 rintro k a11 W11 hkk ⟨va3_11, hd3_11, va4_11, hd4_11, y11, zz11, kw, e0, e2, e3, e4, own_b2_2, own_b3_4, D_v, A3_11, nb_b2_2_ar9_11, nb_b3_4_ar9_11, A4_11, nb_b2_2_ar10_11, nb_b3_4_ar10_11, dj_ar9_ar10_11⟩
 refine zq fun K12 hK12 => ?_
 refine zq fun K13 hK13 => ?_
 refine rg mixed y11 zz11 ?_
 refine .mb rfl e4 ?_
 refine .mb rfl e0 ?_
 refine .i (sp_lenL Tryz.underlying22 ((hlc rfl).dat D_v sub_all)) ?_
 refine .i (sp_lss (hlc rfl) (hlc rfl)) ?_
 refine .dn fun a14 g W14 y14 zz14 hk hg hV hR hP => ?_
 obtain ⟨e9, -, -, -, -⟩ := hV
 replace e0 := ft hR e0
 replace e2 := ft hR e2
 replace e3 := ft hR e3
 replace e4 := ft hR e4
 replace A3_11 := A3_11.ext hk
 replace A4_11 := A4_11.ext hk
 replace D_v := D_v.ext hk
 replace e9 := e9.q
 replace own_b2_2 := own_b2_2.ext hk
 replace own_b3_4 := own_b3_4.ext hk
 replace kw := kw.x hk
 clear hR hk hg hP
 refine zn (hK13 _ _ ?_)
 refine zc e9 (fun hc => ?_) (fun hc => ?_)
 ·
  have hlt : k < l.length := by simpa using hc
  refine wp_skip (hK12 _ _ ?_)
  refine zq fun K15 hK15 => ?_
  refine wp_block ?_
  refine zq fun K16 hK16 => ?_
  refine wp_reg (fun k => k ∉ blks hd3_11) (Ψ := fun W => Arr W w.heap.size 9 1 (SF w (blks hd4_11 ++ (blks hd3_11 ++ (b3_4 :: (b2_2 :: []))))) (List.map D.str (List.map Hs.al (l.take k))) va3_11 hd3_11) mixed y14 zz14 (fun W W' k h => h.ext k) A3_11 ?_
  refine .i (fo 3 (hbs rfl e3) Tryz.underlying26 rfl sz23 rfl) ?_
  refine .i (lo1 (hlc rfl) own_b3_4 nb_b3_4_ar9_11 agg23 sz23 rfl) ?_
  refine .mb rfl e0 ?_
  refine .mb rfl e4 ?_
  refine .op (φ := IsR (SA w S (blks hd4_11 ++ (blks hd3_11 ++ (b3_4 :: (b2_2 :: []))))) (Hs.d (l[k]'hlt))) (st_r (sub_nb (fun b hb => List.mem_append_right _ (List.mem_append_left _ hb)))) (sp_indexL (i := k) ((hlc rfl).dat D_v (sub_nb (fun b hb => List.mem_append_right _ (List.mem_append_left _ hb)))) (hlc rfl) Tryz.underlying22 sz43 rfl hlt) ?_
  refine .op (φ := IsR (SA w S (blks hd4_11 ++ (blks hd3_11 ++ (b3_4 :: (b2_2 :: []))))) (D.str ((l[k]'hlt).al))) (st_r (sub_nb (fun b hb => List.mem_append_right _ (List.mem_append_left _ hb)))) (sp_fieldR (hlc rfl) Tryz.underlying43 rfl sz9 rfl (by first | rfl | simp [widths, width, hssD, width_V])) ?_
  refine .i (sp_loadStr (hlc rfl) agg9 sz9) ?_
  refine .op (φ := IsD (SF w (blks hd4_11 ++ (blks hd3_11 ++ (b3_4 :: (b2_2 :: []))))) (strsD ([(l[k]'hlt).al]))) (st_d (sub_nbF (fun b hb => List.mem_append_right _ (List.mem_append_left _ hb)))) (sp_bsl (ds := [D.str ((l[k]'hlt).al)]) Tryz.underlying23 sz9 z9 (lbr rfl) (lbr rfl) ⟨rfl, ((hlc rfl).str (rdHss_at D_v hlt).1), trivial⟩ rfl (by simp [width]) (fr_sf kw (in_app A4_11.lt (in_app A3_11.lt (in_cons own_b3_4.lt (in_cons own_b2_2.lt in_nil)))))) ?_
  refine .appB (ds := List.map D.str (List.map Hs.al (l.take k))) (es := [D.str ((l[k]'hlt).al)]) (X := SF w (blks hd4_11 ++ (blks hd3_11 ++ (b3_4 :: (b2_2 :: []))))) Tryz.underlying23 inf9 (lbr rfl) (hlc rfl) (hlc rfl) (sub_nbF (fun b hb => List.mem_append_right _ (List.mem_append_left _ hb))) (by simp [maxLen]; omega) (by simp; omega) kw.size ?_
  refine .i (fo 3 (hbs rfl e3) Tryz.underlying26 rfl sz23 rfl) ?_
  refine .dn fun a17 g W17 y17 zz17 hk hg hV hR hP => ?_
  obtain ⟨e21, e20, -, -, -, -, -, -, -, -, -⟩ := hV
  replace e0 := ft hR e0
  replace e2 := ft hR e2
  replace e3 := ft hR e3
  replace e4 := ft hR e4
  obtain ⟨v20_17, ev⟩ : ∃ v, sl a17 20 = v := ⟨_, rfl⟩
  rw [ev] at e20
  obtain ⟨hd20_17, A_20_17, hf20_17⟩ := e20
  have e20 := ev; clear ev
  obtain ⟨v20_17a, v20_17n, v20_17c, ev⟩ := arr_sl A_20_17; subst ev
  replace A_20_17 := arrF_new (M' := (blks hd4_11 ++ (blks hd20_17 ++ (b3_4 :: (b2_2 :: []))))) A_20_17 (rep_app rep_refl (rep_app (rep_q fun _ h => h) (rep_cons (rep_cons rep_nil))))
  replace A_20_17 : Arr W17 w.heap.size 9 1 (SF w (blks hd4_11 ++ (blks hd20_17 ++ (b3_4 :: (b2_2 :: []))))) (List.map D.str ((List.map Hs.al (l.take k)) ++ [(l[k]'hlt).al])) (.slice v20_17a v20_17n v20_17c) hd20_17 := by first | exact A_20_17 | (rw [List.map_append]; exact A_20_17)
  have nb_b2_2_17 : b2_2 ∉ blks hd20_17 := nb_new nb_b2_2_ar9_11 own_b2_2.lt hf20_17
  have nb_b3_4_17 : b3_4 ∉ blks hd20_17 := nb_new nb_b3_4_ar9_11 own_b3_4.lt hf20_17
  have dj_ar10_17 : ∀ b ∈ blks hd4_11, b ∉ blks hd20_17 := dj_new (dj_symm dj_ar9_ar10_11) A4_11.lt hf20_17
  replace A4_11 := arrF_app (M' := (blks hd4_11 ++ (blks hd20_17 ++ (b3_4 :: (b2_2 :: []))))) A4_11 hk (fun b hb => List.mem_append_right _ (List.mem_append_left _ hb)) (rep_app rep_refl (rep_app hf20_17 (rep_cons (rep_cons rep_nil)))) (dj_symm dj_ar9_ar10_11)
  replace D_v := sa_app (M' := (blks hd4_11 ++ (blks hd20_17 ++ (b3_4 :: (b2_2 :: []))))) D_v hk (fun b hb => List.mem_append_right _ (List.mem_append_left _ hb)) (rep_app rep_refl (rep_app hf20_17 (rep_cons (rep_cons rep_nil))))
  replace own_b2_2 := own_app own_b2_2 hk nb_b2_2_ar9_11
  replace own_b3_4 := own_app own_b3_4 hk nb_b3_4_ar9_11
  replace kw := keeps_app kw hk A3_11.ge
  have e21 : sl a17 21 = (.pointer (some ⟨b3_4, 3, none⟩)) := e21
  clear hR hk hg hP hf20_17 A3_11
  refine tail_store e21 e20 sz23 rfl own_b3_4 (lbr rfl) (all_cons rfl all_nil) (fun W18 hs own_b3_4 => ?_)
  have own_b3_4 : Own W18 b3_4 [(.int .u8 (5)), (.int .i64 (0)), (.string (⟨#[]⟩)), (.slice v20_17a v20_17n v20_17c), va4_11] 26 := own_b3_4
  replace own_b2_2 := own_store own_b2_2 hs ne_b2_2_b3_4
  replace D_v := sa_store D_v hs (by simp)
  replace A_20_17 := arrF_store A_20_17 hs (by simp) nb_b3_4_17
  replace A4_11 := arrF_store A4_11 hs (by simp) nb_b3_4_ar10_11
  replace kw := keeps_store kw hs lo_b3_4
  clear hs
  refine zn (hK16 _ _ ?_)
  refine wp_reg (fun k => k ∉ blks hd4_11) (Ψ := fun W => Arr W w.heap.size 26 5 (SF w (blks hd4_11 ++ (blks hd20_17 ++ (b3_4 :: (b2_2 :: []))))) (List.map V.d (List.map hsT (l.take k))) va4_11 hd4_11) mixed y17 zz17 (fun W W' k h => h.ext k) A4_11 ?_
  refine .i (fo 4 (hbs rfl e3) Tryz.underlying26 rfl sz24 rfl) ?_
  refine .i (lo1 (hlc rfl) own_b3_4 nb_b3_4_ar10_11 agg24 sz24 rfl) ?_
  refine .mb rfl e0 ?_
  refine .mb rfl e4 ?_
  refine .op (φ := IsR (SA w S (blks hd4_11 ++ (blks hd20_17 ++ (b3_4 :: (b2_2 :: []))))) (Hs.d (l[k]'hlt))) (st_r (sub_nb (fun b hb => List.mem_append_left _ hb))) (sp_indexL (i := k) ((hlc rfl).dat D_v (sub_nb (fun b hb => List.mem_append_left _ hb))) (hlc rfl) Tryz.underlying22 sz43 rfl hlt) ?_
  refine .op (φ := IsR (SA w S (blks hd4_11 ++ (blks hd20_17 ++ (b3_4 :: (b2_2 :: []))))) (D.str ((l[k]'hlt).hx))) (st_r (sub_nb (fun b hb => List.mem_append_left _ hb))) (sp_fieldR (hlc rfl) Tryz.underlying43 rfl sz9 rfl (by first | rfl | simp [widths, width, hssD, width_V])) ?_
  refine .i (sp_loadStr (hlc rfl) agg9 sz9) ?_
  refine .i (v := (.agg #[(.int .u8 (3)), (.int .i64 (0)), (.string ((l[k]'hlt).hx)), (.slice none 0 0), (.slice none 0 0)])) (sp_call1 (φ1 := Is (.string ((l[k]'hlt).hx))) ent47 (hlc rfl) (fun g u1 W hk hgk h1 => by have h1 : u1 = _ := h1; subst u1; exact refText_ok ((l[k]'hlt).hx) W)) ?_
  refine .op (φ := IsD (SF w (blks hd4_11 ++ (blks hd20_17 ++ (b3_4 :: (b2_2 :: []))))) (valsD ([V.mk (3) (0) ((l[k]'hlt).hx) ([]) ([])]))) (st_d (sub_nbF (fun b hb => List.mem_append_left _ hb))) (sp_bsl (ds := [V.d (V.mk (3) (0) ((l[k]'hlt).hx) ([]) ([]))]) Tryz.underlying24 sz26 z26 (lbr rfl) (lbr rfl) ⟨rfl, ((hlc rfl).dat (rdV_mk (rdHss_at D_v hlt).2 (rd_nil _) (rd_nil _) : Rd W18 (SF w (blks hd4_11 ++ (blks hd20_17 ++ (b3_4 :: (b2_2 :: []))))) (V.d (V.mk (3) (0) ((l[k]'hlt).hx) ([]) ([]))) _) (sub_nbF (fun b hb => List.mem_append_left _ hb))), trivial⟩ rfl (by intro e he; simp at he; rcases he with rfl <;> exact width_V _) (fr_sf kw (in_app A4_11.lt (in_app A_20_17.lt (in_cons own_b3_4.lt (in_cons own_b2_2.lt in_nil)))))) ?_
  refine .appB (ds := List.map V.d (List.map hsT (l.take k))) (es := [V.d (V.mk (3) (0) ((l[k]'hlt).hx) ([]) ([]))]) (X := SF w (blks hd4_11 ++ (blks hd20_17 ++ (b3_4 :: (b2_2 :: []))))) Tryz.underlying24 inf26 (lbr rfl) (hlc rfl) (hlc rfl) (sub_nbF (fun b hb => List.mem_append_left _ hb)) (by simp [maxLen]; omega) (by simp; omega) kw.size ?_
  refine .i (fo 4 (hbs rfl e3) Tryz.underlying26 rfl sz24 rfl) ?_
  refine .dn fun a19 g W19 y19 zz19 hk hg hV hR hP => ?_
  obtain ⟨e32, e31, -, -, -, -, -, -, -, -, -, -⟩ := hV
  replace e0 := ft hR e0
  replace e2 := ft hR e2
  replace e3 := ft hR e3
  replace e4 := ft hR e4
  obtain ⟨v31_19, ev⟩ : ∃ v, sl a19 31 = v := ⟨_, rfl⟩
  rw [ev] at e31
  obtain ⟨hd31_19, A_31_19, hf31_19⟩ := e31
  have e31 := ev; clear ev
  obtain ⟨v31_19a, v31_19n, v31_19c, ev⟩ := arr_sl A_31_19; subst ev
  replace A_31_19 := arrF_new (M' := (blks hd31_19 ++ (blks hd20_17 ++ (b3_4 :: (b2_2 :: []))))) A_31_19 (rep_app (rep_q fun _ h => h) (rep_app rep_refl (rep_cons (rep_cons rep_nil))))
  replace A_31_19 : Arr W19 w.heap.size 26 5 (SF w (blks hd31_19 ++ (blks hd20_17 ++ (b3_4 :: (b2_2 :: []))))) (List.map V.d ((List.map hsT (l.take k)) ++ [V.mk (3) (0) ((l[k]'hlt).hx) ([]) ([])])) (.slice v31_19a v31_19n v31_19c) hd31_19 := by first | exact A_31_19 | (rw [List.map_append]; exact A_31_19)
  have nb_b2_2_19 : b2_2 ∉ blks hd31_19 := nb_new nb_b2_2_ar10_11 own_b2_2.lt hf31_19
  have nb_b3_4_19 : b3_4 ∉ blks hd31_19 := nb_new nb_b3_4_ar10_11 own_b3_4.lt hf31_19
  have dj_ar9_19 : ∀ b ∈ blks hd20_17, b ∉ blks hd31_19 := dj_new (dj_symm dj_ar10_17) A_20_17.lt hf31_19
  replace A_20_17 := arrF_app (M' := (blks hd31_19 ++ (blks hd20_17 ++ (b3_4 :: (b2_2 :: []))))) A_20_17 hk (fun b hb => List.mem_append_left _ hb) (rep_app hf31_19 (rep_app rep_refl (rep_cons (rep_cons rep_nil)))) (dj_symm dj_ar10_17)
  replace D_v := sa_app (M' := (blks hd31_19 ++ (blks hd20_17 ++ (b3_4 :: (b2_2 :: []))))) D_v hk (fun b hb => List.mem_append_left _ hb) (rep_app hf31_19 (rep_app rep_refl (rep_cons (rep_cons rep_nil))))
  replace own_b2_2 := own_app own_b2_2 hk nb_b2_2_ar10_11
  replace own_b3_4 := own_app own_b3_4 hk nb_b3_4_ar10_11
  replace kw := keeps_app kw hk A4_11.ge
  have e32 : sl a19 32 = (.pointer (some ⟨b3_4, 4, none⟩)) := e32
  clear hR hk hg hP hf31_19 A4_11
  refine tail_store e32 e31 sz24 rfl own_b3_4 (lbr rfl) (all_cons rfl all_nil) (fun W20 hs own_b3_4 => ?_)
  have own_b3_4 : Own W20 b3_4 [(.int .u8 (5)), (.int .i64 (0)), (.string (⟨#[]⟩)), (.slice v20_17a v20_17n v20_17c), (.slice v31_19a v31_19n v31_19c)] 26 := own_b3_4
  replace own_b2_2 := own_store own_b2_2 hs ne_b2_2_b3_4
  replace D_v := sa_store D_v hs (by simp)
  replace A_20_17 := arrF_store A_20_17 hs (by simp) nb_b3_4_17
  replace A_31_19 := arrF_store A_31_19 hs (by simp) nb_b3_4_19
  replace kw := keeps_store kw hs lo_b3_4
  clear hs
  refine zn (hK15 _ _ ?_)
  refine rg mixed y19 zz19 ?_
  refine .mb rfl e4 ?_
  refine .i (sp_add (hlc rfl) Has.cst (i64_in (by omega))) ?_
  refine .al rfl ?_
  refine .dn fun a21 g W21 y21 zz21 hk hg hV hR hP => ?_
  obtain ⟨e4, -, -, -⟩ := hV
  replace e0 := ft hR e0
  replace e2 := ft hR e2
  replace e3 := ft hR e3
  replace A_20_17 := A_20_17.ext hk
  replace A_31_19 := A_31_19.ext hk
  replace D_v := D_v.ext hk
  replace e4 := e4.q
  replace own_b2_2 := own_b2_2.ext hk
  replace own_b3_4 := own_b3_4.ext hk
  replace kw := kw.x hk
  clear hR hk hg hP
  rw [show (List.map Hs.al (l.take k)) ++ [(l[k]'hlt).al] = List.map Hs.al (l.take (k + 1)) by rw [List.take_succ_eq_append_getElem hlt, List.map_append]; rfl] at A_20_17
  rw [show (List.map hsT (l.take k)) ++ [V.mk (3) (0) ((l[k]'hlt).hx) ([]) ([])] = List.map hsT (l.take (k + 1)) by rw [List.take_succ_eq_append_getElem hlt, List.map_append]; rfl] at A_31_19
  exact tail_nil ⟨hlt, (.slice v20_17a v20_17n v20_17c), hd20_17, (.slice v31_19a v31_19n v31_19c), hd31_19, y21, zz21, kw, e0, e2, e3, (e4.trans (congrArg (Value.int .i64) (by simp))), own_b2_2, own_b3_4, D_v, A_20_17, nb_b2_2_17, nb_b3_4_17, A_31_19, nb_b2_2_19, nb_b3_4_19, dj_ar9_19⟩
 have hge0 : ¬ k < l.length := by simpa using hc
 have hge : k = l.length := by omega
 rw [show List.map Hs.al (l.take k) = List.map Hs.al l by rw [hge, List.take_length]] at A3_11
 have D_va3_11 : Rd W14 (SF w (blks hd4_11 ++ (b3_4 :: (b2_2 :: [])))) (strsD (List.map Hs.al l)) va3_11 := arrF_rd A3_11 (ls_keepA (ls_skipA (ls_keep (ls_keep ls_nil)))) (nin_app dj_ar9_ar10_11 (nin_cons nb_b3_4_ar9_11 (nin_cons nb_b2_2_ar9_11 nin_nil)))
 obtain ⟨va3_11a, va3_11c, ev, D2⟩ := rdS_out D_va3_11
 subst ev; replace D_va3_11 := D2; clear D2
 replace D_v := sa_less (M' := (blks hd4_11 ++ (b3_4 :: (b2_2 :: [])))) D_v (ls_keepA (ls_skipA (ls_keep (ls_keep ls_nil))))
 replace A4_11 := arrF_less (M' := (blks hd4_11 ++ (b3_4 :: (b2_2 :: [])))) A4_11 (ls_keepA (ls_skipA (ls_keep (ls_keep ls_nil))))
 rw [show List.map hsT (l.take k) = List.map hsT l by rw [hge, List.take_length]] at A4_11
 have D_va4_11 : Rd W14 (SF w [b3_4, b2_2]) (valsD (List.map hsT l)) va4_11 := arrF_rd A4_11 (ls_skipA (ls_keep (ls_keep ls_nil))) (nin_cons nb_b3_4_ar10_11 (nin_cons nb_b2_2_ar10_11 nin_nil))
 obtain ⟨va4_11a, va4_11c, ev, D2⟩ := rdVs_out D_va4_11
 subst ev; replace D_va4_11 := D2; clear D2
 replace D_v := sa_less (M' := [b3_4, b2_2]) D_v (ls_skipA (ls_keep (ls_keep ls_nil)))
 replace D_va3_11 := sf_less (M' := [b3_4, b2_2]) D_va3_11 (ls_skipA (ls_keep (ls_keep ls_nil)))
 refine wp_exit (hK6 _ _ ?_)
 refine zq fun K22 hK22 => ?_
 refine rg mixed y14 zz14 ?_
 refine .i (v := (.agg #[(.int .u8 (5)), (.int .i64 (0)), (.string (⟨#[]⟩)), (.slice va3_11a ((List.map Hs.al l).length) va3_11c), (.slice va4_11a ((List.map hsT l).length) va4_11c)])) (loA (hbs rfl e3) own_b3_4 trivial agg26 sz26 rfl rfl) ?_
 refine .dn fun a23 g W23 y23 zz23 hk hg hV hR hP => ?_
 obtain ⟨e33, -⟩ := hV
 replace e2 := ft hR e2
 replace D_v := D_v.ext hk
 replace D_va3_11 := D_va3_11.ext hk
 replace D_va4_11 := D_va4_11.ext hk
 replace e33 := e33.q
 replace own_b2_2 := own_b2_2.ext hk
 replace own_b3_4 := own_b3_4.ext hk
 replace kw := kw.x hk
 clear hR hk hg hP
 refine tail_store e2 e33 sz26 rfl own_b2_2 (lbr rfl) (all_cons rfl (all_cons rfl (all_cons rfl (all_cons rfl (all_cons rfl all_nil))))) (fun W24 hs own_b2_2 => ?_)
 have own_b2_2 : Own W24 b2_2 [(.int .u8 (5)), (.int .i64 (0)), (.string (⟨#[]⟩)), (.slice va3_11a ((List.map Hs.al l).length) va3_11c), (.slice va4_11a ((List.map hsT l).length) va4_11c)] 26 := own_b2_2
 replace own_b3_4 := own_store own_b3_4 hs ne_b2_2_b3_4.symm
 replace D_v := sa_store D_v hs (by simp)
 replace D_va3_11 := sf_store D_va3_11 hs (by simp)
 replace D_va4_11 := sf_store D_va4_11 hs (by simp)
 replace kw := keeps_store kw hs lo_b2_2
 clear hs
 refine zn (hK22 _ _ ?_)
 refine wp_ret ?_
 refine retC (v := (.agg #[(.int .u8 (5)), (.int .i64 (0)), (.string (⟨#[]⟩)), (.slice va3_11a ((List.map Hs.al l).length) va3_11c), (.slice va4_11a ((List.map hsT l).length) va4_11c)])) rfl zz23 e2 own_b2_2 agg26 sz26 rfl (fun h => by cases h) rfl ⟨_, rfl, kw, ?_⟩
 exact sf_fr (show Rd _ _ (V.d (hshP l)) _ from (rdV_mk (lbr rfl) D_va3_11 D_va4_11 : Rd W24 (SF w [b3_4, b2_2]) (V.d (V.mk (5) (0) (⟨#[]⟩) (List.map Hs.al l) (List.map hsT l))) _))
end Go.Proofs.YtnobijngkpflcaaGreat
